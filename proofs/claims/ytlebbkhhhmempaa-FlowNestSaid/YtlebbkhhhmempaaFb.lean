/- Contracts of small functions: struts, frames, lengths. -/
import Derived.Test.YtlebbkhhhmempaaProg
import Derived.Test.YtlebbkhhhmempaaFa
set_option linter.unusedSimpArgs false
set_option linter.unusedVariables false
namespace Go.Proofs.Ytlebbkhhhmempaa
open Go.RowKit
attribute [local go_sem] block_of_add

theorem max_is (a b : Int) : ∃ X, Hid (X = max a b) := ⟨_, Lib.hid rfl⟩
theorem min_is (a b : Int) : ∃ X, Hid (X = min a b) := ⟨_, Lib.hid rfl⟩
def stC (s : Stt) : Array Value := #[.int .i64 s.most, .int .i64 s.least]
theorem join_any (s : Stt) (m : Int) (w : World) :
    Calls Try.prog 109 #[.agg #[.int .i64 s.most, .int .i64 s.least], .int .i64 m] w fun e w' => e = .returned (.agg #[.int .i64 (joinF s m).most, .int .i64 (joinF s m).least]) ∧ (w.alloc (.cells #[.int .i64 s.most, .int .i64 s.least] 55)).alloc (.cells #[.int .i64 (joinF s m).most, .int .i64 (joinF s m).least] 55) = w' := by
  obtain ⟨a, b⟩ := s
  obtain ⟨X, HX⟩ := max_is a m
  obtain ⟨Y, HY⟩ := min_is b m
  have e : joinF ⟨a, b⟩ m = ⟨X, Y⟩ := by rw [HX.out, HY.out]; rfl
  rw [e]
  clear e
  go_enter Try.func109, Try.ntmps109
  go_wp2_with fail
  all_goals
    have hx := HX.out
    have hy := HY.out
    first | rw [show X = m by omega] | rw [show X = a by omega]
    first | rw [show Y = m by omega] | rw [show Y = b by omega]
    refine bodyPost_ret (results_cell_row rfl _ _ (w.heap.size + 1) 55 #[_, _] (0, 0) _ rfl (Blk.at_ _ _ _ (by simp)) Try.underlying55 rfl (by kernel_rfl)) rfl ?_
    exact ⟨rfl, rfl⟩
theorem ssum_any (a b : Int) (w : World) (h : -9223372036854775808 ≤ a + b ∧ a + b < 9223372036854775808) :
    Calls Try.prog 112 #[.agg #[.int .i64 a, .int .i64 b]] w fun e w' => e = .returned (.int .i64 (a + b)) ∧ w.alloc (.cells #[.int .i64 a, .int .i64 b] 55) = w' := by
  have h1 : IntKind.i64.wrap (a + b) = a + b := IntWalk.i64_in _ ⟨by omega, by omega⟩
  go_enter Try.func112, Try.ntmps112
  go_wp2_with fail
  go_ret
  exact ⟨rfl, rfl⟩
/-- A style of the boxes of chapter 22's towers: numbers within 2^20, lengths in pixels or auto, no frame left and right. -/
structure StyT (s : Sty) : Prop where
  kind : s.kind = 1
  flow : s.flow = false
  hk : s.h.k = 0 ∨ s.h.k = 1
  hn : -1048576 ≤ s.h.n ∧ s.h.n ≤ 1048576
  maxh : s.maxh.k = 0
  minh : s.minh.k = 0
  m0 : (s.m0.k = 0 ∨ s.m0.k = 1) ∧ -1048576 ≤ s.m0.n ∧ s.m0.n ≤ 1048576
  m2 : (s.m2.k = 0 ∨ s.m2.k = 1) ∧ -1048576 ≤ s.m2.n ∧ s.m2.n ≤ 1048576
  b0 : 0 ≤ s.b0 ∧ s.b0 ≤ 1048576
  b2 : 0 ≤ s.b2 ∧ s.b2 ≤ 1048576
  p0 : 0 ≤ s.p0 ∧ s.p0 ≤ 1048576
  p2 : 0 ≤ s.p2 ∧ s.p2 ≤ 1048576
  b1 : s.b1 = 0
  b3 : s.b3 = 0
  p1 : s.p1 = 0
  p3 : s.p3 = 0
theorem roof_bd {s : Sty} (h : StyT s) : 0 ≤ roofF s ∧ roofF s ≤ 2097152 := by have := h.b0; have := h.p0; unfold roofF; omega
theorem floor_bd {s : Sty} (h : StyT s) : 0 ≤ floorF s ∧ floorF s ≤ 2097152 := by have := h.b2; have := h.p2; unfold floorF; omega
theorem mg_bd {l : Ln} (h : (l.k = 0 ∨ l.k = 1) ∧ -1048576 ≤ l.n ∧ l.n ≤ 1048576) : -1048576 ≤ mgF l ∧ mgF l ≤ 1048576 := by unfold mgF; split <;> omega
set_option maxRecDepth 100000 in
theorem roof_any (s : Sty) (w : World) (hs : StyT s) :
    Calls Try.prog 43 #[.agg (styCells s).toArray] w fun e w' => e = .returned (.int .i64 (roofF s)) ∧ w.alloc (.cells (styCells s).toArray 69) = w' := by
  have h1 : IntKind.i64.wrap (s.b0 + s.p0) = roofF s := IntWalk.i64_in _ (by have := hs.b0; have := hs.p0; omega)
  have y24 : (styCells s)[24]'(by rw [sty_len]; omega) = .int .i64 s.b0 := rfl
  have y28 : (styCells s)[28]'(by rw [sty_len]; omega) = .int .i64 s.p0 := rfl
  have z := sty_size s
  go_enter Try.func43, Try.ntmps43
  go_wp2_with fail
  go_ret
  exact ⟨rfl, rfl⟩
set_option maxRecDepth 100000 in
theorem floor_any (s : Sty) (w : World) (hs : StyT s) :
    Calls Try.prog 145 #[.agg (styCells s).toArray] w fun e w' => e = .returned (.int .i64 (floorF s)) ∧ w.alloc (.cells (styCells s).toArray 69) = w' := by
  have h1 : IntKind.i64.wrap (s.b2 + s.p2) = floorF s := IntWalk.i64_in _ (by have := hs.b2; have := hs.p2; omega)
  have y24 : (styCells s)[26]'(by rw [sty_len]; omega) = .int .i64 s.b2 := rfl
  have y28 : (styCells s)[30]'(by rw [sty_len]; omega) = .int .i64 s.p2 := rfl
  have z := sty_size s
  go_enter Try.func145, Try.ntmps145
  go_wp2_with fail
  go_ret
  exact ⟨rfl, rfl⟩
set_option maxRecDepth 100000 in
theorem frameT_any (s : Sty) (w : World) (hs : StyT s) :
    Calls Try.prog 50 #[.agg (styCells s).toArray] w fun e w' => e = .returned (.tuple #[.int .i64 0, .int .i64 (roofF s + floorF s)]) ∧ w.alloc (.cells (styCells s).toArray 69) = w' := by
  have e1 := hs.b1
  have e2 := hs.b3
  have e3 := hs.p1
  have e4 := hs.p3
  have h1 : IntKind.i64.wrap (s.b0 + s.b2) = s.b0 + s.b2 := IntWalk.i64_in _ (by have := hs.b0; have := hs.b2; omega)
  have h2 : IntKind.i64.wrap (s.b0 + s.b2 + s.p0) = s.b0 + s.b2 + s.p0 := IntWalk.i64_in _ (by have := hs.b0; have := hs.b2; have := hs.p0; omega)
  have h3 : IntKind.i64.wrap (s.b0 + s.b2 + s.p0 + s.p2) = roofF s + floorF s := by
    rw [IntWalk.i64_in _ (by have := hs.b0; have := hs.b2; have := hs.p0; have := hs.p2; omega)]; unfold roofF floorF; omega
  have y24 : (styCells s)[24]'(by rw [sty_len]; omega) = .int .i64 s.b0 := rfl
  have y25 : (styCells s)[25]'(by rw [sty_len]; omega) = .int .i64 0 := by rw [← e1]; rfl
  have y26 : (styCells s)[26]'(by rw [sty_len]; omega) = .int .i64 s.b2 := rfl
  have y27 : (styCells s)[27]'(by rw [sty_len]; omega) = .int .i64 0 := by rw [← e2]; rfl
  have y28 : (styCells s)[28]'(by rw [sty_len]; omega) = .int .i64 s.p0 := rfl
  have y29 : (styCells s)[29]'(by rw [sty_len]; omega) = .int .i64 0 := by rw [← e3]; rfl
  have y30 : (styCells s)[30]'(by rw [sty_len]; omega) = .int .i64 s.p2 := rfl
  have y31 : (styCells s)[31]'(by rw [sty_len]; omega) = .int .i64 0 := by rw [← e4]; rfl
  have z := sty_size s
  clear e1 e2 e3 e4
  go_enter Try.func50, Try.ntmps50
  go_wp2_with fail
  go_ret2
  exact ⟨rfl, rfl⟩
set_option maxRecDepth 100000 in
theorem resT_any (k n c : Int) (w : World) (hk : k = 0 ∨ k = 1) :
    Calls Try.prog 49 #[.agg #[.int .u8 k, .int .i64 n], .int .i64 c] w fun e w' => (∃ b : Bool, e = .returned (.tuple #[.int .i64 (mgF ⟨k, n⟩), .bool b])) ∧ w.alloc (.cells #[.int .u8 k, .int .i64 n] 64) = w' := by
  rcases hk with rfl | rfl
  · go_enter Try.func49, Try.ntmps49
    go_wp2_with fail
    go_ret2
    exact ⟨⟨_, rfl⟩, rfl⟩
  · go_enter Try.func49, Try.ntmps49
    go_wp2_with fail
    go_ret2
    exact ⟨⟨_, rfl⟩, rfl⟩
set_option maxRecDepth 100000 in
theorem high_any (s : Sty) (a : Int) (w : World) (hs : StyT s) :
    Calls Try.prog 78 #[.agg (styCells s).toArray, .int .i64 a] w fun e w' => e = .returned (.int .i64 (highF s a)) ∧ w.alloc (.cells (styCells s).toArray 69) = w' := by
  have e1 := hs.maxh
  have e2 := hs.minh
  have e3 := hs.hk
  have y6 : (styCells s)[6]'(by rw [sty_len]; omega) = .int .u8 s.h.k := rfl
  have y7 : (styCells s)[7]'(by rw [sty_len]; omega) = .int .i64 s.h.n := rfl
  have y12 : (styCells s)[12]'(by rw [sty_len]; omega) = .int .u8 0 := by rw [← e2]; rfl
  have y14 : (styCells s)[14]'(by rw [sty_len]; omega) = .int .u8 0 := by rw [← e1]; rfl
  have z := sty_size s
  clear e1 e2
  rcases e3 with e3 | e3
  · obtain ⟨X, HX⟩ := max_is a 0
    have e : highF s a = X := by rw [HX.out]; unfold highF; rw [if_neg (by omega)]
    rw [e]
    rw [e3] at y6
    clear e e3
    go_enter Try.func78, Try.ntmps78
    go_wp2_with fail
    all_goals
      have hx := HX.out
      clear HX
      go_ret
      exact ⟨by first | (rw [show X = 0 by omega]; rfl) | (rw [show X = a by omega]; rfl), rfl⟩
  · obtain ⟨X, HX⟩ := max_is s.h.n 0
    have e : highF s a = X := by rw [HX.out]; unfold highF; rw [if_pos e3]
    rw [e]
    rw [e3] at y6
    clear e e3
    go_enter Try.func78, Try.ntmps78
    go_wp2_with fail
    all_goals
      have hx := HX.out
      clear HX
      go_ret
      exact ⟨by first | (rw [show X = 0 by omega]; rfl) | (rw [show X = s.h.n by omega]; rfl), rfl⟩
end Go.Proofs.Ytlebbkhhhmempaa
