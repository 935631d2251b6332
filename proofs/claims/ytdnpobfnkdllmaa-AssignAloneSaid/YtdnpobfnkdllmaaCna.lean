/- Contracts: small functions of content, widths and their references. -/
import Derived.Test.YtdnpobfnkdllmaaCon
import Derived.Test.YtdnpobfnkdllmaaApp
import Derived.Test.YtdnpobfnkdllmaaCopy
import Derived.Test.YtdnpobfnkdllmaaBig
import Derived.BigQuiet
set_option linter.unusedSimpArgs false
set_option linter.unusedVariables false
namespace Go.Proofs.Ytdnpobfnkdllmaa
open Go.RowKit
attribute [local go_sem] block_of_add

set_option maxRecDepth 100000 in
set_option maxHeartbeats 1000000 in
theorem frame_any (s : Sty) (w : World) (hs : StyB s) :
    Calls Try.prog 74 #[.agg (styCells s).toArray] w fun e w' => (∃ d : Int, e = .returned (.tuple #[.int .i64 (frameF s), .int .i64 d])) ∧ w.alloc (.cells (styCells s).toArray 32) = w' := by
  have h1 : IntKind.i64.wrap (s.b3 + s.b1) = s.b3 + s.b1 := IntWalk.i64_in _ (by have := hs.b1; have := hs.b3; omega)
  have h2 : IntKind.i64.wrap (s.b3 + s.b1 + s.p3) = s.b3 + s.b1 + s.p3 := IntWalk.i64_in _ (by have := hs.b1; have := hs.b3; have := hs.p3; omega)
  have h3 : IntKind.i64.wrap (s.b3 + s.b1 + s.p3 + s.p1) = s.b3 + s.b1 + s.p3 + s.p1 := IntWalk.i64_in _ (by have := hs.b1; have := hs.b3; have := hs.p3; have := hs.p1; omega)
  have y24 : (styCells s)[24]'(by rw [sty_len]; omega) = .int .i64 s.b0 := rfl
  have y25 : (styCells s)[25]'(by rw [sty_len]; omega) = .int .i64 s.b1 := rfl
  have y26 : (styCells s)[26]'(by rw [sty_len]; omega) = .int .i64 s.b2 := rfl
  have y27 : (styCells s)[27]'(by rw [sty_len]; omega) = .int .i64 s.b3 := rfl
  have y28 : (styCells s)[28]'(by rw [sty_len]; omega) = .int .i64 s.p0 := rfl
  have y29 : (styCells s)[29]'(by rw [sty_len]; omega) = .int .i64 s.p1 := rfl
  have y30 : (styCells s)[30]'(by rw [sty_len]; omega) = .int .i64 s.p2 := rfl
  have y31 : (styCells s)[31]'(by rw [sty_len]; omega) = .int .i64 s.p3 := rfl
  have z := sty_size s
  go_enter Try.func74, Try.ntmps74
  go_wp2_with fail
  go_ret2
  exact ⟨⟨_, rfl⟩, rfl⟩
set_option maxRecDepth 100000 in
set_option maxHeartbeats 1000000 in
theorem rframe_any (s : Sty) (w : World) (hs : StyB s) :
    Calls Try.prog 34 #[.agg (styCells s).toArray] w fun e w' => (∃ d : Int, e = .returned (.tuple #[.int .i64 (frameF s), .int .i64 d])) ∧ Below w.heap.size w w' := by
  have h1 : IntKind.i64.wrap (s.b3 + s.p3) = s.b3 + s.p3 := IntWalk.i64_in _ (by have := hs.p3; have := hs.b3; omega)
  have h2 : IntKind.i64.wrap (s.b3 + s.p3 + s.b1) = s.b3 + s.p3 + s.b1 := IntWalk.i64_in _ (by have := hs.b1; have := hs.b3; have := hs.p3; omega)
  have h3 : IntKind.i64.wrap (s.b3 + s.p3 + s.b1 + s.p1) = s.b3 + s.p3 + s.b1 + s.p1 := IntWalk.i64_in _ (by have := hs.b1; have := hs.b3; have := hs.p3; have := hs.p1; omega)
  have HF : Hid (s.b3 + s.p3 + s.b1 + s.p1 = frameF s) := Lib.hid (by unfold frameF; omega)
  have y24 : (styCells s)[24]'(by rw [sty_len]; omega) = .int .i64 s.b0 := rfl
  have y25 : (styCells s)[25]'(by rw [sty_len]; omega) = .int .i64 s.b1 := rfl
  have y26 : (styCells s)[26]'(by rw [sty_len]; omega) = .int .i64 s.b2 := rfl
  have y27 : (styCells s)[27]'(by rw [sty_len]; omega) = .int .i64 s.b3 := rfl
  have y28 : (styCells s)[28]'(by rw [sty_len]; omega) = .int .i64 s.p0 := rfl
  have y29 : (styCells s)[29]'(by rw [sty_len]; omega) = .int .i64 s.p1 := rfl
  have y30 : (styCells s)[30]'(by rw [sty_len]; omega) = .int .i64 s.p2 := rfl
  have y31 : (styCells s)[31]'(by rw [sty_len]; omega) = .int .i64 s.p3 := rfl
  have z := sty_size s
  have HB : Hid (Below w.heap.size w (w.alloc (.cells (styCells s).toArray 32))) := Lib.hid ((Below.refl _ _).alloc (Nat.le_refl _) _)
  go_enter Try.func34, Try.ntmps34
  go_wp2_with fail
  go_quiet (fail)
  go_wp2_with fail
  go_ret2
  exact ⟨⟨_, by rw [HF.out]; rfl⟩, below_dr HB.out _⟩
theorem bare_any (k n : Int) (w : World) :
    Calls Try.prog 108 #[.agg #[.int .u8 k, .int .i64 n]] w fun e w' => e = .returned (.int .i64 (bareF ⟨k, n⟩)) ∧ w.alloc (.cells #[.int .u8 k, .int .i64 n] 27) = w' := by
  by_cases h : k = 1
  · have e1 : (k == 1) = true := beq_iff_eq.2 h
    have HF : Hid (bareF ⟨k, n⟩ = n) := Lib.hid (by unfold bareF; rw [if_pos h])
    clear h
    go_enter Try.func108, Try.ntmps108
    go_wp2_with fail
    go_ret
    exact ⟨by rw [HF.out]; rfl, rfl⟩
  · have e1 : (k == 1) = false := beq_eq_false_iff_ne.2 h
    have HF : Hid (bareF ⟨k, n⟩ = 0) := Lib.hid (by unfold bareF; rw [if_neg h])
    clear h
    go_enter Try.func108, Try.ntmps108
    go_wp2_with fail
    go_ret
    exact ⟨by rw [HF.out]; rfl, rfl⟩
theorem cut13_any (x : Int) (w : World) :
    Calls Try.prog 46 #[.int .i64 x] w fun e w' => e = .returned (.tuple #[.int .i64 (cutF x), .bool (cutB x)]) ∧ w = w' := by
  cases h1 : decide (1099511627776 < x)
  · cases h2 : decide (x < -1099511627776)
    · have HF : Hid (cutF x = x ∧ cutB x = false) := Lib.hid (by have := of_decide_eq_false h1; have := of_decide_eq_false h2; exact ⟨cutF_in (by omega) (by omega), by unfold cutB; simp; omega⟩)
      go_enter Try.func46, Try.ntmps46
      go_wp2_with fail
      go_ret2
      exact ⟨by rw [HF.out.1, HF.out.2]; rfl, rfl⟩
    · have HF : Hid (cutF x = -1099511627776 ∧ cutB x = true) := Lib.hid (by have := of_decide_eq_true h2; unfold cutF cutB; refine ⟨?_, ?_⟩ <;> simp <;> omega)
      go_enter Try.func46, Try.ntmps46
      go_wp2_with fail
      go_ret2
      exact ⟨by rw [HF.out.1, HF.out.2]; rfl, rfl⟩
  · have HF : Hid (cutF x = 1099511627776 ∧ cutB x = true) := Lib.hid (by have := of_decide_eq_true h1; unfold cutF cutB; refine ⟨?_, ?_⟩ <;> simp <;> omega)
    go_enter Try.func46, Try.ntmps46
    go_wp2_with fail
    go_ret2
    exact ⟨by rw [HF.out.1, HF.out.2]; rfl, rfl⟩
theorem mostF_succ (l : List Int) (k : Nat) (h : k < l.length) : mostF (l.take (k + 1)) = max (mostF (l.take k)) l[k] := by
  unfold mostF; rw [List.take_add_one, List.getElem?_eq_getElem h, List.foldl_append]; rfl
set_option maxHeartbeats 1000000 in
theorem most_any (l : List Int) (A : Option Addr) (c : Nat) (w : World) (hn : l.length ≤ 4294967296) (hr : Reads w w.heap.size 1 A l.length (i64s l)) :
    Calls Try.prog 97 #[.slice A l.length c] w fun e w' => e = .returned (.slice (some ⟨w.heap.size, 0, none⟩) 1 1) ∧ w.alloc (.cells #[.int .i64 (mostF l)] 2) = w' := by
  go_enter Try.func97, Try.ntmps97
  go_wp2_with fail
  go_loopw [3, 8] (fun mv iv wr => ∃ (k : Nat) (m : Int), k ≤ l.length ∧ mv = .int .i64 m ∧ iv = .int .i64 k ∧ m = mostF (l.take k) ∧ w = wr) (fun _ iv _ => l.length - (intOf iv).toNat)
  case atStart => exact ⟨0, 0, by omega, rfl, rfl, rfl, rfl⟩
  case round =>
    obtain ⟨k, m, hk, rfl, rfl, hm, rfl⟩ := hrel
    have HM := Lib.hid hm
    clear hm
    by_cases hlt : k < l.length
    · have hwk : IntKind.i64.wrap ((k : Int) + 1) = (k : Int) + 1 := IntWalk.i64_in _ ⟨by omega, by omega⟩
      have d0 : decide ((k : Int) < (l.length : Int)) = true := decide_eq_true (by omega)
      have d0' : decide (k < l.length) = true := decide_eq_true hlt
      obtain ⟨ad, u, rfl, hab, hx, hc⟩ := hr.at_ hlt
      have hu : u = .int .i64 l[k] := by simpa [i64s, hlt] using hx.symm
      subst hu
      have HS := Lib.hid (mostF_succ l k hlt)
      clear hx hr
      go_wp2_with fail
      go_roundw
      case rel => exact ⟨k + 1, max m l[k], by omega, by congr 1; split <;> omega, by go_num, by rw [HS.out, HM.out], trivial⟩
      case measure => simp [intOf]; omega
    · have d0 : decide ((k : Int) < (l.length : Int)) = false := decide_eq_false (by omega)
      have d0' : decide (k < l.length) = false := decide_eq_false hlt
      have HL : Hid (m = mostF l) := Lib.hid (by rw [HM.out, List.take_of_length_le (by omega)])
      clear hr
      go_wp2_with fail
      go_ret
      exact ⟨rfl, by rw [HL.out]⟩
theorem el_i64c : El Try.prog 62 2 (.int .i64 0) 1 8 := ⟨Try.underlying62, by kernel_rfl, rfl, by decide⟩
theorem i64s_one (l : List Int) : ∀ u ∈ i64s l, u.oneCell' = true := by
  intro u hu; unfold i64s at hu; rw [List.mem_map] at hu; obtain ⟨x, _, rfl⟩ := hu; rfl
theorem sl_some (ad : Addr) (n c : Nat) (w : World) : Sem.run Try.prog (binOp BinOp.eql 62 (.slice (some ad) n c) (.slice none 0 0)) w = .ok (.bool false) w := by kernel_rfl
theorem sl_nil (w : World) : Sem.run Try.prog (binOp BinOp.eql 62 (.slice none 0 0) (.slice none 0 0)) w = .ok (.bool true) w := by kernel_rfl
structure CloneAns (l : List Int) (w w' : World) (e : Ending) : Prop where
  ex : ∃ A c, e = .returned (.slice A l.length c) ∧ w'.ownsRow w.heap.size 2 1 (.slice A l.length c) l.length (i64s l)
  b : Below w.heap.size w w'
set_option maxRecDepth 100000 in
set_option maxHeartbeats 1000000 in
theorem clone_any (l : List Int) (ad : Addr) (c : Nat) (w : World) (hn : l.length ≤ 1000000) (hr : Reads w w.heap.size 1 (some ad) l.length (i64s l)) :
    Calls Try.prog 107 #[.slice (some ad) l.length c] w fun e w' => CloneAns l w w' e := by
  have hns := fun w => sl_some ad l.length c w
  go_enter Try.func107, Try.ntmps107
  go_wp2_with (at_builtin; refine wpList_copyE rfl _ _ rfl el_i64c rfl (i64s l) rfl hr (Nat.le_refl _) (i64s_one l) (by omega) (by omega) ?_; intro A1 c1 w1 hown1 hb1)
  go_ret
  exact ⟨⟨_, _, rfl, hown1⟩, hb1⟩
end Go.Proofs.Ytdnpobfnkdllmaa
