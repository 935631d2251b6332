/- Lengths and bounds: contracts of jambref13. -/
import Derived.Test.YtbopeofglhkffaaWi
set_option linter.unusedSimpArgs false
set_option linter.unusedVariables false
namespace Go.Proofs.Ytbopeofglhkffaa
open Go.RowKit
attribute [local go_sem] block_of_add
theorem mul_in (c n : Int) (hc : CB c) (hn : -100000 ≤ n ∧ n ≤ 100000) : -110000000000000000 ≤ c * n ∧ c * n ≤ 110000000000000000 := by
  have h1 : (c * n).natAbs ≤ 1099511627776 * 100000 := by rw [Int.natAbs_mul]; have := hc.b; exact Nat.mul_le_mul (by omega) (by omega)
  omega
set_option maxRecDepth 100000 in
theorem floor_any (a : Int) (w : World) (ha : -110000000000000000 ≤ a ∧ a ≤ 110000000000000000) :
    Calls Try.prog 36 #[.int .i64 a, .int .i64 10000] w fun e w' => e = .returned (.int .i64 (a / 10000)) ∧ w = w' := by
  obtain ⟨T, hT⟩ : ∃ T, a.tdiv 10000 = T := ⟨_, rfl⟩
  obtain ⟨M, hM⟩ : ∃ M, a.tmod 10000 = M := ⟨_, rfl⟩
  obtain ⟨f1, f2, f3⟩ := quo_floor a T M hT hM
  have wT : IntKind.i64.wrap T = T := IntWalk.i64_in _ ⟨by omega, by omega⟩
  have wM : IntKind.i64.wrap M = M := IntWalk.i64_in _ ⟨by omega, by omega⟩
  have w4 : IntKind.i64.wrap (T - 1) = T - 1 := IntWalk.i64_in _ ⟨by omega, by omega⟩
  cases e1 : decide (M < 0)
  · have F := Lib.hid (f3 (of_decide_eq_false e1))
    clear f1 f2 f3 ha
    go_enter Try.func36, Try.ntmps36
    go_wp2_with fail
    go_ret
    exact ⟨by rw [← F.out]; rfl, rfl⟩
  · have F := Lib.hid (f2 (of_decide_eq_true e1))
    clear f1 f2 f3 ha
    go_enter Try.func36, Try.ntmps36
    go_wp2_with fail
    go_ret
    exact ⟨by rw [← F.out]; rfl, rfl⟩
set_option maxRecDepth 100000 in
theorem rresolve_any (k n c : Int) (w : World) (hl : LnM ⟨k, n⟩) (hc : CB c) :
    Calls Try.prog 33 #[.agg #[.int .u8 k, .int .i64 n], .int .i64 c] w fun e w' => e = .returned (.tuple #[.int .i64 (resF ⟨k, n⟩ c).1, .bool (resF ⟨k, n⟩ c).2]) ∧ w.alloc (.cells #[.int .u8 k, .int .i64 n] 47) = w' := by
  have hmx : max c 0 = c := by have := hc.b; omega
  have hm2 : decide (c < 0) = false := decide_eq_false (by have := hc.b; omega)
  have hm3 : (if 0 ≤ c then c else 0) = c := if_pos hc.b.1
  by_cases h2 : k = 2
  · have e2 : (k == 2) = true := beq_iff_eq.2 h2
    have e1 : (k == 1) = false := by subst h2; rfl
    have HE : Hid (resF ⟨k, n⟩ c = (c * n / 10000, true)) := Lib.hid (if_pos h2)
    have HP := Lib.hid (hl.p h2)
    have HC := Lib.hid hc
    clear h2 hl hc
    have hb := mul_in c n HC.out HP.out
    have hwm : IntKind.i64.wrap (c * n) = c * n := IntWalk.i64_in _ ⟨by omega, by omega⟩
    go_enter Try.func33, Try.ntmps33
    go_wp2_with (go_at_call 36; refine (floor_any (c * n) _ hb).mono ?_; rintro e w' ⟨rfl, rfl⟩)
    go_ret2
    rw [HE.out]
    exact ⟨rfl, rfl⟩
  · have e2 : (k == 2) = false := beq_eq_false_iff_ne.2 h2
    by_cases h1 : k = 1
    · have e1 : (k == 1) = true := beq_iff_eq.2 h1
      have HE : Hid (resF ⟨k, n⟩ c = (n, true)) := Lib.hid (by unfold resF; rw [if_neg h2, if_pos h1])
      clear h2 h1 hl hc
      go_enter Try.func33, Try.ntmps33
      go_wp2_with fail
      go_ret2
      rw [HE.out]
      exact ⟨rfl, rfl⟩
    · have e1 : (k == 1) = false := beq_eq_false_iff_ne.2 h1
      have HE : Hid (resF ⟨k, n⟩ c = (0, false)) := Lib.hid (by unfold resF; rw [if_neg h2, if_neg h1])
      clear h2 h1 hl hc
      go_enter Try.func33, Try.ntmps33
      go_wp2_with fail
      go_ret2
      rw [HE.out]
      exact ⟨rfl, rfl⟩
set_option maxRecDepth 100000 in
set_option maxHeartbeats 800000 in
theorem rclamp_any (s : Sty) (c v : Int) (w : World) (h1 : LnM s.maxw) (h2 : LnM s.minw) (hc : CB c) :
    Calls Try.prog 34 #[.agg (styCells s).toArray, .int .i64 c, .int .i64 v] w fun e w' => e = .returned (.int .i64 (clampF s c v)) ∧ ((w.alloc (.cells (styCells s).toArray 52)).alloc (.cells #[.int .u8 s.maxw.k, .int .i64 s.maxw.n] 47)).alloc (.cells #[.int .u8 s.minw.k, .int .i64 s.minw.n] 47) = w' := by
  have y8 : (styCells s)[8]'(by rw [sty_len]; omega) = .int .u8 s.minw.k := rfl
  have y9 : (styCells s)[9]'(by rw [sty_len]; omega) = .int .i64 s.minw.n := rfl
  have y10 : (styCells s)[10]'(by rw [sty_len]; omega) = .int .u8 s.maxw.k := rfl
  have y11 : (styCells s)[11]'(by rw [sty_len]; omega) = .int .i64 s.maxw.n := rfl
  have z := sty_size s
  have R1 := Lib.hid (fun W => rresolve_any s.maxw.k s.maxw.n c W h1 hc)
  have R2 := Lib.hid (fun W => rresolve_any s.minw.k s.minw.n c W h2 hc)
  obtain ⟨m, hm⟩ : ∃ m, m = (resF s.maxw c).1 := ⟨_, rfl⟩
  obtain ⟨b, hb⟩ : ∃ b, b = (resF s.maxw c).2 := ⟨_, rfl⟩
  obtain ⟨m2, hm2⟩ : ∃ m, m = (resF s.minw c).1 := ⟨_, rfl⟩
  obtain ⟨b2, hb2⟩ : ∃ b, b = (resF s.minw c).2 := ⟨_, rfl⟩
  have e0 : (⟨s.maxw.k, s.maxw.n⟩ : Ln) = s.maxw := rfl
  have e1 : (⟨s.minw.k, s.minw.n⟩ : Ln) = s.minw := rfl
  rw [e0, ← hm, ← hb] at R1
  rw [e1, ← hm2, ← hb2] at R2
  have HF : Hid (clampF s c v = max (if b2 then max (if b then min v m else v) m2 else (if b then min v m else v)) 0) := Lib.hid (by unfold clampF; rw [hm, hb, hm2, hb2])
  clear hm hb hm2 hb2 e0 e1 h1 h2 hc
  rw [HF.out]
  clear HF
  cases b <;> cases b2
  all_goals
    go_enter Try.func34, Try.ntmps34
    go_upto_region 2 with (go_at_call 33; refine (R1.out _).mono ?_; rintro e w' ⟨rfl, rfl⟩)
    go_wp2_with (go_at_call 33; refine (R2.out _).mono ?_; rintro e w' ⟨rfl, rfl⟩)
  all_goals
    go_ret
    refine ⟨?_, rfl⟩
    show Ending.returned (.int .i64 _) = _
    congr 2
    try simp only [if_true, if_false, Bool.false_eq_true]
    try (repeat' split)
    all_goals (try omega)
end Go.Proofs.Ytbopeofglhkffaa
