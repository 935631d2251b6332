/- DequeNil walked. -/
import Derived.Test.YtdigjppdgiapfaaDlw
set_option linter.unusedSimpArgs false
set_option linter.unusedVariables false
namespace Go.Proofs.Ytdigjppdgiapfaa
open Go.RowKit
attribute [local go_sem] block_of_add fn_some fn_nil fn_somen fn_niln
attribute [local go_sem ↓] Go.wp_at_zero Go.wp_at_succ

theorem acc_zero (w : World) : (binOp .neq 44 (.agg #[.int .u8 0, .int .i64 0]) (.agg #[.int .u8 0, .int .i64 0])).run Try.prog w = .ok (.bool false) w := by kernel_rfl
set_option maxHeartbeats 1000000 in
theorem dequeNil_any (room task : Int) (w : World) (hr : -9223372036854775808 ≤ room ∧ room < 9223372036854775808) (ht : -9223372036854775808 ≤ task ∧ task < 9223372036854775808) :
    Calls Try.prog 7 #[.int .i64 room, .int .i64 task] w fun e w' => e = .returned (.bool true) ∧ Below w.heap.size w w' := by
  suffices h : Calls Try.prog 7 #[.int .i64 room, .int .i64 task] w fun e w' => e = .returned (.bool true) ∧ Kp (fun _ => False) w w' from
    h.mono fun e w' ⟨h1, h2⟩ => ⟨h1, h2.below (fun k h => h.elim) (Nat.le_refl _)⟩
  have HP := Lib.hid fun W => push_nil task W
  have HPo := Lib.hid fun W => pop_nil W
  have HS := Lib.hid fun W => steal_nil W
  have HT := Lib.hid fun W => told_nil W
  have HSt := Lib.hid fun W => step_nil W
  have HTk := Lib.hid fun W => tasks_nil W
  have HW := Lib.hid fun W => works_any W
  have hz := acc_zero
  have key : ∀ (r : Int), (r < 1 ∨ 65536 < r) ∨ ∃ n : Nat, r = n ∧ 1 ≤ n ∧ n ≤ 65536 := fun r => by
    by_cases h : r < 1 ∨ 65536 < r
    · exact .inl h
    · exact .inr ⟨r.toNat, by omega, by omega, by omega⟩
  have hcs : (4096 < room ∧ room ≤ 65536) ∨ (room ≤ 4096) ∨ (65536 < room) := by omega
  rcases hcs with hc | hc | hc
  · have d1 : decide (4096 < room) = true := decide_eq_true hc.1
    have d2 : decide (room ≤ 65536) = true := decide_eq_true hc.2
    obtain ⟨r, hrr⟩ : ∃ r, r = room % 4096 := ⟨_, rfl⟩
    have r0 : 0 ≤ room := by omega
    have hrr2 : Int.tmod room 4096 = r := by rw [Int.tmod_eq_emod_of_nonneg r0, hrr]
    have hrr3 : room % 4096 = r := hrr.symm
    clear hrr
    have hwr : IntKind.i64.wrap r = r := IntWalk.i64_in _ ⟨by omega, by omega⟩
    have HR := Lib.hid (key r)
    go_enter Try.func7, Try.ntmps7
    go_wp2_with fail
    refine (HP.out _).mono ?_
    rintro e w1 ⟨rfl, rfl⟩
    go_wp2_with fail
    refine (HPo.out _).mono ?_
    rintro e w2 ⟨rfl, rfl⟩
    go_wp2_with fail
    refine (HS.out _).mono ?_
    rintro e w3 ⟨rfl, rfl⟩
    go_wp2_with fail
    refine (HT.out _).mono ?_
    rintro e w4 ⟨rfl, rfl⟩
    go_wp2_with fail
    refine (HSt.out _).mono ?_
    rintro e w5 ⟨rfl, hk⟩
    have K5 := Lib.hid hk
    clear hk
    go_wp2_with fail
    refine (HTk.out _).mono ?_
    rintro e w6 ⟨rfl, rfl⟩
    rcases HR.out with hb | ⟨n, rfl, hn1, hn2⟩
    · have d8 : decide (r < 1) = true ∨ decide (r < 1) = false ∧ decide (65536 < r) = true := by
        rcases hb with h | h
        · exact .inl (decide_eq_true h)
        · exact .inr ⟨decide_eq_false (by omega), decide_eq_true h⟩
      have HB := Lib.hid hb
      clear key hb
      rcases d8 with d8 | ⟨d8, d9⟩
      all_goals
        have hb := HB.out
        have HB2 := Lib.hid hb
        clear hb
        go_wp2_with fail
        refine (new_bad _ HB2.out _).mono ?_
        rintro e w7 ⟨rfl, rfl⟩
        go_wp2_with fail
        refine (HW.out _).mono ?_
        rintro e w8 ⟨rfl, hk⟩
        have K8 := Lib.hid hk
        clear hk
        go_wp2_with fail
        go_ret
        exact ⟨rfl, K5.out.trans K8.out⟩
    · have d8 : decide ((n : Int) < 1) = false := decide_eq_false (by omega)
      have d9 : decide (65536 < (n : Int)) = false := decide_eq_false (by omega)
      clear key
      go_wp2_with fail
      refine (new_var n hn1 hn2 _).mono ?_
      rintro e w7 ⟨gd, gc, rfl, hgd, hgc, hd, hk⟩
      have HD := Lib.hid hd
      have K7 := Lib.hid (K5.out.trans hk)
      have hL : 0 < (Dq.made n).sl.length := by simp [Dq.made]; omega
      have HL := Lib.hid hL
      have HGD : Hid (_ ≤ gd) := Lib.hid (Nat.le_trans K5.out.size hgd)
      clear hd hk hL
      go_wp2_with fail
      by_cases htk : 0 ≤ task
      · refine (push_any gd gc _ _ w7 HD.out HL.out task htk (.inl rfl)).mono ?_
        intro e w8 hb8
        obtain ⟨go, rfl, hgo, hd, ho, hk⟩ := Begun.var (own := fun g => .pointer (some ⟨g, 0, none⟩)) hb8
        have K8 := Lib.hid (K7.out.trans' hk (fun i h e => by have := HGD.out; omega))
        have dt : decide (0 ≤ task) = true := decide_eq_true htk
        clear hd ho hk hb8
        go_wp2_with fail
        refine (HW.out _).mono ?_
        rintro e w9 ⟨rfl, hk⟩
        have K9 := Lib.hid hk
        clear hk
        go_wp2_with fail
        go_ret
        exact ⟨rfl, K8.out.trans K9.out⟩
      · refine (push_neg gd gc _ _ w7 HD.out HL.out task (by omega) (.inl rfl)).mono ?_
        rintro e w8 ⟨rfl, rfl⟩
        have dt : decide (0 ≤ task) = false := decide_eq_false htk
        go_wp2_with fail
        refine (HW.out _).mono ?_
        rintro e w9 ⟨rfl, hk⟩
        have K9 := Lib.hid hk
        clear hk
        go_wp2_with fail
        go_ret
        exact ⟨rfl, K7.out.trans K9.out⟩
  · have d1 : decide (4096 < room) = false := decide_eq_false (by omega)
    have HR := Lib.hid (key room)
    go_enter Try.func7, Try.ntmps7
    go_wp2_with fail
    refine (HP.out _).mono ?_
    rintro e w1 ⟨rfl, rfl⟩
    go_wp2_with fail
    refine (HPo.out _).mono ?_
    rintro e w2 ⟨rfl, rfl⟩
    go_wp2_with fail
    refine (HS.out _).mono ?_
    rintro e w3 ⟨rfl, rfl⟩
    go_wp2_with fail
    refine (HT.out _).mono ?_
    rintro e w4 ⟨rfl, rfl⟩
    go_wp2_with fail
    refine (HSt.out _).mono ?_
    rintro e w5 ⟨rfl, hk⟩
    have K5 := Lib.hid hk
    clear hk
    go_wp2_with fail
    refine (HTk.out _).mono ?_
    rintro e w6 ⟨rfl, rfl⟩
    rcases HR.out with hb | ⟨n, rfl, hn1, hn2⟩
    · have d8 : decide (room < 1) = true ∨ decide (room < 1) = false ∧ decide (65536 < room) = true := by
        rcases hb with h | h
        · exact .inl (decide_eq_true h)
        · exact .inr ⟨decide_eq_false (by omega), decide_eq_true h⟩
      have HB := Lib.hid hb
      clear key hb
      rcases d8 with d8 | ⟨d8, d9⟩
      all_goals
        have hb := HB.out
        have HB2 := Lib.hid hb
        clear hb
        go_wp2_with fail
        refine (new_bad _ HB2.out _).mono ?_
        rintro e w7 ⟨rfl, rfl⟩
        go_wp2_with fail
        refine (HW.out _).mono ?_
        rintro e w8 ⟨rfl, hk⟩
        have K8 := Lib.hid hk
        clear hk
        go_wp2_with fail
        go_ret
        exact ⟨rfl, K5.out.trans K8.out⟩
    · have d8 : decide ((n : Int) < 1) = false := decide_eq_false (by omega)
      have d9 : decide (65536 < (n : Int)) = false := decide_eq_false (by omega)
      clear key
      go_wp2_with fail
      refine (new_var n hn1 hn2 _).mono ?_
      rintro e w7 ⟨gd, gc, rfl, hgd, hgc, hd, hk⟩
      have HD := Lib.hid hd
      have K7 := Lib.hid (K5.out.trans hk)
      have hL : 0 < (Dq.made n).sl.length := by simp [Dq.made]; omega
      have HL := Lib.hid hL
      have HGD : Hid (_ ≤ gd) := Lib.hid (Nat.le_trans K5.out.size hgd)
      clear hd hk hL
      go_wp2_with fail
      by_cases htk : 0 ≤ task
      · refine (push_any gd gc _ _ w7 HD.out HL.out task htk (.inl rfl)).mono ?_
        intro e w8 hb8
        obtain ⟨go, rfl, hgo, hd, ho, hk⟩ := Begun.var (own := fun g => .pointer (some ⟨g, 0, none⟩)) hb8
        have K8 := Lib.hid (K7.out.trans' hk (fun i h e => by have := HGD.out; omega))
        have dt : decide (0 ≤ task) = true := decide_eq_true htk
        clear hd ho hk hb8
        go_wp2_with fail
        refine (HW.out _).mono ?_
        rintro e w9 ⟨rfl, hk⟩
        have K9 := Lib.hid hk
        clear hk
        go_wp2_with fail
        go_ret
        exact ⟨rfl, K8.out.trans K9.out⟩
      · refine (push_neg gd gc _ _ w7 HD.out HL.out task (by omega) (.inl rfl)).mono ?_
        rintro e w8 ⟨rfl, rfl⟩
        have dt : decide (0 ≤ task) = false := decide_eq_false htk
        go_wp2_with fail
        refine (HW.out _).mono ?_
        rintro e w9 ⟨rfl, hk⟩
        have K9 := Lib.hid hk
        clear hk
        go_wp2_with fail
        go_ret
        exact ⟨rfl, K7.out.trans K9.out⟩
  · have d1 : decide (4096 < room) = true := decide_eq_true (by omega)
    have d2 : decide (room ≤ 65536) = false := decide_eq_false (by omega)
    have HR := Lib.hid (key room)
    go_enter Try.func7, Try.ntmps7
    go_wp2_with fail
    refine (HP.out _).mono ?_
    rintro e w1 ⟨rfl, rfl⟩
    go_wp2_with fail
    refine (HPo.out _).mono ?_
    rintro e w2 ⟨rfl, rfl⟩
    go_wp2_with fail
    refine (HS.out _).mono ?_
    rintro e w3 ⟨rfl, rfl⟩
    go_wp2_with fail
    refine (HT.out _).mono ?_
    rintro e w4 ⟨rfl, rfl⟩
    go_wp2_with fail
    refine (HSt.out _).mono ?_
    rintro e w5 ⟨rfl, hk⟩
    have K5 := Lib.hid hk
    clear hk
    go_wp2_with fail
    refine (HTk.out _).mono ?_
    rintro e w6 ⟨rfl, rfl⟩
    rcases HR.out with hb | ⟨n, rfl, hn1, hn2⟩
    · have d8 : decide (room < 1) = true ∨ decide (room < 1) = false ∧ decide (65536 < room) = true := by
        rcases hb with h | h
        · exact .inl (decide_eq_true h)
        · exact .inr ⟨decide_eq_false (by omega), decide_eq_true h⟩
      have HB := Lib.hid hb
      clear key hb
      rcases d8 with d8 | ⟨d8, d9⟩
      all_goals
        have hb := HB.out
        have HB2 := Lib.hid hb
        clear hb
        go_wp2_with fail
        refine (new_bad _ HB2.out _).mono ?_
        rintro e w7 ⟨rfl, rfl⟩
        go_wp2_with fail
        refine (HW.out _).mono ?_
        rintro e w8 ⟨rfl, hk⟩
        have K8 := Lib.hid hk
        clear hk
        go_wp2_with fail
        go_ret
        exact ⟨rfl, K5.out.trans K8.out⟩
    · have d8 : decide ((n : Int) < 1) = false := decide_eq_false (by omega)
      have d9 : decide (65536 < (n : Int)) = false := decide_eq_false (by omega)
      clear key
      exfalso; omega
end Go.Proofs.Ytdigjppdgiapfaa
