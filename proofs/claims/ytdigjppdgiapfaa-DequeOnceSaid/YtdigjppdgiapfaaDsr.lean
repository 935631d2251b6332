/- Contracts: Tasks of a deque. -/
import Derived.Test.YtdigjppdgiapfaaDsq
set_option linter.unusedSimpArgs false
set_option linter.unusedVariables false
namespace Go.Proofs.Ytdigjppdgiapfaa
open Go.RowKit
attribute [local go_sem] block_of_add fn_some fn_nil fn_somen fn_niln
attribute [local go_sem ↓] Go.wp_at_zero Go.wp_at_succ

def ints (l : List Int) : List Value := l.map (Value.int .i64)
theorem len_ints (l : List Int) : (ints l).length = l.length := by simp [ints]
theorem tasks_take_len (d : Dq) (l : List Int) (h : l = d.tasks.take l.length) (h2 : l.length < d.tasks.length) : l ++ [d.at_ (d.top + (l.length : Int))] = d.tasks.take (l ++ [d.at_ (d.top + (l.length : Int))]).length := by
  rw [List.length_append, List.length_singleton, tasks_take d _ h2, ← h]
set_option maxHeartbeats 800000 in
theorem tasks_any (gd gc : Nat) (d : Dq) (own : Value) (w : World) (hd : DqAt w gd gc d own) (hn : 0 < d.sl.length) (hl : d.sl.length ≤ 1000000) (t0 : 0 ≤ d.top) (t1 : d.top ≤ 1000000) (b1 : d.bot ≤ 1000000) :
    Calls Try.prog 20 #[.pointer (some ⟨gd, 0, none⟩)] w fun e w' => ∃ A c, e = .returned (.slice A d.tasks.length c) ∧ w'.ownsRow w.heap.size 3 1 (.slice A d.tasks.length c) d.tasks.length (ints d.tasks) ∧ Below w.heap.size w w' := by
  have HN := Lib.hid (none_any gd gc d own w hd hn)
  have HD := Lib.hid hd
  have c0 := hd.hdr.c2.1
  have ct := cel_at hd 0 (v := .int .i64 d.top) rfl
  have cb := cel_at hd 1 (v := .int .i64 d.bot) rfl
  have HLD := Lib.hid fun n => loadm ⟨gc, 0, none⟩ d.top (w.drewN n) ct
  have HLB := Lib.hid fun n => loadm ⟨gc, 1, none⟩ d.bot (w.drewN n) cb
  have z0 : (0 : Int) < 2 + (d.sl.length : Int) := by omega
  have z1 : (1 : Int) < 2 + (d.sl.length : Int) := by omega
  have hR : ∀ W, DqAt W gd gc d own → ∀ n : Int, 0 ≤ n → Calls Try.prog 32 #[.pointer (some ⟨gd, 0, none⟩), .int .i64 n] W fun e w' => e = .returned (.int .i64 (2 + (d.ix n : Int))) ∧ w' = W := fun W h n h0 => slot_rel gd gc d own W h n h0 hn hl
  have HR := Lib.hid hR
  have htl : (d.tasks.length : Int) = if d.top ≤ d.bot then d.bot - d.top else 0 := by rw [tasks_len]; unfold Dq.tasksN; split <;> omega
  have HIX := Lib.hid (fun n => ix_lt d.sl hn n)
  clear hd hR
  go_enter Try.func20, Try.ntmps20
  go_wp2_with fail
  refine HN.out.mono ?_
  rintro e w' ⟨rfl, rfl⟩
  go_wp2_with fail
  go_quiet (((go_at_call 31; with_reducible first | exact Calls.quiet_of_same (HLD.out _) | exact Calls.quiet_of_same (HLB.out _))))
  go_wp2_with fail
  go_loopw [3, 4] (fun o t wr => ∃ out : List Int, out.length ≤ d.tasks.length ∧ t = .int .i64 (d.top + (out.length : Int)) ∧ Hid (out = d.tasks.take out.length) ∧ wr.ownsRow w'.heap.size 3 1 o out.length (ints out) ∧ Below w'.heap.size w' wr) (fun _ t _ => (d.top + d.tasks.length - intOf t).toNat)
  case atStart => exact ⟨[], by simp, by simp, Lib.hid (by simp), World.ownsRow_nil _ _ _ _, ⟨rfl, rfl, rfl, Nat.le_refl _, fun _ _ => rfl⟩⟩
  case round =>
    obtain ⟨out, hol, rfl, hv, hown, hw⟩ := hrel
    by_cases hlt : out.length < d.tasks.length
    · have hdec : decide (d.top + (out.length : Int) < d.bot) = true := decide_eq_true (by split at htl <;> omega)
      have hix : (d.ix (d.top + (out.length : Int)) : Int) < d.sl.length := by have := HIX.out (d.top + (out.length : Int)); unfold Dq.ix; omega
      have hwr : IntKind.i64.wrap (d.top + (out.length : Int) + 1) = d.top + (out.length : Int) + 1 := IntWalk.i64_in _ ⟨by omega, by split at htl <;> omega⟩
      have HOWN := Lib.hid hown
      have HW := Lib.hid hw
      have HLT := Lib.hid hlt
      have hn2 : out.length ≤ 2000000 := by split at htl <;> omega
      clear hown hlt htl
      go_wp2_with fail
      have hwW : Below w'.heap.size w' (World.drew wr) := (Kp.of_below HW.out (fun _ => False)).drew.below (fun k h => h.elim) (Nat.le_refl _)
      have hkW : Kp (fun _ => False) w' (World.drew wr) := (Kp.of_below HW.out _).drew
      have hdW := HD.out.kp hkW id id
      have hownW := own_kp HOWN.out ((Kp.refl (fun _ => False) wr).drew) (fun _ _ => id)
      have e0 := hdW.hdr.c2.1
      have lg := HD.out.hdr.lt
      obtain ⟨m, hm⟩ : ∃ m, m = 2 + d.ix (d.top + (out.length : Int)) := ⟨_, rfl⟩
      have HS : Hid (Calls Try.prog 32 #[.pointer (some ⟨gd, 0, none⟩), .int .i64 (d.top + (out.length : Int))] (World.drew wr) fun e w' => e = .returned (.int .i64 (m : Int)) ∧ w' = World.drew wr) := Lib.hid (by
        have h := HR.out (World.drew wr) hdW (d.top + (out.length : Int)) (by omega)
        rw [show (2 + (d.ix (d.top + (out.length : Int)) : Int)) = (m : Int) by omega] at h
        exact h)
      have hmi : (m : Int) < 2 + (d.sl.length : Int) := by omega
      have HL := Lib.hid (loadm ⟨gc, m, none⟩ (d.at_ (d.top + (out.length : Int))) (World.drew wr) (cel_at hdW _ (by rw [hm]; exact dq_slot d hn _)))
      have HOW := Lib.hid hownW
      have HWW := Lib.hid hwW
      clear hm hix hdW hownW hkW hw hwW
      refine wp_region_held_drew (S := fun W => W.cell? ⟨gd, 0, none⟩ = some (.slice (some ⟨gc, 0, none⟩) (2 + d.sl.length) (2 + d.sl.length))) (by kernel_rfl) e0 (fun hS => ?_)
      refine wpAnyH_take (i := 0) (v := ?_) rfl (by kernel_rfl) (by kernel_rfl) (by kernel_rfl) (fun _ _ _ h => h) (Or.inl ⟨by rfl, ?_⟩) hS ?_
      rotate_left
      · intro W' hS'
        go_simp
        rfl
      try simp only [Act.put, List.setIfInBounds_toArray, List.set_cons_zero, List.set_cons_succ, List.getElem_toArray, List.getElem_cons_zero, List.getElem_cons_succ]
      refine wpAnyH_take (i := 1) (v := ?_) rfl (by kernel_rfl) (by kernel_rfl) (by kernel_rfl) (fun _ _ _ h => h) (Or.inl ⟨by rfl, ?_⟩) hS ?_
      rotate_left
      · intro W' hS'
        go_simp
        rfl
      try simp only [Act.put, List.setIfInBounds_toArray, List.set_cons_zero, List.set_cons_succ, List.getElem_toArray, List.getElem_cons_zero, List.getElem_cons_succ]
      refine wpAnyH_take (i := 2) (v := ?_) rfl (by kernel_rfl) (by kernel_rfl) (by kernel_rfl) (fun _ _ _ h => h) (Or.inl ⟨by rfl, ?_⟩) hS ?_
      rotate_left
      · intro W' hS'
        go_simp
        rfl
      try simp only [Act.put, List.setIfInBounds_toArray, List.set_cons_zero, List.set_cons_succ, List.getElem_toArray, List.getElem_cons_zero, List.getElem_cons_succ]
      refine wpAnyH_take (i := 3) (v := ?_) rfl (by kernel_rfl) (by kernel_rfl) (by kernel_rfl) (fun _ _ _ h => h) (Or.inl ⟨by rfl, ?_⟩) hS ?_
      rotate_left
      · intro W' hS'
        go_simp
        rfl
      try simp only [Act.put, List.setIfInBounds_toArray, List.set_cons_zero, List.set_cons_succ, List.getElem_toArray, List.getElem_cons_zero, List.getElem_cons_succ]
      refine wpAnyH_take (i := 4) (v := ?_) rfl (by kernel_rfl) (by kernel_rfl) (by kernel_rfl) (fun _ _ _ h => h) (Or.inl ⟨by rfl, ?_⟩) hS ?_
      rotate_left
      · intro W' hS'
        go_simp
        rfl
      try simp only [Act.put, List.setIfInBounds_toArray, List.set_cons_zero, List.set_cons_succ, List.getElem_toArray, List.getElem_cons_zero, List.getElem_cons_succ]
      refine wpAnyH_take (i := 5) (v := ?_) rfl (by kernel_rfl) (by kernel_rfl) (by kernel_rfl) (fun _ _ _ h => h) (Or.inl ⟨by rfl, ?_⟩) hS ?_
      rotate_left
      · intro W' hS'
        go_simp
        rfl
      try simp only [Act.put, List.setIfInBounds_toArray, List.set_cons_zero, List.set_cons_succ, List.getElem_toArray, List.getElem_cons_zero, List.getElem_cons_succ]
      refine wpAnyH_take (i := 6) (v := ?_) rfl (by kernel_rfl) (by kernel_rfl) (by kernel_rfl) (fun _ _ _ h => h) (Or.inl ⟨by rfl, ?_⟩) hS ?_
      rotate_left
      · intro W' hS'
        go_simp
        rfl
      try simp only [Act.put, List.setIfInBounds_toArray, List.set_cons_zero, List.set_cons_succ, List.getElem_toArray, List.getElem_cons_zero, List.getElem_cons_succ]
      refine wpAnyH_ready (rs := [7]) (by kernel_rfl) (by simp) (AllReadyH.cons rfl (fun K hK => ?_) AllReadyH.nil)
      go_simp
      refine HS.out.mono ?_
      rintro e w3 ⟨rfl, rfl⟩
      refine hK.out _ _ hS (fun hS => ?_)
      try simp only [Act.put, List.setIfInBounds_toArray, List.set_cons_zero, List.set_cons_succ, List.getElem_toArray, List.getElem_cons_zero, List.getElem_cons_succ]
      clear hK
      refine wpAnyH_take (i := 8) (v := ?_) rfl (by kernel_rfl) (by kernel_rfl) (by kernel_rfl) (fun _ _ _ h => h) (Or.inl ⟨by rfl, ?_⟩) hS ?_
      rotate_left
      · intro W' hS'
        go_simp
        rfl
      try simp only [Act.put, List.setIfInBounds_toArray, List.set_cons_zero, List.set_cons_succ, List.getElem_toArray, List.getElem_cons_zero, List.getElem_cons_succ]
      refine wpAnyH_ready (rs := [9]) (by kernel_rfl) (by simp) (AllReadyH.cons rfl (fun K hK => ?_) AllReadyH.nil)
      go_simp
      refine HL.out.mono ?_
      rintro e w3 ⟨rfl, rfl⟩
      refine hK.out _ _ hS (fun hS => ?_)
      try simp only [Act.put, List.setIfInBounds_toArray, List.set_cons_zero, List.set_cons_succ, List.getElem_toArray, List.getElem_cons_zero, List.getElem_cons_succ]
      clear hK
      refine wpAnyH_ready (rs := [10]) (by kernel_rfl) (by simp) (AllReadyH.cons rfl (fun K hK => ?_) AllReadyH.nil)
      go_simp
      refine hK.out _ _ ((World.cell?_alloc_lt _ _ _ (by have hz : w'.heap.size ≤ wr.heap.size := HWW.out.size; exact Nat.lt_of_lt_of_le lg hz)).trans hS) (fun hS => ?_)
      try simp only [Act.put, List.setIfInBounds_toArray, List.set_cons_zero, List.set_cons_succ, List.getElem_toArray, List.getElem_cons_zero, List.getElem_cons_succ]
      clear hK
      refine wpAnyH_ready (rs := [11]) (by kernel_rfl) (by simp) (AllReadyH.cons rfl (fun K hK => ?_) AllReadyH.nil)
      refine step_app rfl _ _ rfl el_int HOW.out HWW.out.size rfl [_] rfl (by simp) (by simp [Value.oneCell']) (by omega) (by omega) ?_
      intro A' c' w2 hown' hB hg _
      have hw2 := hB _ _ (Nat.le_refl _) HWW.out
      refine hK.out _ _ ((hw2.cell lg).trans c0) (fun hS => ?_)
      try simp only [Act.put, List.setIfInBounds_toArray, List.set_cons_zero, List.set_cons_succ, List.getElem_toArray, List.getElem_cons_zero, List.getElem_cons_succ]
      clear hK
      refine wpAnyH_take (i := 12) (v := ?_) rfl (by kernel_rfl) (by kernel_rfl) (by kernel_rfl) (fun _ _ _ h => h) (Or.inl ⟨by rfl, ?_⟩) hS ?_
      rotate_left
      · intro W' hS'
        go_simp
        rfl
      try simp only [Act.put, List.setIfInBounds_toArray, List.set_cons_zero, List.set_cons_succ, List.getElem_toArray, List.getElem_cons_zero, List.getElem_cons_succ]
      refine wpAnyH_done (by kernel_rfl) ?_ _
      clear hS
      have HB := Lib.hid hB
      have HO2 := Lib.hid hown'
      have HW2 := Lib.hid hw2
      clear hB hown' hw2 hg
      go_wp2_with fail
      go_roundw
      case rel => exact ⟨out ++ [_], by simp; exact HLT.out, by simp; omega, Lib.hid (tasks_take_len d out hv.out HLT.out), by simpa [ints] using HO2.out, HW2.out⟩
      case measure => have := HLT.out; simp [intOf]; omega
    · have hl2 : out.length = d.tasks.length := by omega
      have hdec : decide (d.top + (out.length : Int) < d.bot) = false := decide_eq_false (by split at htl <;> omega)
      have he : out = d.tasks := by rw [hv.out, hl2, List.take_length]
      have HE := Lib.hid he
      obtain ⟨A, c, rfl⟩ := own_form hown
      have HOWN := Lib.hid hown
      have HW := Lib.hid hw
      clear hown hlt htl hv hw hl2 hol he
      go_wp2_with fail
      refine bodyPost_ret (v := .slice A out.length c) (by simp [results, Try.results20, go_sem]) rfl ?_
      have HE' := HE.out
      have HOWN' := HOWN.out
      subst HE'
      exact ⟨A, c, rfl, HOWN', HW.out⟩
end Go.Proofs.Ytdigjppdgiapfaa
