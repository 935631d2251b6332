/- Contracts: the document's deque: New, Begin, Told, Tasks; kind. -/
import Derived.Test.YtdigjppdgiapfaaRqf
import Derived.Test.YtdigjppdgiapfaaDla
set_option linter.unusedSimpArgs false
set_option linter.unusedVariables false
namespace Go.Proofs.Ytdigjppdgiapfaa
open Go.RowKit
attribute [local go_sem] block_of_add
attribute [local go_sem ↓] Go.wp_at_zero Go.wp_at_succ

theorem made_int (n : Nat) : madeCells (Value.int .i64 0).cells ((2 + n) * 1) = (dqCells (Dq.made n)).toArray := by
  apply Array.toList_inj.1
  rw [Nat.mul_one]
  show (madeCells #[.int .i64 0] (2 + n)).toList = _
  rw [toList_madeCells_one, Nat.add_comm 2 n]
  simp [dqCells, Dq.made, List.replicate_succ]
theorem make_int2 (n : Nat) (hn : n ≤ 1000000) (w : World) : (Instr.makeSlice 49 (.int .i64 (2 + (n : Int))) (.int .i64 (2 + (n : Int)))).run Try.prog w = .ok (.slice (some ⟨w.heap.size, 0, none⟩) (2 + n) (2 + n)) (w.alloc (.cells (dqCells (Dq.made n)).toArray 3)) := by
  obtain ⟨i, hi, hz, hs, hb⟩ := info_parts el_int.info
  have h := run_makeSlice (P := Try.prog) (w := w) 49 3 i (.int .i64 0) el_int.ht hi hz .i64 .i64 (2 + (n : Int)) (2 + (n : Int)) (by omega) (by omega) (by rw [hs]; omega) (by rw [hb]; omega) (by omega)
  rw [h, hs, show (2 + (n : Int)).toNat = 2 + n by omega, made_int]
structure RMade (w w' : World) (n : Nat) (e : Ending) : Prop where
  ex : ∃ rd rc, e = .returned (.tuple #[.pointer (some ⟨rd, 0, none⟩), .int .i64 0]) ∧ w.heap.size ≤ rd ∧ w.heap.size ≤ rc ∧ RqAt w' rd rc (Dq.made n) 0 ∧ Kp (fun _ => False) w w'
set_option maxHeartbeats 400000 in
theorem rnew_any (n : Nat) (h1 : 1 ≤ n) (h2 : n ≤ 65536) (w : World) : Calls Try.prog 10 #[.int .i64 (n : Int)] w fun e w' => RMade w w' n e := by
  have d1 : decide ((n : Int) < 1) = false := decide_eq_false (by omega)
  have d2 : decide ((65536 : Int) < n) = false := decide_eq_false (by omega)
  have d3 : ¬ (n : Int) < 1 := by omega
  have d4 : ¬ (65536 : Int) < n := by omega
  have d5 : n ≤ 65536 := h2
  have d6 : ¬ n < 1 := by omega
  have hwr : IntKind.i64.wrap (2 + (n : Int)) = 2 + (n : Int) := IntWalk.i64_in _ ⟨by omega, by omega⟩
  have hmk := make_int2 n (by omega)
  have HN := Lib.hid h1
  clear h1 h2
  go_enter Try.func10, Try.ntmps10
  go_wp2_with fail
  refine bodyPost_ret (v := .tuple #[.pointer (some ⟨w.heap.size + 1, 0, none⟩), .int .i64 0]) (by simp [results, Try.results10, go_sem]) rfl ⟨w.heap.size + 1, w.heap.size, rfl, by omega, Nat.le_refl _, ⟨?_, ?_⟩, ?_⟩
  · refine Blk.conv (Blk.at_ _ _ _ (by simp)) ?_
    simp [Dq.made, rhCells]
  · exact (Blk.at_ _ _ _ rfl).alloc _
  · exact ((Kp.refl _ _).alloc _).alloc _
/-- What a begun operation of the document's is. -/
structure RBegun (w w' : World) (rd rc K : Nat) (d : Dq) (ow : Int) (o : Dop) (e : Ending) : Prop where
  ex : ∃ go, e = .returned (.tuple #[.pointer (some ⟨go, 0, none⟩), .int .i64 0]) ∧ w.heap.size ≤ go ∧ RoAt w' go rd K o
  hd : RqAt w' rd rc d ow
  hk : Kp (fun k => k = rd) w w'
section
variable (rd rc : Nat) (d : Dq) (w : World)
set_option maxHeartbeats 400000 in
theorem rbegin_steal (x : Int) (ow : Int) (hd : RqAt w rd rc d ow) : Calls Try.prog 12 #[.pointer (some ⟨rd, 0, none⟩), .int .i64 2, .int .i64 x] w fun e w' => RBegun w w' rd rc 2 d ow opSteal e := by
  have h := Blk.c3 hd.hdr
  have ld := hd.hdr.lt
  have lc := hd.cel.lt
  have zd2 := hd.hdr.frozen 2
  have n3 := Blk.ne_ hd.hdr hd.cel (by decide)
  have HH := Lib.hid hd
  have HN := Lib.hid n3
  clear hd n3
  go_enter Try.func12, Try.ntmps12
  go_wp2_with fail
  have n4 : rc ≠ rd := Ne.symm HN.out
  refine bodyPost_ret (v := .tuple #[.pointer (some ⟨w.heap.size, 0, none⟩), .int .i64 0]) (by simp [results, Try.results12, go_sem]) rfl ⟨⟨w.heap.size, rfl, Nat.le_refl _, ⟨⟨false, by simp [opPush, opPop, opSteal], ?_⟩, by simp [opPush, opPop, opSteal]⟩⟩, ⟨?_, ?_⟩, ?_⟩
  · exact Blk.conv (Blk.at_ _ _ _ rfl) (by simp [rfCells, robj, opSteal, off])
  · exact HH.out.hdr.alloc _
  · exact HH.out.cel.alloc _
  · exact (Kp.refl _ _).alloc _
set_option maxHeartbeats 400000 in
theorem rbegin_pop (x : Int) (hd : RqAt w rd rc d 0) : Calls Try.prog 12 #[.pointer (some ⟨rd, 0, none⟩), .int .i64 1, .int .i64 x] w fun e w' => RBegun w w' rd rc 1 d 1 opPop e := by
  have h := Blk.c3 hd.hdr
  have ld := hd.hdr.lt
  have lc := hd.cel.lt
  have zd2 := hd.hdr.frozen 2
  have n3 := Blk.ne_ hd.hdr hd.cel (by decide)
  have HH := Lib.hid hd
  have HN := Lib.hid n3
  clear hd n3
  go_enter Try.func12, Try.ntmps12
  go_wp2_with fail
  have n4 : rc ≠ rd := Ne.symm HN.out
  refine bodyPost_ret (v := .tuple #[.pointer (some ⟨w.heap.size, 0, none⟩), .int .i64 0]) (by simp [results, Try.results12, go_sem]) rfl ⟨⟨w.heap.size, rfl, Nat.le_refl _, ⟨⟨false, by simp [opPush, opPop, opSteal], ?_⟩, by simp [opPush, opPop, opSteal]⟩⟩, ⟨?_, ?_⟩, ?_⟩
  · exact Blk.conv (Blk.at_ _ _ _ (by simp)) (by simp [rfCells, robj, opPop, off])
  · exact Blk.conv ((HH.out.hdr.set_ 2 (.int .i64 1)).alloc _) (by simp [rhCells])
  · exact (HH.out.cel.far (p := ⟨rd, 2, none⟩) n4 _).alloc _
  · exact (Kp.setCell (Kp.refl (fun k => k = rd) w) (p := ⟨rd, 2, none⟩) (.inl rfl) _).alloc _
set_option maxHeartbeats 400000 in
theorem rbegin_push (x : Int) (hx : 0 ≤ x) (hd : RqAt w rd rc d 0) : Calls Try.prog 12 #[.pointer (some ⟨rd, 0, none⟩), .int .i64 0, .int .i64 x] w fun e w' => RBegun w w' rd rc 0 d 1 (opPush x) e := by
  have h := Blk.c3 hd.hdr
  have ld := hd.hdr.lt
  have lc := hd.cel.lt
  have zd2 := hd.hdr.frozen 2
  have n3 := Blk.ne_ hd.hdr hd.cel (by decide)
  have HH := Lib.hid hd
  have HN := Lib.hid n3
  have hx2 : decide (x < 0) = false := decide_eq_false (by omega)
  clear hd n3
  go_enter Try.func12, Try.ntmps12
  go_wp2_with fail
  have n4 : rc ≠ rd := Ne.symm HN.out
  refine bodyPost_ret (v := .tuple #[.pointer (some ⟨w.heap.size, 0, none⟩), .int .i64 0]) (by simp [results, Try.results12, go_sem]) rfl ⟨⟨w.heap.size, rfl, Nat.le_refl _, ⟨⟨false, by simp [opPush, opPop, opSteal], ?_⟩, by simp [opPush, opPop, opSteal]⟩⟩, ⟨?_, ?_⟩, ?_⟩
  · exact Blk.conv (Blk.at_ _ _ _ (by simp)) (by simp [rfCells, robj, opPush, off])
  · exact Blk.conv ((HH.out.hdr.set_ 2 (.int .i64 1)).alloc _) (by simp [rhCells])
  · exact (HH.out.cel.far (p := ⟨rd, 2, none⟩) n4 _).alloc _
  · exact (Kp.setCell (Kp.refl (fun k => k = rd) w) (p := ⟨rd, 2, none⟩) (.inl rfl) _).alloc _
end
set_option maxHeartbeats 400000 in
theorem rtold_any (ro rd K : Nat) (o : Dop) (w : World) (ho : RoAt w ro rd K o) : Calls Try.prog 18 #[.pointer (some ⟨ro, 0, none⟩)] w fun e w' => e = .returned (.tuple #[.int .u8 (told o).1, .int .i64 (told o).2]) ∧ Kp (fun _ => False) w w' := by
  obtain ⟨⟨won, _, hf⟩, _⟩ := ho
  have g4 := Blk.get hf 5 (v := .int .i64 o.x) rfl
  by_cases h : o.how = 2
  · have g6 := Blk.get hf 7 (v := .int .u8 2) (by simp [rfCells, robj, h])
    have HT : Hid (told o = (2, o.x)) := Lib.hid (by simp [told, h])
    clear hf h
    go_enter Try.func18, Try.ntmps18
    go_wp2_with fail
    go_quiet (fail)
    go_wp2_with fail
    refine bodyPost_ret (v := .tuple #[.int .u8 2, .int .i64 o.x]) (by simp [results, Try.results18, go_sem]) rfl ⟨by rw [HT.out]; rfl, ?_⟩
    exact (Kp.refl _ w).drewN _
  · have g6 := Blk.get hf 7 (v := .int .u8 o.how) rfl
    have h1 : ((o.how : Int) == 2) = false := by simpa using (show ¬ (o.how : Int) = 2 by omega)
    have h2 : ¬ (o.how : Int) = 2 := by omega
    have h3 : ((o.how : Int) != 2) = true := by simpa using (show ¬ (o.how : Int) = 2 by omega)
    have HT : Hid (told o = (o.how, 0)) := Lib.hid (by simp [told, h])
    clear hf h
    go_enter Try.func18, Try.ntmps18
    go_wp2_with fail
    refine bodyPost_ret (v := .tuple #[.int .u8 o.how, .int .i64 0]) (by simp [results, Try.results18, go_sem]) rfl ⟨by rw [HT.out], ?_⟩
    exact Kp.refl _ w
theorem kind_own (p : Bool) (w : World) : Calls Try.prog 13 #[.int .i64 0, .bool p] w fun e w' => e = .returned (.int .i64 (if p then 1 else 0)) ∧ w' = w := by
  cases p
  all_goals
    go_enter Try.func13, Try.ntmps13
    go_wp2
    go_ret
    exact ⟨rfl, rfl⟩
theorem kind_th (k : Nat) (h : 0 < k) (p : Bool) (w : World) : Calls Try.prog 13 #[.int .i64 k, .bool p] w fun e w' => e = .returned (.int .i64 2) ∧ w' = w := by
  have h1 : decide ((0 : Int) < (k : Int)) = true := decide_eq_true (by omega)
  go_enter Try.func13, Try.ntmps13
  go_wp2
  go_ret
  exact ⟨rfl, rfl⟩
set_option maxHeartbeats 1000000 in
theorem rtasks_any (rd rc : Nat) (d : Dq) (ow : Int) (w : World) (hd : RqAt w rd rc d ow) (hn : 0 < d.sl.length) (hl : d.sl.length ≤ 1000000) (t0 : 0 ≤ d.top) (t1 : d.top ≤ 1000000) (b1 : d.bot ≤ 1000000) :
    Calls Try.prog 21 #[.pointer (some ⟨rd, 0, none⟩)] w fun e w' => ∃ A c, e = .returned (.slice A d.tasks.length c) ∧ w'.ownsRow w.heap.size 3 1 (.slice A d.tasks.length c) d.tasks.length (ints d.tasks) ∧ Below w.heap.size w w' := by
  have HD := Lib.hid hd
  have c0 := hd.hdr.c3.1
  have c1 := hd.hdr.c3.2.1
  have ct := hd.at_ 0 (v := .int .i64 d.top) rfl
  have cb := hd.at_ 1 (v := .int .i64 d.bot) rfl
  have lg := hd.hdr.lt
  have lc := hd.cel.lt
  have z0 : (0 : Int) < 2 + (d.sl.length : Int) := by omega
  have z1 : (1 : Int) < 2 + (d.sl.length : Int) := by omega
  have htl : (d.tasks.length : Int) = if d.top ≤ d.bot then d.bot - d.top else 0 := by rw [tasks_len]; unfold Dq.tasksN; split <;> omega
  have HIX := Lib.hid (fun n => ix_lt d.sl hn n)
  have HNN := Lib.hid hn
  clear hd
  go_enter Try.func21, Try.ntmps21
  go_wp2_with fail
  go_loopw [3, 4] (fun o t wr => ∃ out : List Int, out.length ≤ d.tasks.length ∧ t = .int .i64 (d.top + (out.length : Int)) ∧ Hid (out = d.tasks.take out.length) ∧ wr.ownsRow w.heap.size 3 1 o out.length (ints out) ∧ Below w.heap.size w wr) (fun _ t _ => (d.top + d.tasks.length - intOf t).toNat)
  case atStart => exact ⟨[], by simp, by simp, Lib.hid (by simp), World.ownsRow_nil _ _ _ _, ⟨rfl, rfl, rfl, Nat.le_refl _, fun _ _ => rfl⟩⟩
  case round =>
    obtain ⟨out, hol, rfl, hv, hown, hw⟩ := hrel
    have e0 := (hw.cell (p := ⟨rd, 0, none⟩) lg).trans c0
    have e1 := (hw.cell (p := ⟨rd, 1, none⟩) lg).trans c1
    have et := (hw.cell (p := ⟨rc, 0, none⟩) lc).trans ct
    have eb := (hw.cell (p := ⟨rc, 1, none⟩) lc).trans cb
    by_cases hlt : out.length < d.tasks.length
    · have hdec : decide (d.top + (out.length : Int) < d.bot) = true := decide_eq_true (by split at htl <;> omega)
      have hix : (d.ix (d.top + (out.length : Int)) : Int) < d.sl.length := by have := HIX.out (d.top + (out.length : Int)); unfold Dq.ix; omega
      have hwr : IntKind.i64.wrap (d.top + (out.length : Int) + 1) = d.top + (out.length : Int) + 1 := IntWalk.i64_in _ ⟨by omega, by split at htl <;> omega⟩
      have HOW := Lib.hid hown
      have HWW := Lib.hid hw
      have HLT := Lib.hid hlt
      have hn2 : out.length ≤ 2000000 := by split at htl <;> omega
      have hz : ((d.sl.length : Int) == 0) = false := beq_eq_false_iff_ne.2 (by have := HNN.out; omega)
      have hz3 : ¬ d.sl = [] := by intro h; have := HNN.out; rw [h] at this; simp at this
      have hz2 : ¬ (d.sl.length : Int) = 0 := by have := HNN.out; omega
      obtain ⟨m, hm⟩ : ∃ m, m = 2 + d.ix (d.top + (out.length : Int)) := ⟨_, rfl⟩
      have hmod : Int.tmod (d.top + (out.length : Int)) (d.sl.length : Int) = (m : Int) - 2 := by
        rw [Int.tmod_eq_emod_of_nonneg (by omega), hm]; unfold Dq.ix slIx
        have h1 := Int.emod_nonneg (d.top + (out.length : Int)) (show (d.sl.length : Int) ≠ 0 by omega)
        omega
      have hmod2 : (d.top + (out.length : Int)) % (d.sl.length : Int) = (m : Int) - 2 := by rw [← hmod, Int.tmod_eq_emod_of_nonneg (by omega)]
      have hm2 : (2 : Int) + ((m : Int) - 2) = (m : Int) := by omega
      have hwm : IntKind.i64.wrap ((m : Int) - 2) = (m : Int) - 2 := IntWalk.i64_in _ ⟨by omega, by omega⟩
      have hwm2 : IntKind.i64.wrap (m : Int) = (m : Int) := IntWalk.i64_in _ ⟨by omega, by omega⟩
      have hmi : (m : Int) < 2 + (d.sl.length : Int) := by omega
      have hmn : m < 2 + d.sl.length := by omega
      have HM := Lib.hid (HD.out.at_ m (v := .int .i64 (d.at_ (d.top + (out.length : Int)))) (by rw [hm]; exact dq_slot d HNN.out _))
      have em := (hw.cell (p := ⟨rc, m, none⟩) lc).trans HM.out
      have hszw := hw.size
      have lg2 : rd < wr.heap.size := by omega
      have lc2 : rc < wr.heap.size := by omega
      clear hown hlt htl hm hix hw ct cb hn
      go_wp2_with fail
      have HOW : Hid ((World.drew wr).ownsRow w.heap.size 3 1 _ out.length (ints out)) := Lib.hid (own_kp HOW.out ((Kp.refl (fun _ => False) wr).drew) (fun _ _ => id))
      have HWW : Hid (Below w.heap.size w (World.drew wr)) := Lib.hid ((Kp.of_below HWW.out (fun _ => False)).drew.below (fun k h => h.elim) (Nat.le_refl _))
      refine wp_region_held_drew (S := fun W => W.cell? ⟨rd, 0, none⟩ = some (.slice (some ⟨rc, 0, none⟩) (2 + d.sl.length) (2 + d.sl.length)) ∧ W.cell? ⟨rd, 1, none⟩ = some (.int .i64 d.sl.length) ∧ W.cell? ⟨rc, m, none⟩ = some (.int .i64 (d.at_ (d.top + (out.length : Int))))) (by kernel_rfl) ⟨by simp [*, go_sem], by simp [*, go_sem], by simp [*, go_sem]⟩ (fun hS => ?_)
      refine wpAnyH_take (i := 0) (v := ?_) rfl (by kernel_rfl) (by kernel_rfl) (by kernel_rfl) (fun _ _ _ h => h) (Or.inl ⟨by rfl, ?_⟩) hS ?_
      rotate_left
      · intro W' hS'
        go_simp
        rfl
      try simp only [Act.put, List.setIfInBounds_toArray, List.set_cons_zero, List.set_cons_succ, List.getElem_toArray, List.getElem_cons_zero, List.getElem_cons_succ]
      refine wpAnyH_take (i := 1) (v := ?_) rfl (by kernel_rfl) (by kernel_rfl) (by kernel_rfl) (fun _ _ _ h => h) (Or.inl ⟨by rfl, ?_⟩) hS ?_
      rotate_left
      · intro W' hS'
        go_simp
        rfl
      try simp only [Act.put, List.setIfInBounds_toArray, List.set_cons_zero, List.set_cons_succ, List.getElem_toArray, List.getElem_cons_zero, List.getElem_cons_succ]
      refine wpAnyH_take (i := 2) (v := ?_) rfl (by kernel_rfl) (by kernel_rfl) (by kernel_rfl) (fun _ _ _ h => h) (Or.inl ⟨by rfl, ?_⟩) hS ?_
      rotate_left
      · intro W' hS'
        go_simp
        rfl
      try simp only [Act.put, List.setIfInBounds_toArray, List.set_cons_zero, List.set_cons_succ, List.getElem_toArray, List.getElem_cons_zero, List.getElem_cons_succ]
      refine wpAnyH_take (i := 3) (v := ?_) rfl (by kernel_rfl) (by kernel_rfl) (by kernel_rfl) (fun _ _ _ h => h) (Or.inl ⟨by rfl, ?_⟩) hS ?_
      rotate_left
      · intro W' hS'
        go_simp
        rfl
      try simp only [Act.put, List.setIfInBounds_toArray, List.set_cons_zero, List.set_cons_succ, List.getElem_toArray, List.getElem_cons_zero, List.getElem_cons_succ]
      refine wpAnyH_take (i := 4) (v := ?_) rfl (by kernel_rfl) (by kernel_rfl) (by kernel_rfl) (fun _ _ _ h => h) (Or.inl ⟨by rfl, ?_⟩) hS ?_
      rotate_left
      · intro W' hS'
        go_simp
        rfl
      try simp only [Act.put, List.setIfInBounds_toArray, List.set_cons_zero, List.set_cons_succ, List.getElem_toArray, List.getElem_cons_zero, List.getElem_cons_succ]
      refine wpAnyH_take (i := 5) (v := ?_) rfl (by kernel_rfl) (by kernel_rfl) (by kernel_rfl) (fun _ _ _ h => h) (Or.inl ⟨by rfl, ?_⟩) hS ?_
      rotate_left
      · intro W' hS'
        go_simp
        rfl
      try simp only [Act.put, List.setIfInBounds_toArray, List.set_cons_zero, List.set_cons_succ, List.getElem_toArray, List.getElem_cons_zero, List.getElem_cons_succ]
      refine wpAnyH_take (i := 6) (v := ?_) rfl (by kernel_rfl) (by kernel_rfl) (by kernel_rfl) (fun _ _ _ h => h) (Or.inl ⟨by rfl, ?_⟩) hS ?_
      rotate_left
      · intro W' hS'
        go_simp
        rfl
      try simp only [Act.put, List.setIfInBounds_toArray, List.set_cons_zero, List.set_cons_succ, List.getElem_toArray, List.getElem_cons_zero, List.getElem_cons_succ]
      refine wpAnyH_take (i := 7) (v := ?_) rfl (by kernel_rfl) (by kernel_rfl) (by kernel_rfl) (fun _ _ _ h => h) (Or.inl ⟨by rfl, ?_⟩) hS ?_
      rotate_left
      · intro W' hS'
        go_simp
        rfl
      try simp only [Act.put, List.setIfInBounds_toArray, List.set_cons_zero, List.set_cons_succ, List.getElem_toArray, List.getElem_cons_zero, List.getElem_cons_succ]
      refine wpAnyH_take (i := 8) (v := ?_) rfl (by kernel_rfl) (by kernel_rfl) (by kernel_rfl) (fun _ _ _ h => h) (Or.inl ⟨by rfl, ?_⟩) hS ?_
      rotate_left
      · intro W' hS'
        go_simp
        rfl
      try simp only [Act.put, List.setIfInBounds_toArray, List.set_cons_zero, List.set_cons_succ, List.getElem_toArray, List.getElem_cons_zero, List.getElem_cons_succ]
      refine wpAnyH_take (i := 9) (v := ?_) rfl (by kernel_rfl) (by kernel_rfl) (by kernel_rfl) (fun _ _ _ h => h) (Or.inl ⟨by rfl, ?_⟩) hS ?_
      rotate_left
      · intro W' hS'
        go_simp
        rfl
      try simp only [Act.put, List.setIfInBounds_toArray, List.set_cons_zero, List.set_cons_succ, List.getElem_toArray, List.getElem_cons_zero, List.getElem_cons_succ]
      refine wpAnyH_take (i := 10) (v := ?_) rfl (by kernel_rfl) (by kernel_rfl) (by kernel_rfl) (fun _ _ _ h => h) (Or.inl ⟨by rfl, ?_⟩) hS ?_
      rotate_left
      · intro W' hS'
        go_simp
        rfl
      try simp only [Act.put, List.setIfInBounds_toArray, List.set_cons_zero, List.set_cons_succ, List.getElem_toArray, List.getElem_cons_zero, List.getElem_cons_succ]
      refine wpAnyH_take (i := 11) (v := ?_) rfl (by kernel_rfl) (by kernel_rfl) (by kernel_rfl) (fun _ _ _ h => h) (Or.inl ⟨by rfl, ?_⟩) hS ?_
      rotate_left
      · intro W' hS'
        go_simp
        rfl
      try simp only [Act.put, List.setIfInBounds_toArray, List.set_cons_zero, List.set_cons_succ, List.getElem_toArray, List.getElem_cons_zero, List.getElem_cons_succ]
      refine wpAnyH_take (i := 12) (v := ?_) rfl (by kernel_rfl) (by kernel_rfl) (by kernel_rfl) (fun _ _ _ h => h) (Or.inl ⟨by rfl, ?_⟩) hS ?_
      rotate_left
      · intro W' hS'
        go_simp
        rfl
      try simp only [Act.put, List.setIfInBounds_toArray, List.set_cons_zero, List.set_cons_succ, List.getElem_toArray, List.getElem_cons_zero, List.getElem_cons_succ]
      refine wpAnyH_take (i := 13) (v := ?_) rfl (by kernel_rfl) (by kernel_rfl) (by kernel_rfl) (fun _ _ _ h => h) (Or.inl ⟨by rfl, ?_⟩) hS ?_
      rotate_left
      · intro W' hS'
        go_simp
        rfl
      try simp only [Act.put, List.setIfInBounds_toArray, List.set_cons_zero, List.set_cons_succ, List.getElem_toArray, List.getElem_cons_zero, List.getElem_cons_succ]
      refine wpAnyH_ready (rs := [14]) (by kernel_rfl) (by simp) (AllReadyH.cons rfl (fun K hK => ?_) AllReadyH.nil)
      go_simp
      refine hK.out _ _ ⟨by simp [*, go_sem], by simp [*, go_sem], by simp [*, go_sem]⟩ (fun hS => ?_)
      try simp only [Act.put, List.setIfInBounds_toArray, List.set_cons_zero, List.set_cons_succ, List.getElem_toArray, List.getElem_cons_zero, List.getElem_cons_succ]
      clear hK
      refine wpAnyH_ready (rs := [15]) (by kernel_rfl) (by simp) (AllReadyH.cons rfl (fun K hK => ?_) AllReadyH.nil)
      refine step_app rfl _ _ rfl el_int HOW.out HWW.out.size rfl [_] rfl (by simp) (by simp [Value.oneCell']) (by omega) (by omega) ?_
      intro A' c' w2 hown' hB hg _
      have hw2 := hB _ _ (Nat.le_refl _) HWW.out
      refine hK.out _ _ ⟨(hw2.cell lg).trans c0, (hw2.cell lg).trans c1, (hw2.cell lc).trans HM.out⟩ (fun hS => ?_)
      try simp only [Act.put, List.setIfInBounds_toArray, List.set_cons_zero, List.set_cons_succ, List.getElem_toArray, List.getElem_cons_zero, List.getElem_cons_succ]
      clear hK
      refine wpAnyH_take (i := 16) (v := ?_) rfl (by kernel_rfl) (by kernel_rfl) (by kernel_rfl) (fun _ _ _ h => h) (Or.inl ⟨by rfl, ?_⟩) hS ?_
      rotate_left
      · intro W' hS'
        go_simp
        rfl
      try simp only [Act.put, List.setIfInBounds_toArray, List.set_cons_zero, List.set_cons_succ, List.getElem_toArray, List.getElem_cons_zero, List.getElem_cons_succ]
      refine wpAnyH_done (by kernel_rfl) ?_ _
      clear hS
      have HB := Lib.hid hB
      have HO2 := Lib.hid hown'
      have HW2 := Lib.hid hw2
      clear hB hown' hw2 hg
      go_wp2_with fail
      go_roundw
      case rel => exact ⟨out ++ [_], by simp; exact HLT.out, by simp; omega, Lib.hid (tasks_take_len d out hv.out HLT.out), by simpa [ints] using HO2.out, HW2.out⟩
      case measure => have := HLT.out; simp [intOf]; omega
    · have hl2 : out.length = d.tasks.length := by omega
      have hdec : decide (d.top + (out.length : Int) < d.bot) = false := decide_eq_false (by split at htl <;> omega)
      have he : out = d.tasks := by rw [hv.out, hl2, List.take_length]
      have HE := Lib.hid he
      obtain ⟨A, c, rfl⟩ := own_form hown
      have HOWN := Lib.hid hown
      have HW := Lib.hid hw
      clear hown hlt htl hv hw hl2 hol he
      go_wp2_with fail
      refine bodyPost_ret (v := .slice A out.length c) (by simp [results, Try.results21, go_sem]) rfl ?_
      have HE' := HE.out
      have HOWN' := HOWN.out
      subst HE'
      exact ⟨A, c, rfl, HOWN', HW.out⟩
end Go.Proofs.Ytdigjppdgiapfaa
