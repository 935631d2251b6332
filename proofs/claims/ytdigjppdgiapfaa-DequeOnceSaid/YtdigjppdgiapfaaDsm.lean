/- Contracts: the steps of an operation on a deque, more. -/
import Derived.Test.YtdigjppdgiapfaaDsl
import Derived.Deep.RegionHeld3
set_option linter.unusedSimpArgs false
set_option linter.unusedVariables false
namespace Go.Proofs.Ytdigjppdgiapfaa
open Go.RowKit
attribute [local go_sem] block_of_add
attribute [local go_sem ↓] Go.wp_at_zero Go.wp_at_succ
section
variable (go gd gc : Nat) (d : Dq) (own : Value) (o : Dop) (w : World) (hd : DqAt w gd gc d own) (ho : OpAt w go gd o)
include hd ho
set_option maxRecDepth 100000 in
set_option maxHeartbeats 800000 in
theorem popTask_got_any (hp : o.pc = 8) (hbt : ¬ o.b < o.t) (ht : o.t < o.b) (hb : 0 ≤ o.b) (hn : 0 < d.sl.length) (hl : d.sl.length ≤ 1000000) :
    Calls Try.prog 51 #[.pointer (some ⟨go, 0, none⟩)] w fun e w' => Stepped w w' go gd gc own (dstep d o) e := by
  have h0 := ho.get 0 (v := .pointer (some ⟨gd, 0, none⟩)) rfl
  have g1 := ho.get 1 (v := nextV o.pc) rfl
  have g2 := ho.get 2 (v := .int .i64 o.b) rfl
  have g3 := ho.get 3 (v := .int .i64 o.t) rfl
  have g4 := ho.get 4 (v := .int .i64 o.x) rfl
  have g5 := ho.get 5 (v := .bool o.sw) rfl
  have g6 := ho.get 6 (v := .int .u8 o.how) rfl
  have z1 := ho.frozen 1
  have z2 := ho.frozen 2
  have z3 := ho.frozen 3
  have z4 := ho.frozen 4
  have z5 := ho.frozen 5
  have z6 := ho.frozen 6
  have l0 := Blk.lt ho
  have l1 := hd.hdr.lt
  have l2 := hd.cel.lt
  have hne := hd.ne ho
  have HD := Lib.hid hd
  have HO := Lib.hid ho
  have HN := Lib.hid hne
  have HS : Hid (dstep d o = (d, { o with x := d.at_ o.b, pc := 0, how := 2 }, 1, 2 + (d.ix o.b : Int))) := Lib.hid (by simp only [dstep, hp]; rw [if_neg hbt, if_pos ht])
  have hdec : decide (o.b < o.t) = false := decide_eq_false hbt
  have HDEC : Hid (decide (o.t < o.b) = true) := Lib.hid (decide_eq_true ht)
  clear hd ho hne hp ht hbt
  go_enter Try.func51, Try.ntmps51
  go_wp2_with fail
  have HOB : Blk w go 67 (opCells gd o) := HO.out
  have n1 := HN.out.1
  have n2 := HN.out.2.1
  have n3 := HN.out.2.2
  have m1 := Ne.symm n1
  have m2 := Ne.symm n2
  have m3 := Ne.symm n3
  refine region_tail 8 (by kernel_rfl) (by kernel_rfl) ?_
  intro W00 hss
  have HOPs : Blk W00 go 67 (opCells gd o) := by
    refine hss.blk ?_
    apply Blk.conv
    · repeat (with_reducible first | exact HOB | (apply Blk.at_; simp; done) | apply Blk.alloc | apply Blk.set_ | (apply Blk.far; any_goals (first | (dsimp only; assumption) | (dsimp only; omega))))
    · first | rfl | simp [dqCells, opCells, nextV]
  have hdqs : DqAt W00 gd gc d own := by
    refine ⟨?_, ?_⟩
    · refine hss.blk ?_
      apply Blk.conv
      · repeat (with_reducible first | exact HD.out.hdr | (apply Blk.at_; simp; done) | apply Blk.alloc | apply Blk.set_ | (apply Blk.far; any_goals (first | (dsimp only; assumption) | (dsimp only; omega))))
      · first | rfl | simp [dqCells, opCells, nextV]
    · refine hss.blk ?_
      apply Blk.conv
      · repeat (with_reducible first | exact HD.out.cel | (apply Blk.at_; simp; done) | apply Blk.alloc | apply Blk.set_ | (apply Blk.far; any_goals (first | (dsimp only; assumption) | (dsimp only; omega))))
      · first | rfl | simp [dqCells, opCells, nextV]
  have hkks : Kp (fun k => k = gc ∨ k = go) w W00 := by
    refine hss.kp ?_
    repeat (first | with_reducible exact Kp.refl _ _ | with_reducible refine Kp.alloc ?_ _ | (with_reducible refine Kp.setCell ?_ ?_ _; rotate_left; first | exact .inl (.inl rfl) | exact .inl (.inr rfl) | (right; dsimp only; simp; try omega)))
  have bxs0 : Blk W00 w.heap.size 44 #[.int .u8 0, .int .i64 0] := by
    refine hss.blk ?_
    apply Blk.conv
    · repeat (with_reducible first | exact HOB | (apply Blk.at_; simp; done) | apply Blk.alloc | apply Blk.set_ | (apply Blk.far; any_goals (first | (dsimp only; assumption) | (dsimp only; omega))))
    · first | rfl | simp [dqCells, opCells, nextV]
  have bcs0 := bxs0.c2
  have bfs0 := bxs0.frozen 0
  have bgs0 := bxs0.frozen 1
  have HQs := Lib.hid hdqs
  have HKs := Lib.hid hkks
  have hzs : w.heap.size < W00.heap.size := bxs0.lt
  have qb0 := HOPs.get 0 (v := .pointer (some ⟨gd, 0, none⟩)) rfl
  have qb1 := HOPs.get 1 (v := nextV (o : Dop).pc) rfl
  have qb2 := HOPs.get 2 (v := .int .i64 (o : Dop).b) rfl
  have qb3 := HOPs.get 3 (v := .int .i64 (o : Dop).t) rfl
  have qb4 := HOPs.get 4 (v := .int .i64 (o : Dop).x) rfl
  have qb5 := HOPs.get 5 (v := .bool (o : Dop).sw) rfl
  have qb6 := HOPs.get 6 (v := .int .u8 (o : Dop).how) rfl
  have yb1 := HOPs.frozen 1
  have yb2 := HOPs.frozen 2
  have yb3 := HOPs.frozen 3
  have yb4 := HOPs.frozen 4
  have yb5 := HOPs.frozen 5
  have yb6 := HOPs.frozen 6
  have kb0 := HOPs.lt
  try dsimp only at qb1 qb2 qb3 qb4 qb5 qb6
  clear hss hdqs hkks h0 g1 g2 g3 g4 g5 g6 z1 z2 z3 z4 z5 z6
  simp only [List.take_succ_cons, List.take_zero, List.drop_succ_cons, List.drop_zero]
  repeat still_step
  refine wpStill_nil ?_
  go_wp2_with fail
  clear hdec qb0 qb1 qb2 qb3 qb4 qb5 qb6 yb1 yb2 yb3 yb4 yb5 yb6 bcs0 bfs0 bgs0 kb0
  obtain ⟨W0, hW0⟩ : ∃ W0, W0 = W00 := ⟨_, rfl⟩
  rw [← hW0]
  have HOP0 : Blk W0 go 67 (opCells gd o) := by rw [hW0]; exact HOPs
  have HQ0 : Hid (DqAt W0 gd gc d own) := by rw [hW0]; exact HQs
  have HK0 : Hid (Kp (fun k => k = gc ∨ k = go) w W0) := by rw [hW0]; exact HKs
  have bx00 : Blk W0 w.heap.size 44 #[.int .u8 0, .int .i64 0] := by rw [hW0]; exact bxs0
  have q0 := HOP0.get 0 (v := .pointer (some ⟨gd, 0, none⟩)) rfl
  have q1 := HOP0.get 2 (v := .int .i64 o.b) rfl
  have k0 := HOP0.lt
  have HR := Lib.hid (slot_rel gd gc d own W0.drew (HQ0.out.kp ((Kp.refl (fun _ => False) W0).drew) id id) o.b hb hn hl)
  have HC := Lib.hid (load_slot_rel go gd gc d own o W0.drew (HQ0.out.kp ((Kp.refl (fun _ => False) W0).drew) id id) (Blk.drew HOP0) hn o.b)
  clear hW0 HOPs bxs0
  refine wp_region_held_drew (S := fun w' => w'.cell? ⟨go, 0, none⟩ = some (.pointer (some ⟨gd, 0, none⟩)) ∧ w'.cell? ⟨go, 2, none⟩ = some (.int .i64 o.b)) (by kernel_rfl) ⟨q0, q1⟩ (fun hS => ?_)
  refine wpAnyH_take (i := 0) (v := ?_) rfl (by kernel_rfl) (by kernel_rfl) (by kernel_rfl) (fun _ _ _ h => h) (Or.inl ⟨by rfl, ?_⟩) hS ?_
  rotate_left
  · intro W' hS'
    obtain ⟨s1, s2⟩ := hS'
    go_simp
    rfl
  try simp only [Act.put, List.setIfInBounds_toArray, List.set_cons_zero, List.set_cons_succ, List.getElem_toArray, List.getElem_cons_zero, List.getElem_cons_succ]
  refine wpAnyH_take (i := 1) (v := ?_) rfl (by kernel_rfl) (by kernel_rfl) (by kernel_rfl) (fun _ _ _ h => h) (Or.inl ⟨by rfl, ?_⟩) hS ?_
  rotate_left
  · intro W' hS'
    obtain ⟨s1, s2⟩ := hS'
    go_simp
    rfl
  try simp only [Act.put, List.setIfInBounds_toArray, List.set_cons_zero, List.set_cons_succ, List.getElem_toArray, List.getElem_cons_zero, List.getElem_cons_succ]
  refine wpAnyH_take (i := 2) (v := ?_) rfl (by kernel_rfl) (by kernel_rfl) (by kernel_rfl) (fun _ _ _ h => h) (Or.inl ⟨by rfl, ?_⟩) hS ?_
  rotate_left
  · intro W' hS'
    obtain ⟨s1, s2⟩ := hS'
    go_simp
    rfl
  try simp only [Act.put, List.setIfInBounds_toArray, List.set_cons_zero, List.set_cons_succ, List.getElem_toArray, List.getElem_cons_zero, List.getElem_cons_succ]
  refine wpAnyH_take (i := 3) (v := ?_) rfl (by kernel_rfl) (by kernel_rfl) (by kernel_rfl) (fun _ _ _ h => h) (Or.inl ⟨by rfl, ?_⟩) hS ?_
  rotate_left
  · intro W' hS'
    obtain ⟨s1, s2⟩ := hS'
    go_simp
    rfl
  try simp only [Act.put, List.setIfInBounds_toArray, List.set_cons_zero, List.set_cons_succ, List.getElem_toArray, List.getElem_cons_zero, List.getElem_cons_succ]
  refine wpAnyH_take (i := 4) (v := ?_) rfl (by kernel_rfl) (by kernel_rfl) (by kernel_rfl) (fun _ _ _ h => h) (Or.inl ⟨by rfl, ?_⟩) hS ?_
  rotate_left
  · intro W' hS'
    obtain ⟨s1, s2⟩ := hS'
    go_simp
    rfl
  try simp only [Act.put, List.setIfInBounds_toArray, List.set_cons_zero, List.set_cons_succ, List.getElem_toArray, List.getElem_cons_zero, List.getElem_cons_succ]
  refine wpAnyH_take (i := 5) (v := ?_) rfl (by kernel_rfl) (by kernel_rfl) (by kernel_rfl) (fun _ _ _ h => h) (Or.inl ⟨by rfl, ?_⟩) hS ?_
  rotate_left
  · intro W' hS'
    obtain ⟨s1, s2⟩ := hS'
    go_simp
    rfl
  try simp only [Act.put, List.setIfInBounds_toArray, List.set_cons_zero, List.set_cons_succ, List.getElem_toArray, List.getElem_cons_zero, List.getElem_cons_succ]
  refine wpAnyH_take (i := 6) (v := ?_) rfl (by kernel_rfl) (by kernel_rfl) (by kernel_rfl) (fun _ _ _ h => h) (Or.inl ⟨by rfl, ?_⟩) hS ?_
  rotate_left
  · intro W' hS'
    obtain ⟨s1, s2⟩ := hS'
    go_simp
    rfl
  try simp only [Act.put, List.setIfInBounds_toArray, List.set_cons_zero, List.set_cons_succ, List.getElem_toArray, List.getElem_cons_zero, List.getElem_cons_succ]
  refine wpAnyH_take (i := 7) (v := ?_) rfl (by kernel_rfl) (by kernel_rfl) (by kernel_rfl) (fun _ _ _ h => h) (Or.inl ⟨by rfl, ?_⟩) hS ?_
  rotate_left
  · intro W' hS'
    obtain ⟨s1, s2⟩ := hS'
    go_simp
    rfl
  try simp only [Act.put, List.setIfInBounds_toArray, List.set_cons_zero, List.set_cons_succ, List.getElem_toArray, List.getElem_cons_zero, List.getElem_cons_succ]
  refine wpAnyH_take (i := 8) (v := ?_) rfl (by kernel_rfl) (by kernel_rfl) (by kernel_rfl) (fun _ _ _ h => h) (Or.inl ⟨by rfl, ?_⟩) hS ?_
  rotate_left
  · intro W' hS'
    obtain ⟨s1, s2⟩ := hS'
    go_simp
    rfl
  try simp only [Act.put, List.setIfInBounds_toArray, List.set_cons_zero, List.set_cons_succ, List.getElem_toArray, List.getElem_cons_zero, List.getElem_cons_succ]
  refine wpAnyH_take (i := 9) (v := ?_) rfl (by kernel_rfl) (by kernel_rfl) (by kernel_rfl) (fun _ _ _ h => h) (Or.inl ⟨by rfl, ?_⟩) hS ?_
  rotate_left
  · intro W' hS'
    obtain ⟨s1, s2⟩ := hS'
    go_simp
    rfl
  try simp only [Act.put, List.setIfInBounds_toArray, List.set_cons_zero, List.set_cons_succ, List.getElem_toArray, List.getElem_cons_zero, List.getElem_cons_succ]
  refine wpAnyH_ready (rs := [10]) (by kernel_rfl) (by simp) (AllReadyH.cons rfl (fun K hK => ?_) AllReadyH.nil)
  go_simp
  refine HR.out.mono ?_
  rintro e w' ⟨rfl, rfl⟩
  refine hK.out _ _ hS (fun hS => ?_)
  try simp only [Act.put, List.setIfInBounds_toArray, List.set_cons_zero, List.set_cons_succ, List.getElem_toArray, List.getElem_cons_zero, List.getElem_cons_succ]
  clear hK
  refine wpAnyH_ready (rs := [11]) (by kernel_rfl) (by simp) (AllReadyH.cons rfl (fun K hK => ?_) AllReadyH.nil)
  go_simp
  refine HC.out.mono ?_
  rintro e W1 ⟨rfl, hdq1, hop1, hk1⟩
  have HOP1 : Blk W1 go 67 (opCells gd o) := hop1
  have bx1 : Blk W1 w.heap.size 44 #[.int .u8 0, .int .i64 0] := (Blk.drew bx00).kp hk1 id
  have u0 := HOP1.get 0 (v := .pointer (some ⟨gd, 0, none⟩)) rfl
  have u1 := HOP1.get 2 (v := .int .i64 o.b) rfl
  have u4 := HOP1.get 4 (v := .int .i64 o.x) rfl
  have f4 := HOP1.frozen 4
  have u9 := HOP1.get 1 (v := nextV o.pc) rfl
  have f1 := HOP1.frozen 1
  have uc := bx1.c2
  have fc0 := bx1.frozen 0
  have fc1 := bx1.frozen 1
  have hz1 : w.heap.size < W1.heap.size := bx1.lt
  have k1 := HOP1.lt
  have HQ1 := Lib.hid hdq1
  have HK1 : Hid (Kp (fun k => k = gc ∨ k = go) w W1) := Lib.hid (HK0.out.drew.trans (hk1.mono fun k h => h.elim))
  clear hdq1 hk1 hop1 q0 q1 hS
  refine hK.out _ _ ⟨u0, u1⟩ (fun hS => ?_)
  try simp only [Act.put, List.setIfInBounds_toArray, List.set_cons_zero, List.set_cons_succ, List.getElem_toArray, List.getElem_cons_zero, List.getElem_cons_succ]
  refine wpAnyH_take (i := 12) (v := ?_) rfl (by kernel_rfl) (by kernel_rfl) (by kernel_rfl) (fun _ _ _ h => h) (Or.inl ⟨by rfl, ?_⟩) hS ?_
  rotate_left
  · intro W' hS'
    obtain ⟨s1, s2⟩ := hS'
    go_simp
    rfl
  try simp only [Act.put, List.setIfInBounds_toArray, List.set_cons_zero, List.set_cons_succ, List.getElem_toArray, List.getElem_cons_zero, List.getElem_cons_succ]
  refine wpAnyH_take (i := 13) (v := ?_) rfl (by kernel_rfl) (by kernel_rfl) (by kernel_rfl) (fun _ _ _ h => h) (Or.inl ⟨by rfl, ?_⟩) hS ?_
  rotate_left
  · intro W' hS'
    obtain ⟨s1, s2⟩ := hS'
    go_simp
    rfl
  try simp only [Act.put, List.setIfInBounds_toArray, List.set_cons_zero, List.set_cons_succ, List.getElem_toArray, List.getElem_cons_zero, List.getElem_cons_succ]
  refine wpAnyH_take (i := 14) (v := ?_) rfl (by kernel_rfl) (by kernel_rfl) (by kernel_rfl) (fun _ _ _ h => h) (Or.inl ⟨by rfl, ?_⟩) hS ?_
  rotate_left
  · intro W' hS'
    obtain ⟨s1, s2⟩ := hS'
    go_simp
    rfl
  try simp only [Act.put, List.setIfInBounds_toArray, List.set_cons_zero, List.set_cons_succ, List.getElem_toArray, List.getElem_cons_zero, List.getElem_cons_succ]
  refine wpAnyH_take (i := 15) (v := ?_) rfl (by kernel_rfl) (by kernel_rfl) (by kernel_rfl) (fun _ _ _ h => h) (Or.inl ⟨by rfl, ?_⟩) hS ?_
  rotate_left
  · intro W' hS'
    obtain ⟨s1, s2⟩ := hS'
    go_simp
    rfl
  try simp only [Act.put, List.setIfInBounds_toArray, List.set_cons_zero, List.set_cons_succ, List.getElem_toArray, List.getElem_cons_zero, List.getElem_cons_succ]
  refine wpAnyH_take (i := 16) (v := ?_) rfl (by kernel_rfl) (by kernel_rfl) (by kernel_rfl) (fun _ _ _ h => h) (Or.inl ⟨by rfl, ?_⟩) hS ?_
  rotate_left
  · intro W' hS'
    obtain ⟨s1, s2⟩ := hS'
    go_simp
    rfl
  try simp only [Act.put, List.setIfInBounds_toArray, List.set_cons_zero, List.set_cons_succ, List.getElem_toArray, List.getElem_cons_zero, List.getElem_cons_succ]
  refine wpAnyH_ready (rs := [17]) (by kernel_rfl) (by simp) (AllReadyH.cons rfl (fun K hK => ?_) AllReadyH.nil)
  go_simp
  refine hK.out _ _ ⟨(HOP1.set_ 4 _).get 0 rfl, (HOP1.set_ 4 _).get 2 rfl⟩ (fun hS => ?_)
  try simp only [Act.put, List.setIfInBounds_toArray, List.set_cons_zero, List.set_cons_succ, List.getElem_toArray, List.getElem_cons_zero, List.getElem_cons_succ]
  clear hK
  refine wpAnyH_ready (rs := [18]) (by kernel_rfl) (by simp) (AllReadyH.cons rfl (fun K hK => ?_) AllReadyH.nil)
  go_simp
  refine hK.out _ _ ⟨(((HOP1.set_ 4 _).far (p := ⟨w.heap.size, 0, none⟩) (by dsimp only; omega) _).far (p := ⟨w.heap.size, 1, none⟩) (by dsimp only; omega) _).get 0 rfl, (((HOP1.set_ 4 _).far (p := ⟨w.heap.size, 0, none⟩) (by dsimp only; omega) _).far (p := ⟨w.heap.size, 1, none⟩) (by dsimp only; omega) _).get 2 rfl⟩ (fun hS => ?_)
  try simp only [Act.put, List.setIfInBounds_toArray, List.set_cons_zero, List.set_cons_succ, List.getElem_toArray, List.getElem_cons_zero, List.getElem_cons_succ]
  clear hK
  refine wpAnyH_done (by kernel_rfl) ?_ _
  clear hS
  go_wp2_with fail
  clear u0 u1 u4 f4 uc fc0 fc1 u9 f1
  refine region_tail 8 (by kernel_rfl) (by kernel_rfl) ?_
  intro W2 hsp
  have HOPp : Blk W2 go 67 (opCells gd { o with x := d.at_ o.b, pc := 9 }) := by
    refine hsp.blk ?_
    apply Blk.conv
    · repeat (with_reducible first | exact HOP1 | (apply Blk.at_; simp; done) | apply Blk.alloc | apply Blk.set_ | (apply Blk.far; any_goals (first | (dsimp only; assumption) | (dsimp only; omega))))
    · first | rfl | simp [dqCells, opCells, nextV]
  have hdqp : DqAt W2 gd gc d own := by
    refine ⟨?_, ?_⟩
    · refine hsp.blk ?_
      apply Blk.conv
      · repeat (with_reducible first | exact HQ1.out.hdr | (apply Blk.at_; simp; done) | apply Blk.alloc | apply Blk.set_ | (apply Blk.far; any_goals (first | (dsimp only; assumption) | (dsimp only; omega))))
      · first | rfl | simp [dqCells, opCells, nextV]
    · refine hsp.blk ?_
      apply Blk.conv
      · repeat (with_reducible first | exact HQ1.out.cel | (apply Blk.at_; simp; done) | apply Blk.alloc | apply Blk.set_ | (apply Blk.far; any_goals (first | (dsimp only; assumption) | (dsimp only; omega))))
      · first | rfl | simp [dqCells, opCells, nextV]
  have hkkp : Kp (fun k => k = gc ∨ k = go) w W2 := by
    refine hsp.kp ?_
    repeat (first | with_reducible exact HK1.out | with_reducible refine Kp.alloc ?_ _ | (with_reducible refine Kp.setCell ?_ ?_ _; rotate_left; first | exact .inl (.inl rfl) | exact .inl (.inr rfl) | (right; dsimp only; simp; try omega)))
  have bxp0 : Blk W2 w.heap.size 44 #[.int .u8 1, .int .i64 (2 + (d.ix o.b : Int))] := by
    refine hsp.blk ?_
    apply Blk.conv
    · repeat (with_reducible first | exact bx1 | (apply Blk.at_; simp; done) | apply Blk.alloc | apply Blk.set_ | (apply Blk.far; any_goals (first | (dsimp only; assumption) | (dsimp only; omega))))
    · first | rfl | simp [dqCells, opCells, nextV]
  have bcp0 := bxp0.c2
  have bfp0 := bxp0.frozen 0
  have bgp0 := bxp0.frozen 1
  have HQp := Lib.hid hdqp
  have HKp := Lib.hid hkkp
  have hzp : w.heap.size < W2.heap.size := bxp0.lt
  have qd0 := HOPp.get 0 (v := .pointer (some ⟨gd, 0, none⟩)) rfl
  have qd1 := HOPp.get 1 (v := nextV ({ o with x := d.at_ o.b, pc := 9 } : Dop).pc) rfl
  have qd2 := HOPp.get 2 (v := .int .i64 ({ o with x := d.at_ o.b, pc := 9 } : Dop).b) rfl
  have qd3 := HOPp.get 3 (v := .int .i64 ({ o with x := d.at_ o.b, pc := 9 } : Dop).t) rfl
  have qd4 := HOPp.get 4 (v := .int .i64 ({ o with x := d.at_ o.b, pc := 9 } : Dop).x) rfl
  have qd5 := HOPp.get 5 (v := .bool ({ o with x := d.at_ o.b, pc := 9 } : Dop).sw) rfl
  have qd6 := HOPp.get 6 (v := .int .u8 ({ o with x := d.at_ o.b, pc := 9 } : Dop).how) rfl
  have yd1 := HOPp.frozen 1
  have yd2 := HOPp.frozen 2
  have yd3 := HOPp.frozen 3
  have yd4 := HOPp.frozen 4
  have yd5 := HOPp.frozen 5
  have yd6 := HOPp.frozen 6
  have kd0 := HOPp.lt
  try dsimp only at qd1 qd2 qd3 qd4 qd5 qd6
  have hdec := HDEC.out
  clear hsp hdqp hkkp
  simp only [List.take_succ_cons, List.take_zero, List.drop_succ_cons, List.drop_zero]
  repeat still_step
  refine wpStill_nil ?_
  go_wp2_with fail
  refine (end_rel go gd { o with x := d.at_ o.b, pc := 9 } 2 _ ?hend).mono ?_
  case hend =>
    apply Blk.conv
    · repeat (with_reducible first | exact HOPp | (apply Blk.at_; simp; done) | apply Blk.alloc | apply Blk.set_ | (apply Blk.far; any_goals (first | (dsimp only; assumption) | (dsimp only; omega))))
    · first | rfl | simp [opCells, nextV]
  rintro e W3 ⟨rfl, hopc, hkc⟩
  have HOPc : Blk W3 go 67 (opCells gd { { o with x := d.at_ o.b, pc := 9 } with pc := 0, how := 2 }) := hopc
  have hdqc : DqAt W3 gd gc d own := by
    refine ⟨?_, ?_⟩
    · refine Blk.kp ?_ hkc (by first | assumption | omega)
      apply Blk.conv
      · repeat (with_reducible first | exact HQp.out.hdr | (apply Blk.at_; simp; done) | apply Blk.alloc | apply Blk.set_ | (apply Blk.far; any_goals (first | (dsimp only; assumption) | (dsimp only; omega))))
      · first | rfl | simp [dqCells, opCells, nextV]
    · refine Blk.kp ?_ hkc (by first | assumption | omega)
      apply Blk.conv
      · repeat (with_reducible first | exact HQp.out.cel | (apply Blk.at_; simp; done) | apply Blk.alloc | apply Blk.set_ | (apply Blk.far; any_goals (first | (dsimp only; assumption) | (dsimp only; omega))))
      · first | rfl | simp [dqCells, opCells, nextV]
  have hkkc : Kp (fun k => k = gc ∨ k = go) w W3 := by
    refine Kp.trans ?_ (hkc.mono (bad' := fun k => k = gc ∨ k = go) fun k h => by simp [h])
    repeat (first | with_reducible exact HKp.out | with_reducible refine Kp.alloc ?_ _ | (with_reducible refine Kp.setCell ?_ ?_ _; rotate_left; first | exact .inl (.inl rfl) | exact .inl (.inr rfl) | (right; dsimp only; simp; try omega)))
  have bxc0 : Blk W3 w.heap.size 44 #[.int .u8 1, .int .i64 (2 + (d.ix o.b : Int))] := by
    refine Blk.kp ?_ hkc (by first | assumption | omega)
    apply Blk.conv
    · repeat (with_reducible first | exact bxp0 | (apply Blk.at_; simp; done) | apply Blk.alloc | apply Blk.set_ | (apply Blk.far; any_goals (first | (dsimp only; assumption) | (dsimp only; omega))))
    · first | rfl | simp [dqCells, opCells, nextV]
  have bcc0 := bxc0.c2
  have bfc0 := bxc0.frozen 0
  have bgc0 := bxc0.frozen 1
  have HQc := Lib.hid hdqc
  have HKc := Lib.hid hkkc
  have hzc : w.heap.size < W3.heap.size := bxc0.lt
  clear hkc hopc hdqc hkkc
  go_wp2_with fail
  rw [HS.out]
  refine bodyPost_ret (v := .agg #[.int .u8 1, .int .i64 (2 + (d.ix o.b : Int))]) (res_acc Try.results51 rfl ?hbx) rfl ⟨rfl, ⟨?_, ?_⟩, ?_, ?_⟩
  case hbx =>
    apply Blk.conv
    · repeat (with_reducible first | exact bxc0 | (apply Blk.at_; simp; done) | apply Blk.alloc | apply Blk.set_ | (apply Blk.far; any_goals (first | (dsimp only; assumption) | (dsimp only; omega))))
    · first | rfl | simp
  · apply Blk.conv
    · repeat (with_reducible first | exact HQc.out.hdr | (apply Blk.at_; simp; done) | apply Blk.alloc | apply Blk.set_ | (apply Blk.far; any_goals (first | (dsimp only; assumption) | (dsimp only; omega))))
    · first | rfl | simp [dqCells, Dq.put, opCells, nextV]
  · apply Blk.conv
    · repeat (with_reducible first | exact HQc.out.cel | (apply Blk.at_; simp; done) | apply Blk.alloc | apply Blk.set_ | (apply Blk.far; any_goals (first | (dsimp only; assumption) | (dsimp only; omega))))
    · first | rfl | simp [dqCells, Dq.put, opCells, nextV]
  · apply Blk.conv
    · repeat (with_reducible first | exact HOPc | (apply Blk.at_; simp; done) | apply Blk.alloc | apply Blk.set_ | (apply Blk.far; any_goals (first | (dsimp only; assumption) | (dsimp only; omega))))
    · first | rfl | simp [dqCells, Dq.put, opCells, nextV]
  · repeat (first | with_reducible exact HKc.out | with_reducible refine Kp.alloc ?_ _ | (with_reducible refine Kp.setCell ?_ ?_ _; rotate_left; first | exact .inl (.inl rfl) | exact .inl (.inr rfl) | (right; dsimp only; simp; try omega)))
set_option maxRecDepth 100000 in
set_option maxHeartbeats 800000 in
theorem popTask_last_any (hp : o.pc = 8) (hbt : ¬ o.b < o.t) (ht : ¬ o.t < o.b) (hb : 0 ≤ o.b) (hn : 0 < d.sl.length) (hl : d.sl.length ≤ 1000000) :
    Calls Try.prog 51 #[.pointer (some ⟨go, 0, none⟩)] w fun e w' => Stepped w w' go gd gc own (dstep d o) e := by
  have h0 := ho.get 0 (v := .pointer (some ⟨gd, 0, none⟩)) rfl
  have g1 := ho.get 1 (v := nextV o.pc) rfl
  have g2 := ho.get 2 (v := .int .i64 o.b) rfl
  have g3 := ho.get 3 (v := .int .i64 o.t) rfl
  have g4 := ho.get 4 (v := .int .i64 o.x) rfl
  have g5 := ho.get 5 (v := .bool o.sw) rfl
  have g6 := ho.get 6 (v := .int .u8 o.how) rfl
  have z1 := ho.frozen 1
  have z2 := ho.frozen 2
  have z3 := ho.frozen 3
  have z4 := ho.frozen 4
  have z5 := ho.frozen 5
  have z6 := ho.frozen 6
  have l0 := Blk.lt ho
  have l1 := hd.hdr.lt
  have l2 := hd.cel.lt
  have hne := hd.ne ho
  have HD := Lib.hid hd
  have HO := Lib.hid ho
  have HN := Lib.hid hne
  have HS : Hid (dstep d o = (d, { o with x := d.at_ o.b, pc := 9 }, 1, 2 + (d.ix o.b : Int))) := Lib.hid (by simp only [dstep, hp]; rw [if_neg hbt, if_neg ht])
  have hdec : decide (o.b < o.t) = false := decide_eq_false hbt
  have HDEC : Hid (decide (o.t < o.b) = false) := Lib.hid (decide_eq_false ht)
  clear hd ho hne hp ht hbt
  go_enter Try.func51, Try.ntmps51
  go_wp2_with fail
  have HOB : Blk w go 67 (opCells gd o) := HO.out
  have n1 := HN.out.1
  have n2 := HN.out.2.1
  have n3 := HN.out.2.2
  have m1 := Ne.symm n1
  have m2 := Ne.symm n2
  have m3 := Ne.symm n3
  refine region_tail 8 (by kernel_rfl) (by kernel_rfl) ?_
  intro W00 hss
  have HOPs : Blk W00 go 67 (opCells gd o) := by
    refine hss.blk ?_
    apply Blk.conv
    · repeat (with_reducible first | exact HOB | (apply Blk.at_; simp; done) | apply Blk.alloc | apply Blk.set_ | (apply Blk.far; any_goals (first | (dsimp only; assumption) | (dsimp only; omega))))
    · first | rfl | simp [dqCells, opCells, nextV]
  have hdqs : DqAt W00 gd gc d own := by
    refine ⟨?_, ?_⟩
    · refine hss.blk ?_
      apply Blk.conv
      · repeat (with_reducible first | exact HD.out.hdr | (apply Blk.at_; simp; done) | apply Blk.alloc | apply Blk.set_ | (apply Blk.far; any_goals (first | (dsimp only; assumption) | (dsimp only; omega))))
      · first | rfl | simp [dqCells, opCells, nextV]
    · refine hss.blk ?_
      apply Blk.conv
      · repeat (with_reducible first | exact HD.out.cel | (apply Blk.at_; simp; done) | apply Blk.alloc | apply Blk.set_ | (apply Blk.far; any_goals (first | (dsimp only; assumption) | (dsimp only; omega))))
      · first | rfl | simp [dqCells, opCells, nextV]
  have hkks : Kp (fun k => k = gc ∨ k = go) w W00 := by
    refine hss.kp ?_
    repeat (first | with_reducible exact Kp.refl _ _ | with_reducible refine Kp.alloc ?_ _ | (with_reducible refine Kp.setCell ?_ ?_ _; rotate_left; first | exact .inl (.inl rfl) | exact .inl (.inr rfl) | (right; dsimp only; simp; try omega)))
  have bxs0 : Blk W00 w.heap.size 44 #[.int .u8 0, .int .i64 0] := by
    refine hss.blk ?_
    apply Blk.conv
    · repeat (with_reducible first | exact HOB | (apply Blk.at_; simp; done) | apply Blk.alloc | apply Blk.set_ | (apply Blk.far; any_goals (first | (dsimp only; assumption) | (dsimp only; omega))))
    · first | rfl | simp [dqCells, opCells, nextV]
  have bcs0 := bxs0.c2
  have bfs0 := bxs0.frozen 0
  have bgs0 := bxs0.frozen 1
  have HQs := Lib.hid hdqs
  have HKs := Lib.hid hkks
  have hzs : w.heap.size < W00.heap.size := bxs0.lt
  have qb0 := HOPs.get 0 (v := .pointer (some ⟨gd, 0, none⟩)) rfl
  have qb1 := HOPs.get 1 (v := nextV (o : Dop).pc) rfl
  have qb2 := HOPs.get 2 (v := .int .i64 (o : Dop).b) rfl
  have qb3 := HOPs.get 3 (v := .int .i64 (o : Dop).t) rfl
  have qb4 := HOPs.get 4 (v := .int .i64 (o : Dop).x) rfl
  have qb5 := HOPs.get 5 (v := .bool (o : Dop).sw) rfl
  have qb6 := HOPs.get 6 (v := .int .u8 (o : Dop).how) rfl
  have yb1 := HOPs.frozen 1
  have yb2 := HOPs.frozen 2
  have yb3 := HOPs.frozen 3
  have yb4 := HOPs.frozen 4
  have yb5 := HOPs.frozen 5
  have yb6 := HOPs.frozen 6
  have kb0 := HOPs.lt
  try dsimp only at qb1 qb2 qb3 qb4 qb5 qb6
  clear hss hdqs hkks h0 g1 g2 g3 g4 g5 g6 z1 z2 z3 z4 z5 z6
  simp only [List.take_succ_cons, List.take_zero, List.drop_succ_cons, List.drop_zero]
  repeat still_step
  refine wpStill_nil ?_
  go_wp2_with fail
  clear hdec qb0 qb1 qb2 qb3 qb4 qb5 qb6 yb1 yb2 yb3 yb4 yb5 yb6 bcs0 bfs0 bgs0 kb0
  obtain ⟨W0, hW0⟩ : ∃ W0, W0 = W00 := ⟨_, rfl⟩
  rw [← hW0]
  have HOP0 : Blk W0 go 67 (opCells gd o) := by rw [hW0]; exact HOPs
  have HQ0 : Hid (DqAt W0 gd gc d own) := by rw [hW0]; exact HQs
  have HK0 : Hid (Kp (fun k => k = gc ∨ k = go) w W0) := by rw [hW0]; exact HKs
  have bx00 : Blk W0 w.heap.size 44 #[.int .u8 0, .int .i64 0] := by rw [hW0]; exact bxs0
  have q0 := HOP0.get 0 (v := .pointer (some ⟨gd, 0, none⟩)) rfl
  have q1 := HOP0.get 2 (v := .int .i64 o.b) rfl
  have k0 := HOP0.lt
  have HR := Lib.hid (slot_rel gd gc d own W0.drew (HQ0.out.kp ((Kp.refl (fun _ => False) W0).drew) id id) o.b hb hn hl)
  have HC := Lib.hid (load_slot_rel go gd gc d own o W0.drew (HQ0.out.kp ((Kp.refl (fun _ => False) W0).drew) id id) (Blk.drew HOP0) hn o.b)
  clear hW0 HOPs bxs0
  refine wp_region_held_drew (S := fun w' => w'.cell? ⟨go, 0, none⟩ = some (.pointer (some ⟨gd, 0, none⟩)) ∧ w'.cell? ⟨go, 2, none⟩ = some (.int .i64 o.b)) (by kernel_rfl) ⟨q0, q1⟩ (fun hS => ?_)
  refine wpAnyH_take (i := 0) (v := ?_) rfl (by kernel_rfl) (by kernel_rfl) (by kernel_rfl) (fun _ _ _ h => h) (Or.inl ⟨by rfl, ?_⟩) hS ?_
  rotate_left
  · intro W' hS'
    obtain ⟨s1, s2⟩ := hS'
    go_simp
    rfl
  try simp only [Act.put, List.setIfInBounds_toArray, List.set_cons_zero, List.set_cons_succ, List.getElem_toArray, List.getElem_cons_zero, List.getElem_cons_succ]
  refine wpAnyH_take (i := 1) (v := ?_) rfl (by kernel_rfl) (by kernel_rfl) (by kernel_rfl) (fun _ _ _ h => h) (Or.inl ⟨by rfl, ?_⟩) hS ?_
  rotate_left
  · intro W' hS'
    obtain ⟨s1, s2⟩ := hS'
    go_simp
    rfl
  try simp only [Act.put, List.setIfInBounds_toArray, List.set_cons_zero, List.set_cons_succ, List.getElem_toArray, List.getElem_cons_zero, List.getElem_cons_succ]
  refine wpAnyH_take (i := 2) (v := ?_) rfl (by kernel_rfl) (by kernel_rfl) (by kernel_rfl) (fun _ _ _ h => h) (Or.inl ⟨by rfl, ?_⟩) hS ?_
  rotate_left
  · intro W' hS'
    obtain ⟨s1, s2⟩ := hS'
    go_simp
    rfl
  try simp only [Act.put, List.setIfInBounds_toArray, List.set_cons_zero, List.set_cons_succ, List.getElem_toArray, List.getElem_cons_zero, List.getElem_cons_succ]
  refine wpAnyH_take (i := 3) (v := ?_) rfl (by kernel_rfl) (by kernel_rfl) (by kernel_rfl) (fun _ _ _ h => h) (Or.inl ⟨by rfl, ?_⟩) hS ?_
  rotate_left
  · intro W' hS'
    obtain ⟨s1, s2⟩ := hS'
    go_simp
    rfl
  try simp only [Act.put, List.setIfInBounds_toArray, List.set_cons_zero, List.set_cons_succ, List.getElem_toArray, List.getElem_cons_zero, List.getElem_cons_succ]
  refine wpAnyH_take (i := 4) (v := ?_) rfl (by kernel_rfl) (by kernel_rfl) (by kernel_rfl) (fun _ _ _ h => h) (Or.inl ⟨by rfl, ?_⟩) hS ?_
  rotate_left
  · intro W' hS'
    obtain ⟨s1, s2⟩ := hS'
    go_simp
    rfl
  try simp only [Act.put, List.setIfInBounds_toArray, List.set_cons_zero, List.set_cons_succ, List.getElem_toArray, List.getElem_cons_zero, List.getElem_cons_succ]
  refine wpAnyH_take (i := 5) (v := ?_) rfl (by kernel_rfl) (by kernel_rfl) (by kernel_rfl) (fun _ _ _ h => h) (Or.inl ⟨by rfl, ?_⟩) hS ?_
  rotate_left
  · intro W' hS'
    obtain ⟨s1, s2⟩ := hS'
    go_simp
    rfl
  try simp only [Act.put, List.setIfInBounds_toArray, List.set_cons_zero, List.set_cons_succ, List.getElem_toArray, List.getElem_cons_zero, List.getElem_cons_succ]
  refine wpAnyH_take (i := 6) (v := ?_) rfl (by kernel_rfl) (by kernel_rfl) (by kernel_rfl) (fun _ _ _ h => h) (Or.inl ⟨by rfl, ?_⟩) hS ?_
  rotate_left
  · intro W' hS'
    obtain ⟨s1, s2⟩ := hS'
    go_simp
    rfl
  try simp only [Act.put, List.setIfInBounds_toArray, List.set_cons_zero, List.set_cons_succ, List.getElem_toArray, List.getElem_cons_zero, List.getElem_cons_succ]
  refine wpAnyH_take (i := 7) (v := ?_) rfl (by kernel_rfl) (by kernel_rfl) (by kernel_rfl) (fun _ _ _ h => h) (Or.inl ⟨by rfl, ?_⟩) hS ?_
  rotate_left
  · intro W' hS'
    obtain ⟨s1, s2⟩ := hS'
    go_simp
    rfl
  try simp only [Act.put, List.setIfInBounds_toArray, List.set_cons_zero, List.set_cons_succ, List.getElem_toArray, List.getElem_cons_zero, List.getElem_cons_succ]
  refine wpAnyH_take (i := 8) (v := ?_) rfl (by kernel_rfl) (by kernel_rfl) (by kernel_rfl) (fun _ _ _ h => h) (Or.inl ⟨by rfl, ?_⟩) hS ?_
  rotate_left
  · intro W' hS'
    obtain ⟨s1, s2⟩ := hS'
    go_simp
    rfl
  try simp only [Act.put, List.setIfInBounds_toArray, List.set_cons_zero, List.set_cons_succ, List.getElem_toArray, List.getElem_cons_zero, List.getElem_cons_succ]
  refine wpAnyH_take (i := 9) (v := ?_) rfl (by kernel_rfl) (by kernel_rfl) (by kernel_rfl) (fun _ _ _ h => h) (Or.inl ⟨by rfl, ?_⟩) hS ?_
  rotate_left
  · intro W' hS'
    obtain ⟨s1, s2⟩ := hS'
    go_simp
    rfl
  try simp only [Act.put, List.setIfInBounds_toArray, List.set_cons_zero, List.set_cons_succ, List.getElem_toArray, List.getElem_cons_zero, List.getElem_cons_succ]
  refine wpAnyH_ready (rs := [10]) (by kernel_rfl) (by simp) (AllReadyH.cons rfl (fun K hK => ?_) AllReadyH.nil)
  go_simp
  refine HR.out.mono ?_
  rintro e w' ⟨rfl, rfl⟩
  refine hK.out _ _ hS (fun hS => ?_)
  try simp only [Act.put, List.setIfInBounds_toArray, List.set_cons_zero, List.set_cons_succ, List.getElem_toArray, List.getElem_cons_zero, List.getElem_cons_succ]
  clear hK
  refine wpAnyH_ready (rs := [11]) (by kernel_rfl) (by simp) (AllReadyH.cons rfl (fun K hK => ?_) AllReadyH.nil)
  go_simp
  refine HC.out.mono ?_
  rintro e W1 ⟨rfl, hdq1, hop1, hk1⟩
  have HOP1 : Blk W1 go 67 (opCells gd o) := hop1
  have bx1 : Blk W1 w.heap.size 44 #[.int .u8 0, .int .i64 0] := (Blk.drew bx00).kp hk1 id
  have u0 := HOP1.get 0 (v := .pointer (some ⟨gd, 0, none⟩)) rfl
  have u1 := HOP1.get 2 (v := .int .i64 o.b) rfl
  have u4 := HOP1.get 4 (v := .int .i64 o.x) rfl
  have f4 := HOP1.frozen 4
  have u9 := HOP1.get 1 (v := nextV o.pc) rfl
  have f1 := HOP1.frozen 1
  have uc := bx1.c2
  have fc0 := bx1.frozen 0
  have fc1 := bx1.frozen 1
  have hz1 : w.heap.size < W1.heap.size := bx1.lt
  have k1 := HOP1.lt
  have HQ1 := Lib.hid hdq1
  have HK1 : Hid (Kp (fun k => k = gc ∨ k = go) w W1) := Lib.hid (HK0.out.drew.trans (hk1.mono fun k h => h.elim))
  clear hdq1 hk1 hop1 q0 q1 hS
  refine hK.out _ _ ⟨u0, u1⟩ (fun hS => ?_)
  try simp only [Act.put, List.setIfInBounds_toArray, List.set_cons_zero, List.set_cons_succ, List.getElem_toArray, List.getElem_cons_zero, List.getElem_cons_succ]
  refine wpAnyH_take (i := 12) (v := ?_) rfl (by kernel_rfl) (by kernel_rfl) (by kernel_rfl) (fun _ _ _ h => h) (Or.inl ⟨by rfl, ?_⟩) hS ?_
  rotate_left
  · intro W' hS'
    obtain ⟨s1, s2⟩ := hS'
    go_simp
    rfl
  try simp only [Act.put, List.setIfInBounds_toArray, List.set_cons_zero, List.set_cons_succ, List.getElem_toArray, List.getElem_cons_zero, List.getElem_cons_succ]
  refine wpAnyH_take (i := 13) (v := ?_) rfl (by kernel_rfl) (by kernel_rfl) (by kernel_rfl) (fun _ _ _ h => h) (Or.inl ⟨by rfl, ?_⟩) hS ?_
  rotate_left
  · intro W' hS'
    obtain ⟨s1, s2⟩ := hS'
    go_simp
    rfl
  try simp only [Act.put, List.setIfInBounds_toArray, List.set_cons_zero, List.set_cons_succ, List.getElem_toArray, List.getElem_cons_zero, List.getElem_cons_succ]
  refine wpAnyH_take (i := 14) (v := ?_) rfl (by kernel_rfl) (by kernel_rfl) (by kernel_rfl) (fun _ _ _ h => h) (Or.inl ⟨by rfl, ?_⟩) hS ?_
  rotate_left
  · intro W' hS'
    obtain ⟨s1, s2⟩ := hS'
    go_simp
    rfl
  try simp only [Act.put, List.setIfInBounds_toArray, List.set_cons_zero, List.set_cons_succ, List.getElem_toArray, List.getElem_cons_zero, List.getElem_cons_succ]
  refine wpAnyH_take (i := 15) (v := ?_) rfl (by kernel_rfl) (by kernel_rfl) (by kernel_rfl) (fun _ _ _ h => h) (Or.inl ⟨by rfl, ?_⟩) hS ?_
  rotate_left
  · intro W' hS'
    obtain ⟨s1, s2⟩ := hS'
    go_simp
    rfl
  try simp only [Act.put, List.setIfInBounds_toArray, List.set_cons_zero, List.set_cons_succ, List.getElem_toArray, List.getElem_cons_zero, List.getElem_cons_succ]
  refine wpAnyH_take (i := 16) (v := ?_) rfl (by kernel_rfl) (by kernel_rfl) (by kernel_rfl) (fun _ _ _ h => h) (Or.inl ⟨by rfl, ?_⟩) hS ?_
  rotate_left
  · intro W' hS'
    obtain ⟨s1, s2⟩ := hS'
    go_simp
    rfl
  try simp only [Act.put, List.setIfInBounds_toArray, List.set_cons_zero, List.set_cons_succ, List.getElem_toArray, List.getElem_cons_zero, List.getElem_cons_succ]
  refine wpAnyH_ready (rs := [17]) (by kernel_rfl) (by simp) (AllReadyH.cons rfl (fun K hK => ?_) AllReadyH.nil)
  go_simp
  refine hK.out _ _ ⟨(HOP1.set_ 4 _).get 0 rfl, (HOP1.set_ 4 _).get 2 rfl⟩ (fun hS => ?_)
  try simp only [Act.put, List.setIfInBounds_toArray, List.set_cons_zero, List.set_cons_succ, List.getElem_toArray, List.getElem_cons_zero, List.getElem_cons_succ]
  clear hK
  refine wpAnyH_ready (rs := [18]) (by kernel_rfl) (by simp) (AllReadyH.cons rfl (fun K hK => ?_) AllReadyH.nil)
  go_simp
  refine hK.out _ _ ⟨(((HOP1.set_ 4 _).far (p := ⟨w.heap.size, 0, none⟩) (by dsimp only; omega) _).far (p := ⟨w.heap.size, 1, none⟩) (by dsimp only; omega) _).get 0 rfl, (((HOP1.set_ 4 _).far (p := ⟨w.heap.size, 0, none⟩) (by dsimp only; omega) _).far (p := ⟨w.heap.size, 1, none⟩) (by dsimp only; omega) _).get 2 rfl⟩ (fun hS => ?_)
  try simp only [Act.put, List.setIfInBounds_toArray, List.set_cons_zero, List.set_cons_succ, List.getElem_toArray, List.getElem_cons_zero, List.getElem_cons_succ]
  clear hK
  refine wpAnyH_done (by kernel_rfl) ?_ _
  clear hS
  go_wp2_with fail
  clear u0 u1 u4 f4 uc fc0 fc1 u9 f1
  refine region_tail 8 (by kernel_rfl) (by kernel_rfl) ?_
  intro W2 hsp
  have HOPp : Blk W2 go 67 (opCells gd { o with x := d.at_ o.b, pc := 9 }) := by
    refine hsp.blk ?_
    apply Blk.conv
    · repeat (with_reducible first | exact HOP1 | (apply Blk.at_; simp; done) | apply Blk.alloc | apply Blk.set_ | (apply Blk.far; any_goals (first | (dsimp only; assumption) | (dsimp only; omega))))
    · first | rfl | simp [dqCells, opCells, nextV]
  have hdqp : DqAt W2 gd gc d own := by
    refine ⟨?_, ?_⟩
    · refine hsp.blk ?_
      apply Blk.conv
      · repeat (with_reducible first | exact HQ1.out.hdr | (apply Blk.at_; simp; done) | apply Blk.alloc | apply Blk.set_ | (apply Blk.far; any_goals (first | (dsimp only; assumption) | (dsimp only; omega))))
      · first | rfl | simp [dqCells, opCells, nextV]
    · refine hsp.blk ?_
      apply Blk.conv
      · repeat (with_reducible first | exact HQ1.out.cel | (apply Blk.at_; simp; done) | apply Blk.alloc | apply Blk.set_ | (apply Blk.far; any_goals (first | (dsimp only; assumption) | (dsimp only; omega))))
      · first | rfl | simp [dqCells, opCells, nextV]
  have hkkp : Kp (fun k => k = gc ∨ k = go) w W2 := by
    refine hsp.kp ?_
    repeat (first | with_reducible exact HK1.out | with_reducible refine Kp.alloc ?_ _ | (with_reducible refine Kp.setCell ?_ ?_ _; rotate_left; first | exact .inl (.inl rfl) | exact .inl (.inr rfl) | (right; dsimp only; simp; try omega)))
  have bxp0 : Blk W2 w.heap.size 44 #[.int .u8 1, .int .i64 (2 + (d.ix o.b : Int))] := by
    refine hsp.blk ?_
    apply Blk.conv
    · repeat (with_reducible first | exact bx1 | (apply Blk.at_; simp; done) | apply Blk.alloc | apply Blk.set_ | (apply Blk.far; any_goals (first | (dsimp only; assumption) | (dsimp only; omega))))
    · first | rfl | simp [dqCells, opCells, nextV]
  have bcp0 := bxp0.c2
  have bfp0 := bxp0.frozen 0
  have bgp0 := bxp0.frozen 1
  have HQp := Lib.hid hdqp
  have HKp := Lib.hid hkkp
  have hzp : w.heap.size < W2.heap.size := bxp0.lt
  have qd0 := HOPp.get 0 (v := .pointer (some ⟨gd, 0, none⟩)) rfl
  have qd1 := HOPp.get 1 (v := nextV ({ o with x := d.at_ o.b, pc := 9 } : Dop).pc) rfl
  have qd2 := HOPp.get 2 (v := .int .i64 ({ o with x := d.at_ o.b, pc := 9 } : Dop).b) rfl
  have qd3 := HOPp.get 3 (v := .int .i64 ({ o with x := d.at_ o.b, pc := 9 } : Dop).t) rfl
  have qd4 := HOPp.get 4 (v := .int .i64 ({ o with x := d.at_ o.b, pc := 9 } : Dop).x) rfl
  have qd5 := HOPp.get 5 (v := .bool ({ o with x := d.at_ o.b, pc := 9 } : Dop).sw) rfl
  have qd6 := HOPp.get 6 (v := .int .u8 ({ o with x := d.at_ o.b, pc := 9 } : Dop).how) rfl
  have yd1 := HOPp.frozen 1
  have yd2 := HOPp.frozen 2
  have yd3 := HOPp.frozen 3
  have yd4 := HOPp.frozen 4
  have yd5 := HOPp.frozen 5
  have yd6 := HOPp.frozen 6
  have kd0 := HOPp.lt
  try dsimp only at qd1 qd2 qd3 qd4 qd5 qd6
  have hdec := HDEC.out
  clear hsp hdqp hkkp
  simp only [List.take_succ_cons, List.take_zero, List.drop_succ_cons, List.drop_zero]
  repeat still_step
  refine wpStill_nil ?_
  go_wp2_with fail
  rw [HS.out]
  refine bodyPost_ret (v := .agg #[.int .u8 1, .int .i64 (2 + (d.ix o.b : Int))]) (res_acc Try.results51 rfl ?hbx) rfl ⟨rfl, ⟨?_, ?_⟩, ?_, ?_⟩
  case hbx =>
    apply Blk.conv
    · repeat (with_reducible first | exact bxp0 | (apply Blk.at_; simp; done) | apply Blk.alloc | apply Blk.set_ | (apply Blk.far; any_goals (first | (dsimp only; assumption) | (dsimp only; omega))))
    · first | rfl | simp
  · apply Blk.conv
    · repeat (with_reducible first | exact HQp.out.hdr | (apply Blk.at_; simp; done) | apply Blk.alloc | apply Blk.set_ | (apply Blk.far; any_goals (first | (dsimp only; assumption) | (dsimp only; omega))))
    · first | rfl | simp [dqCells, Dq.put, opCells, nextV]
  · apply Blk.conv
    · repeat (with_reducible first | exact HQp.out.cel | (apply Blk.at_; simp; done) | apply Blk.alloc | apply Blk.set_ | (apply Blk.far; any_goals (first | (dsimp only; assumption) | (dsimp only; omega))))
    · first | rfl | simp [dqCells, Dq.put, opCells, nextV]
  · apply Blk.conv
    · repeat (with_reducible first | exact HOPp | (apply Blk.at_; simp; done) | apply Blk.alloc | apply Blk.set_ | (apply Blk.far; any_goals (first | (dsimp only; assumption) | (dsimp only; omega))))
    · first | rfl | simp [dqCells, Dq.put, opCells, nextV]
  · repeat (first | with_reducible exact HKp.out | with_reducible refine Kp.alloc ?_ _ | (with_reducible refine Kp.setCell ?_ ?_ _; rotate_left; first | exact .inl (.inl rfl) | exact .inl (.inr rfl) | (right; dsimp only; simp; try omega)))
theorem popTask_any (hp : o.pc = 8) (hb : ¬ o.b < o.t → 0 ≤ o.b) (b0 : -1000000 ≤ o.b) (b1 : o.b ≤ 1000000) (hn : 0 < d.sl.length) (hl : d.sl.length ≤ 1000000) :
    Calls Try.prog 51 #[.pointer (some ⟨go, 0, none⟩)] w fun e w' => Stepped w w' go gd gc own (dstep d o) e := by
  by_cases hbt : o.b < o.t
  · exact popTask_none_any go gd gc d own o w hd ho hp hbt b0 b1
  · by_cases ht : o.t < o.b
    · exact popTask_got_any go gd gc d own o w hd ho hp hbt ht (hb hbt) hn hl
    · exact popTask_last_any go gd gc d own o w hd ho hp hbt ht (hb hbt) hn hl
end
end Go.Proofs.Ytdigjppdgiapfaa
