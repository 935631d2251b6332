/- Contracts: the steps of an operation on a deque, more. -/
import Derived.Test.YtdigjppdgiapfaaDsj
import Derived.Deep.RegionHeld3
set_option linter.unusedSimpArgs false
set_option linter.unusedVariables false
namespace Go.Proofs.Ytdigjppdgiapfaa
open Go.RowKit
attribute [local go_sem] block_of_add
attribute [local go_sem ↓] Go.wp_at_zero Go.wp_at_succ
theorem load_slot_rel (go gd gc : Nat) (d : Dq) (own : Value) (o : Dop) (w : World) (hd : DqAt w gd gc d own) (ho : OpAt w go gd o) (hn : 0 < d.sl.length) (b : Int) :
    Calls Try.prog 35 #[.pointer (some ⟨go, 0, none⟩), .int .i64 (2 + (d.ix b : Int))] w fun e w' => e = .returned (.tuple #[.int .i64 (d.at_ b), .agg #[.int .u8 1, .int .i64 (2 + (d.ix b : Int))]]) ∧ DqAt w' gd gc d own ∧ OpAt w' go gd o ∧ Kp (fun _ => False) w w' :=
  (load_slot go gd gc d own o w hd ho hn b).mono fun e w' ⟨he, hw⟩ => by
    subst hw
    exact ⟨he, hd.kp ((Kp.refl (fun _ => False) w).alloc _) id id, Blk.alloc ho _, (Kp.refl _ w).alloc _⟩
section
variable (go gd gc : Nat) (d : Dq) (own : Value) (o : Dop) (w : World) (hd : DqAt w gd gc d own) (ho : OpAt w go gd o)
include hd ho
set_option maxRecDepth 100000 in
set_option maxHeartbeats 800000 in
theorem stealTask_any (hp : o.pc = 13) (hb : 0 ≤ o.t) (hn : 0 < d.sl.length) (hl : d.sl.length ≤ 1000000) :
    Calls Try.prog 50 #[.pointer (some ⟨go, 0, none⟩)] w fun e w' => Stepped w w' go gd gc own (dstep d o) e := by
  have h0 := ho.get 0 (v := .pointer (some ⟨gd, 0, none⟩)) rfl
  have g1 := ho.get 1 (v := nextV o.pc) rfl
  have g2 := ho.get 2 (v := .int .i64 o.b) rfl
  have g3 := ho.get 3 (v := .int .i64 o.t) rfl
  have g4 := ho.get 4 (v := .int .i64 o.x) rfl
  have g5 := ho.get 5 (v := .bool o.sw) rfl
  have g6 := ho.get 6 (v := .int .u8 o.how) rfl
  have z1 := ho.frozen 1
  have z2 := ho.frozen 2
  have z3 := ho.frozen 3
  have z4 := ho.frozen 4
  have z5 := ho.frozen 5
  have z6 := ho.frozen 6
  have l0 := Blk.lt ho
  have l1 := hd.hdr.lt
  have l2 := hd.cel.lt
  have hne := hd.ne ho
  have HD := Lib.hid hd
  have HO := Lib.hid ho
  have HN := Lib.hid hne
  have HS : Hid (dstep d o = (d, { o with x := d.at_ o.t, pc := 14 }, 1, 2 + (d.ix o.t : Int))) := Lib.hid (by simp only [dstep, hp])
  clear hd ho hne hp
  go_enter Try.func50, Try.ntmps50
  go_wp2_with fail
  have HOB : Blk w go 67 (opCells gd o) := HO.out
  have n1 := HN.out.1
  have n2 := HN.out.2.1
  have n3 := HN.out.2.2
  have m1 := Ne.symm n1
  have m2 := Ne.symm n2
  have m3 := Ne.symm n3
  obtain ⟨W0, hW0⟩ : ∃ W0, W0 = w.alloc (.cells #[.int .u8 0, .int .i64 0] 44) := ⟨_, rfl⟩
  rw [← hW0]
  have hs0 : Drawn (w.alloc (.cells #[.int .u8 0, .int .i64 0] 44)) W0 := by rw [hW0]; exact ⟨rfl, rfl, rfl, rfl⟩
  have HOP0 : Blk W0 go 67 (opCells gd o) := by
    refine hs0.blk ?_
    apply Blk.conv
    · repeat (with_reducible first | exact HOB | (apply Blk.at_; simp; done) | apply Blk.alloc | apply Blk.set_ | (apply Blk.far; any_goals (first | (dsimp only; assumption) | (dsimp only; omega))))
    · first | rfl | simp [dqCells, opCells, nextV]
  have hdq0 : DqAt W0 gd gc d own := by
    refine ⟨?_, ?_⟩
    · refine hs0.blk ?_
      apply Blk.conv
      · repeat (with_reducible first | exact HD.out.hdr | (apply Blk.at_; simp; done) | apply Blk.alloc | apply Blk.set_ | (apply Blk.far; any_goals (first | (dsimp only; assumption) | (dsimp only; omega))))
      · first | rfl | simp [dqCells, opCells, nextV]
    · refine hs0.blk ?_
      apply Blk.conv
      · repeat (with_reducible first | exact HD.out.cel | (apply Blk.at_; simp; done) | apply Blk.alloc | apply Blk.set_ | (apply Blk.far; any_goals (first | (dsimp only; assumption) | (dsimp only; omega))))
      · first | rfl | simp [dqCells, opCells, nextV]
  have hkk0 : Kp (fun k => k = gc ∨ k = go) w W0 := by
    refine hs0.kp ?_
    repeat (first | with_reducible exact Kp.refl _ _ | with_reducible refine Kp.alloc ?_ _ | (with_reducible refine Kp.setCell ?_ ?_ _; rotate_left; first | exact .inl (.inl rfl) | exact .inl (.inr rfl) | (right; dsimp only; simp; try omega)))
  have bx00 : Blk W0 w.heap.size 44 #[.int .u8 0, .int .i64 0] := by
    refine hs0.blk ?_
    apply Blk.conv
    · repeat (with_reducible first | exact HOB | (apply Blk.at_; simp; done) | apply Blk.alloc | apply Blk.set_ | (apply Blk.far; any_goals (first | (dsimp only; assumption) | (dsimp only; omega))))
    · first | rfl | simp [dqCells, opCells, nextV]
  have bc00 := bx00.c2
  have bf00 := bx00.frozen 0
  have bg00 := bx00.frozen 1
  have HQ0 := Lib.hid hdq0
  have HK0 := Lib.hid hkk0
  have hz0 : w.heap.size < W0.heap.size := bx00.lt
  have q0 := HOP0.get 0 (v := .pointer (some ⟨gd, 0, none⟩)) rfl
  have q1 := HOP0.get 3 (v := .int .i64 o.t) rfl
  have k0 := HOP0.lt
  have HR := Lib.hid (slot_rel gd gc d own W0.drew (HQ0.out.kp ((Kp.refl (fun _ => False) W0).drew) id id) o.t hb hn hl)
  have HC := Lib.hid (load_slot_rel go gd gc d own o W0.drew (HQ0.out.kp ((Kp.refl (fun _ => False) W0).drew) id id) (Blk.drew HOP0) hn o.t)
  clear h0 g1 g2 g3 g4 g5 g6 z1 z2 z3 z4 z5 z6 hs0 hW0 hdq0 hkk0
  refine wp_region_held_drew (S := fun w' => w'.cell? ⟨go, 0, none⟩ = some (.pointer (some ⟨gd, 0, none⟩)) ∧ w'.cell? ⟨go, 3, none⟩ = some (.int .i64 o.t)) (by kernel_rfl) ⟨q0, q1⟩ (fun hS => ?_)
  refine wpAnyH_take (i := 0) (v := ?_) rfl (by kernel_rfl) (by kernel_rfl) (by kernel_rfl) (fun _ _ _ h => h) (Or.inl ⟨by rfl, ?_⟩) hS ?_
  rotate_left
  · intro W' hS'
    obtain ⟨s1, s2⟩ := hS'
    go_simp
    rfl
  try simp only [Act.put, List.setIfInBounds_toArray, List.set_cons_zero, List.set_cons_succ, List.getElem_toArray, List.getElem_cons_zero, List.getElem_cons_succ]
  refine wpAnyH_take (i := 1) (v := ?_) rfl (by kernel_rfl) (by kernel_rfl) (by kernel_rfl) (fun _ _ _ h => h) (Or.inl ⟨by rfl, ?_⟩) hS ?_
  rotate_left
  · intro W' hS'
    obtain ⟨s1, s2⟩ := hS'
    go_simp
    rfl
  try simp only [Act.put, List.setIfInBounds_toArray, List.set_cons_zero, List.set_cons_succ, List.getElem_toArray, List.getElem_cons_zero, List.getElem_cons_succ]
  refine wpAnyH_take (i := 2) (v := ?_) rfl (by kernel_rfl) (by kernel_rfl) (by kernel_rfl) (fun _ _ _ h => h) (Or.inl ⟨by rfl, ?_⟩) hS ?_
  rotate_left
  · intro W' hS'
    obtain ⟨s1, s2⟩ := hS'
    go_simp
    rfl
  try simp only [Act.put, List.setIfInBounds_toArray, List.set_cons_zero, List.set_cons_succ, List.getElem_toArray, List.getElem_cons_zero, List.getElem_cons_succ]
  refine wpAnyH_take (i := 3) (v := ?_) rfl (by kernel_rfl) (by kernel_rfl) (by kernel_rfl) (fun _ _ _ h => h) (Or.inl ⟨by rfl, ?_⟩) hS ?_
  rotate_left
  · intro W' hS'
    obtain ⟨s1, s2⟩ := hS'
    go_simp
    rfl
  try simp only [Act.put, List.setIfInBounds_toArray, List.set_cons_zero, List.set_cons_succ, List.getElem_toArray, List.getElem_cons_zero, List.getElem_cons_succ]
  refine wpAnyH_take (i := 4) (v := ?_) rfl (by kernel_rfl) (by kernel_rfl) (by kernel_rfl) (fun _ _ _ h => h) (Or.inl ⟨by rfl, ?_⟩) hS ?_
  rotate_left
  · intro W' hS'
    obtain ⟨s1, s2⟩ := hS'
    go_simp
    rfl
  try simp only [Act.put, List.setIfInBounds_toArray, List.set_cons_zero, List.set_cons_succ, List.getElem_toArray, List.getElem_cons_zero, List.getElem_cons_succ]
  refine wpAnyH_take (i := 5) (v := ?_) rfl (by kernel_rfl) (by kernel_rfl) (by kernel_rfl) (fun _ _ _ h => h) (Or.inl ⟨by rfl, ?_⟩) hS ?_
  rotate_left
  · intro W' hS'
    obtain ⟨s1, s2⟩ := hS'
    go_simp
    rfl
  try simp only [Act.put, List.setIfInBounds_toArray, List.set_cons_zero, List.set_cons_succ, List.getElem_toArray, List.getElem_cons_zero, List.getElem_cons_succ]
  refine wpAnyH_take (i := 6) (v := ?_) rfl (by kernel_rfl) (by kernel_rfl) (by kernel_rfl) (fun _ _ _ h => h) (Or.inl ⟨by rfl, ?_⟩) hS ?_
  rotate_left
  · intro W' hS'
    obtain ⟨s1, s2⟩ := hS'
    go_simp
    rfl
  try simp only [Act.put, List.setIfInBounds_toArray, List.set_cons_zero, List.set_cons_succ, List.getElem_toArray, List.getElem_cons_zero, List.getElem_cons_succ]
  refine wpAnyH_take (i := 7) (v := ?_) rfl (by kernel_rfl) (by kernel_rfl) (by kernel_rfl) (fun _ _ _ h => h) (Or.inl ⟨by rfl, ?_⟩) hS ?_
  rotate_left
  · intro W' hS'
    obtain ⟨s1, s2⟩ := hS'
    go_simp
    rfl
  try simp only [Act.put, List.setIfInBounds_toArray, List.set_cons_zero, List.set_cons_succ, List.getElem_toArray, List.getElem_cons_zero, List.getElem_cons_succ]
  refine wpAnyH_take (i := 8) (v := ?_) rfl (by kernel_rfl) (by kernel_rfl) (by kernel_rfl) (fun _ _ _ h => h) (Or.inl ⟨by rfl, ?_⟩) hS ?_
  rotate_left
  · intro W' hS'
    obtain ⟨s1, s2⟩ := hS'
    go_simp
    rfl
  try simp only [Act.put, List.setIfInBounds_toArray, List.set_cons_zero, List.set_cons_succ, List.getElem_toArray, List.getElem_cons_zero, List.getElem_cons_succ]
  refine wpAnyH_take (i := 9) (v := ?_) rfl (by kernel_rfl) (by kernel_rfl) (by kernel_rfl) (fun _ _ _ h => h) (Or.inl ⟨by rfl, ?_⟩) hS ?_
  rotate_left
  · intro W' hS'
    obtain ⟨s1, s2⟩ := hS'
    go_simp
    rfl
  try simp only [Act.put, List.setIfInBounds_toArray, List.set_cons_zero, List.set_cons_succ, List.getElem_toArray, List.getElem_cons_zero, List.getElem_cons_succ]
  refine wpAnyH_ready (rs := [10]) (by kernel_rfl) (by simp) (AllReadyH.cons rfl (fun K hK => ?_) AllReadyH.nil)
  go_simp
  refine HR.out.mono ?_
  rintro e w' ⟨rfl, rfl⟩
  refine hK.out _ _ hS (fun hS => ?_)
  try simp only [Act.put, List.setIfInBounds_toArray, List.set_cons_zero, List.set_cons_succ, List.getElem_toArray, List.getElem_cons_zero, List.getElem_cons_succ]
  clear hK
  refine wpAnyH_ready (rs := [11]) (by kernel_rfl) (by simp) (AllReadyH.cons rfl (fun K hK => ?_) AllReadyH.nil)
  go_simp
  refine HC.out.mono ?_
  rintro e W1 ⟨rfl, hdq1, hop1, hk1⟩
  have HOP1 : Blk W1 go 67 (opCells gd o) := hop1
  have bx1 : Blk W1 w.heap.size 44 #[.int .u8 0, .int .i64 0] := (Blk.drew bx00).kp hk1 id
  have u0 := HOP1.get 0 (v := .pointer (some ⟨gd, 0, none⟩)) rfl
  have u1 := HOP1.get 3 (v := .int .i64 o.t) rfl
  have u4 := HOP1.get 4 (v := .int .i64 o.x) rfl
  have f4 := HOP1.frozen 4
  have u9 := HOP1.get 1 (v := nextV o.pc) rfl
  have f1 := HOP1.frozen 1
  have uc := bx1.c2
  have fc0 := bx1.frozen 0
  have fc1 := bx1.frozen 1
  have hz1 : w.heap.size < W1.heap.size := bx1.lt
  have k1 := HOP1.lt
  have HQ1 := Lib.hid hdq1
  have HK1 : Hid (Kp (fun k => k = gc ∨ k = go) w W1) := Lib.hid (HK0.out.drew.trans (hk1.mono fun k h => h.elim))
  clear hdq1 hk1 hop1 q0 q1 hS
  refine hK.out _ _ ⟨u0, u1⟩ (fun hS => ?_)
  try simp only [Act.put, List.setIfInBounds_toArray, List.set_cons_zero, List.set_cons_succ, List.getElem_toArray, List.getElem_cons_zero, List.getElem_cons_succ]
  refine wpAnyH_take (i := 12) (v := ?_) rfl (by kernel_rfl) (by kernel_rfl) (by kernel_rfl) (fun _ _ _ h => h) (Or.inl ⟨by rfl, ?_⟩) hS ?_
  rotate_left
  · intro W' hS'
    obtain ⟨s1, s2⟩ := hS'
    go_simp
    rfl
  try simp only [Act.put, List.setIfInBounds_toArray, List.set_cons_zero, List.set_cons_succ, List.getElem_toArray, List.getElem_cons_zero, List.getElem_cons_succ]
  refine wpAnyH_take (i := 13) (v := ?_) rfl (by kernel_rfl) (by kernel_rfl) (by kernel_rfl) (fun _ _ _ h => h) (Or.inl ⟨by rfl, ?_⟩) hS ?_
  rotate_left
  · intro W' hS'
    obtain ⟨s1, s2⟩ := hS'
    go_simp
    rfl
  try simp only [Act.put, List.setIfInBounds_toArray, List.set_cons_zero, List.set_cons_succ, List.getElem_toArray, List.getElem_cons_zero, List.getElem_cons_succ]
  refine wpAnyH_take (i := 14) (v := ?_) rfl (by kernel_rfl) (by kernel_rfl) (by kernel_rfl) (fun _ _ _ h => h) (Or.inl ⟨by rfl, ?_⟩) hS ?_
  rotate_left
  · intro W' hS'
    obtain ⟨s1, s2⟩ := hS'
    go_simp
    rfl
  try simp only [Act.put, List.setIfInBounds_toArray, List.set_cons_zero, List.set_cons_succ, List.getElem_toArray, List.getElem_cons_zero, List.getElem_cons_succ]
  refine wpAnyH_take (i := 15) (v := ?_) rfl (by kernel_rfl) (by kernel_rfl) (by kernel_rfl) (fun _ _ _ h => h) (Or.inl ⟨by rfl, ?_⟩) hS ?_
  rotate_left
  · intro W' hS'
    obtain ⟨s1, s2⟩ := hS'
    go_simp
    rfl
  try simp only [Act.put, List.setIfInBounds_toArray, List.set_cons_zero, List.set_cons_succ, List.getElem_toArray, List.getElem_cons_zero, List.getElem_cons_succ]
  refine wpAnyH_take (i := 16) (v := ?_) rfl (by kernel_rfl) (by kernel_rfl) (by kernel_rfl) (fun _ _ _ h => h) (Or.inl ⟨by rfl, ?_⟩) hS ?_
  rotate_left
  · intro W' hS'
    obtain ⟨s1, s2⟩ := hS'
    go_simp
    rfl
  try simp only [Act.put, List.setIfInBounds_toArray, List.set_cons_zero, List.set_cons_succ, List.getElem_toArray, List.getElem_cons_zero, List.getElem_cons_succ]
  refine wpAnyH_ready (rs := [17]) (by kernel_rfl) (by simp) (AllReadyH.cons rfl (fun K hK => ?_) AllReadyH.nil)
  go_simp
  refine hK.out _ _ ⟨(HOP1.set_ 4 _).get 0 rfl, (HOP1.set_ 4 _).get 3 rfl⟩ (fun hS => ?_)
  try simp only [Act.put, List.setIfInBounds_toArray, List.set_cons_zero, List.set_cons_succ, List.getElem_toArray, List.getElem_cons_zero, List.getElem_cons_succ]
  clear hK
  refine wpAnyH_ready (rs := [18]) (by kernel_rfl) (by simp) (AllReadyH.cons rfl (fun K hK => ?_) AllReadyH.nil)
  go_simp
  refine hK.out _ _ ⟨(((HOP1.set_ 4 _).far (p := ⟨w.heap.size, 0, none⟩) (by dsimp only; omega) _).far (p := ⟨w.heap.size, 1, none⟩) (by dsimp only; omega) _).get 0 rfl, (((HOP1.set_ 4 _).far (p := ⟨w.heap.size, 0, none⟩) (by dsimp only; omega) _).far (p := ⟨w.heap.size, 1, none⟩) (by dsimp only; omega) _).get 3 rfl⟩ (fun hS => ?_)
  try simp only [Act.put, List.setIfInBounds_toArray, List.set_cons_zero, List.set_cons_succ, List.getElem_toArray, List.getElem_cons_zero, List.getElem_cons_succ]
  clear hK
  refine wpAnyH_done (by kernel_rfl) ?_ _
  clear hS
  go_wp2_with fail
  rw [HS.out]
  refine bodyPost_ret (v := .agg #[.int .u8 1, .int .i64 (2 + (d.ix o.t : Int))]) (res_acc Try.results50 rfl ?hbx) rfl ⟨rfl, ⟨?_, ?_⟩, ?_, ?_⟩
  case hbx =>
    apply Blk.conv
    · repeat (with_reducible first | exact bx1 | (apply Blk.at_; simp; done) | apply Blk.alloc | apply Blk.set_ | (apply Blk.far; any_goals (first | (dsimp only; assumption) | (dsimp only; omega))))
    · first | rfl | simp
  · apply Blk.conv
    · repeat (with_reducible first | exact HQ1.out.hdr | (apply Blk.at_; simp; done) | apply Blk.alloc | apply Blk.set_ | (apply Blk.far; any_goals (first | (dsimp only; assumption) | (dsimp only; omega))))
    · first | rfl | simp [dqCells, Dq.put, opCells, nextV]
  · apply Blk.conv
    · repeat (with_reducible first | exact HQ1.out.cel | (apply Blk.at_; simp; done) | apply Blk.alloc | apply Blk.set_ | (apply Blk.far; any_goals (first | (dsimp only; assumption) | (dsimp only; omega))))
    · first | rfl | simp [dqCells, Dq.put, opCells, nextV]
  · apply Blk.conv
    · repeat (with_reducible first | exact HOP1 | (apply Blk.at_; simp; done) | apply Blk.alloc | apply Blk.set_ | (apply Blk.far; any_goals (first | (dsimp only; assumption) | (dsimp only; omega))))
    · first | rfl | simp [dqCells, Dq.put, opCells, nextV]
  · repeat (first | with_reducible exact HK1.out | with_reducible refine Kp.alloc ?_ _ | (with_reducible refine Kp.setCell ?_ ?_ _; rotate_left; first | exact .inl (.inl rfl) | exact .inl (.inr rfl) | (right; dsimp only; simp; try omega)))
end
end Go.Proofs.Ytdigjppdgiapfaa
