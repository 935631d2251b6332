/- Contracts: the steps of an operation on a deque, more. -/
import Derived.Test.YtdigjppdgiapfaaDsa
set_option linter.unusedSimpArgs false
set_option linter.unusedVariables false
namespace Go.Proofs.Ytdigjppdgiapfaa
open Go.RowKit
attribute [local go_sem] block_of_add
attribute [local go_sem ↓] Go.wp_at_zero Go.wp_at_succ
section
variable (go gd gc : Nat) (d : Dq) (own : Value) (o : Dop) (w : World) (hd : DqAt w gd gc d own) (ho : OpAt w go gd o)
include hd ho
set_option maxRecDepth 100000 in
set_option maxHeartbeats 800000 in
theorem popEnd_yes_any (hp : o.pc = 10) (hw : o.sw = true) (b0 : -1000000 ≤ o.b) (b1 : o.b ≤ 1000000) :
    Calls Try.prog 58 #[.pointer (some ⟨go, 0, none⟩)] w fun e w' => Stepped w w' go gd gc own (dstep d o) e := by
  have h0 := ho.get 0 (v := .pointer (some ⟨gd, 0, none⟩)) rfl
  have g1 := ho.get 1 (v := nextV o.pc) rfl
  have g2 := ho.get 2 (v := .int .i64 o.b) rfl
  have g3 := ho.get 3 (v := .int .i64 o.t) rfl
  have g4 := ho.get 4 (v := .int .i64 o.x) rfl
  have g5 := ho.get 5 (v := .bool o.sw) rfl
  have g6 := ho.get 6 (v := .int .u8 o.how) rfl
  have z1 := ho.frozen 1
  have z2 := ho.frozen 2
  have z3 := ho.frozen 3
  have z4 := ho.frozen 4
  have z5 := ho.frozen 5
  have z6 := ho.frozen 6
  have l0 := Blk.lt ho
  have l1 := hd.hdr.lt
  have l2 := hd.cel.lt
  have hne := hd.ne ho
  have HD := Lib.hid hd
  have HO := Lib.hid ho
  have HN := Lib.hid hne
  have HS : Hid (dstep d o = (⟨d.top, o.b + 1, d.sl⟩, { o with pc := 0, how := 2 }, 2, 1)) := Lib.hid (by simp only [dstep, hp, hw]; rfl)
  rw [hw] at g5
  have HC := Lib.hid (store_rel go gd gc d ⟨d.top, o.b + 1, d.sl⟩ own o (w.alloc (.cells #[.int .u8 0, .int .i64 0] 44)) (hd.kp ((Kp.refl (fun _ => False) w).alloc _) id id) (ho.kp ((Kp.refl (fun _ => False) w).alloc _) id) 1 (o.b + 1) (.int .i64 d.bot) (by omega) rfl rfl rfl)
  have HSW := Lib.hid hw
  clear hd ho hne hp hw
  go_enter Try.func58, Try.ntmps58
  go_wp2_with fail
  refine HC.out.mono ?_
  rintro e W2 ⟨rfl, hdq, hop, hk⟩
  have HOB : Blk w go 67 (opCells gd o) := HO.out
  have n1 := HN.out.1
  have n2 := HN.out.2.1
  have n3 := HN.out.2.2
  have m1 := Ne.symm n1
  have m2 := Ne.symm n2
  have m3 := Ne.symm n3
  have HOP2 : Blk W2 go 67 (opCells gd o) := hop
  have qb0 := HOP2.get 0 (v := .pointer (some ⟨gd, 0, none⟩)) rfl
  have qb1 := HOP2.get 1 (v := nextV (o : Dop).pc) rfl
  have qb2 := HOP2.get 2 (v := .int .i64 (o : Dop).b) rfl
  have qb3 := HOP2.get 3 (v := .int .i64 (o : Dop).t) rfl
  have qb4 := HOP2.get 4 (v := .int .i64 (o : Dop).x) rfl
  have qb5 := HOP2.get 5 (v := .bool (o : Dop).sw) rfl
  have qb6 := HOP2.get 6 (v := .int .u8 (o : Dop).how) rfl
  have yb1 := HOP2.frozen 1
  have yb2 := HOP2.frozen 2
  have yb3 := HOP2.frozen 3
  have yb4 := HOP2.frozen 4
  have yb5 := HOP2.frozen 5
  have yb6 := HOP2.frozen 6
  have kb0 := HOP2.lt
  try dsimp only at qb1 qb2 qb3 qb4 qb5 qb6
  rw [HSW.out] at qb5
  have bx0 : Blk W2 w.heap.size 44 #[.int .u8 0, .int .i64 0] := by
    refine Blk.kp ?_ hk (by first | assumption | omega)
    apply Blk.conv
    · repeat (with_reducible first | exact HOB | (apply Blk.at_; simp; done) | apply Blk.alloc | apply Blk.set_ | (apply Blk.far; any_goals (first | (dsimp only; assumption) | (dsimp only; omega))))
    · first | rfl | simp [dqCells, opCells, nextV]
  have bc0 := bx0.c2
  have bf0 := bx0.frozen 0
  have bg0 := bx0.frozen 1
  have hz : w.heap.size < W2.heap.size := bx0.lt
  have HQ1 := Lib.hid hdq
  have HQ2 : Hid (Kp (fun k => k = gc ∨ k = go) w W2) := Lib.hid (((Kp.refl _ w).alloc _).trans (hk.mono fun k h => .inl h))
  clear hk hdq hop h0 g1 g2 g3 g4 g5 g6 z1 z2 z3 z4 z5 z6
  go_wp2_with fail
  refine (end_rel go gd o 2 _ ?hend).mono ?_
  case hend =>
    apply Blk.conv
    · repeat (with_reducible first | exact HOP2 | (apply Blk.at_; simp; done) | apply Blk.alloc | apply Blk.set_ | (apply Blk.far; any_goals (first | (dsimp only; assumption) | (dsimp only; omega))))
    · first | rfl | simp [opCells, nextV]
  rintro e W3 ⟨rfl, hopc, hkc⟩
  have HOPc : Blk W3 go 67 (opCells gd { o with pc := 0, how := 2 }) := hopc
  have hdqc : DqAt W3 gd gc ⟨d.top, o.b + 1, d.sl⟩ own := by
    refine ⟨?_, ?_⟩
    · refine Blk.kp ?_ hkc (by first | assumption | omega)
      apply Blk.conv
      · repeat (with_reducible first | exact HQ1.out.hdr | (apply Blk.at_; simp; done) | apply Blk.alloc | apply Blk.set_ | (apply Blk.far; any_goals (first | (dsimp only; assumption) | (dsimp only; omega))))
      · first | rfl | simp [dqCells, opCells, nextV]
    · refine Blk.kp ?_ hkc (by first | assumption | omega)
      apply Blk.conv
      · repeat (with_reducible first | exact HQ1.out.cel | (apply Blk.at_; simp; done) | apply Blk.alloc | apply Blk.set_ | (apply Blk.far; any_goals (first | (dsimp only; assumption) | (dsimp only; omega))))
      · first | rfl | simp [dqCells, opCells, nextV]
  have hkkc : Kp (fun k => k = gc ∨ k = go) w W3 := by
    refine Kp.trans ?_ (hkc.mono (bad' := fun k => k = gc ∨ k = go) fun k h => by simp [h])
    repeat (first | with_reducible exact HQ2.out | with_reducible refine Kp.alloc ?_ _ | (with_reducible refine Kp.setCell ?_ ?_ _; rotate_left; first | exact .inl (.inl rfl) | exact .inl (.inr rfl) | (right; dsimp only; simp; try omega)))
  have bxc0 : Blk W3 w.heap.size 44 #[.int .u8 0, .int .i64 0] := by
    refine Blk.kp ?_ hkc (by first | assumption | omega)
    apply Blk.conv
    · repeat (with_reducible first | exact bx0 | (apply Blk.at_; simp; done) | apply Blk.alloc | apply Blk.set_ | (apply Blk.far; any_goals (first | (dsimp only; assumption) | (dsimp only; omega))))
    · first | rfl | simp [dqCells, opCells, nextV]
  have bcc0 := bxc0.c2
  have bfc0 := bxc0.frozen 0
  have bgc0 := bxc0.frozen 1
  have bxc1 : Blk W3 W2.heap.size 44 #[.int .u8 2, .int .i64 1] := by
    refine Blk.kp ?_ hkc (by first | assumption | omega)
    apply Blk.conv
    · repeat (with_reducible first | exact bx0 | (apply Blk.at_; simp; done) | apply Blk.alloc | apply Blk.set_ | (apply Blk.far; any_goals (first | (dsimp only; assumption) | (dsimp only; omega))))
    · first | rfl | simp [dqCells, opCells, nextV]
  have bcc1 := bxc1.c2
  have bfc1 := bxc1.frozen 0
  have bgc1 := bxc1.frozen 1
  have HQc := Lib.hid hdqc
  have HKc := Lib.hid hkkc
  have hzc : w.heap.size < W3.heap.size := bxc0.lt
  clear hkc hopc hdqc hkkc
  go_wp2_with fail
  rw [HS.out]
  refine bodyPost_ret (v := .agg #[.int .u8 2, .int .i64 1]) (res_acc Try.results58 rfl ?hbx) rfl ⟨rfl, ⟨?_, ?_⟩, ?_, ?_⟩
  case hbx =>
    apply Blk.conv
    · repeat (with_reducible first | exact bxc0 | (apply Blk.at_; simp; done) | apply Blk.alloc | apply Blk.set_ | (apply Blk.far; any_goals (first | (dsimp only; assumption) | (dsimp only; omega))))
    · first | rfl | simp
  · apply Blk.conv
    · repeat (with_reducible first | exact HQc.out.hdr | (apply Blk.at_; simp; done) | apply Blk.alloc | apply Blk.set_ | (apply Blk.far; any_goals (first | (dsimp only; assumption) | (dsimp only; omega))))
    · first | rfl | simp [dqCells, Dq.put, opCells, nextV]
  · apply Blk.conv
    · repeat (with_reducible first | exact HQc.out.cel | (apply Blk.at_; simp; done) | apply Blk.alloc | apply Blk.set_ | (apply Blk.far; any_goals (first | (dsimp only; assumption) | (dsimp only; omega))))
    · first | rfl | simp [dqCells, Dq.put, opCells, nextV]
  · apply Blk.conv
    · repeat (with_reducible first | exact HOPc | (apply Blk.at_; simp; done) | apply Blk.alloc | apply Blk.set_ | (apply Blk.far; any_goals (first | (dsimp only; assumption) | (dsimp only; omega))))
    · first | rfl | simp [dqCells, Dq.put, opCells, nextV]
  · repeat (first | with_reducible exact HKc.out | with_reducible refine Kp.alloc ?_ _ | (with_reducible refine Kp.setCell ?_ ?_ _; rotate_left; first | exact .inl (.inl rfl) | exact .inl (.inr rfl) | (right; dsimp only; simp; try omega)))
set_option maxRecDepth 100000 in
set_option maxHeartbeats 800000 in
theorem popEnd_no_any (hp : o.pc = 10) (hw : o.sw = false) (b0 : -1000000 ≤ o.b) (b1 : o.b ≤ 1000000) :
    Calls Try.prog 58 #[.pointer (some ⟨go, 0, none⟩)] w fun e w' => Stepped w w' go gd gc own (dstep d o) e := by
  have h0 := ho.get 0 (v := .pointer (some ⟨gd, 0, none⟩)) rfl
  have g1 := ho.get 1 (v := nextV o.pc) rfl
  have g2 := ho.get 2 (v := .int .i64 o.b) rfl
  have g3 := ho.get 3 (v := .int .i64 o.t) rfl
  have g4 := ho.get 4 (v := .int .i64 o.x) rfl
  have g5 := ho.get 5 (v := .bool o.sw) rfl
  have g6 := ho.get 6 (v := .int .u8 o.how) rfl
  have z1 := ho.frozen 1
  have z2 := ho.frozen 2
  have z3 := ho.frozen 3
  have z4 := ho.frozen 4
  have z5 := ho.frozen 5
  have z6 := ho.frozen 6
  have l0 := Blk.lt ho
  have l1 := hd.hdr.lt
  have l2 := hd.cel.lt
  have hne := hd.ne ho
  have HD := Lib.hid hd
  have HO := Lib.hid ho
  have HN := Lib.hid hne
  have HS : Hid (dstep d o = (⟨d.top, o.b + 1, d.sl⟩, { o with pc := 0, how := 3 }, 2, 1)) := Lib.hid (by simp only [dstep, hp, hw]; rfl)
  rw [hw] at g5
  have HC := Lib.hid (store_rel go gd gc d ⟨d.top, o.b + 1, d.sl⟩ own o (w.alloc (.cells #[.int .u8 0, .int .i64 0] 44)) (hd.kp ((Kp.refl (fun _ => False) w).alloc _) id id) (ho.kp ((Kp.refl (fun _ => False) w).alloc _) id) 1 (o.b + 1) (.int .i64 d.bot) (by omega) rfl rfl rfl)
  have HSW := Lib.hid hw
  clear hd ho hne hp hw
  go_enter Try.func58, Try.ntmps58
  go_wp2_with fail
  refine HC.out.mono ?_
  rintro e W2 ⟨rfl, hdq, hop, hk⟩
  have HOB : Blk w go 67 (opCells gd o) := HO.out
  have n1 := HN.out.1
  have n2 := HN.out.2.1
  have n3 := HN.out.2.2
  have m1 := Ne.symm n1
  have m2 := Ne.symm n2
  have m3 := Ne.symm n3
  have HOP2 : Blk W2 go 67 (opCells gd o) := hop
  have qb0 := HOP2.get 0 (v := .pointer (some ⟨gd, 0, none⟩)) rfl
  have qb1 := HOP2.get 1 (v := nextV (o : Dop).pc) rfl
  have qb2 := HOP2.get 2 (v := .int .i64 (o : Dop).b) rfl
  have qb3 := HOP2.get 3 (v := .int .i64 (o : Dop).t) rfl
  have qb4 := HOP2.get 4 (v := .int .i64 (o : Dop).x) rfl
  have qb5 := HOP2.get 5 (v := .bool (o : Dop).sw) rfl
  have qb6 := HOP2.get 6 (v := .int .u8 (o : Dop).how) rfl
  have yb1 := HOP2.frozen 1
  have yb2 := HOP2.frozen 2
  have yb3 := HOP2.frozen 3
  have yb4 := HOP2.frozen 4
  have yb5 := HOP2.frozen 5
  have yb6 := HOP2.frozen 6
  have kb0 := HOP2.lt
  try dsimp only at qb1 qb2 qb3 qb4 qb5 qb6
  rw [HSW.out] at qb5
  have bx0 : Blk W2 w.heap.size 44 #[.int .u8 0, .int .i64 0] := by
    refine Blk.kp ?_ hk (by first | assumption | omega)
    apply Blk.conv
    · repeat (with_reducible first | exact HOB | (apply Blk.at_; simp; done) | apply Blk.alloc | apply Blk.set_ | (apply Blk.far; any_goals (first | (dsimp only; assumption) | (dsimp only; omega))))
    · first | rfl | simp [dqCells, opCells, nextV]
  have bc0 := bx0.c2
  have bf0 := bx0.frozen 0
  have bg0 := bx0.frozen 1
  have hz : w.heap.size < W2.heap.size := bx0.lt
  have HQ1 := Lib.hid hdq
  have HQ2 : Hid (Kp (fun k => k = gc ∨ k = go) w W2) := Lib.hid (((Kp.refl _ w).alloc _).trans (hk.mono fun k h => .inl h))
  clear hk hdq hop h0 g1 g2 g3 g4 g5 g6 z1 z2 z3 z4 z5 z6
  go_wp2_with fail
  refine (end_rel go gd o 3 _ ?hend).mono ?_
  case hend =>
    apply Blk.conv
    · repeat (with_reducible first | exact HOP2 | (apply Blk.at_; simp; done) | apply Blk.alloc | apply Blk.set_ | (apply Blk.far; any_goals (first | (dsimp only; assumption) | (dsimp only; omega))))
    · first | rfl | simp [opCells, nextV]
  rintro e W3 ⟨rfl, hopc, hkc⟩
  have HOPc : Blk W3 go 67 (opCells gd { o with pc := 0, how := 3 }) := hopc
  have hdqc : DqAt W3 gd gc ⟨d.top, o.b + 1, d.sl⟩ own := by
    refine ⟨?_, ?_⟩
    · refine Blk.kp ?_ hkc (by first | assumption | omega)
      apply Blk.conv
      · repeat (with_reducible first | exact HQ1.out.hdr | (apply Blk.at_; simp; done) | apply Blk.alloc | apply Blk.set_ | (apply Blk.far; any_goals (first | (dsimp only; assumption) | (dsimp only; omega))))
      · first | rfl | simp [dqCells, opCells, nextV]
    · refine Blk.kp ?_ hkc (by first | assumption | omega)
      apply Blk.conv
      · repeat (with_reducible first | exact HQ1.out.cel | (apply Blk.at_; simp; done) | apply Blk.alloc | apply Blk.set_ | (apply Blk.far; any_goals (first | (dsimp only; assumption) | (dsimp only; omega))))
      · first | rfl | simp [dqCells, opCells, nextV]
  have hkkc : Kp (fun k => k = gc ∨ k = go) w W3 := by
    refine Kp.trans ?_ (hkc.mono (bad' := fun k => k = gc ∨ k = go) fun k h => by simp [h])
    repeat (first | with_reducible exact HQ2.out | with_reducible refine Kp.alloc ?_ _ | (with_reducible refine Kp.setCell ?_ ?_ _; rotate_left; first | exact .inl (.inl rfl) | exact .inl (.inr rfl) | (right; dsimp only; simp; try omega)))
  have bxc0 : Blk W3 w.heap.size 44 #[.int .u8 0, .int .i64 0] := by
    refine Blk.kp ?_ hkc (by first | assumption | omega)
    apply Blk.conv
    · repeat (with_reducible first | exact bx0 | (apply Blk.at_; simp; done) | apply Blk.alloc | apply Blk.set_ | (apply Blk.far; any_goals (first | (dsimp only; assumption) | (dsimp only; omega))))
    · first | rfl | simp [dqCells, opCells, nextV]
  have bcc0 := bxc0.c2
  have bfc0 := bxc0.frozen 0
  have bgc0 := bxc0.frozen 1
  have bxc1 : Blk W3 W2.heap.size 44 #[.int .u8 2, .int .i64 1] := by
    refine Blk.kp ?_ hkc (by first | assumption | omega)
    apply Blk.conv
    · repeat (with_reducible first | exact bx0 | (apply Blk.at_; simp; done) | apply Blk.alloc | apply Blk.set_ | (apply Blk.far; any_goals (first | (dsimp only; assumption) | (dsimp only; omega))))
    · first | rfl | simp [dqCells, opCells, nextV]
  have bcc1 := bxc1.c2
  have bfc1 := bxc1.frozen 0
  have bgc1 := bxc1.frozen 1
  have HQc := Lib.hid hdqc
  have HKc := Lib.hid hkkc
  have hzc : w.heap.size < W3.heap.size := bxc0.lt
  clear hkc hopc hdqc hkkc
  go_wp2_with fail
  rw [HS.out]
  refine bodyPost_ret (v := .agg #[.int .u8 2, .int .i64 1]) (res_acc Try.results58 rfl ?hbx) rfl ⟨rfl, ⟨?_, ?_⟩, ?_, ?_⟩
  case hbx =>
    apply Blk.conv
    · repeat (with_reducible first | exact bxc0 | (apply Blk.at_; simp; done) | apply Blk.alloc | apply Blk.set_ | (apply Blk.far; any_goals (first | (dsimp only; assumption) | (dsimp only; omega))))
    · first | rfl | simp
  · apply Blk.conv
    · repeat (with_reducible first | exact HQc.out.hdr | (apply Blk.at_; simp; done) | apply Blk.alloc | apply Blk.set_ | (apply Blk.far; any_goals (first | (dsimp only; assumption) | (dsimp only; omega))))
    · first | rfl | simp [dqCells, Dq.put, opCells, nextV]
  · apply Blk.conv
    · repeat (with_reducible first | exact HQc.out.cel | (apply Blk.at_; simp; done) | apply Blk.alloc | apply Blk.set_ | (apply Blk.far; any_goals (first | (dsimp only; assumption) | (dsimp only; omega))))
    · first | rfl | simp [dqCells, Dq.put, opCells, nextV]
  · apply Blk.conv
    · repeat (with_reducible first | exact HOPc | (apply Blk.at_; simp; done) | apply Blk.alloc | apply Blk.set_ | (apply Blk.far; any_goals (first | (dsimp only; assumption) | (dsimp only; omega))))
    · first | rfl | simp [dqCells, Dq.put, opCells, nextV]
  · repeat (first | with_reducible exact HKc.out | with_reducible refine Kp.alloc ?_ _ | (with_reducible refine Kp.setCell ?_ ?_ _; rotate_left; first | exact .inl (.inl rfl) | exact .inl (.inr rfl) | (right; dsimp only; simp; try omega)))
theorem popEnd_any (hp : o.pc = 10) (b0 : -1000000 ≤ o.b) (b1 : o.b ≤ 1000000) :
    Calls Try.prog 58 #[.pointer (some ⟨go, 0, none⟩)] w fun e w' => Stepped w w' go gd gc own (dstep d o) e := by
  rcases hw : o.sw with _ | _
  · exact popEnd_no_any go gd gc d own o w hd ho hp hw b0 b1
  · exact popEnd_yes_any go gd gc d own o w hd ho hp hw b0 b1
end
end Go.Proofs.Ytdigjppdgiapfaa
