/- Contracts: the steps of an operation on a deque, more. -/
import Derived.Test.YtdigjppdgiapfaaDsa
set_option linter.unusedSimpArgs false
set_option linter.unusedVariables false
namespace Go.Proofs.Ytdigjppdgiapfaa
open Go.RowKit
attribute [local go_sem] block_of_add
attribute [local go_sem ↓] Go.wp_at_zero Go.wp_at_succ
section
variable (go gd gc : Nat) (d : Dq) (own : Value) (o : Dop) (w : World) (hd : DqAt w gd gc d own) (ho : OpAt w go gd o)
include hd ho
set_option maxRecDepth 100000 in
set_option maxHeartbeats 800000 in
theorem pushEnd_any (hp : o.pc = 4) (b0 : -1000000 ≤ o.b) (b1 : o.b ≤ 1000000) :
    Calls Try.prog 53 #[.pointer (some ⟨go, 0, none⟩)] w fun e w' => Stepped w w' go gd gc own (dstep d o) e := by
  have h0 := ho.get 0 (v := .pointer (some ⟨gd, 0, none⟩)) rfl
  have g1 := ho.get 1 (v := nextV o.pc) rfl
  have g2 := ho.get 2 (v := .int .i64 o.b) rfl
  have g3 := ho.get 3 (v := .int .i64 o.t) rfl
  have g4 := ho.get 4 (v := .int .i64 o.x) rfl
  have g5 := ho.get 5 (v := .bool o.sw) rfl
  have g6 := ho.get 6 (v := .int .u8 o.how) rfl
  have z1 := ho.frozen 1
  have z2 := ho.frozen 2
  have z3 := ho.frozen 3
  have z4 := ho.frozen 4
  have z5 := ho.frozen 5
  have z6 := ho.frozen 6
  have l0 := Blk.lt ho
  have l1 := hd.hdr.lt
  have l2 := hd.cel.lt
  have hne := hd.ne ho
  have HD := Lib.hid hd
  have HO := Lib.hid ho
  have HN := Lib.hid hne
  have HS : Hid (dstep d o = (⟨d.top, o.b + 1, d.sl⟩, { o with pc := 0, how := 1 }, 2, 1)) := Lib.hid (by simp only [dstep, hp])
  have HC := Lib.hid (store_any go gd gc d own o (w.alloc (.cells #[.int .u8 0, .int .i64 0] 44)) (hd.kp ((Kp.refl (fun _ => False) w).alloc _) id id) (ho.kp ((Kp.refl (fun _ => False) w).alloc _) id) 1 (o.b + 1) (.int .i64 d.bot) (by omega) rfl)
  clear hd ho hne hp
  go_enter Try.func53, Try.ntmps53
  go_wp2_with fail
  refine HC.out.mono ?_
  rintro e w' ⟨rfl, rfl⟩
  have HOB : Blk w go 67 (opCells gd o) := HO.out
  have n1 := HN.out.1
  have n2 := HN.out.2.1
  have n3 := HN.out.2.2
  have m1 := Ne.symm n1
  have m2 := Ne.symm n2
  have m3 := Ne.symm n3
  go_wp2_with fail
  refine (end_rel go gd o 1 _ ?hend).mono ?_
  case hend =>
    apply Blk.conv
    · repeat (with_reducible first | exact HOB | (apply Blk.at_; simp; done) | apply Blk.alloc | apply Blk.set_ | (apply Blk.far; any_goals (first | (dsimp only; assumption) | (dsimp only; omega))))
    · first | rfl | simp [opCells, nextV]
  rintro e W2 ⟨rfl, hop, hk⟩
  have bx0 : Blk W2 w.heap.size 44 #[.int .u8 0, .int .i64 0] := by
    refine Blk.kp ?_ hk (by omega)
    apply Blk.conv
    · repeat (with_reducible first | exact HOB | (apply Blk.at_; simp; done) | apply Blk.alloc | apply Blk.set_ | (apply Blk.far; any_goals (first | (dsimp only; assumption) | (dsimp only; omega))))
    · first | rfl | simp
  have bxc0 := bx0.c2
  have bxf0 := bx0.frozen 0
  have bxg0 := bx0.frozen 1
  have bx1 : Blk W2 (w.heap.size + 1 + 1) 44 #[.int .u8 2, .int .i64 1] := by
    refine Blk.kp ?_ hk (by omega)
    apply Blk.conv
    · repeat (with_reducible first | exact HOB | (apply Blk.at_; simp; done) | apply Blk.alloc | apply Blk.set_ | (apply Blk.far; any_goals (first | (dsimp only; assumption) | (dsimp only; omega))))
    · first | rfl | simp
  have bxc1 := bx1.c2
  have bxf1 := bx1.frozen 0
  have bxg1 := bx1.frozen 1
  have hdq : DqAt W2 gd gc ⟨d.top, o.b + 1, d.sl⟩ own := by
    refine DqAt.kp ⟨?_, ?_⟩ hk m1 m2
    · apply Blk.conv
      · repeat (with_reducible first | exact HD.out.hdr | (apply Blk.at_; simp; done) | apply Blk.alloc | apply Blk.set_ | (apply Blk.far; any_goals (first | (dsimp only; assumption) | (dsimp only; omega))))
      · first | rfl | simp [dqCells]
    · apply Blk.conv
      · repeat (with_reducible first | exact HD.out.cel | (apply Blk.at_; simp; done) | apply Blk.alloc | apply Blk.set_ | (apply Blk.far; any_goals (first | (dsimp only; assumption) | (dsimp only; omega))))
      · first | rfl | simp [dqCells]
  have hkk : Kp (fun k => k = gc ∨ k = go) w W2 := by
    refine Kp.trans ?_ (hk.mono (bad' := fun k => k = gc ∨ k = go) fun k h => .inr h)
    repeat (first | with_reducible exact Kp.refl _ _ | with_reducible refine Kp.alloc ?_ _ | (with_reducible refine Kp.setCell ?_ ?_ _; rotate_left; first | exact .inl (.inl rfl) | exact .inl (.inr rfl) | (right; dsimp only; simp; try omega)))
  have hsz : w.heap.size < W2.heap.size := bx0.lt
  have HOP : Blk W2 go 67 (opCells gd { o with pc := 0, how := 1 }) := hop
  have HQ1 := Lib.hid hdq
  have HQ2 := Lib.hid hkk
  clear hdq hkk hk hop
  go_wp2_with fail
  rw [HS.out]
  refine bodyPost_ret (v := .agg #[.int .u8 2, .int .i64 1]) (res_acc Try.results53 rfl ?hbx) rfl ⟨rfl, ⟨?_, ?_⟩, ?_, ?_⟩
  case hbx =>
    apply Blk.conv
    · repeat (with_reducible first | exact bx0 | (apply Blk.at_; simp; done) | apply Blk.alloc | apply Blk.set_ | (apply Blk.far; any_goals (first | (dsimp only; assumption) | (dsimp only; omega))))
    · first | rfl | simp
  · apply Blk.conv
    · repeat (with_reducible first | exact HQ1.out.hdr | (apply Blk.at_; simp; done) | apply Blk.alloc | apply Blk.set_ | (apply Blk.far; any_goals (first | (dsimp only; assumption) | (dsimp only; omega))))
    · first | rfl | simp [dqCells, Dq.put, opCells, nextV]
  · apply Blk.conv
    · repeat (with_reducible first | exact HQ1.out.cel | (apply Blk.at_; simp; done) | apply Blk.alloc | apply Blk.set_ | (apply Blk.far; any_goals (first | (dsimp only; assumption) | (dsimp only; omega))))
    · first | rfl | simp [dqCells, Dq.put, opCells, nextV]
  · apply Blk.conv
    · repeat (with_reducible first | exact HOP | (apply Blk.at_; simp; done) | apply Blk.alloc | apply Blk.set_ | (apply Blk.far; any_goals (first | (dsimp only; assumption) | (dsimp only; omega))))
    · first | rfl | simp [dqCells, Dq.put, opCells, nextV]
  · repeat (first | with_reducible exact HQ2.out | with_reducible refine Kp.alloc ?_ _ | (with_reducible refine Kp.setCell ?_ ?_ _; rotate_left; first | exact .inl (.inl rfl) | exact .inl (.inr rfl) | (right; dsimp only; simp; try omega)))
end
end Go.Proofs.Ytdigjppdgiapfaa
