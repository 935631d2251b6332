/- Contracts: the steps of an operation on a deque, more. -/
import Derived.Test.YtdigjppdgiapfaaDsa
set_option linter.unusedSimpArgs false
set_option linter.unusedVariables false
namespace Go.Proofs.Ytdigjppdgiapfaa
open Go.RowKit
attribute [local go_sem] block_of_add
attribute [local go_sem ↓] Go.wp_at_zero Go.wp_at_succ
theorem cell_drew (w : World) (p : Addr) : w.drew.cell? p = w.cell? p := rfl
theorem dq_slot (d : Dq) (hn : 0 < d.sl.length) (b : Int) : (dqCells d)[2 + d.ix b]? = some (.int .i64 (d.at_ b)) := by
  have h := ix_lt d.sl hn b
  have e : (dqCells d)[2 + d.ix b]? = (d.sl.map (Value.int .i64))[d.ix b]? := by
    unfold dqCells
    rw [List.getElem?_append_right (by simp)]
    congr 1
    simp
  rw [e, List.getElem?_map]
  unfold Dq.at_ slAt Dq.ix
  rw [List.getElem?_eq_getElem h]; rfl
theorem dq_put (d : Dq) (b v : Int) : dqCells (d.put b v) = (dqCells d).set (2 + d.ix b) (.int .i64 v) := by
  unfold dqCells Dq.put
  rw [show 2 + d.ix b = d.ix b + 1 + 1 by omega]
  simp [List.map_set]
theorem load_slot (go gd gc : Nat) (d : Dq) (own : Value) (o : Dop) (w : World) (hd : DqAt w gd gc d own) (ho : OpAt w go gd o) (hn : 0 < d.sl.length) (b : Int) :
    Calls Try.prog 35 #[.pointer (some ⟨go, 0, none⟩), .int .i64 (2 + (d.ix b : Int))] w fun e w' => e = .returned (.tuple #[.int .i64 (d.at_ b), .agg #[.int .u8 1, .int .i64 (2 + (d.ix b : Int))]]) ∧ w.alloc (.cells #[.int .u8 1, .int .i64 (2 + (d.ix b : Int))] 44) = w' := by
  have h := load_any go gd gc d own o w hd ho (2 + d.ix b) (d.at_ b) (by have := ix_lt d.sl hn b; unfold Dq.ix; omega) (dq_slot d hn b)
  rw [show ((2 + d.ix b : Nat) : Int) = 2 + (d.ix b : Int) by omega] at h
  exact h
theorem store_slot (go gd gc : Nat) (d : Dq) (own : Value) (o : Dop) (w : World) (hd : DqAt w gd gc d own) (ho : OpAt w go gd o) (hn : 0 < d.sl.length) (b v : Int) :
    Calls Try.prog 47 #[.pointer (some ⟨go, 0, none⟩), .int .i64 (2 + (d.ix b : Int)), .int .i64 v] w fun e w' => e = .returned (.agg #[.int .u8 2, .int .i64 (2 + (d.ix b : Int))]) ∧ DqAt w' gd gc (d.put b v) own ∧ OpAt w' go gd o ∧ Kp (fun k => k = gc) w w' := by
  have h := store_rel go gd gc d (d.put b v) own o w hd ho (2 + d.ix b) v (.int .i64 (d.at_ b)) (by have := ix_lt d.sl hn b; unfold Dq.ix; omega) (dq_slot d hn b) (dq_put d b v) (by simp [Dq.put])
  rw [show ((2 + d.ix b : Nat) : Int) = 2 + (d.ix b : Int) by omega] at h
  exact h
theorem slot_rel (gd gc : Nat) (d : Dq) (own : Value) (w : World) (hd : DqAt w gd gc d own) (n : Int) (hn0 : 0 ≤ n) (hn : 0 < d.sl.length) (hn2 : d.sl.length ≤ 1000000) :
    Calls Try.prog 32 #[.pointer (some ⟨gd, 0, none⟩), .int .i64 n] w fun e w' => e = .returned (.int .i64 (2 + (d.ix n : Int))) ∧ w' = w :=
  (slot_any gd gc d own w hd n hn0 hn hn2).mono fun e w' ⟨h1, h2⟩ => ⟨h1, h2.symm⟩
section
variable (go gd gc : Nat) (d : Dq) (own : Value) (o : Dop) (w : World) (hd : DqAt w gd gc d own) (ho : OpAt w go gd o)
include hd ho
set_option maxRecDepth 100000 in
set_option maxHeartbeats 800000 in
theorem pushTask_any (hp : o.pc = 3) (hb : 0 ≤ o.b) (hn : 0 < d.sl.length) (hl : d.sl.length ≤ 1000000) :
    Calls Try.prog 48 #[.pointer (some ⟨go, 0, none⟩)] w fun e w' => Stepped w w' go gd gc own (dstep d o) e := by
  have h0 := ho.get 0 (v := .pointer (some ⟨gd, 0, none⟩)) rfl
  have g1 := ho.get 1 (v := nextV o.pc) rfl
  have g2 := ho.get 2 (v := .int .i64 o.b) rfl
  have g3 := ho.get 3 (v := .int .i64 o.t) rfl
  have g4 := ho.get 4 (v := .int .i64 o.x) rfl
  have g5 := ho.get 5 (v := .bool o.sw) rfl
  have g6 := ho.get 6 (v := .int .u8 o.how) rfl
  have z1 := ho.frozen 1
  have z2 := ho.frozen 2
  have z3 := ho.frozen 3
  have z4 := ho.frozen 4
  have z5 := ho.frozen 5
  have z6 := ho.frozen 6
  have l0 := Blk.lt ho
  have l1 := hd.hdr.lt
  have l2 := hd.cel.lt
  have hne := hd.ne ho
  have HD := Lib.hid hd
  have HO := Lib.hid ho
  have HN := Lib.hid hne
  have HS : Hid (dstep d o = (d.put o.b o.x, { o with pc := 4 }, 2, 2 + (d.ix o.b : Int))) := Lib.hid (by simp only [dstep, hp])
  clear hd ho hne hp
  go_enter Try.func48, Try.ntmps48
  go_wp2_with fail
  have HOB : Blk w go 67 (opCells gd o) := HO.out
  have n1 := HN.out.1
  have n2 := HN.out.2.1
  have n3 := HN.out.2.2
  have m1 := Ne.symm n1
  have m2 := Ne.symm n2
  have m3 := Ne.symm n3
  refine region_tail 14 (by kernel_rfl) (by kernel_rfl) ?_
  intro W1 hss
  have HOPs : Blk W1 go 67 (opCells gd { o with pc := 4 }) := by
    refine hss.blk ?_
    apply Blk.conv
    · repeat (with_reducible first | exact HOB | (apply Blk.at_; simp; done) | apply Blk.alloc | apply Blk.set_ | (apply Blk.far; any_goals (first | (dsimp only; assumption) | (dsimp only; omega))))
    · first | rfl | simp [dqCells, opCells, nextV]
  have hdqs : DqAt W1 gd gc d own := by
    refine ⟨?_, ?_⟩
    · refine hss.blk ?_
      apply Blk.conv
      · repeat (with_reducible first | exact HD.out.hdr | (apply Blk.at_; simp; done) | apply Blk.alloc | apply Blk.set_ | (apply Blk.far; any_goals (first | (dsimp only; assumption) | (dsimp only; omega))))
      · first | rfl | simp [dqCells, opCells, nextV]
    · refine hss.blk ?_
      apply Blk.conv
      · repeat (with_reducible first | exact HD.out.cel | (apply Blk.at_; simp; done) | apply Blk.alloc | apply Blk.set_ | (apply Blk.far; any_goals (first | (dsimp only; assumption) | (dsimp only; omega))))
      · first | rfl | simp [dqCells, opCells, nextV]
  have hkks : Kp (fun k => k = gc ∨ k = go) w W1 := by
    refine hss.kp ?_
    repeat (first | with_reducible exact Kp.refl _ _ | with_reducible refine Kp.alloc ?_ _ | (with_reducible refine Kp.setCell ?_ ?_ _; rotate_left; first | exact .inl (.inl rfl) | exact .inl (.inr rfl) | (right; dsimp only; simp; try omega)))
  have bxs0 : Blk W1 w.heap.size 44 #[.int .u8 0, .int .i64 0] := by
    refine hss.blk ?_
    apply Blk.conv
    · repeat (with_reducible first | exact HOB | (apply Blk.at_; simp; done) | apply Blk.alloc | apply Blk.set_ | (apply Blk.far; any_goals (first | (dsimp only; assumption) | (dsimp only; omega))))
    · first | rfl | simp [dqCells, opCells, nextV]
  have bcs0 := bxs0.c2
  have bfs0 := bxs0.frozen 0
  have bgs0 := bxs0.frozen 1
  have HQs := Lib.hid hdqs
  have HKs := Lib.hid hkks
  have hzs : w.heap.size < W1.heap.size := bxs0.lt
  have qb0 := HOPs.get 0 (v := .pointer (some ⟨gd, 0, none⟩)) rfl
  have qb1 := HOPs.get 1 (v := nextV ({ o with pc := 4 } : Dop).pc) rfl
  have qb2 := HOPs.get 2 (v := .int .i64 ({ o with pc := 4 } : Dop).b) rfl
  have qb3 := HOPs.get 3 (v := .int .i64 ({ o with pc := 4 } : Dop).t) rfl
  have qb4 := HOPs.get 4 (v := .int .i64 ({ o with pc := 4 } : Dop).x) rfl
  have qb5 := HOPs.get 5 (v := .bool ({ o with pc := 4 } : Dop).sw) rfl
  have qb6 := HOPs.get 6 (v := .int .u8 ({ o with pc := 4 } : Dop).how) rfl
  have yb1 := HOPs.frozen 1
  have yb2 := HOPs.frozen 2
  have yb3 := HOPs.frozen 3
  have yb4 := HOPs.frozen 4
  have yb5 := HOPs.frozen 5
  have yb6 := HOPs.frozen 6
  have kb0 := HOPs.lt
  try dsimp only at qb1 qb2 qb3 qb4 qb5 qb6
  have HR := Lib.hid (slot_rel gd gc d own W1 HQs.out o.b hb hn hl)
  have HC := Lib.hid (store_slot go gd gc d own { o with pc := 4 } W1 HQs.out HOPs hn o.b o.x)
  clear hss hdqs hkks h0 g1 g2 g3 g4 g5 g6 z1 z2 z3 z4 z5 z6
  simp only [List.take_succ_cons, List.take_zero, List.drop_succ_cons, List.drop_zero]
  repeat still_step
  still_call (HR.out)
  repeat still_step
  refine wpStill_nil ?_
  go_wp2_with fail
  refine HC.out.mono ?_
  rintro e W2 ⟨rfl, hdq, hop, hk⟩
  have HOP2 : Blk W2 go 67 (opCells gd { o with pc := 4 }) := hop
  have bx0 : Blk W2 w.heap.size 44 #[.int .u8 0, .int .i64 0] := by
    refine Blk.kp ?_ hk (by first | assumption | omega)
    apply Blk.conv
    · repeat (with_reducible first | exact bxs0 | (apply Blk.at_; simp; done) | apply Blk.alloc | apply Blk.set_ | (apply Blk.far; any_goals (first | (dsimp only; assumption) | (dsimp only; omega))))
    · first | rfl | simp [dqCells, opCells, nextV]
  have bc0 := bx0.c2
  have bf0 := bx0.frozen 0
  have bg0 := bx0.frozen 1
  have hz : w.heap.size < W2.heap.size := bx0.lt
  have HQ1 := Lib.hid hdq
  have HQ2 : Hid (Kp (fun k => k = gc ∨ k = go) w W2) := Lib.hid (HKs.out.trans (hk.mono fun k h => .inl h))
  clear hk hdq hop bcs0 bfs0 bgs0 qb0 qb1 qb2 qb3 qb4 qb5 qb6 yb1 yb2 yb3 yb4 yb5 yb6
  go_wp2_with fail
  rw [HS.out]
  refine bodyPost_ret (v := .agg #[.int .u8 2, .int .i64 (2 + (d.ix o.b : Int))]) (res_acc Try.results48 rfl ?hbx) rfl ⟨rfl, ⟨?_, ?_⟩, ?_, ?_⟩
  case hbx =>
    apply Blk.conv
    · repeat (with_reducible first | exact bx0 | (apply Blk.at_; simp; done) | apply Blk.alloc | apply Blk.set_ | (apply Blk.far; any_goals (first | (dsimp only; assumption) | (dsimp only; omega))))
    · first | rfl | simp
  · apply Blk.conv
    · repeat (with_reducible first | exact HQ1.out.hdr | (apply Blk.at_; simp; done) | apply Blk.alloc | apply Blk.set_ | (apply Blk.far; any_goals (first | (dsimp only; assumption) | (dsimp only; omega))))
    · first | rfl | simp [dqCells, Dq.put, opCells, nextV]
  · apply Blk.conv
    · repeat (with_reducible first | exact HQ1.out.cel | (apply Blk.at_; simp; done) | apply Blk.alloc | apply Blk.set_ | (apply Blk.far; any_goals (first | (dsimp only; assumption) | (dsimp only; omega))))
    · first | rfl | simp [dqCells, Dq.put, opCells, nextV]
  · apply Blk.conv
    · repeat (with_reducible first | exact HOP2 | (apply Blk.at_; simp; done) | apply Blk.alloc | apply Blk.set_ | (apply Blk.far; any_goals (first | (dsimp only; assumption) | (dsimp only; omega))))
    · first | rfl | simp [dqCells, Dq.put, opCells, nextV]
  · repeat (first | with_reducible exact HQ2.out | with_reducible refine Kp.alloc ?_ _ | (with_reducible refine Kp.setCell ?_ ?_ _; rotate_left; first | exact .inl (.inl rfl) | exact .inl (.inr rfl) | (right; dsimp only; simp; try omega)))
end
end Go.Proofs.Ytdigjppdgiapfaa
