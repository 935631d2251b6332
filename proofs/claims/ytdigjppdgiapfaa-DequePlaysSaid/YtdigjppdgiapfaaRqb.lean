/- Contracts: the document's deque, the steps of its operations. -/
import Derived.Test.YtdigjppdgiapfaaRqa
set_option linter.unusedSimpArgs false
set_option linter.unusedVariables false
namespace Go.Proofs.Ytdigjppdgiapfaa
open Go.RowKit
attribute [local go_sem] block_of_add
attribute [local go_sem ↓] Go.wp_at_zero Go.wp_at_succ

/-- What a step of the document's leaves. -/
structure RStep (w w' : World) (ro rd rc : Nat) (d : Dq) (ow : Int) (r : Rop) (k : Nat) (c : Int) (e : Ending) : Prop where
  e : e = .returned (.agg #[.int .u8 k, .int .i64 c])
  o : RfAt w' ro rd r
  d : RqAt w' rd rc d ow
  k : Kp (fun k => k = rc ∨ k = ro ∨ k = rd) w w'
section
variable (ro rd rc : Nat) (d : Dq) (ow : Int) (r : Rop) (w : World) (hd : RqAt w rd rc d ow) (ho : RfAt w ro rd r)
include hd ho
set_option maxRecDepth 100000 in
set_option maxHeartbeats 1000000 in
theorem push1  :
    Calls Try.prog 28 #[.pointer (some ⟨ro, 0, none⟩), .int .i64 1] w fun e w' => RStep w w' ro rd rc d ow { r with b := d.bot } 1 1 e := by
  have q := Blk.c8 ho
  have h := Blk.c3 hd.hdr
  have lo := Blk.lt ho
  have ld := hd.hdr.lt
  have lc := hd.cel.lt
  have zo := Blk.frozen ho
  have zd := hd.hdr.frozen
  have zc := hd.cel.frozen
  have hne := hd.ne ho
  obtain ⟨n1, n2, n3⟩ := hne
  have m1 := Ne.symm n1
  have m2 := Ne.symm n2
  have m3 := Ne.symm n3
  have loa : ro ≤ w.heap.size := by omega
  have lob : ro < w.heap.size + 1 := by omega
  have loc : ro ≤ w.heap.size + 1 := by omega
  have lod : ro < w.heap.size + 1 + 1 := by omega
  have loe : ro ≤ w.heap.size + 1 + 1 := by omega
  have lof : ro < w.heap.size + 1 + 1 + 1 := by omega
  have lda : rd ≤ w.heap.size := by omega
  have ldb : rd < w.heap.size + 1 := by omega
  have ldc : rd ≤ w.heap.size + 1 := by omega
  have ldd : rd < w.heap.size + 1 + 1 := by omega
  have lde : rd ≤ w.heap.size + 1 + 1 := by omega
  have ldf : rd < w.heap.size + 1 + 1 + 1 := by omega
  have lca : rc ≤ w.heap.size := by omega
  have lcb : rc < w.heap.size + 1 := by omega
  have lcc : rc ≤ w.heap.size + 1 := by omega
  have lcd : rc < w.heap.size + 1 + 1 := by omega
  have lce : rc ≤ w.heap.size + 1 + 1 := by omega
  have lcf : rc < w.heap.size + 1 + 1 + 1 := by omega
  have HB : Hid (Blk w ro 64 (rfCells rd r)) := Lib.hid ho
  have HH := Lib.hid hd.hdr
  have HC := Lib.hid hd.cel
  have zo2 := zo 2
  have zo3 := zo 3
  have zo4 := zo 4
  have zo5 := zo 5
  have zo6 := zo 6
  have zo7 := zo 7
  have zd2 := zd 2
  have zc1 := zc 1
  clear zo zd zc
  clear hd ho
  go_enter Try.func28, Try.ntmps28
  go_wp2_with fail
  refine (load_r ro rd rc d ow r _ ?hd ?ho 1 d.bot (by omega) rfl).mono ?_
  case hd =>
    refine ⟨?_, ?_⟩
    · apply Blk.conv
      · repeat (with_reducible first | exact HH.out | (apply Blk.at_; simp [*]; done) | apply Blk.alloc | apply Blk.drew | apply Blk.drewN | apply Blk.set_ | apply Drawn.blk hd1 | apply Drawn.blk hd2 | apply Drawn.blk hd3 | (apply Blk.far; any_goals (first | (dsimp only; assumption) | (dsimp only; omega) | (simp [*]; done) | (simp; omega))))
      · first | rfl | exact HSET.out | simp [rfCells, rhCells, dqCells, Dq.put, Dq.ix] | (simp [rfCells, rhCells, dqCells, Dq.put, Dq.ix]; omega)
    · apply Blk.conv
      · repeat (with_reducible first | exact HC.out | (apply Blk.at_; simp [*]; done) | apply Blk.alloc | apply Blk.drew | apply Blk.drewN | apply Blk.set_ | apply Drawn.blk hd1 | apply Drawn.blk hd2 | apply Drawn.blk hd3 | (apply Blk.far; any_goals (first | (dsimp only; assumption) | (dsimp only; omega) | (simp [*]; done) | (simp; omega))))
      · first | rfl | exact HSET.out | simp [rfCells, rhCells, dqCells, Dq.put, Dq.ix] | (simp [rfCells, rhCells, dqCells, Dq.put, Dq.ix]; omega)
  case ho =>
    skip
    · apply Blk.conv
      · repeat (with_reducible first | exact HB.out | (apply Blk.at_; simp [*]; done) | apply Blk.alloc | apply Blk.drew | apply Blk.drewN | apply Blk.set_ | apply Drawn.blk hd1 | apply Drawn.blk hd2 | apply Drawn.blk hd3 | (apply Blk.far; any_goals (first | (dsimp only; assumption) | (dsimp only; omega) | (simp [*]; done) | (simp; omega))))
      · first | rfl | exact HSET.out | simp [rfCells, rhCells, dqCells, Dq.put, Dq.ix] | (simp [rfCells, rhCells, dqCells, Dq.put, Dq.ix]; omega)
  rintro e w1 ⟨rfl, hd1⟩
  obtain ⟨c1, f1, s1⟩ := hd1.rules
  go_wp2_with fail
  refine bodyPost_ret (v := .agg #[.int .u8 1, .int .i64 1]) (res_acc Try.results28 rfl ?hbx) rfl ⟨rfl, ?_, ⟨?_, ?_⟩, ?_⟩
  case hbx =>
    · apply Blk.conv
      · repeat (with_reducible first | exact HB.out | (apply Blk.at_; simp [*]; done) | apply Blk.alloc | apply Blk.drew | apply Blk.drewN | apply Blk.set_ | apply Drawn.blk hd1 | apply Drawn.blk hd2 | apply Drawn.blk hd3 | (apply Blk.far; any_goals (first | (dsimp only; assumption) | (dsimp only; omega) | (simp [*]; done) | (simp; omega))))
      · first | rfl | exact HSET.out | simp [rfCells, rhCells, dqCells, Dq.put, Dq.ix] | (simp [rfCells, rhCells, dqCells, Dq.put, Dq.ix]; omega)
  · apply Blk.conv
    · repeat (with_reducible first | exact HB.out | (apply Blk.at_; simp [*]; done) | apply Blk.alloc | apply Blk.drew | apply Blk.drewN | apply Blk.set_ | apply Drawn.blk hd1 | apply Drawn.blk hd2 | apply Drawn.blk hd3 | (apply Blk.far; any_goals (first | (dsimp only; assumption) | (dsimp only; omega) | (simp [*]; done) | (simp; omega))))
    · first | rfl | exact HSET.out | simp [rfCells, rhCells, dqCells, Dq.put, Dq.ix] | (simp [rfCells, rhCells, dqCells, Dq.put, Dq.ix]; omega)
  · apply Blk.conv
    · repeat (with_reducible first | exact HH.out | (apply Blk.at_; simp [*]; done) | apply Blk.alloc | apply Blk.drew | apply Blk.drewN | apply Blk.set_ | apply Drawn.blk hd1 | apply Drawn.blk hd2 | apply Drawn.blk hd3 | (apply Blk.far; any_goals (first | (dsimp only; assumption) | (dsimp only; omega) | (simp [*]; done) | (simp; omega))))
    · first | rfl | exact HSET.out | simp [rfCells, rhCells, dqCells, Dq.put, Dq.ix] | (simp [rfCells, rhCells, dqCells, Dq.put, Dq.ix]; omega)
  · apply Blk.conv
    · repeat (with_reducible first | exact HC.out | (apply Blk.at_; simp [*]; done) | apply Blk.alloc | apply Blk.drew | apply Blk.drewN | apply Blk.set_ | apply Drawn.blk hd1 | apply Drawn.blk hd2 | apply Drawn.blk hd3 | (apply Blk.far; any_goals (first | (dsimp only; assumption) | (dsimp only; omega) | (simp [*]; done) | (simp; omega))))
    · first | rfl | exact HSET.out | simp [rfCells, rhCells, dqCells, Dq.put, Dq.ix] | (simp [rfCells, rhCells, dqCells, Dq.put, Dq.ix]; omega)
  · repeat (first | with_reducible exact Kp.refl _ _ | with_reducible refine Kp.alloc ?_ _ | with_reducible apply Kp.drew | with_reducible apply Kp.drewN | with_reducible apply Drawn.kp hd1 | with_reducible apply Drawn.kp hd2 | with_reducible apply Drawn.kp hd3 | (with_reducible refine Kp.setCell ?_ ?_ _; rotate_left; first | exact .inl (.inl rfl) | exact .inl (.inr (.inl rfl)) | exact .inl (.inr (.inr rfl)) | (right; dsimp only; simp [*]; try omega)))

set_option maxRecDepth 100000 in
set_option maxHeartbeats 1000000 in
theorem pop3  :
    Calls Try.prog 29 #[.pointer (some ⟨ro, 0, none⟩), .int .i64 3] w fun e w' => RStep w w' ro rd rc d ow { r with t := d.top } 1 0 e := by
  have q := Blk.c8 ho
  have h := Blk.c3 hd.hdr
  have lo := Blk.lt ho
  have ld := hd.hdr.lt
  have lc := hd.cel.lt
  have zo := Blk.frozen ho
  have zd := hd.hdr.frozen
  have zc := hd.cel.frozen
  have hne := hd.ne ho
  obtain ⟨n1, n2, n3⟩ := hne
  have m1 := Ne.symm n1
  have m2 := Ne.symm n2
  have m3 := Ne.symm n3
  have loa : ro ≤ w.heap.size := by omega
  have lob : ro < w.heap.size + 1 := by omega
  have loc : ro ≤ w.heap.size + 1 := by omega
  have lod : ro < w.heap.size + 1 + 1 := by omega
  have loe : ro ≤ w.heap.size + 1 + 1 := by omega
  have lof : ro < w.heap.size + 1 + 1 + 1 := by omega
  have lda : rd ≤ w.heap.size := by omega
  have ldb : rd < w.heap.size + 1 := by omega
  have ldc : rd ≤ w.heap.size + 1 := by omega
  have ldd : rd < w.heap.size + 1 + 1 := by omega
  have lde : rd ≤ w.heap.size + 1 + 1 := by omega
  have ldf : rd < w.heap.size + 1 + 1 + 1 := by omega
  have lca : rc ≤ w.heap.size := by omega
  have lcb : rc < w.heap.size + 1 := by omega
  have lcc : rc ≤ w.heap.size + 1 := by omega
  have lcd : rc < w.heap.size + 1 + 1 := by omega
  have lce : rc ≤ w.heap.size + 1 + 1 := by omega
  have lcf : rc < w.heap.size + 1 + 1 + 1 := by omega
  have HB : Hid (Blk w ro 64 (rfCells rd r)) := Lib.hid ho
  have HH := Lib.hid hd.hdr
  have HC := Lib.hid hd.cel
  have zo2 := zo 2
  have zo3 := zo 3
  have zo4 := zo 4
  have zo5 := zo 5
  have zo6 := zo 6
  have zo7 := zo 7
  have zd2 := zd 2
  have zc1 := zc 1
  clear zo zd zc
  clear hd ho
  go_enter Try.func29, Try.ntmps29
  go_wp2_with fail
  refine (load_r ro rd rc d ow r _ ?hd ?ho 0 d.top (by omega) rfl).mono ?_
  case hd =>
    refine ⟨?_, ?_⟩
    · apply Blk.conv
      · repeat (with_reducible first | exact HH.out | (apply Blk.at_; simp [*]; done) | apply Blk.alloc | apply Blk.drew | apply Blk.drewN | apply Blk.set_ | apply Drawn.blk hd1 | apply Drawn.blk hd2 | apply Drawn.blk hd3 | (apply Blk.far; any_goals (first | (dsimp only; assumption) | (dsimp only; omega) | (simp [*]; done) | (simp; omega))))
      · first | rfl | exact HSET.out | simp [rfCells, rhCells, dqCells, Dq.put, Dq.ix] | (simp [rfCells, rhCells, dqCells, Dq.put, Dq.ix]; omega)
    · apply Blk.conv
      · repeat (with_reducible first | exact HC.out | (apply Blk.at_; simp [*]; done) | apply Blk.alloc | apply Blk.drew | apply Blk.drewN | apply Blk.set_ | apply Drawn.blk hd1 | apply Drawn.blk hd2 | apply Drawn.blk hd3 | (apply Blk.far; any_goals (first | (dsimp only; assumption) | (dsimp only; omega) | (simp [*]; done) | (simp; omega))))
      · first | rfl | exact HSET.out | simp [rfCells, rhCells, dqCells, Dq.put, Dq.ix] | (simp [rfCells, rhCells, dqCells, Dq.put, Dq.ix]; omega)
  case ho =>
    skip
    · apply Blk.conv
      · repeat (with_reducible first | exact HB.out | (apply Blk.at_; simp [*]; done) | apply Blk.alloc | apply Blk.drew | apply Blk.drewN | apply Blk.set_ | apply Drawn.blk hd1 | apply Drawn.blk hd2 | apply Drawn.blk hd3 | (apply Blk.far; any_goals (first | (dsimp only; assumption) | (dsimp only; omega) | (simp [*]; done) | (simp; omega))))
      · first | rfl | exact HSET.out | simp [rfCells, rhCells, dqCells, Dq.put, Dq.ix] | (simp [rfCells, rhCells, dqCells, Dq.put, Dq.ix]; omega)
  rintro e w1 ⟨rfl, hd1⟩
  obtain ⟨c1, f1, s1⟩ := hd1.rules
  go_wp2_with fail
  refine bodyPost_ret (v := .agg #[.int .u8 1, .int .i64 0]) (res_acc Try.results29 rfl ?hbx) rfl ⟨rfl, ?_, ⟨?_, ?_⟩, ?_⟩
  case hbx =>
    · apply Blk.conv
      · repeat (with_reducible first | exact HB.out | (apply Blk.at_; simp [*]; done) | apply Blk.alloc | apply Blk.drew | apply Blk.drewN | apply Blk.set_ | apply Drawn.blk hd1 | apply Drawn.blk hd2 | apply Drawn.blk hd3 | (apply Blk.far; any_goals (first | (dsimp only; assumption) | (dsimp only; omega) | (simp [*]; done) | (simp; omega))))
      · first | rfl | exact HSET.out | simp [rfCells, rhCells, dqCells, Dq.put, Dq.ix] | (simp [rfCells, rhCells, dqCells, Dq.put, Dq.ix]; omega)
  · apply Blk.conv
    · repeat (with_reducible first | exact HB.out | (apply Blk.at_; simp [*]; done) | apply Blk.alloc | apply Blk.drew | apply Blk.drewN | apply Blk.set_ | apply Drawn.blk hd1 | apply Drawn.blk hd2 | apply Drawn.blk hd3 | (apply Blk.far; any_goals (first | (dsimp only; assumption) | (dsimp only; omega) | (simp [*]; done) | (simp; omega))))
    · first | rfl | exact HSET.out | simp [rfCells, rhCells, dqCells, Dq.put, Dq.ix] | (simp [rfCells, rhCells, dqCells, Dq.put, Dq.ix]; omega)
  · apply Blk.conv
    · repeat (with_reducible first | exact HH.out | (apply Blk.at_; simp [*]; done) | apply Blk.alloc | apply Blk.drew | apply Blk.drewN | apply Blk.set_ | apply Drawn.blk hd1 | apply Drawn.blk hd2 | apply Drawn.blk hd3 | (apply Blk.far; any_goals (first | (dsimp only; assumption) | (dsimp only; omega) | (simp [*]; done) | (simp; omega))))
    · first | rfl | exact HSET.out | simp [rfCells, rhCells, dqCells, Dq.put, Dq.ix] | (simp [rfCells, rhCells, dqCells, Dq.put, Dq.ix]; omega)
  · apply Blk.conv
    · repeat (with_reducible first | exact HC.out | (apply Blk.at_; simp [*]; done) | apply Blk.alloc | apply Blk.drew | apply Blk.drewN | apply Blk.set_ | apply Drawn.blk hd1 | apply Drawn.blk hd2 | apply Drawn.blk hd3 | (apply Blk.far; any_goals (first | (dsimp only; assumption) | (dsimp only; omega) | (simp [*]; done) | (simp; omega))))
    · first | rfl | exact HSET.out | simp [rfCells, rhCells, dqCells, Dq.put, Dq.ix] | (simp [rfCells, rhCells, dqCells, Dq.put, Dq.ix]; omega)
  · repeat (first | with_reducible exact Kp.refl _ _ | with_reducible refine Kp.alloc ?_ _ | with_reducible apply Kp.drew | with_reducible apply Kp.drewN | with_reducible apply Drawn.kp hd1 | with_reducible apply Drawn.kp hd2 | with_reducible apply Drawn.kp hd3 | (with_reducible refine Kp.setCell ?_ ?_ _; rotate_left; first | exact .inl (.inl rfl) | exact .inl (.inr (.inl rfl)) | exact .inl (.inr (.inr rfl)) | (right; dsimp only; simp [*]; try omega)))

set_option maxRecDepth 100000 in
set_option maxHeartbeats 1000000 in
theorem steal1  :
    Calls Try.prog 30 #[.pointer (some ⟨ro, 0, none⟩), .int .i64 1] w fun e w' => RStep w w' ro rd rc d ow { r with t := d.top } 1 0 e := by
  have q := Blk.c8 ho
  have h := Blk.c3 hd.hdr
  have lo := Blk.lt ho
  have ld := hd.hdr.lt
  have lc := hd.cel.lt
  have zo := Blk.frozen ho
  have zd := hd.hdr.frozen
  have zc := hd.cel.frozen
  have hne := hd.ne ho
  obtain ⟨n1, n2, n3⟩ := hne
  have m1 := Ne.symm n1
  have m2 := Ne.symm n2
  have m3 := Ne.symm n3
  have loa : ro ≤ w.heap.size := by omega
  have lob : ro < w.heap.size + 1 := by omega
  have loc : ro ≤ w.heap.size + 1 := by omega
  have lod : ro < w.heap.size + 1 + 1 := by omega
  have loe : ro ≤ w.heap.size + 1 + 1 := by omega
  have lof : ro < w.heap.size + 1 + 1 + 1 := by omega
  have lda : rd ≤ w.heap.size := by omega
  have ldb : rd < w.heap.size + 1 := by omega
  have ldc : rd ≤ w.heap.size + 1 := by omega
  have ldd : rd < w.heap.size + 1 + 1 := by omega
  have lde : rd ≤ w.heap.size + 1 + 1 := by omega
  have ldf : rd < w.heap.size + 1 + 1 + 1 := by omega
  have lca : rc ≤ w.heap.size := by omega
  have lcb : rc < w.heap.size + 1 := by omega
  have lcc : rc ≤ w.heap.size + 1 := by omega
  have lcd : rc < w.heap.size + 1 + 1 := by omega
  have lce : rc ≤ w.heap.size + 1 + 1 := by omega
  have lcf : rc < w.heap.size + 1 + 1 + 1 := by omega
  have HB : Hid (Blk w ro 64 (rfCells rd r)) := Lib.hid ho
  have HH := Lib.hid hd.hdr
  have HC := Lib.hid hd.cel
  have zo2 := zo 2
  have zo3 := zo 3
  have zo4 := zo 4
  have zo5 := zo 5
  have zo6 := zo 6
  have zo7 := zo 7
  have zd2 := zd 2
  have zc1 := zc 1
  clear zo zd zc
  clear hd ho
  go_enter Try.func30, Try.ntmps30
  go_wp2_with fail
  refine (load_r ro rd rc d ow r _ ?hd ?ho 0 d.top (by omega) rfl).mono ?_
  case hd =>
    refine ⟨?_, ?_⟩
    · apply Blk.conv
      · repeat (with_reducible first | exact HH.out | (apply Blk.at_; simp [*]; done) | apply Blk.alloc | apply Blk.drew | apply Blk.drewN | apply Blk.set_ | apply Drawn.blk hd1 | apply Drawn.blk hd2 | apply Drawn.blk hd3 | (apply Blk.far; any_goals (first | (dsimp only; assumption) | (dsimp only; omega) | (simp [*]; done) | (simp; omega))))
      · first | rfl | exact HSET.out | simp [rfCells, rhCells, dqCells, Dq.put, Dq.ix] | (simp [rfCells, rhCells, dqCells, Dq.put, Dq.ix]; omega)
    · apply Blk.conv
      · repeat (with_reducible first | exact HC.out | (apply Blk.at_; simp [*]; done) | apply Blk.alloc | apply Blk.drew | apply Blk.drewN | apply Blk.set_ | apply Drawn.blk hd1 | apply Drawn.blk hd2 | apply Drawn.blk hd3 | (apply Blk.far; any_goals (first | (dsimp only; assumption) | (dsimp only; omega) | (simp [*]; done) | (simp; omega))))
      · first | rfl | exact HSET.out | simp [rfCells, rhCells, dqCells, Dq.put, Dq.ix] | (simp [rfCells, rhCells, dqCells, Dq.put, Dq.ix]; omega)
  case ho =>
    skip
    · apply Blk.conv
      · repeat (with_reducible first | exact HB.out | (apply Blk.at_; simp [*]; done) | apply Blk.alloc | apply Blk.drew | apply Blk.drewN | apply Blk.set_ | apply Drawn.blk hd1 | apply Drawn.blk hd2 | apply Drawn.blk hd3 | (apply Blk.far; any_goals (first | (dsimp only; assumption) | (dsimp only; omega) | (simp [*]; done) | (simp; omega))))
      · first | rfl | exact HSET.out | simp [rfCells, rhCells, dqCells, Dq.put, Dq.ix] | (simp [rfCells, rhCells, dqCells, Dq.put, Dq.ix]; omega)
  rintro e w1 ⟨rfl, hd1⟩
  obtain ⟨c1, f1, s1⟩ := hd1.rules
  go_wp2_with fail
  refine bodyPost_ret (v := .agg #[.int .u8 1, .int .i64 0]) (res_acc Try.results30 rfl ?hbx) rfl ⟨rfl, ?_, ⟨?_, ?_⟩, ?_⟩
  case hbx =>
    · apply Blk.conv
      · repeat (with_reducible first | exact HB.out | (apply Blk.at_; simp [*]; done) | apply Blk.alloc | apply Blk.drew | apply Blk.drewN | apply Blk.set_ | apply Drawn.blk hd1 | apply Drawn.blk hd2 | apply Drawn.blk hd3 | (apply Blk.far; any_goals (first | (dsimp only; assumption) | (dsimp only; omega) | (simp [*]; done) | (simp; omega))))
      · first | rfl | exact HSET.out | simp [rfCells, rhCells, dqCells, Dq.put, Dq.ix] | (simp [rfCells, rhCells, dqCells, Dq.put, Dq.ix]; omega)
  · apply Blk.conv
    · repeat (with_reducible first | exact HB.out | (apply Blk.at_; simp [*]; done) | apply Blk.alloc | apply Blk.drew | apply Blk.drewN | apply Blk.set_ | apply Drawn.blk hd1 | apply Drawn.blk hd2 | apply Drawn.blk hd3 | (apply Blk.far; any_goals (first | (dsimp only; assumption) | (dsimp only; omega) | (simp [*]; done) | (simp; omega))))
    · first | rfl | exact HSET.out | simp [rfCells, rhCells, dqCells, Dq.put, Dq.ix] | (simp [rfCells, rhCells, dqCells, Dq.put, Dq.ix]; omega)
  · apply Blk.conv
    · repeat (with_reducible first | exact HH.out | (apply Blk.at_; simp [*]; done) | apply Blk.alloc | apply Blk.drew | apply Blk.drewN | apply Blk.set_ | apply Drawn.blk hd1 | apply Drawn.blk hd2 | apply Drawn.blk hd3 | (apply Blk.far; any_goals (first | (dsimp only; assumption) | (dsimp only; omega) | (simp [*]; done) | (simp; omega))))
    · first | rfl | exact HSET.out | simp [rfCells, rhCells, dqCells, Dq.put, Dq.ix] | (simp [rfCells, rhCells, dqCells, Dq.put, Dq.ix]; omega)
  · apply Blk.conv
    · repeat (with_reducible first | exact HC.out | (apply Blk.at_; simp [*]; done) | apply Blk.alloc | apply Blk.drew | apply Blk.drewN | apply Blk.set_ | apply Drawn.blk hd1 | apply Drawn.blk hd2 | apply Drawn.blk hd3 | (apply Blk.far; any_goals (first | (dsimp only; assumption) | (dsimp only; omega) | (simp [*]; done) | (simp; omega))))
    · first | rfl | exact HSET.out | simp [rfCells, rhCells, dqCells, Dq.put, Dq.ix] | (simp [rfCells, rhCells, dqCells, Dq.put, Dq.ix]; omega)
  · repeat (first | with_reducible exact Kp.refl _ _ | with_reducible refine Kp.alloc ?_ _ | with_reducible apply Kp.drew | with_reducible apply Kp.drewN | with_reducible apply Drawn.kp hd1 | with_reducible apply Drawn.kp hd2 | with_reducible apply Drawn.kp hd3 | (with_reducible refine Kp.setCell ?_ ?_ _; rotate_left; first | exact .inl (.inl rfl) | exact .inl (.inr (.inl rfl)) | exact .inl (.inr (.inr rfl)) | (right; dsimp only; simp [*]; try omega)))

set_option maxRecDepth 100000 in
set_option maxHeartbeats 1000000 in
theorem push2_go  (b0 : -1000000 ≤ r.b) (b1 : r.b ≤ 1000000)  (t0 : -1000000 ≤ d.top) (t1 : d.top ≤ 1000000) (hf : r.b - d.top < d.sl.length) :
    Calls Try.prog 28 #[.pointer (some ⟨ro, 0, none⟩), .int .i64 2] w fun e w' => RStep w w' ro rd rc d ow { r with t := d.top } 1 0 e := by
  have q := Blk.c8 ho
  have h := Blk.c3 hd.hdr
  have lo := Blk.lt ho
  have ld := hd.hdr.lt
  have lc := hd.cel.lt
  have zo := Blk.frozen ho
  have zd := hd.hdr.frozen
  have zc := hd.cel.frozen
  have hne := hd.ne ho
  obtain ⟨n1, n2, n3⟩ := hne
  have m1 := Ne.symm n1
  have m2 := Ne.symm n2
  have m3 := Ne.symm n3
  have loa : ro ≤ w.heap.size := by omega
  have lob : ro < w.heap.size + 1 := by omega
  have loc : ro ≤ w.heap.size + 1 := by omega
  have lod : ro < w.heap.size + 1 + 1 := by omega
  have loe : ro ≤ w.heap.size + 1 + 1 := by omega
  have lof : ro < w.heap.size + 1 + 1 + 1 := by omega
  have lda : rd ≤ w.heap.size := by omega
  have ldb : rd < w.heap.size + 1 := by omega
  have ldc : rd ≤ w.heap.size + 1 := by omega
  have ldd : rd < w.heap.size + 1 + 1 := by omega
  have lde : rd ≤ w.heap.size + 1 + 1 := by omega
  have ldf : rd < w.heap.size + 1 + 1 + 1 := by omega
  have lca : rc ≤ w.heap.size := by omega
  have lcb : rc < w.heap.size + 1 := by omega
  have lcc : rc ≤ w.heap.size + 1 := by omega
  have lcd : rc < w.heap.size + 1 + 1 := by omega
  have lce : rc ≤ w.heap.size + 1 + 1 := by omega
  have lcf : rc < w.heap.size + 1 + 1 + 1 := by omega
  have HB : Hid (Blk w ro 64 (rfCells rd r)) := Lib.hid ho
  have HH := Lib.hid hd.hdr
  have HC := Lib.hid hd.cel
  have zo2 := zo 2
  have zo3 := zo 3
  have zo4 := zo 4
  have zo5 := zo 5
  have zo6 := zo 6
  have zo7 := zo 7
  have zd2 := zd 2
  have zc1 := zc 1
  clear zo zd zc
  have hw191 : IntKind.i64.wrap (r.b - d.top) = r.b - d.top := IntWalk.i64_in _ ⟨by omega, by omega⟩
  have hdec : decide ((d.sl.length : Int) ≤ r.b - d.top) = false := decide_eq_false (by omega)
  clear hd ho
  go_enter Try.func28, Try.ntmps28
  go_wp2_with fail
  refine (load_r ro rd rc d ow r _ ?hd ?ho 0 d.top (by omega) rfl).mono ?_
  case hd =>
    refine ⟨?_, ?_⟩
    · apply Blk.conv
      · repeat (with_reducible first | exact HH.out | (apply Blk.at_; simp [*]; done) | apply Blk.alloc | apply Blk.drew | apply Blk.drewN | apply Blk.set_ | apply Drawn.blk hd1 | apply Drawn.blk hd2 | apply Drawn.blk hd3 | (apply Blk.far; any_goals (first | (dsimp only; assumption) | (dsimp only; omega) | (simp [*]; done) | (simp; omega))))
      · first | rfl | exact HSET.out | simp [rfCells, rhCells, dqCells, Dq.put, Dq.ix] | (simp [rfCells, rhCells, dqCells, Dq.put, Dq.ix]; omega)
    · apply Blk.conv
      · repeat (with_reducible first | exact HC.out | (apply Blk.at_; simp [*]; done) | apply Blk.alloc | apply Blk.drew | apply Blk.drewN | apply Blk.set_ | apply Drawn.blk hd1 | apply Drawn.blk hd2 | apply Drawn.blk hd3 | (apply Blk.far; any_goals (first | (dsimp only; assumption) | (dsimp only; omega) | (simp [*]; done) | (simp; omega))))
      · first | rfl | exact HSET.out | simp [rfCells, rhCells, dqCells, Dq.put, Dq.ix] | (simp [rfCells, rhCells, dqCells, Dq.put, Dq.ix]; omega)
  case ho =>
    skip
    · apply Blk.conv
      · repeat (with_reducible first | exact HB.out | (apply Blk.at_; simp [*]; done) | apply Blk.alloc | apply Blk.drew | apply Blk.drewN | apply Blk.set_ | apply Drawn.blk hd1 | apply Drawn.blk hd2 | apply Drawn.blk hd3 | (apply Blk.far; any_goals (first | (dsimp only; assumption) | (dsimp only; omega) | (simp [*]; done) | (simp; omega))))
      · first | rfl | exact HSET.out | simp [rfCells, rhCells, dqCells, Dq.put, Dq.ix] | (simp [rfCells, rhCells, dqCells, Dq.put, Dq.ix]; omega)
  rintro e w1 ⟨rfl, hd1⟩
  obtain ⟨c1, f1, s1⟩ := hd1.rules
  go_wp2_with fail
  go_quiet (fail)
  go_wp2_with fail
  refine bodyPost_ret (v := .agg #[.int .u8 1, .int .i64 0]) (res_acc Try.results28 rfl ?hbx) rfl ⟨rfl, ?_, ⟨?_, ?_⟩, ?_⟩
  case hbx =>
    · apply Blk.conv
      · repeat (with_reducible first | exact HB.out | (apply Blk.at_; simp [*]; done) | apply Blk.alloc | apply Blk.drew | apply Blk.drewN | apply Blk.set_ | apply Drawn.blk hd1 | apply Drawn.blk hd2 | apply Drawn.blk hd3 | (apply Blk.far; any_goals (first | (dsimp only; assumption) | (dsimp only; omega) | (simp [*]; done) | (simp; omega))))
      · first | rfl | exact HSET.out | simp [rfCells, rhCells, dqCells, Dq.put, Dq.ix] | (simp [rfCells, rhCells, dqCells, Dq.put, Dq.ix]; omega)
  · apply Blk.conv
    · repeat (with_reducible first | exact HB.out | (apply Blk.at_; simp [*]; done) | apply Blk.alloc | apply Blk.drew | apply Blk.drewN | apply Blk.set_ | apply Drawn.blk hd1 | apply Drawn.blk hd2 | apply Drawn.blk hd3 | (apply Blk.far; any_goals (first | (dsimp only; assumption) | (dsimp only; omega) | (simp [*]; done) | (simp; omega))))
    · first | rfl | exact HSET.out | simp [rfCells, rhCells, dqCells, Dq.put, Dq.ix] | (simp [rfCells, rhCells, dqCells, Dq.put, Dq.ix]; omega)
  · apply Blk.conv
    · repeat (with_reducible first | exact HH.out | (apply Blk.at_; simp [*]; done) | apply Blk.alloc | apply Blk.drew | apply Blk.drewN | apply Blk.set_ | apply Drawn.blk hd1 | apply Drawn.blk hd2 | apply Drawn.blk hd3 | (apply Blk.far; any_goals (first | (dsimp only; assumption) | (dsimp only; omega) | (simp [*]; done) | (simp; omega))))
    · first | rfl | exact HSET.out | simp [rfCells, rhCells, dqCells, Dq.put, Dq.ix] | (simp [rfCells, rhCells, dqCells, Dq.put, Dq.ix]; omega)
  · apply Blk.conv
    · repeat (with_reducible first | exact HC.out | (apply Blk.at_; simp [*]; done) | apply Blk.alloc | apply Blk.drew | apply Blk.drewN | apply Blk.set_ | apply Drawn.blk hd1 | apply Drawn.blk hd2 | apply Drawn.blk hd3 | (apply Blk.far; any_goals (first | (dsimp only; assumption) | (dsimp only; omega) | (simp [*]; done) | (simp; omega))))
    · first | rfl | exact HSET.out | simp [rfCells, rhCells, dqCells, Dq.put, Dq.ix] | (simp [rfCells, rhCells, dqCells, Dq.put, Dq.ix]; omega)
  · repeat (first | with_reducible exact Kp.refl _ _ | with_reducible refine Kp.alloc ?_ _ | with_reducible apply Kp.drew | with_reducible apply Kp.drewN | with_reducible apply Drawn.kp hd1 | with_reducible apply Drawn.kp hd2 | with_reducible apply Drawn.kp hd3 | (with_reducible refine Kp.setCell ?_ ?_ _; rotate_left; first | exact .inl (.inl rfl) | exact .inl (.inr (.inl rfl)) | exact .inl (.inr (.inr rfl)) | (right; dsimp only; simp [*]; try omega)))

set_option maxRecDepth 100000 in
set_option maxHeartbeats 1000000 in
theorem push2_full  (b0 : -1000000 ≤ r.b) (b1 : r.b ≤ 1000000)  (t0 : -1000000 ≤ d.top) (t1 : d.top ≤ 1000000)  (hk : r.K ≤ 1) (o0 : -1000 ≤ ow) (o1 : ow ≤ 1000) (hf : (d.sl.length : Int) ≤ r.b - d.top) :
    Calls Try.prog 28 #[.pointer (some ⟨ro, 0, none⟩), .int .i64 2] w fun e w' => RStep w w' ro rd rc d (ow - 1) { r with t := d.top, nx := 0, how := 5 } 1 0 e := by
  have q := Blk.c8 ho
  have h := Blk.c3 hd.hdr
  have lo := Blk.lt ho
  have ld := hd.hdr.lt
  have lc := hd.cel.lt
  have zo := Blk.frozen ho
  have zd := hd.hdr.frozen
  have zc := hd.cel.frozen
  have hne := hd.ne ho
  obtain ⟨n1, n2, n3⟩ := hne
  have m1 := Ne.symm n1
  have m2 := Ne.symm n2
  have m3 := Ne.symm n3
  have loa : ro ≤ w.heap.size := by omega
  have lob : ro < w.heap.size + 1 := by omega
  have loc : ro ≤ w.heap.size + 1 := by omega
  have lod : ro < w.heap.size + 1 + 1 := by omega
  have loe : ro ≤ w.heap.size + 1 + 1 := by omega
  have lof : ro < w.heap.size + 1 + 1 + 1 := by omega
  have lda : rd ≤ w.heap.size := by omega
  have ldb : rd < w.heap.size + 1 := by omega
  have ldc : rd ≤ w.heap.size + 1 := by omega
  have ldd : rd < w.heap.size + 1 + 1 := by omega
  have lde : rd ≤ w.heap.size + 1 + 1 := by omega
  have ldf : rd < w.heap.size + 1 + 1 + 1 := by omega
  have lca : rc ≤ w.heap.size := by omega
  have lcb : rc < w.heap.size + 1 := by omega
  have lcc : rc ≤ w.heap.size + 1 := by omega
  have lcd : rc < w.heap.size + 1 + 1 := by omega
  have lce : rc ≤ w.heap.size + 1 + 1 := by omega
  have lcf : rc < w.heap.size + 1 + 1 + 1 := by omega
  have HB : Hid (Blk w ro 64 (rfCells rd r)) := Lib.hid ho
  have HH := Lib.hid hd.hdr
  have HC := Lib.hid hd.cel
  have zo2 := zo 2
  have zo3 := zo 3
  have zo4 := zo 4
  have zo5 := zo 5
  have zo6 := zo 6
  have zo7 := zo 7
  have zd2 := zd 2
  have zc1 := zc 1
  clear zo zd zc
  have hw191 : IntKind.i64.wrap (r.b - d.top) = r.b - d.top := IntWalk.i64_in _ ⟨by omega, by omega⟩
  have hdec : decide ((d.sl.length : Int) ≤ r.b - d.top) = true := decide_eq_true (by omega)
  clear hd ho
  go_enter Try.func28, Try.ntmps28
  go_wp2_with fail
  refine (load_r ro rd rc d ow r _ ?hd ?ho 0 d.top (by omega) rfl).mono ?_
  case hd =>
    refine ⟨?_, ?_⟩
    · apply Blk.conv
      · repeat (with_reducible first | exact HH.out | (apply Blk.at_; simp [*]; done) | apply Blk.alloc | apply Blk.drew | apply Blk.drewN | apply Blk.set_ | apply Drawn.blk hd1 | apply Drawn.blk hd2 | apply Drawn.blk hd3 | (apply Blk.far; any_goals (first | (dsimp only; assumption) | (dsimp only; omega) | (simp [*]; done) | (simp; omega))))
      · first | rfl | exact HSET.out | simp [rfCells, rhCells, dqCells, Dq.put, Dq.ix] | (simp [rfCells, rhCells, dqCells, Dq.put, Dq.ix]; omega)
    · apply Blk.conv
      · repeat (with_reducible first | exact HC.out | (apply Blk.at_; simp [*]; done) | apply Blk.alloc | apply Blk.drew | apply Blk.drewN | apply Blk.set_ | apply Drawn.blk hd1 | apply Drawn.blk hd2 | apply Drawn.blk hd3 | (apply Blk.far; any_goals (first | (dsimp only; assumption) | (dsimp only; omega) | (simp [*]; done) | (simp; omega))))
      · first | rfl | exact HSET.out | simp [rfCells, rhCells, dqCells, Dq.put, Dq.ix] | (simp [rfCells, rhCells, dqCells, Dq.put, Dq.ix]; omega)
  case ho =>
    skip
    · apply Blk.conv
      · repeat (with_reducible first | exact HB.out | (apply Blk.at_; simp [*]; done) | apply Blk.alloc | apply Blk.drew | apply Blk.drewN | apply Blk.set_ | apply Drawn.blk hd1 | apply Drawn.blk hd2 | apply Drawn.blk hd3 | (apply Blk.far; any_goals (first | (dsimp only; assumption) | (dsimp only; omega) | (simp [*]; done) | (simp; omega))))
      · first | rfl | exact HSET.out | simp [rfCells, rhCells, dqCells, Dq.put, Dq.ix] | (simp [rfCells, rhCells, dqCells, Dq.put, Dq.ix]; omega)
  rintro e w1 ⟨rfl, hd1⟩
  obtain ⟨c1, f1, s1⟩ := hd1.rules
  go_wp2_with fail
  go_quiet (fail)
  go_wp2_with fail
  refine (ends_own ro rd rc d ow { r with t := d.top } _ ?hd ?ho 5 hk o0 o1).mono ?_
  case hd =>
    refine ⟨?_, ?_⟩
    · apply Blk.conv
      · repeat (with_reducible first | exact HH.out | (apply Blk.at_; simp [*]; done) | apply Blk.alloc | apply Blk.drew | apply Blk.drewN | apply Blk.set_ | apply Drawn.blk hd1 | apply Drawn.blk hd2 | apply Drawn.blk hd3 | (apply Blk.far; any_goals (first | (dsimp only; assumption) | (dsimp only; omega) | (simp [*]; done) | (simp; omega))))
      · first | rfl | exact HSET.out | simp [rfCells, rhCells, dqCells, Dq.put, Dq.ix] | (simp [rfCells, rhCells, dqCells, Dq.put, Dq.ix]; omega)
    · apply Blk.conv
      · repeat (with_reducible first | exact HC.out | (apply Blk.at_; simp [*]; done) | apply Blk.alloc | apply Blk.drew | apply Blk.drewN | apply Blk.set_ | apply Drawn.blk hd1 | apply Drawn.blk hd2 | apply Drawn.blk hd3 | (apply Blk.far; any_goals (first | (dsimp only; assumption) | (dsimp only; omega) | (simp [*]; done) | (simp; omega))))
      · first | rfl | exact HSET.out | simp [rfCells, rhCells, dqCells, Dq.put, Dq.ix] | (simp [rfCells, rhCells, dqCells, Dq.put, Dq.ix]; omega)
  case ho =>
    skip
    · apply Blk.conv
      · repeat (with_reducible first | exact HB.out | (apply Blk.at_; simp [*]; done) | apply Blk.alloc | apply Blk.drew | apply Blk.drewN | apply Blk.set_ | apply Drawn.blk hd1 | apply Drawn.blk hd2 | apply Drawn.blk hd3 | (apply Blk.far; any_goals (first | (dsimp only; assumption) | (dsimp only; omega) | (simp [*]; done) | (simp; omega))))
      · first | rfl | exact HSET.out | simp [rfCells, rhCells, dqCells, Dq.put, Dq.ix] | (simp [rfCells, rhCells, dqCells, Dq.put, Dq.ix]; omega)
  rintro e w2 ⟨rfl, hd2⟩
  obtain ⟨c2, f2, s2⟩ := hd2.rules
  go_wp2_with fail
  refine bodyPost_ret (v := .agg #[.int .u8 1, .int .i64 0]) (res_acc Try.results28 rfl ?hbx) rfl ⟨rfl, ?_, ⟨?_, ?_⟩, ?_⟩
  case hbx =>
    · apply Blk.conv
      · repeat (with_reducible first | exact HB.out | (apply Blk.at_; simp [*]; done) | apply Blk.alloc | apply Blk.drew | apply Blk.drewN | apply Blk.set_ | apply Drawn.blk hd1 | apply Drawn.blk hd2 | apply Drawn.blk hd3 | (apply Blk.far; any_goals (first | (dsimp only; assumption) | (dsimp only; omega) | (simp [*]; done) | (simp; omega))))
      · first | rfl | exact HSET.out | simp [rfCells, rhCells, dqCells, Dq.put, Dq.ix] | (simp [rfCells, rhCells, dqCells, Dq.put, Dq.ix]; omega)
  · apply Blk.conv
    · repeat (with_reducible first | exact HB.out | (apply Blk.at_; simp [*]; done) | apply Blk.alloc | apply Blk.drew | apply Blk.drewN | apply Blk.set_ | apply Drawn.blk hd1 | apply Drawn.blk hd2 | apply Drawn.blk hd3 | (apply Blk.far; any_goals (first | (dsimp only; assumption) | (dsimp only; omega) | (simp [*]; done) | (simp; omega))))
    · first | rfl | exact HSET.out | simp [rfCells, rhCells, dqCells, Dq.put, Dq.ix] | (simp [rfCells, rhCells, dqCells, Dq.put, Dq.ix]; omega)
  · apply Blk.conv
    · repeat (with_reducible first | exact HH.out | (apply Blk.at_; simp [*]; done) | apply Blk.alloc | apply Blk.drew | apply Blk.drewN | apply Blk.set_ | apply Drawn.blk hd1 | apply Drawn.blk hd2 | apply Drawn.blk hd3 | (apply Blk.far; any_goals (first | (dsimp only; assumption) | (dsimp only; omega) | (simp [*]; done) | (simp; omega))))
    · first | rfl | exact HSET.out | simp [rfCells, rhCells, dqCells, Dq.put, Dq.ix] | (simp [rfCells, rhCells, dqCells, Dq.put, Dq.ix]; omega)
  · apply Blk.conv
    · repeat (with_reducible first | exact HC.out | (apply Blk.at_; simp [*]; done) | apply Blk.alloc | apply Blk.drew | apply Blk.drewN | apply Blk.set_ | apply Drawn.blk hd1 | apply Drawn.blk hd2 | apply Drawn.blk hd3 | (apply Blk.far; any_goals (first | (dsimp only; assumption) | (dsimp only; omega) | (simp [*]; done) | (simp; omega))))
    · first | rfl | exact HSET.out | simp [rfCells, rhCells, dqCells, Dq.put, Dq.ix] | (simp [rfCells, rhCells, dqCells, Dq.put, Dq.ix]; omega)
  · repeat (first | with_reducible exact Kp.refl _ _ | with_reducible refine Kp.alloc ?_ _ | with_reducible apply Kp.drew | with_reducible apply Kp.drewN | with_reducible apply Drawn.kp hd1 | with_reducible apply Drawn.kp hd2 | with_reducible apply Drawn.kp hd3 | (with_reducible refine Kp.setCell ?_ ?_ _; rotate_left; first | exact .inl (.inl rfl) | exact .inl (.inr (.inl rfl)) | exact .inl (.inr (.inr rfl)) | (right; dsimp only; simp [*]; try omega)))

set_option maxRecDepth 100000 in
set_option maxHeartbeats 1000000 in
theorem push3 (hb0 : 0 ≤ r.b) (hn : 0 < d.sl.length) (hl : d.sl.length ≤ 1000000) :
    Calls Try.prog 28 #[.pointer (some ⟨ro, 0, none⟩), .int .i64 3] w fun e w' => RStep w w' ro rd rc (d.put r.b r.x) ow r 2 (2 + (d.ix r.b : Int)) e := by
  have q := Blk.c8 ho
  have h := Blk.c3 hd.hdr
  have lo := Blk.lt ho
  have ld := hd.hdr.lt
  have lc := hd.cel.lt
  have zo := Blk.frozen ho
  have zd := hd.hdr.frozen
  have zc := hd.cel.frozen
  have hne := hd.ne ho
  obtain ⟨n1, n2, n3⟩ := hne
  have m1 := Ne.symm n1
  have m2 := Ne.symm n2
  have m3 := Ne.symm n3
  have loa : ro ≤ w.heap.size := by omega
  have lob : ro < w.heap.size + 1 := by omega
  have loc : ro ≤ w.heap.size + 1 := by omega
  have lod : ro < w.heap.size + 1 + 1 := by omega
  have loe : ro ≤ w.heap.size + 1 + 1 := by omega
  have lof : ro < w.heap.size + 1 + 1 + 1 := by omega
  have lda : rd ≤ w.heap.size := by omega
  have ldb : rd < w.heap.size + 1 := by omega
  have ldc : rd ≤ w.heap.size + 1 := by omega
  have ldd : rd < w.heap.size + 1 + 1 := by omega
  have lde : rd ≤ w.heap.size + 1 + 1 := by omega
  have ldf : rd < w.heap.size + 1 + 1 + 1 := by omega
  have lca : rc ≤ w.heap.size := by omega
  have lcb : rc < w.heap.size + 1 := by omega
  have lcc : rc ≤ w.heap.size + 1 := by omega
  have lcd : rc < w.heap.size + 1 + 1 := by omega
  have lce : rc ≤ w.heap.size + 1 + 1 := by omega
  have lcf : rc < w.heap.size + 1 + 1 + 1 := by omega
  have HB : Hid (Blk w ro 64 (rfCells rd r)) := Lib.hid ho
  have HH := Lib.hid hd.hdr
  have HC := Lib.hid hd.cel
  obtain ⟨m, hm⟩ : ∃ m, m = 2 + d.ix r.b := ⟨_, rfl⟩
  have hix2 : 2 + (d.ix r.b : Int) = (m : Int) := by omega
  have hm3 : m < 2 + d.sl.length := by have := ix_lt d.sl hn r.b; unfold Dq.ix at hm; omega
  have hm4 := Lib.hid (show (dqCells d)[m]? = some (.int .i64 (d.at_ r.b)) by rw [hm]; exact dq_slot d hn _)
  have hmi : (m : Int) < 2 + (d.sl.length : Int) := by omega
  have hmc : m ≠ 0 := by omega
  have zcm := zc m
  have hmm := hd.cel.get m (v := .int .i64 (d.at_ r.b)) (by simpa using hm4.out)
  have HSET := Lib.hid (show (dqCells d).toArray.setIfInBounds m (.int .i64 r.x) = (dqCells (d.put r.b r.x)).toArray by rw [hm]; simp [dqCells, Dq.put, Dq.ix, Nat.add_comm 2])
  clear hm
  have zo2 := zo 2
  have zo3 := zo 3
  have zo4 := zo 4
  have zo5 := zo 5
  have zo6 := zo 6
  have zo7 := zo 7
  have zd2 := zd 2
  have zc1 := zc 1
  clear zo zd zc
  have HI := Lib.hid hix2
  clear hix2
  clear hd ho
  go_enter Try.func28, Try.ntmps28
  go_wp2_with fail
  refine wp_region_held_drew (S := fun W => W.cell? ⟨ro, 3, none⟩ = some (.int .i64 r.b) ∧ W.cell? ⟨ro, 5, none⟩ = some (.int .i64 r.x)) (by kernel_rfl) ⟨by simp [*, go_sem], by simp [*, go_sem]⟩ (fun hS => ?_)
  refine wpAnyH_take (i := 0) (v := ?_) rfl (by kernel_rfl) (by kernel_rfl) (by kernel_rfl) (fun _ _ _ h => h) (Or.inl ⟨by rfl, ?_⟩) hS ?_
  rotate_left
  · intro W' hS'
    go_simp
    rfl
  try simp only [Act.put, List.setIfInBounds_toArray, List.set_cons_zero, List.set_cons_succ, List.getElem_toArray, List.getElem_cons_zero, List.getElem_cons_succ]
  refine wpAnyH_take (i := 1) (v := ?_) rfl (by kernel_rfl) (by kernel_rfl) (by kernel_rfl) (fun _ _ _ h => h) (Or.inl ⟨by rfl, ?_⟩) hS ?_
  rotate_left
  · intro W' hS'
    go_simp
    rfl
  try simp only [Act.put, List.setIfInBounds_toArray, List.set_cons_zero, List.set_cons_succ, List.getElem_toArray, List.getElem_cons_zero, List.getElem_cons_succ]
  refine wpAnyH_take (i := 2) (v := ?_) rfl (by kernel_rfl) (by kernel_rfl) (by kernel_rfl) (fun _ _ _ h => h) (Or.inl ⟨by rfl, ?_⟩) hS ?_
  rotate_left
  · intro W' hS'
    go_simp
    rfl
  try simp only [Act.put, List.setIfInBounds_toArray, List.set_cons_zero, List.set_cons_succ, List.getElem_toArray, List.getElem_cons_zero, List.getElem_cons_succ]
  refine wpAnyH_take (i := 3) (v := ?_) rfl (by kernel_rfl) (by kernel_rfl) (by kernel_rfl) (fun _ _ _ h => h) (Or.inl ⟨by rfl, ?_⟩) hS ?_
  rotate_left
  · intro W' hS'
    go_simp
    rfl
  try simp only [Act.put, List.setIfInBounds_toArray, List.set_cons_zero, List.set_cons_succ, List.getElem_toArray, List.getElem_cons_zero, List.getElem_cons_succ]
  refine wpAnyH_take (i := 4) (v := ?_) rfl (by kernel_rfl) (by kernel_rfl) (by kernel_rfl) (fun _ _ _ h => h) (Or.inl ⟨by rfl, ?_⟩) hS ?_
  rotate_left
  · intro W' hS'
    go_simp
    rfl
  try simp only [Act.put, List.setIfInBounds_toArray, List.set_cons_zero, List.set_cons_succ, List.getElem_toArray, List.getElem_cons_zero, List.getElem_cons_succ]
  refine wpAnyH_take (i := 5) (v := ?_) rfl (by kernel_rfl) (by kernel_rfl) (by kernel_rfl) (fun _ _ _ h => h) (Or.inl ⟨by rfl, ?_⟩) hS ?_
  rotate_left
  · intro W' hS'
    go_simp
    rfl
  try simp only [Act.put, List.setIfInBounds_toArray, List.set_cons_zero, List.set_cons_succ, List.getElem_toArray, List.getElem_cons_zero, List.getElem_cons_succ]
  refine wpAnyH_take (i := 7) (v := ?_) rfl (by kernel_rfl) (by kernel_rfl) (by kernel_rfl) (fun _ _ _ h => h) (Or.inl ⟨by rfl, ?_⟩) hS ?_
  rotate_left
  · intro W' hS'
    go_simp
    rfl
  try simp only [Act.put, List.setIfInBounds_toArray, List.set_cons_zero, List.set_cons_succ, List.getElem_toArray, List.getElem_cons_zero, List.getElem_cons_succ]
  refine wpAnyH_take (i := 8) (v := ?_) rfl (by kernel_rfl) (by kernel_rfl) (by kernel_rfl) (fun _ _ _ h => h) (Or.inl ⟨by rfl, ?_⟩) hS ?_
  rotate_left
  · intro W' hS'
    go_simp
    rfl
  try simp only [Act.put, List.setIfInBounds_toArray, List.set_cons_zero, List.set_cons_succ, List.getElem_toArray, List.getElem_cons_zero, List.getElem_cons_succ]
  refine wpAnyH_take (i := 9) (v := ?_) rfl (by kernel_rfl) (by kernel_rfl) (by kernel_rfl) (fun _ _ _ h => h) (Or.inl ⟨by rfl, ?_⟩) hS ?_
  rotate_left
  · intro W' hS'
    go_simp
    rfl
  try simp only [Act.put, List.setIfInBounds_toArray, List.set_cons_zero, List.set_cons_succ, List.getElem_toArray, List.getElem_cons_zero, List.getElem_cons_succ]
  refine wpAnyH_take (i := 10) (v := ?_) rfl (by kernel_rfl) (by kernel_rfl) (by kernel_rfl) (fun _ _ _ h => h) (Or.inl ⟨by rfl, ?_⟩) hS ?_
  rotate_left
  · intro W' hS'
    go_simp
    rfl
  try simp only [Act.put, List.setIfInBounds_toArray, List.set_cons_zero, List.set_cons_succ, List.getElem_toArray, List.getElem_cons_zero, List.getElem_cons_succ]
  refine wpAnyH_ready (rs := [6]) (by kernel_rfl) (by simp) (AllReadyH.cons rfl (fun K hK => ?_) AllReadyH.nil)
  go_simp
  refine (slot_r ro rd rc d ow r _ ?hd ?ho r.b hb0 hn hl).mono ?_
  case hd =>
    refine ⟨?_, ?_⟩
    · apply Blk.conv
      · repeat (with_reducible first | exact HH.out | (apply Blk.at_; simp [*]; done) | apply Blk.alloc | apply Blk.drew | apply Blk.drewN | apply Blk.set_ | apply Drawn.blk hd1 | apply Drawn.blk hd2 | apply Drawn.blk hd3 | (apply Blk.far; any_goals (first | (dsimp only; assumption) | (dsimp only; omega) | (simp [*]; done) | (simp; omega))))
      · first | rfl | exact HSET.out | simp [rfCells, rhCells, dqCells, Dq.put, Dq.ix] | (simp [rfCells, rhCells, dqCells, Dq.put, Dq.ix]; omega)
    · apply Blk.conv
      · repeat (with_reducible first | exact HC.out | (apply Blk.at_; simp [*]; done) | apply Blk.alloc | apply Blk.drew | apply Blk.drewN | apply Blk.set_ | apply Drawn.blk hd1 | apply Drawn.blk hd2 | apply Drawn.blk hd3 | (apply Blk.far; any_goals (first | (dsimp only; assumption) | (dsimp only; omega) | (simp [*]; done) | (simp; omega))))
      · first | rfl | exact HSET.out | simp [rfCells, rhCells, dqCells, Dq.put, Dq.ix] | (simp [rfCells, rhCells, dqCells, Dq.put, Dq.ix]; omega)
  case ho =>
    skip
    · apply Blk.conv
      · repeat (with_reducible first | exact HB.out | (apply Blk.at_; simp [*]; done) | apply Blk.alloc | apply Blk.drew | apply Blk.drewN | apply Blk.set_ | apply Drawn.blk hd1 | apply Drawn.blk hd2 | apply Drawn.blk hd3 | (apply Blk.far; any_goals (first | (dsimp only; assumption) | (dsimp only; omega) | (simp [*]; done) | (simp; omega))))
      · first | rfl | exact HSET.out | simp [rfCells, rhCells, dqCells, Dq.put, Dq.ix] | (simp [rfCells, rhCells, dqCells, Dq.put, Dq.ix]; omega)
  rintro e w1 ⟨rfl, rfl⟩
  refine hK.out _ _ hS (fun hS => ?_)
  try simp only [Act.put, List.setIfInBounds_toArray, List.set_cons_zero, List.set_cons_succ, List.getElem_toArray, List.getElem_cons_zero, List.getElem_cons_succ]
  clear hK
  refine wpAnyH_ready (rs := [11]) (by kernel_rfl) (by simp) (AllReadyH.cons rfl (fun K hK => ?_) AllReadyH.nil)
  go_simp
  rw [HI.out]
  refine (store_r ro rd rc d ow r _ ?hd ?ho m r.x (.int .i64 (d.at_ r.b)) hm3 hm4.out).mono ?_
  case hd =>
    refine ⟨?_, ?_⟩
    · apply Blk.conv
      · repeat (with_reducible first | exact HH.out | (apply Blk.at_; simp [*]; done) | apply Blk.alloc | apply Blk.drew | apply Blk.drewN | apply Blk.set_ | apply Drawn.blk hd1 | apply Drawn.blk hd2 | apply Drawn.blk hd3 | (apply Blk.far; any_goals (first | (dsimp only; assumption) | (dsimp only; omega) | (simp [*]; done) | (simp; omega))))
      · first | rfl | exact HSET.out | simp [rfCells, rhCells, dqCells, Dq.put, Dq.ix] | (simp [rfCells, rhCells, dqCells, Dq.put, Dq.ix]; omega)
    · apply Blk.conv
      · repeat (with_reducible first | exact HC.out | (apply Blk.at_; simp [*]; done) | apply Blk.alloc | apply Blk.drew | apply Blk.drewN | apply Blk.set_ | apply Drawn.blk hd1 | apply Drawn.blk hd2 | apply Drawn.blk hd3 | (apply Blk.far; any_goals (first | (dsimp only; assumption) | (dsimp only; omega) | (simp [*]; done) | (simp; omega))))
      · first | rfl | exact HSET.out | simp [rfCells, rhCells, dqCells, Dq.put, Dq.ix] | (simp [rfCells, rhCells, dqCells, Dq.put, Dq.ix]; omega)
  case ho =>
    skip
    · apply Blk.conv
      · repeat (with_reducible first | exact HB.out | (apply Blk.at_; simp [*]; done) | apply Blk.alloc | apply Blk.drew | apply Blk.drewN | apply Blk.set_ | apply Drawn.blk hd1 | apply Drawn.blk hd2 | apply Drawn.blk hd3 | (apply Blk.far; any_goals (first | (dsimp only; assumption) | (dsimp only; omega) | (simp [*]; done) | (simp; omega))))
      · first | rfl | exact HSET.out | simp [rfCells, rhCells, dqCells, Dq.put, Dq.ix] | (simp [rfCells, rhCells, dqCells, Dq.put, Dq.ix]; omega)
  rintro e w1 ⟨rfl, hd1⟩
  obtain ⟨c1, f1, s1⟩ := hd1.rules
  refine hK.out _ _ ⟨by simp [*, go_sem], by simp [*, go_sem]⟩ (fun hS => ?_)
  try simp only [Act.put, List.setIfInBounds_toArray, List.set_cons_zero, List.set_cons_succ, List.getElem_toArray, List.getElem_cons_zero, List.getElem_cons_succ]
  clear hK
  refine wpAnyH_ready (rs := [12]) (by kernel_rfl) (by simp) (AllReadyH.cons rfl (fun K hK => ?_) AllReadyH.nil)
  go_simp
  refine hK.out _ _ ⟨by simp [*, go_sem], by simp [*, go_sem]⟩ (fun hS => ?_)
  try simp only [Act.put, List.setIfInBounds_toArray, List.set_cons_zero, List.set_cons_succ, List.getElem_toArray, List.getElem_cons_zero, List.getElem_cons_succ]
  clear hK
  refine wpAnyH_done (by kernel_rfl) ?_ _
  clear hS
  go_wp2_with fail
  rw [HI.out]
  refine bodyPost_ret (v := .agg #[.int .u8 2, .int .i64 m]) (res_acc Try.results28 rfl ?hbx) rfl ⟨rfl, ?_, ⟨?_, ?_⟩, ?_⟩
  case hbx =>
    · apply Blk.conv
      · repeat (with_reducible first | exact HB.out | (apply Blk.at_; simp [*]; done) | apply Blk.alloc | apply Blk.drew | apply Blk.drewN | apply Blk.set_ | apply Drawn.blk hd1 | apply Drawn.blk hd2 | apply Drawn.blk hd3 | (apply Blk.far; any_goals (first | (dsimp only; assumption) | (dsimp only; omega) | (simp [*]; done) | (simp; omega))))
      · first | rfl | exact HSET.out | simp [rfCells, rhCells, dqCells, Dq.put, Dq.ix] | (simp [rfCells, rhCells, dqCells, Dq.put, Dq.ix]; omega)
  · apply Blk.conv
    · repeat (with_reducible first | exact HB.out | (apply Blk.at_; simp [*]; done) | apply Blk.alloc | apply Blk.drew | apply Blk.drewN | apply Blk.set_ | apply Drawn.blk hd1 | apply Drawn.blk hd2 | apply Drawn.blk hd3 | (apply Blk.far; any_goals (first | (dsimp only; assumption) | (dsimp only; omega) | (simp [*]; done) | (simp; omega))))
    · first | rfl | exact HSET.out | simp [rfCells, rhCells, dqCells, Dq.put, Dq.ix] | (simp [rfCells, rhCells, dqCells, Dq.put, Dq.ix]; omega)
  · apply Blk.conv
    · repeat (with_reducible first | exact HH.out | (apply Blk.at_; simp [*]; done) | apply Blk.alloc | apply Blk.drew | apply Blk.drewN | apply Blk.set_ | apply Drawn.blk hd1 | apply Drawn.blk hd2 | apply Drawn.blk hd3 | (apply Blk.far; any_goals (first | (dsimp only; assumption) | (dsimp only; omega) | (simp [*]; done) | (simp; omega))))
    · first | rfl | exact HSET.out | simp [rfCells, rhCells, dqCells, Dq.put, Dq.ix] | (simp [rfCells, rhCells, dqCells, Dq.put, Dq.ix]; omega)
  · apply Blk.conv
    · repeat (with_reducible first | exact HC.out | (apply Blk.at_; simp [*]; done) | apply Blk.alloc | apply Blk.drew | apply Blk.drewN | apply Blk.set_ | apply Drawn.blk hd1 | apply Drawn.blk hd2 | apply Drawn.blk hd3 | (apply Blk.far; any_goals (first | (dsimp only; assumption) | (dsimp only; omega) | (simp [*]; done) | (simp; omega))))
    · first | rfl | exact HSET.out | simp [rfCells, rhCells, dqCells, Dq.put, Dq.ix] | (simp [rfCells, rhCells, dqCells, Dq.put, Dq.ix]; omega)
  · repeat (first | with_reducible exact Kp.refl _ _ | with_reducible refine Kp.alloc ?_ _ | with_reducible apply Kp.drew | with_reducible apply Kp.drewN | with_reducible apply Drawn.kp hd1 | with_reducible apply Drawn.kp hd2 | with_reducible apply Drawn.kp hd3 | (with_reducible refine Kp.setCell ?_ ?_ _; rotate_left; first | exact .inl (.inl rfl) | exact .inl (.inr (.inl rfl)) | exact .inl (.inr (.inr rfl)) | (right; dsimp only; simp [*]; try omega)))

end
end Go.Proofs.Ytdigjppdgiapfaa
