/- Contracts: the document's deque, a step of whatever operation. -/
import Derived.Test.YtdigjppdgiapfaaRqc
import Derived.Test.YtdigjppdgiapfaaRqd
import Derived.Test.YtdigjppdgiapfaaRqe
set_option linter.unusedSimpArgs false
set_option linter.unusedVariables false
namespace Go.Proofs.Ytdigjppdgiapfaa
open Go.RowKit
attribute [local go_sem] block_of_add
attribute [local go_sem ↓] Go.wp_at_zero Go.wp_at_succ

def off : Nat → Nat | 0 => 0 | 1 => 4 | _ => 10
def robj (K : Nat) (o : Dop) (won : Bool) : Rop := ⟨K, if o.pc = 0 then 0 else o.pc - off K, o.b, o.t, o.x, won, o.how⟩
/-- The document's operation stands as o does. -/
structure RoAt (w : World) (ro rd K : Nat) (o : Dop) : Prop where
  ex : ∃ won, (o.pc = 10 → won = o.sw) ∧ RfAt w ro rd (robj K o won)
  kd : (K ≤ 2 ∧ o.pc = 0) ∨ (K = 0 ∧ 1 ≤ o.pc ∧ o.pc ≤ 4) ∨ (K = 1 ∧ 5 ≤ o.pc ∧ o.pc ≤ 10) ∨ (K = 2 ∧ 11 ≤ o.pc ∧ o.pc ≤ 14)
theorem RoAt.kp {w w' : World} {bad : Nat → Prop} {ro rd K : Nat} {o : Dop} (h : RoAt w ro rd K o) (hk : Kp bad w w') (h1 : ¬ bad ro) : RoAt w' ro rd K o :=
  ⟨by obtain ⟨⟨won, h2, h3⟩, _⟩ := h; exact ⟨won, h2, Blk.kp h3 hk h1⟩, h.kd⟩
set_option maxRecDepth 100000 in
set_option maxHeartbeats 1000000 in
theorem step_k0 (ro rd rc : Nat) (d : Dq) (ow : Int) (r : Rop) (w : World) (hd : RqAt w rd rc d ow) (ho : RfAt w ro rd r) (n : Nat) (hK : r.K = 0) (hn : r.nx = n) (h1 : 1 ≤ n) (h2 : n ≤ 10) {d' : Dq} {ow' : Int} {r' : Rop} {k : Nat} {c : Int}
    (H : ∀ W, RqAt W rd rc d ow → RfAt W ro rd { r with nx := n + 1 } → Calls Try.prog 28 #[.pointer (some ⟨ro, 0, none⟩), .int .i64 n] W fun e w' => RStep W w' ro rd rc d' ow' r' k c e) :
    Calls Try.prog 16 #[.pointer (some ⟨ro, 0, none⟩)] w fun e w' => RStep w w' ro rd rc d' ow' r' k c e := by
  have q0 : w.cell? ⟨ro, 2, none⟩ = some (.int .i64 n) := by have := Blk.get ho 2 (v := .int .i64 r.nx) rfl; rw [hn] at this; exact this
  have q1 : w.cell? ⟨ro, 1, none⟩ = some (.int .i64 0) := by have := Blk.get ho 1 (v := .int .i64 r.K) rfl; rw [hK] at this; exact this
  have zo2 := Blk.frozen ho 2
  have lo := Blk.lt ho
  have e0 : ((n : Int) == 0) = false := by simp; omega
  have hw : IntKind.i64.wrap ((n : Int) + 1) = (n : Int) + 1 := IntWalk.i64_in _ ⟨by omega, by omega⟩
  have ew : (n : Int) + 1 = ((n + 1 : Nat) : Int) := by omega
  have HB : Hid (RfAt w ro rd r) := Lib.hid ho
  have HH := Lib.hid hd
  have HF := Lib.hid H
  have HN := Lib.hid hn
  have HE := Lib.hid ew
  have HNE := Lib.hid (hd.ne ho)
  clear hd ho hK hn H ew
  go_enter Try.func16, Try.ntmps16
  go_wp2_with fail
  obtain ⟨n1, n2, n3⟩ := HNE.out
  refine (HF.out _ ?hd ?ho).mono ?_
  case hd => exact ⟨(HH.out.hdr.far (p := ⟨ro, 2, none⟩) (Ne.symm n1) _).alloc _, (HH.out.cel.far (p := ⟨ro, 2, none⟩) (Ne.symm n2) _).alloc _⟩
  case ho => exact (Blk.conv ((Blk.set_ HB.out 2 _).alloc _) (by simp [rfCells]))
  intro e w1 hst
  obtain ⟨rfl, hr1, hd1, hk1⟩ := hst
  have n9 : w.heap.size ≠ ro := by omega
  have bx : Blk w1 w.heap.size 44 #[.int .u8 0, .int .i64 0] := Blk.kp (Blk.at_ _ _ _ (by simp)) hk1 (by
    have := HH.out.hdr.lt
    have := HH.out.cel.lt
    omega)
  have b0 := bx.c2
  have b1 := bx.frozen 0
  have b2 := bx.frozen 1
  have lb := bx.lt
  have HR := Lib.hid hr1
  have HD := Lib.hid hd1
  have HK := Lib.hid hk1
  have BX := Lib.hid bx
  clear hr1 hd1 hk1 bx
  go_wp2_with fail
  have m1 : ro ≠ w.heap.size := Ne.symm n9
  have m2 : rd ≠ w.heap.size := Nat.ne_of_lt HH.out.hdr.lt
  have m3 : rc ≠ w.heap.size := Nat.ne_of_lt HH.out.cel.lt
  refine bodyPost_ret (v := .agg #[.int .u8 k, .int .i64 c]) (res_acc Try.results16 rfl (Blk.conv ((BX.out.set_ 0 _).set_ 1 _) rfl)) rfl ⟨rfl, ?_, ⟨?_, ?_⟩, ?_⟩
  · exact (Blk.far HR.out (p := ⟨w.heap.size, 0, none⟩) m1 _).far (p := ⟨w.heap.size, 1, none⟩) m1 _
  · exact (HD.out.hdr.far (p := ⟨w.heap.size, 0, none⟩) m2 _).far (p := ⟨w.heap.size, 1, none⟩) m2 _
  · exact (HD.out.cel.far (p := ⟨w.heap.size, 0, none⟩) m3 _).far (p := ⟨w.heap.size, 1, none⟩) m3 _
  · refine Kp.setCell (Kp.setCell (Kp.trans (Kp.alloc (Kp.setCell (Kp.refl _ w) (p := ⟨ro, 2, none⟩) (.inl (.inr (.inl rfl))) _) _) HK.out) (p := ⟨w.heap.size, 0, none⟩) (.inr (Nat.le_refl _)) _) (p := ⟨w.heap.size, 1, none⟩) (.inr (Nat.le_refl _)) _
set_option maxRecDepth 100000 in
set_option maxHeartbeats 1000000 in
theorem step_k1 (ro rd rc : Nat) (d : Dq) (ow : Int) (r : Rop) (w : World) (hd : RqAt w rd rc d ow) (ho : RfAt w ro rd r) (n : Nat) (hK : r.K = 1) (hn : r.nx = n) (h1 : 1 ≤ n) (h2 : n ≤ 10) {d' : Dq} {ow' : Int} {r' : Rop} {k : Nat} {c : Int}
    (H : ∀ W, RqAt W rd rc d ow → RfAt W ro rd { r with nx := n + 1 } → Calls Try.prog 29 #[.pointer (some ⟨ro, 0, none⟩), .int .i64 n] W fun e w' => RStep W w' ro rd rc d' ow' r' k c e) :
    Calls Try.prog 16 #[.pointer (some ⟨ro, 0, none⟩)] w fun e w' => RStep w w' ro rd rc d' ow' r' k c e := by
  have q0 : w.cell? ⟨ro, 2, none⟩ = some (.int .i64 n) := by have := Blk.get ho 2 (v := .int .i64 r.nx) rfl; rw [hn] at this; exact this
  have q1 : w.cell? ⟨ro, 1, none⟩ = some (.int .i64 1) := by have := Blk.get ho 1 (v := .int .i64 r.K) rfl; rw [hK] at this; exact this
  have zo2 := Blk.frozen ho 2
  have lo := Blk.lt ho
  have e0 : ((n : Int) == 0) = false := by simp; omega
  have hw : IntKind.i64.wrap ((n : Int) + 1) = (n : Int) + 1 := IntWalk.i64_in _ ⟨by omega, by omega⟩
  have ew : (n : Int) + 1 = ((n + 1 : Nat) : Int) := by omega
  have HB : Hid (RfAt w ro rd r) := Lib.hid ho
  have HH := Lib.hid hd
  have HF := Lib.hid H
  have HN := Lib.hid hn
  have HE := Lib.hid ew
  have HNE := Lib.hid (hd.ne ho)
  clear hd ho hK hn H ew
  go_enter Try.func16, Try.ntmps16
  go_wp2_with fail
  obtain ⟨n1, n2, n3⟩ := HNE.out
  refine (HF.out _ ?hd ?ho).mono ?_
  case hd => exact ⟨(HH.out.hdr.far (p := ⟨ro, 2, none⟩) (Ne.symm n1) _).alloc _, (HH.out.cel.far (p := ⟨ro, 2, none⟩) (Ne.symm n2) _).alloc _⟩
  case ho => exact (Blk.conv ((Blk.set_ HB.out 2 _).alloc _) (by simp [rfCells]))
  intro e w1 hst
  obtain ⟨rfl, hr1, hd1, hk1⟩ := hst
  have n9 : w.heap.size ≠ ro := by omega
  have bx : Blk w1 w.heap.size 44 #[.int .u8 0, .int .i64 0] := Blk.kp (Blk.at_ _ _ _ (by simp)) hk1 (by
    have := HH.out.hdr.lt
    have := HH.out.cel.lt
    omega)
  have b0 := bx.c2
  have b1 := bx.frozen 0
  have b2 := bx.frozen 1
  have lb := bx.lt
  have HR := Lib.hid hr1
  have HD := Lib.hid hd1
  have HK := Lib.hid hk1
  have BX := Lib.hid bx
  clear hr1 hd1 hk1 bx
  go_wp2_with fail
  have m1 : ro ≠ w.heap.size := Ne.symm n9
  have m2 : rd ≠ w.heap.size := Nat.ne_of_lt HH.out.hdr.lt
  have m3 : rc ≠ w.heap.size := Nat.ne_of_lt HH.out.cel.lt
  refine bodyPost_ret (v := .agg #[.int .u8 k, .int .i64 c]) (res_acc Try.results16 rfl (Blk.conv ((BX.out.set_ 0 _).set_ 1 _) rfl)) rfl ⟨rfl, ?_, ⟨?_, ?_⟩, ?_⟩
  · exact (Blk.far HR.out (p := ⟨w.heap.size, 0, none⟩) m1 _).far (p := ⟨w.heap.size, 1, none⟩) m1 _
  · exact (HD.out.hdr.far (p := ⟨w.heap.size, 0, none⟩) m2 _).far (p := ⟨w.heap.size, 1, none⟩) m2 _
  · exact (HD.out.cel.far (p := ⟨w.heap.size, 0, none⟩) m3 _).far (p := ⟨w.heap.size, 1, none⟩) m3 _
  · refine Kp.setCell (Kp.setCell (Kp.trans (Kp.alloc (Kp.setCell (Kp.refl _ w) (p := ⟨ro, 2, none⟩) (.inl (.inr (.inl rfl))) _) _) HK.out) (p := ⟨w.heap.size, 0, none⟩) (.inr (Nat.le_refl _)) _) (p := ⟨w.heap.size, 1, none⟩) (.inr (Nat.le_refl _)) _
set_option maxRecDepth 100000 in
set_option maxHeartbeats 1000000 in
theorem step_k2 (ro rd rc : Nat) (d : Dq) (ow : Int) (r : Rop) (w : World) (hd : RqAt w rd rc d ow) (ho : RfAt w ro rd r) (n : Nat) (hK : r.K = 2) (hn : r.nx = n) (h1 : 1 ≤ n) (h2 : n ≤ 10) {d' : Dq} {ow' : Int} {r' : Rop} {k : Nat} {c : Int}
    (H : ∀ W, RqAt W rd rc d ow → RfAt W ro rd { r with nx := n + 1 } → Calls Try.prog 30 #[.pointer (some ⟨ro, 0, none⟩), .int .i64 n] W fun e w' => RStep W w' ro rd rc d' ow' r' k c e) :
    Calls Try.prog 16 #[.pointer (some ⟨ro, 0, none⟩)] w fun e w' => RStep w w' ro rd rc d' ow' r' k c e := by
  have q0 : w.cell? ⟨ro, 2, none⟩ = some (.int .i64 n) := by have := Blk.get ho 2 (v := .int .i64 r.nx) rfl; rw [hn] at this; exact this
  have q1 : w.cell? ⟨ro, 1, none⟩ = some (.int .i64 2) := by have := Blk.get ho 1 (v := .int .i64 r.K) rfl; rw [hK] at this; exact this
  have zo2 := Blk.frozen ho 2
  have lo := Blk.lt ho
  have e0 : ((n : Int) == 0) = false := by simp; omega
  have hw : IntKind.i64.wrap ((n : Int) + 1) = (n : Int) + 1 := IntWalk.i64_in _ ⟨by omega, by omega⟩
  have ew : (n : Int) + 1 = ((n + 1 : Nat) : Int) := by omega
  have HB : Hid (RfAt w ro rd r) := Lib.hid ho
  have HH := Lib.hid hd
  have HF := Lib.hid H
  have HN := Lib.hid hn
  have HE := Lib.hid ew
  have HNE := Lib.hid (hd.ne ho)
  clear hd ho hK hn H ew
  go_enter Try.func16, Try.ntmps16
  go_wp2_with fail
  obtain ⟨n1, n2, n3⟩ := HNE.out
  refine (HF.out _ ?hd ?ho).mono ?_
  case hd => exact ⟨(HH.out.hdr.far (p := ⟨ro, 2, none⟩) (Ne.symm n1) _).alloc _, (HH.out.cel.far (p := ⟨ro, 2, none⟩) (Ne.symm n2) _).alloc _⟩
  case ho => exact (Blk.conv ((Blk.set_ HB.out 2 _).alloc _) (by simp [rfCells]))
  intro e w1 hst
  obtain ⟨rfl, hr1, hd1, hk1⟩ := hst
  have n9 : w.heap.size ≠ ro := by omega
  have bx : Blk w1 w.heap.size 44 #[.int .u8 0, .int .i64 0] := Blk.kp (Blk.at_ _ _ _ (by simp)) hk1 (by
    have := HH.out.hdr.lt
    have := HH.out.cel.lt
    omega)
  have b0 := bx.c2
  have b1 := bx.frozen 0
  have b2 := bx.frozen 1
  have lb := bx.lt
  have HR := Lib.hid hr1
  have HD := Lib.hid hd1
  have HK := Lib.hid hk1
  have BX := Lib.hid bx
  clear hr1 hd1 hk1 bx
  go_wp2_with fail
  have m1 : ro ≠ w.heap.size := Ne.symm n9
  have m2 : rd ≠ w.heap.size := Nat.ne_of_lt HH.out.hdr.lt
  have m3 : rc ≠ w.heap.size := Nat.ne_of_lt HH.out.cel.lt
  refine bodyPost_ret (v := .agg #[.int .u8 k, .int .i64 c]) (res_acc Try.results16 rfl (Blk.conv ((BX.out.set_ 0 _).set_ 1 _) rfl)) rfl ⟨rfl, ?_, ⟨?_, ?_⟩, ?_⟩
  · exact (Blk.far HR.out (p := ⟨w.heap.size, 0, none⟩) m1 _).far (p := ⟨w.heap.size, 1, none⟩) m1 _
  · exact (HD.out.hdr.far (p := ⟨w.heap.size, 0, none⟩) m2 _).far (p := ⟨w.heap.size, 1, none⟩) m2 _
  · exact (HD.out.cel.far (p := ⟨w.heap.size, 0, none⟩) m3 _).far (p := ⟨w.heap.size, 1, none⟩) m3 _
  · refine Kp.setCell (Kp.setCell (Kp.trans (Kp.alloc (Kp.setCell (Kp.refl _ w) (p := ⟨ro, 2, none⟩) (.inl (.inr (.inl rfl))) _) _) HK.out) (p := ⟨w.heap.size, 0, none⟩) (.inr (Nat.le_refl _)) _) (p := ⟨w.heap.size, 1, none⟩) (.inr (Nat.le_refl _)) _
/-- What a step of the document's operation leaves, by the plain steps. -/
structure RStepped (w w' : World) (ro rd rc K : Nat) (d : Dq) (ow : Int) (o : Dop) (e : Ending) : Prop where
  he : e = .returned (.agg #[.int .u8 (dstep d o).2.2.1, .int .i64 (dstep d o).2.2.2])
  ho : RoAt w' ro rd K (dstep d o).2.1
  hd : RqAt w' rd rc (dstep d o).1 (if (dstep d o).2.1.pc = 0 ∧ K ≤ 1 then ow - 1 else ow)
  hk : Kp (fun k => k = rc ∨ k = ro ∨ k = rd) w w'
theorem RStep.to {w w' : World} {ro rd rc K : Nat} {d d' : Dq} {ow ow' : Int} {o : Dop} {r : Rop} {k : Nat} {c : Int} {e : Ending} (h : RStep w w' ro rd rc d' ow' r k c e) (s1 : (dstep d o).1 = d') (s2 : (dstep d o).2.2.1 = k) (s3 : (dstep d o).2.2.2 = c) (won : Bool) (hw : (dstep d o).2.1.pc = 10 → won = (dstep d o).2.1.sw) (hr : r = robj K (dstep d o).2.1 won) (how : ow' = if (dstep d o).2.1.pc = 0 ∧ K ≤ 1 then ow - 1 else ow)
    (hk : (K ≤ 2 ∧ (dstep d o).2.1.pc = 0) ∨ (K = 0 ∧ 1 ≤ (dstep d o).2.1.pc ∧ (dstep d o).2.1.pc ≤ 4) ∨ (K = 1 ∧ 5 ≤ (dstep d o).2.1.pc ∧ (dstep d o).2.1.pc ≤ 10) ∨ (K = 2 ∧ 11 ≤ (dstep d o).2.1.pc ∧ (dstep d o).2.1.pc ≤ 14)) : RStepped w w' ro rd rc K d ow o e :=
  ⟨by rw [s2, s3]; exact h.e, ⟨⟨won, hw, by rw [← hr]; exact h.o⟩, hk⟩, by rw [s1, ← how]; exact h.d, h.k⟩
set_option maxHeartbeats 1000000 in
theorem rstep_any (ro rd rc K : Nat) (d : Dq) (ow : Int) (o : Dop) (w : World) (hd : RqAt w rd rc d ow) (ho : RoAt w ro rd K o) (hp : 1 ≤ o.pc) (hc : Can d o) (o0 : -1000 ≤ ow) (o1 : ow ≤ 1000) (hbb : -1000000 ≤ d.bot) (hbc : d.bot ≤ 1000000) :
    Calls Try.prog 16 #[.pointer (some ⟨ro, 0, none⟩)] w fun e w' => RStepped w w' ro rd rc K d ow o e := by
  obtain ⟨⟨won, hwon, hf⟩, hkd⟩ := ho
  obtain ⟨cn, cl, cpc, cb0, cb1, ct0, ct1, cd0, cd1, cd2, cd3, cp3, cp8, cp13⟩ := hc
  obtain ⟨pc, b, t, x, sw, how⟩ := o
  dsimp only at *
  have hq : (pc = 1 ∨ pc = 2 ∨ pc = 3 ∨ pc = 4) ∨ (pc = 5 ∨ pc = 6 ∨ pc = 7 ∨ pc = 8 ∨ pc = 9 ∨ pc = 10) ∨ (pc = 11 ∨ pc = 12 ∨ pc = 13 ∨ pc = 14) := by omega
  rcases hq with (rfl | rfl | rfl | rfl) | (rfl | rfl | rfl | rfl | rfl | rfl) | (rfl | rfl | rfl | rfl)
  · obtain rfl : K = 0 := by omega
    refine (step_k0 ro rd rc d ow _ w hd hf 1 rfl rfl (by omega) (by omega) (fun W hd1 ho1 => push1 ro rd rc d ow _ W hd1 ho1 )).mono fun e w' h => h.to (by simp [dstep, robj]) (by simp [dstep, robj]) (by simp [dstep, robj]) won (by simp [dstep]) (by simp [dstep, robj, off]) (by simp [dstep]) (by simp [dstep])
  · obtain rfl : K = 0 := by omega
    by_cases hz : (d.sl.length : Int) ≤ b - d.top
    · skip
      refine (step_k0 ro rd rc d ow _ w hd hf 2 rfl rfl (by omega) (by omega) (fun W hd1 ho1 => push2_full ro rd rc d ow _ W hd1 ho1 (by first | omega | (dsimp only [robj]; omega)) (by first | omega | (dsimp only [robj]; omega)) (by first | omega | (dsimp only [robj]; omega)) (by first | omega | (dsimp only [robj]; omega)) (by first | omega | (dsimp only [robj]; omega)) (by first | omega | (dsimp only [robj]; omega)) (by first | omega | (dsimp only [robj]; omega)) (by first | omega | (dsimp only [robj]; omega)))).mono fun e w' h => h.to (by simp [dstep, robj, hz]) (by simp [dstep, robj, hz]) (by simp [dstep, robj, hz]) won (by simp [dstep, hz]) (by simp [dstep, robj, off, hz]) (by simp [dstep, hz]) (by simp [dstep, hz])
    · skip
      refine (step_k0 ro rd rc d ow _ w hd hf 2 rfl rfl (by omega) (by omega) (fun W hd1 ho1 => push2_go ro rd rc d ow _ W hd1 ho1 (by first | omega | (dsimp only [robj]; omega)) (by first | omega | (dsimp only [robj]; omega)) (by first | omega | (dsimp only [robj]; omega)) (by first | omega | (dsimp only [robj]; omega)) (by first | omega | (dsimp only [robj]; omega)))).mono fun e w' h => h.to (by simp [dstep, robj, hz]) (by simp [dstep, robj, hz]) (by simp [dstep, robj, hz]) won (by simp [dstep, hz]) (by simp [dstep, robj, off, hz]) (by simp [dstep, hz]) (by simp [dstep, hz])
  · obtain rfl : K = 0 := by omega
    refine (step_k0 ro rd rc d ow _ w hd hf 3 rfl rfl (by omega) (by omega) (fun W hd1 ho1 => push3 ro rd rc d ow _ W hd1 ho1 (by first | omega | (dsimp only [robj]; omega)) (by first | omega | (dsimp only [robj]; omega)) (by first | omega | (dsimp only [robj]; omega)))).mono fun e w' h => h.to (by simp [dstep, robj]) (by simp [dstep, robj]) (by simp [dstep, robj]) won (by simp [dstep]) (by simp [dstep, robj, off]) (by simp [dstep]) (by simp [dstep])
  · obtain rfl : K = 0 := by omega
    refine (step_k0 ro rd rc d ow _ w hd hf 4 rfl rfl (by omega) (by omega) (fun W hd1 ho1 => push4 ro rd rc d ow _ W hd1 ho1 (by first | omega | (dsimp only [robj]; omega)) (by first | omega | (dsimp only [robj]; omega)) (by first | omega | (dsimp only [robj]; omega)) (by first | omega | (dsimp only [robj]; omega)) (by first | omega | (dsimp only [robj]; omega)))).mono fun e w' h => h.to (by simp [dstep, robj]) (by simp [dstep, robj]) (by simp [dstep, robj]) won (by simp [dstep]) (by simp [dstep, robj, off]) (by simp [dstep]) (by simp [dstep])
  · obtain rfl : K = 1 := by omega
    refine (step_k1 ro rd rc d ow _ w hd hf 1 rfl rfl (by omega) (by omega) (fun W hd1 ho1 => pop1 ro rd rc d ow _ W hd1 ho1 (by first | omega | (dsimp only [robj]; omega)) (by first | omega | (dsimp only [robj]; omega)))).mono fun e w' h => h.to (by simp [dstep, robj]) (by simp [dstep, robj]) (by simp [dstep, robj]) won (by simp [dstep]) (by simp [dstep, robj, off]) (by simp [dstep]) (by simp [dstep])
  · obtain rfl : K = 1 := by omega
    refine (step_k1 ro rd rc d ow _ w hd hf 2 rfl rfl (by omega) (by omega) (fun W hd1 ho1 => pop2 ro rd rc d ow _ W hd1 ho1 )).mono fun e w' h => h.to (by simp [dstep, robj]) (by simp [dstep, robj]) (by simp [dstep, robj]) won (by simp [dstep]) (by simp [dstep, robj, off]) (by simp [dstep]) (by simp [dstep])
  · obtain rfl : K = 1 := by omega
    refine (step_k1 ro rd rc d ow _ w hd hf 3 rfl rfl (by omega) (by omega) (fun W hd1 ho1 => pop3 ro rd rc d ow _ W hd1 ho1 )).mono fun e w' h => h.to (by simp [dstep, robj]) (by simp [dstep, robj]) (by simp [dstep, robj]) won (by simp [dstep]) (by simp [dstep, robj, off]) (by simp [dstep]) (by simp [dstep])
  · obtain rfl : K = 1 := by omega
    by_cases hz : b < t
    · skip
      refine (step_k1 ro rd rc d ow _ w hd hf 4 rfl rfl (by omega) (by omega) (fun W hd1 ho1 => pop4_bare ro rd rc d ow _ W hd1 ho1 (by first | omega | (dsimp only [robj]; omega)) (by first | omega | (dsimp only [robj]; omega)) (by first | omega | (dsimp only [robj]; omega)) (by first | omega | (dsimp only [robj]; omega)) (by first | omega | (dsimp only [robj]; omega)) (by first | omega | (dsimp only [robj]; omega)))).mono fun e w' h => h.to (by simp [dstep, robj, hz]) (by simp [dstep, robj, hz]) (by simp [dstep, robj, hz]) won (by simp [dstep, hz]) (by simp [dstep, robj, off, hz]) (by simp [dstep, hz]) (by simp [dstep, hz])
    · by_cases hy : t < b
      · skip
        refine (step_k1 ro rd rc d ow _ w hd hf 4 rfl rfl (by omega) (by omega) (fun W hd1 ho1 => pop4_got ro rd rc d ow _ W hd1 ho1 (by first | omega | (dsimp only [robj]; omega)) (by first | omega | (dsimp only [robj]; omega)) (by first | omega | (dsimp only [robj]; omega)) (by first | omega | (dsimp only [robj]; omega)) (by first | omega | (dsimp only [robj]; omega)) (by first | omega | (dsimp only [robj]; omega)) (by first | omega | (dsimp only [robj]; omega)))).mono fun e w' h => h.to (by simp [dstep, robj, hz, hy]) (by simp [dstep, robj, hz, hy]) (by simp [dstep, robj, hz, hy]) won (by simp [dstep, hz, hy]) (by simp [dstep, robj, off, hz, hy]) (by simp [dstep, hz, hy]) (by simp [dstep, hz, hy])
      · skip
        refine (step_k1 ro rd rc d ow _ w hd hf 4 rfl rfl (by omega) (by omega) (fun W hd1 ho1 => pop4_last ro rd rc d ow _ W hd1 ho1 (by first | omega | (dsimp only [robj]; omega)) (by first | omega | (dsimp only [robj]; omega)) (by first | omega | (dsimp only [robj]; omega)) (by first | omega | (dsimp only [robj]; omega)) (by first | omega | (dsimp only [robj]; omega)))).mono fun e w' h => h.to (by simp [dstep, robj, hz, hy]) (by simp [dstep, robj, hz, hy]) (by simp [dstep, robj, hz, hy]) won (by simp [dstep, hz, hy]) (by simp [dstep, robj, off, hz, hy]) (by simp [dstep, hz, hy]) (by simp [dstep, hz, hy])
  · obtain rfl : K = 1 := by omega
    by_cases hz : d.top = t
    · skip
      refine (step_k1 ro rd rc d ow _ w hd hf 5 rfl rfl (by omega) (by omega) (fun W hd1 ho1 => pop5_hit ro rd rc d ow _ W hd1 ho1 hz (by first | omega | (dsimp only [robj]; omega)) (by first | omega | (dsimp only [robj]; omega)))).mono fun e w' h => h.to (by simp [dstep, robj, hz]) (by simp [dstep, robj, hz]) (by simp [dstep, robj, hz]) true (by simp [dstep, hz]) (by simp [dstep, robj, off, hz]) (by simp [dstep, hz]) (by simp [dstep, hz])
    · skip
      refine (step_k1 ro rd rc d ow _ w hd hf 5 rfl rfl (by omega) (by omega) (fun W hd1 ho1 => pop5_miss ro rd rc d ow _ W hd1 ho1 hz)).mono fun e w' h => h.to (by simp [dstep, robj, hz]) (by simp [dstep, robj, hz]) (by simp [dstep, robj, hz]) false (by simp [dstep, hz]) (by simp [dstep, robj, off, hz]) (by simp [dstep, hz]) (by simp [dstep, hz])
  · obtain rfl : K = 1 := by omega
    by_cases hz : sw = true
    · skip
      refine (step_k1 ro rd rc d ow _ w hd hf 6 rfl rfl (by omega) (by omega) (fun W hd1 ho1 => pop6_true ro rd rc d ow _ W hd1 ho1 (by first | omega | (dsimp only [robj]; omega)) (by first | omega | (dsimp only [robj]; omega)) (by first | omega | (dsimp only [robj]; omega)) (by first | omega | (dsimp only [robj]; omega)) (by first | omega | (dsimp only [robj]; omega)) (by have := hwon rfl; simp [robj, this, hz]))).mono fun e w' h => h.to (by simp [dstep, robj, hz]) (by simp [dstep, robj, hz]) (by simp [dstep, robj, hz]) won (by simp [dstep, hz]) (by simp [dstep, robj, off, hz]) (by simp [dstep, hz]) (by simp [dstep, hz])
    · skip
      refine (step_k1 ro rd rc d ow _ w hd hf 6 rfl rfl (by omega) (by omega) (fun W hd1 ho1 => pop6_false ro rd rc d ow _ W hd1 ho1 (by first | omega | (dsimp only [robj]; omega)) (by first | omega | (dsimp only [robj]; omega)) (by first | omega | (dsimp only [robj]; omega)) (by first | omega | (dsimp only [robj]; omega)) (by first | omega | (dsimp only [robj]; omega)) (by have := hwon rfl; simp [robj, this, hz]))).mono fun e w' h => h.to (by simp [dstep, robj, hz]) (by simp [dstep, robj, hz]) (by simp [dstep, robj, hz]) won (by simp [dstep, hz]) (by simp [dstep, robj, off, hz]) (by simp [dstep, hz]) (by simp [dstep, hz])
  · obtain rfl : K = 2 := by omega
    refine (step_k2 ro rd rc d ow _ w hd hf 1 rfl rfl (by omega) (by omega) (fun W hd1 ho1 => steal1 ro rd rc d ow _ W hd1 ho1 )).mono fun e w' h => h.to (by simp [dstep, robj]) (by simp [dstep, robj]) (by simp [dstep, robj]) won (by simp [dstep]) (by simp [dstep, robj, off]) (by simp [dstep]) (by simp [dstep])
  · obtain rfl : K = 2 := by omega
    by_cases hz : d.bot ≤ t
    · skip
      refine (step_k2 ro rd rc d ow _ w hd hf 2 rfl rfl (by omega) (by omega) (fun W hd1 ho1 => steal2_bare ro rd rc d ow _ W hd1 ho1 rfl (by first | omega | (dsimp only [robj]; omega)) (by first | omega | (dsimp only [robj]; omega)) (by first | omega | (dsimp only [robj]; omega)))).mono fun e w' h => h.to (by simp [dstep, robj, hz]) (by simp [dstep, robj, hz]) (by simp [dstep, robj, hz]) won (by simp [dstep, hz]) (by simp [dstep, robj, off, hz]) (by simp [dstep, hz]) (by simp [dstep, hz])
    · skip
      refine (step_k2 ro rd rc d ow _ w hd hf 2 rfl rfl (by omega) (by omega) (fun W hd1 ho1 => steal2_go ro rd rc d ow _ W hd1 ho1 (by first | omega | (dsimp only [robj]; omega)))).mono fun e w' h => h.to (by simp [dstep, robj, hz]) (by simp [dstep, robj, hz]) (by simp [dstep, robj, hz]) won (by simp [dstep, hz]) (by simp [dstep, robj, off, hz]) (by simp [dstep, hz]) (by simp [dstep, hz])
  · obtain rfl : K = 2 := by omega
    refine (step_k2 ro rd rc d ow _ w hd hf 3 rfl rfl (by omega) (by omega) (fun W hd1 ho1 => steal3 ro rd rc d ow _ W hd1 ho1 (by first | omega | (dsimp only [robj]; omega)) (by first | omega | (dsimp only [robj]; omega)) (by first | omega | (dsimp only [robj]; omega)))).mono fun e w' h => h.to (by simp [dstep, robj]) (by simp [dstep, robj]) (by simp [dstep, robj]) won (by simp [dstep]) (by simp [dstep, robj, off]) (by simp [dstep]) (by simp [dstep])
  · obtain rfl : K = 2 := by omega
    by_cases hz : d.top = t
    · skip
      refine (step_k2 ro rd rc d ow _ w hd hf 4 rfl rfl (by omega) (by omega) (fun W hd1 ho1 => steal4_hit ro rd rc d ow _ W hd1 ho1 rfl (by first | omega | (dsimp only [robj]; omega)) (by first | omega | (dsimp only [robj]; omega)) hz (by first | omega | (dsimp only [robj]; omega)) (by first | omega | (dsimp only [robj]; omega)))).mono fun e w' h => h.to (by simp [dstep, robj, hz]) (by simp [dstep, robj, hz]) (by simp [dstep, robj, hz]) true (by simp [dstep, hz]) (by simp [dstep, robj, off, hz]) (by simp [dstep, hz]) (by simp [dstep, hz])
    · skip
      refine (step_k2 ro rd rc d ow _ w hd hf 4 rfl rfl (by omega) (by omega) (fun W hd1 ho1 => steal4_miss ro rd rc d ow _ W hd1 ho1 rfl (by first | omega | (dsimp only [robj]; omega)) (by first | omega | (dsimp only [robj]; omega)) hz)).mono fun e w' h => h.to (by simp [dstep, robj, hz]) (by simp [dstep, robj, hz]) (by simp [dstep, robj, hz]) false (by simp [dstep, hz]) (by simp [dstep, robj, off, hz]) (by simp [dstep, hz]) (by simp [dstep, hz])
end Go.Proofs.Ytdigjppdgiapfaa
