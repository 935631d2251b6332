/- The iterator over the heights at which a float may stand. -/
import Derived.Test.YtjhfcpadnofdnaaGreatVoe
import Derived.LoopN
import Derived.Test.YtjhfcpadnofdnaaGreatFb
import Derived.Test.YtjhfcpadnofdnaaGreatBase
import Derived.RangeFuncNested
import Derived.RangeFuncBound
import Derived.RangeFuncCalls
import Derived.RangeFuncLeaves
import Derived.OwnWalkIn
import Derived.TacticsInMore
import Derived.LoopNIn
import Derived.LoopIn
import Derived.Shelf.RegionOpen
import Derived.CallsIn
import Derived.RangeFuncFrom
set_option linter.unusedSimpArgs false
set_option linter.unusedVariables false
namespace Go.Proofs.YtjhfcpadnofdnaaGreat
open Go.RowKit
attribute [local go_sem] block_of_add
section
variable {ga gN gC gU gH gF gK : Nat} {v uw : Int} {w : World}
set_option maxRecDepth 100000 in
set_option maxHeartbeats 4000000 in
theorem vfrag_one (hc : CB v) (q : AskV ga gN gC gU gH gF gK v 100 w) : Calls Tryz.prog 55 #[.pointer (some ⟨ga, 0, none⟩), .int .i64 0] w fun e w' => e = .returned (.bool true) ∧ Below w.heap.size w w' := by
  have HA : Hid (∀ W', Below w.heap.size w W' → AskV ga gN gC gU gH gF gK v 100 W') := Lib.hid (fun W' h => q.below h)
  have HF := Lib.hid (fun W' (h : Below w.heap.size w W') => vfirst_one hc (by decide) (HA.out W' h))
  have a6 := q.a.get 6 rfl
  have la := q.a.lt
  have f0 : w.cell? ⟨gF, 0, none⟩ = some (.int .i64 0) := q.f.get 0 rfl
  have f1 : w.cell? ⟨gF, 1, none⟩ = some (.int .i64 0) := q.f.get 1 rfl
  have f2 : w.cell? ⟨gF, 2, none⟩ = some (.int .i64 100) := q.f.get 2 rfl
  have f3 : w.cell? ⟨gF, 3, none⟩ = some (.int .i64 0) := q.f.get 3 rfl
  have f4 : w.cell? ⟨gF, 4, none⟩ = some (.slice none 0 0) := q.f.get 4 rfl
  have lf := q.f.lt
  obtain ⟨w1, hw1⟩ : ∃ W, W = w.alloc (.cells #[.int .i64 0, .int .i64 0, .int .i64 100, .int .i64 0, .slice none 0 0] 43) := ⟨_, rfl⟩
  have HB1 : Hid (Below w.heap.size w w1) := Lib.hid (by rw [hw1]; exact (Below.refl _ _).alloc (Nat.le_refl _) _)
  have HX1 : Hid (Blk w1 w.heap.size 43 #[.int .i64 0, .int .i64 0, .int .i64 100, .int .i64 0, .slice none 0 0]) := Lib.hid (by rw [hw1]; exact Blk.new _ _ _)
  clear q hc
  go_enter Tryz.func55, Tryz.ntmps55
  go_upto_region 2 with (fail)
  rw [← hw1]
  clear hw1 a6 la f0 f1 f2 f3 f4 lf
  have a0 := (HA.out _ HB1.out).a.get 0 rfl
  have la := (HA.out _ HB1.out).a.lt
  have n1 : w1.cell? ⟨gN, 1, none⟩ = some (.int .u8 1) := (HA.out _ HB1.out).n.get 1 rfl
  have ln := (HA.out _ HB1.out).n.lt
  go_wp2_with fail
  refine (HF.out _ HB1.out).mono ?_
  rintro e w2 ⟨rfl, hb2⟩
  have HB2 := Lib.hid (HB1.out.trans (hb2.mono HB1.out.size))
  have HX2 := Lib.hid (HX1.out.below hb2 HX1.out.lt)
  clear hb2 a0 la n1 ln
  have z0 := HX2.out.get 0 rfl
  have z1 := HX2.out.get 1 rfl
  have z2 := HX2.out.get 2 rfl
  have z3 := HX2.out.get 3 rfl
  have z4 := HX2.out.get 4 rfl
  have zl := HX2.out.lt
  have HS := Lib.hid (fun W => stands_one W)
  unfold frV at HS
  go_wp2_with fail
  refine (HS.out _).mono ?_
  rintro e w3 ⟨rfl, hb3⟩
  have HB3 := Lib.hid ((HB2.out.alloc HB2.out.size (.cells #[.int .i64 0, .int .i64 0, .int .i64 100, .int .i64 0, .slice none 0 0] 43)).trans (hb3.mono (by have := HB2.out.size; simp; omega)))
  clear hb3 z0 z1 z2 z3 z4 zl
  go_wp2_with fail
  go_ret
  exact ⟨rfl, HB3.out⟩
/-- What is known of the width of the window. -/
structure VwV (v : Int) : Prop where
  u : usedV (flowN (styK 1 0) v) = .tuple #[.agg #[.int .i64 v, .int .i64 0, .int .i64 0], .bool false]
  c : CB v
theorem vw100 : VwV 100 := ⟨usedVV (by decide +kernel) (by decide +kernel), ⟨by decide⟩⟩
theorem vw101 : VwV 101 := ⟨usedVV (by decide +kernel) (by decide +kernel), ⟨by decide⟩⟩
set_option maxHeartbeats 4000000 in
theorem vholds_one (hv : VwV v) (hcu : CB uw) (huw : v = uw → v = 100) (q : AskV ga gN gC gU gH gF gK v uw w) : Calls Tryz.prog 30 #[.pointer (some ⟨ga, 0, none⟩), .int .i64 0] w fun e w' => e = .returned (.bool (v == uw)) ∧ Below w.heap.size w w' := by
  have HA : Hid (∀ W', Below w.heap.size w W' → AskV ga gN gC gU gH gF gK v uw W') := Lib.hid (fun W' h => q.below h)
  have HC := Lib.hid (vcontent_one q)
  have HU := Lib.hid (fun W' (h : Below w.heap.size w W') => vuseds_one hv.u hv.c hcu (HA.out W' h))
  by_cases h : v = uw
  · have e1 : (v == uw) = true := beq_iff_eq.2 h
    obtain rfl := huw h
    obtain rfl := h
    have HI := Lib.hid (fun W' (h : Below w.heap.size w W') => visland_one (HA.out W' h))
    have HF := Lib.hid (fun W' (h : Below w.heap.size w W') => vfrag_one hv.c (HA.out W' h))
    clear q hv hcu huw
    go_enter Tryz.func30, Tryz.ntmps30
    go_wp2_with fail
    refine HC.out.mono ?_
    rintro e w1 ⟨rfl, hb1⟩
    have HB1 := Lib.hid hb1
    clear hb1
    go_wp2_with fail
    refine (HU.out _ HB1.out).mono ?_
    rintro e w2 ⟨rfl, hb2⟩
    have HB2 := Lib.hid (HB1.out.trans (hb2.mono HB1.out.size))
    clear hb2
    rw [e1]
    go_wp2_with fail
    refine (HI.out _ HB2.out).mono ?_
    rintro e w3 ⟨rfl, hb3⟩
    have HB3 := Lib.hid (HB2.out.trans (hb3.mono HB2.out.size))
    clear hb3
    go_wp2_with fail
    refine (HF.out _ HB3.out).mono ?_
    rintro e w4 ⟨rfl, hb4⟩
    have HB4 := Lib.hid (HB3.out.trans (hb4.mono HB3.out.size))
    clear hb4
    go_wp2_with fail
    go_ret
    exact ⟨rfl, HB4.out⟩
  · have e1 : (v == uw) = false := beq_eq_false_iff_ne.2 h
    clear q hv hcu huw h
    go_enter Tryz.func30, Tryz.ntmps30
    go_wp2_with fail
    refine HC.out.mono ?_
    rintro e w1 ⟨rfl, hb1⟩
    have HB1 := Lib.hid hb1
    clear hb1
    go_wp2_with fail
    refine (HU.out _ HB1.out).mono ?_
    rintro e w2 ⟨rfl, hb2⟩
    have HB2 := Lib.hid (HB1.out.trans (hb2.mono HB1.out.size))
    clear hb2
    rw [e1]
    go_wp2_with fail
    go_ret
    exact ⟨by first | rfl | (rw [e1] <;> rfl) | simp [e1], HB2.out⟩
end
end Go.Proofs.YtjhfcpadnofdnaaGreat
namespace Go.Proofs.YtjhfcpadnofdnaaGreat
open Go.RowKit
attribute [local go_sem] block_of_add
section
variable {ga gN gC gU gH gF gK : Nat} {v uw : Int} {w : World}
set_option maxRecDepth 100000 in
set_option maxHeartbeats 2000000 in
theorem vroom_one : Calls Tryz.prog 27 #[.agg #[.slice (some ⟨gN, 0, none⟩) 1 1, .slice none 0 0, .int .i64 v], .agg #[.slice (some ⟨gC, 0, none⟩) 1 1, .slice (some ⟨gU, 0, none⟩) 1 1, .slice (some ⟨gH, 0, none⟩) 1 1, .slice (some ⟨gF, 0, none⟩) 1 1]] w fun e w' => e = .returned (.bool true) ∧ Below w.heap.size w w' := by
  have HB : Hid (∀ o o2 : Obj, Below w.heap.size w ((w.alloc o).alloc o2)) := Lib.hid (fun o o2 => ((Below.refl _ _).alloc (Nat.le_refl _) _).alloc (by simp) _)
  go_enter Tryz.func27, Tryz.ntmps27
  go_wp2_with fail
  go_ret
  exact ⟨rfl, HB.out _ _⟩
theorem up_call {W : World} (hn : Blk W gN 69 (ndsCells l1V).toArray) :
    Calls Tryz.prog 50 #[.agg #[.slice (some ⟨gN, 0, none⟩) 1 1, .slice none 0 0, .int .i64 v], .int .i64 0] W fun e w' => e = .returned (.int .i64 (-1)) ∧ Below W.heap.size W w' := by
  have h := upG_any l1V (some ⟨gN, 0, none⟩) none 1 0 0 v W 0 (by decide) (by decide) (Reads.of_blkC hn rfl)
  rw [show parF l1V 0 = -1 from by decide] at h
  exact h
theorem make_rows1 (W : World) : (Instr.makeSlice 82 (.int .i64 1) (.int .i64 1)).run Tryz.prog W = .ok (.slice (some ⟨W.heap.size, 0, none⟩) 1 1) (W.alloc (.cells #[.slice none 0 0] 50)) := by kernel_rfl
set_option maxRecDepth 100000 in
set_option maxHeartbeats 2000000 in
theorem kids_one (hn : Blk w gN 69 (ndsCells l1V).toArray) : Calls Tryz.prog 28 #[.agg #[.slice (some ⟨gN, 0, none⟩) 1 1, .slice none 0 0, .int .i64 v]] w fun e w' => (∃ gK, e = .returned (.slice (some ⟨gK, 0, none⟩) 1 1) ∧ Blk w' gK 50 #[.slice none 0 0]) ∧ Below w.heap.size w w' := by
  have HU := Lib.hid (fun W' (h : Below w.heap.size w W') => up_call (v := v) (hn.below h hn.lt))
  have hmk := make_rows1
  obtain ⟨w2, hw2⟩ : ∃ W, W = (w.alloc (.cells #[.slice (some ⟨gN, 0, none⟩) 1 1, .slice none 0 0, .int .i64 v] 25)).alloc (.cells #[.slice none 0 0] 50) := ⟨_, rfl⟩
  have HB2 : Hid (Below w.heap.size w w2) := Lib.hid (by rw [hw2]; exact ((Below.refl _ _).alloc (Nat.le_refl _) _).alloc (by simp) _)
  have HT2 : Hid (Blk w2 w.heap.size 25 #[.slice (some ⟨gN, 0, none⟩) 1 1, .slice none 0 0, .int .i64 v]) := Lib.hid (by rw [hw2]; exact (Blk.new _ _ _).alloc _)
  have HK2 : Hid (Blk w2 (w.heap.size + 1) 50 #[.slice none 0 0]) := Lib.hid (by rw [hw2]; exact Blk.at_ _ _ _ (by simp))
  clear hn
  go_enter Tryz.func28, Tryz.ntmps28
  go_upto_region 2 with (fail)
  rw [← hw2]
  clear hw2 hmk
  go_wp2_with fail
  have t0 := HT2.out.get 0 rfl
  have t1 := HT2.out.get 1 rfl
  have t2 := HT2.out.get 2 rfl
  have tl := HT2.out.lt
  refine wp_loop_rounds 2 ?_
  rw [rounds_succ]
  go_wp2_with fail
  refine (HU.out _ HB2.out).mono ?_
  rintro e w3 ⟨rfl, hb3⟩
  have HB3 := Lib.hid (HB2.out.trans (hb3.mono HB2.out.size))
  have HK3 := Lib.hid (HK2.out.below hb3 HK2.out.lt)
  clear hb3 t0 t1 t2 tl
  go_wp2_with fail
  rw [rounds_succ]
  go_wp2_with fail
  go_ret
  exact ⟨⟨_, rfl, HK3.out⟩, HB3.out⟩
end
end Go.Proofs.YtjhfcpadnofdnaaGreat
namespace Go.Proofs.YtjhfcpadnofdnaaGreat
open Go.RowKit
attribute [local go_sem] block_of_add
section
variable (l : List Fl) (A : Option Addr) (c : Nat) (w : World)
end
end Go.Proofs.YtjhfcpadnofdnaaGreat
namespace Go.Proofs.YtjhfcpadnofdnaaGreat
open Go.RowKit
attribute [local go_sem] block_of_add
section
variable (l : List Fl) (A : Option Addr) (c : Nat) (w : World)
end
end Go.Proofs.YtjhfcpadnofdnaaGreat
namespace Go.Proofs.YtjhfcpadnofdnaaGreat
open Go.RowKit
/-- What others than the caller's own code may do: turn blocks from B on that hold no cells, or the iterator's own kind Z; lay new blocks. -/
structure Others (Z : Obj → Prop) (B : Nat) (A A' : World) : Prop where
  os : A'.os = A.os
  tape : A'.tape = A.tape
  output : A'.output = A.output
  size : A.heap.size ≤ A'.heap.size
  block : ∀ (k : Nat) (o : Obj), A.heap[k]? = some o → (k < B ∨ o.isCells = true ∧ ¬ Z o) → A'.heap[k]? = some o
/-- What a round does: what holds no cells, from B on, and the iterator's own kind lie as they lay. -/
structure Round (Z : Obj → Prop) (B : Nat) (A A' : World) : Prop where
  size : A.heap.size ≤ A'.heap.size
  same : ∀ (k : Nat) (o : Obj), A.heap[k]? = some o → (B ≤ k ∧ o.isCells = false ∨ Z o) → A'.heap[k]? = some o
section
variable {Z : Obj → Prop} {B : Nat} {A A' A'' : World}
theorem Others.refl (A : World) : Others Z B A A := ⟨rfl, rfl, rfl, Nat.le_refl _, fun _ _ h _ => h⟩
theorem Others.trans (h : Others Z B A A') (k : Others Z B A' A'') : Others Z B A A'' :=
  ⟨k.os.trans h.os, k.tape.trans h.tape, k.output.trans h.output, Nat.le_trans h.size k.size, fun i o hi ho => k.block i o (h.block i o hi ho) ho⟩
theorem Others.alloc (A : World) (o : Obj) : Others Z B A (A.alloc o) :=
  ⟨rfl, rfl, rfl, by simp, fun k o' hk _ => (Below.heap_alloc A o k (Array.getElem?_eq_some_iff.1 hk).1).trans hk⟩
theorem Others.putObj {l : Nat} {o : Obj} (o' : Obj) (hB : B ≤ l) (hl : A.heap[l]? = some o) (ho : o.isCells = false) : Others Z B A (A.putObj l o') :=
  ⟨rfl, rfl, rfl, by simp, fun k o'' hk hc => by
    have : k ≠ l := by
      rintro rfl
      rw [hl] at hk; cases hk
      rcases hc with hc | hc
      · omega
      · rw [ho] at hc; exact absurd hc.1 (by simp)
    exact (World.putObj_heap_other this).trans hk⟩
theorem Others.setCell {p : Addr} {o : Obj} (u : Value) (hB : B ≤ p.block) (hl : A.heap[p.block]? = some o) (ho : Z o) : Others Z B A (A.setCell p u) :=
  ⟨rfl, rfl, rfl, by simp [World.setCell], fun k o'' hk hc => by
    have : k ≠ p.block := by
      rintro rfl
      rw [hl] at hk; cases hk
      rcases hc with hc | hc
      · omega
      · exact hc.2 ho
    exact (Below.heap_setCell A p u k this).trans hk⟩
theorem Others.below {n : Nat} {w : World} (h : Others Z B A A') (hn : n ≤ B) (hw : Below n w A) (hs : n ≤ w.heap.size) : Below n w A' :=
  ⟨h.os.trans hw.os, h.tape.trans hw.tape, h.output.trans hw.output, Nat.le_trans hw.size h.size, fun k hk => by
    have hk' : k < A.heap.size := by have := hw.size; omega
    have := h.block k A.heap[k] (Array.getElem?_eq_getElem hk') (.inl (by omega))
    rw [this, ← hw.block k hk, Array.getElem?_eq_getElem hk']⟩
theorem Others.own {base : Nat} {e : TypeId} {size n : Nat} {v : Value} {xs : List Value} (h : Others Z B A A') (ho : A.ownsRow base e size v n xs) (hz : ∀ cs fr, ¬ Z (.cells cs e fr)) : A'.ownsRow base e size v n xs := by
  obtain ⟨h1, h2⟩ := ho
  refine ⟨h1, ?_⟩
  rcases h2 with h2 | ⟨g, cap, cur, hv, hg, hh, r⟩
  · exact .inl h2
  · exact .inr ⟨g, cap, cur, hv, hg, h.block g _ hh (.inr ⟨rfl, hz _ _⟩), r⟩
theorem Round.refl (A : World) : Round Z B A A := ⟨Nat.le_refl _, fun _ _ h _ => h⟩
theorem Round.trans (h : Round Z B A A') (k : Round Z B A' A'') : Round Z B A A'' := ⟨Nat.le_trans h.size k.size, fun i o hi ho => k.same i o (h.same i o hi ho) ho⟩
theorem Round.alloc (h : Round Z B A A') (o : Obj) : Round Z B A (A'.alloc o) :=
  h.trans ⟨by simp, fun k o' hk _ => (Below.heap_alloc A' o k (Array.getElem?_eq_some_iff.1 hk).1).trans hk⟩
theorem Round.drew (h : Round Z B A A') : Round Z B A A'.drew := ⟨h.size, h.same⟩
/-- A store into a block of cells that are not the iterator's. -/
theorem Round.setCell {g i : Nat} {t : TypeId} {cs : Array Value} (h : Round Z B A A') (hb : Blk A' g t cs) (hz : ∀ cs fr, ¬ Z (.cells cs t fr)) (u : Value) : Round Z B A (A'.setCell ⟨g, i, none⟩ u) :=
  h.trans ⟨by simp [World.setCell], fun k o' hk hc => by
    have : k ≠ g := by
      rintro rfl
      rw [show A'.heap[k]? = _ from hb] at hk; cases hk
      rcases hc with hc | hc
      · simp [Obj.isCells] at hc
      · exact hz _ _ hc
    exact (Below.heap_setCell A' ⟨g, i, none⟩ u k this).trans hk⟩
theorem Round.below {n : Nat} (h : Round Z B A A') (hb : Below n A' A'') (hn : A'.heap.size ≤ n) : Round Z B A A'' :=
  h.trans ⟨hb.size, fun k o hk _ => (hb.block k (by have := (Array.getElem?_eq_some_iff.1 hk).1; omega)).trans hk⟩
theorem Round.grown {row : Option Nat} (h : Round Z B A A') (hg : A'.grownBy A'' row) (hr : ∀ k o, row = some k → A'.heap[k]? = some o → o.isCells = true ∧ ¬ Z o) : Round Z B A A'' :=
  h.trans ⟨hg.size, fun k o hk hc => by
    refine (hg.block k (Array.getElem?_eq_some_iff.1 hk).1 (fun e => ?_)).trans hk
    obtain ⟨h1, h2⟩ := hr k o e.symm hk
    rcases hc with hc | hc
    · rw [h1] at hc; simp at hc
    · exact h2 hc⟩
end
variable {F : Fence} {n : Nat} {P : Program}
end Go.Proofs.YtjhfcpadnofdnaaGreat
namespace Go.Proofs.YtjhfcpadnofdnaaGreat
open Go.RowKit Go.Shelf
attribute [local go_sem] block_of_add Oper.semAt_some
theorem grown0 {w w' : World} (h : Below w.heap.size w w') : w.grownBy w' none := ⟨h.os, h.tape, h.output, h.size, fun k hk _ => h.block k hk⟩
end Go.Proofs.YtjhfcpadnofdnaaGreat
