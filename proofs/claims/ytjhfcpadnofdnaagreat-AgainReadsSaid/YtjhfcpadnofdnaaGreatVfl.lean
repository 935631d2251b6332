/- flow.Block of a tree of one node. -/
import Derived.Test.YtjhfcpadnofdnaaGreatVoc
import Derived.Test.YtjhfcpadnofdnaaGreatIns
import Derived.Test.YtjhfcpadnofdnaaGreatFb
import Derived.LoopN
set_option linter.unusedSimpArgs false
set_option linter.unusedVariables false
namespace Go.Proofs.YtjhfcpadnofdnaaGreat
open Go.RowKit
attribute [local go_sem] block_of_add
theorem root_call {gN : Nat} {v : Int} {W : World} (hn : Blk W gN 69 (ndsCells l1V).toArray) :
    Calls Tryz.prog 36 #[.agg #[.slice (some ⟨gN, 0, none⟩) 1 1, .slice none 0 0, .int .i64 v], .int .i64 0] W fun e w' => e = .returned (.bool true) ∧ Below W.heap.size W w' := by
  have h := rootG_any l1V (some ⟨gN, 0, none⟩) none 1 0 0 v W 0 (by decide) (by decide) (Reads.of_blkC hn rfl)
  rw [show rootX l1V 0 = true from by decide] at h
  exact h
theorem fldU (a b c : Int) (w : World) : (Instr.field 40 (.agg #[.int .i64 a, .int .i64 b, .int .i64 c]) 0).run Tryz.prog w = .ok (.int .i64 a) w := by kernel_rfl
theorem make_sps1 (W : World) : (Instr.makeSlice 121 (.int .i64 1) (.int .i64 1)).run Tryz.prog W = .ok (.slice (some ⟨W.heap.size, 0, none⟩) 1 1) (W.alloc (.cells #[.int .i64 0, .int .i64 0, .int .i64 0, .bool false, .slice none 0 0, .slice none 0 0, .slice none 0 0] 132)) := by kernel_rfl
theorem make_row1 (W : World) : (Instr.makeSlice 82 (.int .i64 1) (.int .i64 1)).run Tryz.prog W = .ok (.slice (some ⟨W.heap.size, 0, none⟩) 1 1) (W.alloc (.cells #[.slice none 0 0] 50)) := by kernel_rfl
theorem make_bo1 (W : World) : (Instr.makeSlice 57 (.int .i64 1) (.int .i64 1)).run Tryz.prog W = .ok (.slice (some ⟨W.heap.size, 0, none⟩) 1 1) (W.alloc (.cells #[.bool false] 4)) := by kernel_rfl
theorem make_bo0 (W : World) : (Instr.makeSlice 57 (.int .i64 0) (.int .i64 0)).run Tryz.prog W = .ok (.slice (some ⟨W.heap.size, 0, none⟩) 0 0) (W.alloc (.cells #[] 4)) := by kernel_rfl
theorem make_fr0 (W : World) : (Instr.makeSlice 30 (.int .i64 0) (.int .i64 0)).run Tryz.prog W = .ok (.slice (some ⟨W.heap.size, 0, none⟩) 0 0) (W.alloc (.cells #[] 43)) := by kernel_rfl
structure FbV (gN gU gH bw gk gs : Nat) (v uw : Int) (W : World) : Prop where
  w : Blk W bw 126 #[.slice (some ⟨gN, 0, none⟩) 1 1, .slice none 0 0, .int .i64 v, .int .i64 0, .slice (some ⟨gU, 0, none⟩) 1 1, .slice (some ⟨gH, 0, none⟩) 1 1, .slice (some ⟨gk, 0, none⟩) 1 1, .slice (some ⟨gs, 0, none⟩) 1 1, .int .i64 0, .int .i64 0, .int .i64 0, .slice none 0 0, .slice none 0 0]
  k : Blk W gk 50 #[.slice none 0 0]
  s : Blk W gs 132 #[.int .i64 0, .int .i64 0, .int .i64 0, .bool false, .slice none 0 0, .slice none 0 0, .slice none 0 0]
  n : Blk W gN 69 (ndsCells l1V).toArray
  u : Blk W gU 40 #[.int .i64 uw, .int .i64 0, .int .i64 0]
theorem FbV.below {gN gU gH bw gk gs : Nat} {v uw : Int} {W W' : World} (h : FbV gN gU gH bw gk gs v uw W) (hb : Below W.heap.size W W') : FbV gN gU gH bw gk gs v uw W' :=
  ⟨h.w.below hb h.w.lt, h.k.below hb h.k.lt, h.s.below hb h.s.lt, h.n.below hb h.n.lt, h.u.below hb h.u.lt⟩
theorem FbV.cs {gN gU gH bw gk gs : Nat} {v uw : Int} {W : World} (h : FbV gN gU gH bw gk gs v uw W) :
    W.cell? ⟨bw, 0, none⟩ = some (.slice (some ⟨gN, 0, none⟩) 1 1) ∧ W.cell? ⟨bw, 2, none⟩ = some (.int .i64 v) ∧ W.cell? ⟨bw, 3, none⟩ = some (.int .i64 0) ∧ W.cell? ⟨bw, 4, none⟩ = some (.slice (some ⟨gU, 0, none⟩) 1 1) ∧ W.cell? ⟨bw, 6, none⟩ = some (.slice (some ⟨gk, 0, none⟩) 1 1) ∧ W.cell? ⟨bw, 7, none⟩ = some (.slice (some ⟨gs, 0, none⟩) 1 1) ∧ W.cell? ⟨bw, 8, none⟩ = some (.int .i64 0) ∧ W.cell? ⟨bw, 9, none⟩ = some (.int .i64 0) ∧ W.cell? ⟨bw, 10, none⟩ = some (.int .i64 0) ∧ W.cell? ⟨bw, 11, none⟩ = some (.slice none 0 0) ∧ bw < W.heap.size ∧ gN < W.heap.size ∧ gU < W.heap.size :=
  ⟨h.w.get 0 rfl, h.w.get 2 rfl, h.w.get 3 rfl, h.w.get 4 rfl, h.w.get 6 rfl, h.w.get 7 rfl, h.w.get 8 rfl, h.w.get 9 rfl, h.w.get 10 rfl, h.w.get 11 rfl, h.w.lt, h.n.lt, h.u.lt⟩
section
variable {gN gU gH bw gk gs : Nat} {v uw : Int} {w : World}
set_option maxRecDepth 100000 in
set_option maxHeartbeats 4000000 in
theorem fbspot_one (q : FbV gN gU gH bw gk gs v uw w) : Calls Tryz.prog 69 #[.pointer (some ⟨bw, 0, none⟩), .int .i64 0] w fun e w' => e = .returned (.pointer (some ⟨gs, 0, none⟩)) ∧ Below w.heap.size w w' := by
  obtain ⟨c0, c1, c2, c3, c4, c5, c6, c7, c8, c9, c10, c11, c12⟩ := q.cs
  clear q
  go_enter Tryz.func69, Tryz.ntmps69
  go_wp2_with fail
  go_quiet (fail)
  go_wp2_with fail
  go_ret
  exact ⟨rfl, below_drVN (Below.refl _ _) _⟩
set_option maxRecDepth 100000 in
set_option maxHeartbeats 4000000 in
theorem fbused_one (q : FbV gN gU gH bw gk gs v uw w) : Calls Tryz.prog 128 #[.pointer (some ⟨bw, 0, none⟩), .int .i64 0] w fun e w' => e = .returned (.agg #[.int .i64 uw, .int .i64 0, .int .i64 0]) ∧ Below w.heap.size w w' := by
  obtain ⟨c0, c1, c2, c3, c4, c5, c6, c7, c8, c9, c10, c11, c12⟩ := q.cs
  have u0 := q.u.get 0 rfl
  have u1 := q.u.get 1 rfl
  have u2 := q.u.get 2 rfl
  clear q
  go_enter Tryz.func128, Tryz.ntmps128
  go_wp2_with fail
  refine bodyPost_ret (results_cell_row rfl _ _ w.heap.size 40 #[_, _, _] (0, 0) _ rfl (Blk.at_ _ _ _ (by simp)) Tryz.underlying40 rfl (by kernel_rfl)) rfl ?_
  exact ⟨rfl, (Below.refl _ _).alloc (Nat.le_refl _) _⟩
set_option maxRecDepth 100000 in
set_option maxHeartbeats 4000000 in
theorem fbmark_one (q : FbV gN gU gH bw gk gs v uw w) : Calls Tryz.prog 136 #[.pointer (some ⟨bw, 0, none⟩)] w fun e w' => e = .returned (.int .i64 0) ∧ Below w.heap.size w w' := by
  have HQ := Lib.hid q
  clear q
  go_enter Tryz.func136, Tryz.ntmps136
  go_wp2_with fail
  refine wp_region_S (fun _ _ _ W' => Below w.heap.size w W') 1000 1000 100000 true true (by kernel_rfl) (by kernel_rfl) (by kernel_rfl) ((Below.refl _ _).drew) ?_
  refine wpAnyS_take (i := 0) (v := ?_) rfl (by kernel_rfl) (by kernel_rfl) (by kernel_rfl) (fun _ _ _ h => h) (by rfl) (gives_pure (by rfl) ?_) ?_
  rotate_left
  · intro b' d' u' W' hS'
    obtain ⟨c0, c1, c2, c3, c4, c5, c6, c7, c8, c9, c10, c11, c12⟩ := (HQ.out.below hS').cs
    go_simp
    rfl
  try simp only [Act.put, List.setIfInBounds_toArray, List.set_cons_zero, List.set_cons_succ, List.getElem_toArray, List.getElem_cons_zero, List.getElem_cons_succ]
  refine wpAnyS_take (i := 1) (v := ?_) rfl (by kernel_rfl) (by kernel_rfl) (by kernel_rfl) (fun _ _ _ h => h) (by rfl) (gives_pure (by rfl) ?_) ?_
  rotate_left
  · intro b' d' u' W' hS'
    obtain ⟨c0, c1, c2, c3, c4, c5, c6, c7, c8, c9, c10, c11, c12⟩ := (HQ.out.below hS').cs
    go_simp
    rfl
  try simp only [Act.put, List.setIfInBounds_toArray, List.set_cons_zero, List.set_cons_succ, List.getElem_toArray, List.getElem_cons_zero, List.getElem_cons_succ]
  refine wpAnyS_take (i := 2) (v := ?_) rfl (by kernel_rfl) (by kernel_rfl) (by kernel_rfl) (fun _ _ _ h => h) (by rfl) (gives_pure (by rfl) ?_) ?_
  rotate_left
  · intro b' d' u' W' hS'
    obtain ⟨c0, c1, c2, c3, c4, c5, c6, c7, c8, c9, c10, c11, c12⟩ := (HQ.out.below hS').cs
    go_simp
    rfl
  try simp only [Act.put, List.setIfInBounds_toArray, List.set_cons_zero, List.set_cons_succ, List.getElem_toArray, List.getElem_cons_zero, List.getElem_cons_succ]
  refine wpAnyS_take (i := 3) (v := ?_) rfl (by kernel_rfl) (by kernel_rfl) (by kernel_rfl) (fun _ _ _ h => h) (by rfl) (gives_pure (by rfl) ?_) ?_
  rotate_left
  · intro b' d' u' W' hS'
    obtain ⟨c0, c1, c2, c3, c4, c5, c6, c7, c8, c9, c10, c11, c12⟩ := (HQ.out.below hS').cs
    go_simp
    rfl
  try simp only [Act.put, List.setIfInBounds_toArray, List.set_cons_zero, List.set_cons_succ, List.getElem_toArray, List.getElem_cons_zero, List.getElem_cons_succ]
  refine wpAnyS_take (i := 4) (v := ?_) rfl (by kernel_rfl) (by kernel_rfl) (by kernel_rfl) (fun _ _ _ h => h) (by rfl) (gives_pure (by rfl) ?_) ?_
  rotate_left
  · intro b' d' u' W' hS'
    obtain ⟨c0, c1, c2, c3, c4, c5, c6, c7, c8, c9, c10, c11, c12⟩ := (HQ.out.below hS').cs
    go_simp
    rfl
  try simp only [Act.put, List.setIfInBounds_toArray, List.set_cons_zero, List.set_cons_succ, List.getElem_toArray, List.getElem_cons_zero, List.getElem_cons_succ]
  refine wpAnyS_take (i := 5) (v := ?_) rfl (by kernel_rfl) (by kernel_rfl) (by kernel_rfl) (fun _ _ _ h => h) (by rfl) (gives_pure (by rfl) ?_) ?_
  rotate_left
  · intro b' d' u' W' hS'
    obtain ⟨c0, c1, c2, c3, c4, c5, c6, c7, c8, c9, c10, c11, c12⟩ := (HQ.out.below hS').cs
    go_simp
    rfl
  try simp only [Act.put, List.setIfInBounds_toArray, List.set_cons_zero, List.set_cons_succ, List.getElem_toArray, List.getElem_cons_zero, List.getElem_cons_succ]
  refine wpAnyS_take (i := 6) (v := ?_) rfl (by kernel_rfl) (by kernel_rfl) (by kernel_rfl) (fun _ _ _ h => h) (by rfl) (gives_pure (by rfl) ?_) ?_
  rotate_left
  · intro b' d' u' W' hS'
    obtain ⟨c0, c1, c2, c3, c4, c5, c6, c7, c8, c9, c10, c11, c12⟩ := (HQ.out.below hS').cs
    go_simp
    rfl
  try simp only [Act.put, List.setIfInBounds_toArray, List.set_cons_zero, List.set_cons_succ, List.getElem_toArray, List.getElem_cons_zero, List.getElem_cons_succ]
  refine wpAnyS_take (i := 7) (v := ?_) rfl (by kernel_rfl) (by kernel_rfl) (by kernel_rfl) (fun _ _ _ h => h) (by rfl) (gives_pure (by rfl) ?_) ?_
  rotate_left
  · intro b' d' u' W' hS'
    obtain ⟨c0, c1, c2, c3, c4, c5, c6, c7, c8, c9, c10, c11, c12⟩ := (HQ.out.below hS').cs
    go_simp
    rfl
  try simp only [Act.put, List.setIfInBounds_toArray, List.set_cons_zero, List.set_cons_succ, List.getElem_toArray, List.getElem_cons_zero, List.getElem_cons_succ]
  refine wpAnyS_take (i := 8) (v := _) rfl (by kernel_rfl) (by kernel_rfl) (by kernel_rfl) (fun _ _ _ h => h) (by rfl) (gives_call (by rfl) _ _ ?_ (fun b' d' u' W' hS' => (ssum_any 0 0 W' (by decide)).mono (fun _ _ h => ⟨h.1, h.2 ▸ hS'.alloc hS'.size _⟩))) ?_
  · intro W'
    first | rfl | kernel_rfl
  try simp only [Act.put, List.setIfInBounds_toArray, List.set_cons_zero, List.set_cons_succ, List.getElem_toArray, List.getElem_cons_zero, List.getElem_cons_succ]
  refine wpAnyS_take (i := 9) (v := ?_) rfl (by kernel_rfl) (by kernel_rfl) (by kernel_rfl) (fun _ _ _ h => h) (by rfl) (gives_pure (by rfl) ?_) ?_
  rotate_left
  · intro b' d' u' W' hS'
    obtain ⟨c0, c1, c2, c3, c4, c5, c6, c7, c8, c9, c10, c11, c12⟩ := (HQ.out.below hS').cs
    go_simp
    rfl
  try simp only [Act.put, List.setIfInBounds_toArray, List.set_cons_zero, List.set_cons_succ, List.getElem_toArray, List.getElem_cons_zero, List.getElem_cons_succ]
  refine wpAnyS_take (i := 10) (v := ?_) rfl (by kernel_rfl) (by kernel_rfl) (by kernel_rfl) (fun _ _ _ h => h) (by rfl) (gives_pure (by rfl) ?_) ?_
  rotate_left
  · intro b' d' u' W' hS'
    obtain ⟨c0, c1, c2, c3, c4, c5, c6, c7, c8, c9, c10, c11, c12⟩ := (HQ.out.below hS').cs
    go_simp
    rfl
  try simp only [Act.put, List.setIfInBounds_toArray, List.set_cons_zero, List.set_cons_succ, List.getElem_toArray, List.getElem_cons_zero, List.getElem_cons_succ]
  refine wpAnyS_done (b := true) (d := true) (by kernel_rfl) (by kernel_rfl) (by kernel_rfl) rfl (fun wS hS => ?_) _
  have HS9 := Lib.hid hS
  clear hS
  go_wp2_with fail
  go_ret
  exact ⟨rfl, HS9.out⟩
attribute [local go_sem] fldU
set_option maxRecDepth 100000 in
set_option maxHeartbeats 4000000 in
theorem fbcont_one (q : FbV gN gU gH bw gk gs v uw w) : Calls Tryz.prog 71 #[.pointer (some ⟨bw, 0, none⟩), .int .i64 0, .int .i64 0] w fun e w' => (∃ u, e = .returned u) ∧ Below w.heap.size w w' := by
  obtain ⟨c0, c1, c2, c3, c4, c5, c6, c7, c8, c9, c10, c11, c12⟩ := q.cs
  have k0 := q.k.get 0 rfl
  have kl := q.k.lt
  have HQ := Lib.hid q
  clear q
  go_enter Tryz.func71, Tryz.ntmps71
  go_wp2_with fail
  go_quiet (fail)
  have HQ1 := Lib.hid (HQ.out.below (below_drVN (Below.refl _ _) nq))
  have HB1 := Lib.hid (below_drVN (Below.refl w.heap.size w) nq)
  generalize w.drewN nq = w1 at HQ1 HB1 ⊢
  clear c0 c1 c2 c3 c4 c5 c6 c7 c8 c9 c10 c11 c12 k0 kl
  have HU := Lib.hid (fbused_one HQ1.out)
  go_upto_region 2 with (go_at_call 128; refine HU.out.mono ?_; rintro e w2 ⟨rfl, hb2⟩; have HB2 := Lib.hid (HB1.out.trans (hb2.mono HB1.out.size)); clear hb2)
  go_quiet (fail)
  have HB3 := Lib.hid (below_drVN HB2.out nq)
  generalize w2.drewN nq = w3 at HB3 ⊢
  go_wp2_with fail
  refine wp_loop0 ?_
  go_wp2_with fail
  go_end0
  exact ⟨⟨_, rfl⟩, HB3.out⟩
set_option maxRecDepth 100000 in
set_option maxHeartbeats 4000000 in
theorem fblines_one (q : FbV gN gU gH bw gk gs v uw w) : Calls Tryz.prog 137 #[.pointer (some ⟨bw, 0, none⟩), .int .i64 0] w fun e w' => e = .returned (.tuple #[.slice none 0 0, .bool false]) ∧ Below w.heap.size w w' := by
  have HQ := Lib.hid q
  have HCT := Lib.hid (fun x W' => cut_any x W')
  have q1 := Lib.hid (fbspot_one (HQ.out.below ((Below.refl _ _).alloc (Nat.le_refl _) (.cells #[.bool false] 4))))
  clear q
  go_enter Tryz.func137, Tryz.ntmps137
  go_upto_region 2 with (go_at_call 69; refine q1.out.mono ?_; rintro e w1 ⟨rfl, hb1⟩; have HB1 : Hid (Below w.heap.size w w1) := Lib.hid (((Below.refl _ _).alloc (Nat.le_refl _) _).trans (hb1.mono (by simp))); have HG1 : Hid (Blk w1 w.heap.size 4 #[.bool false]) := Lib.hid ((Blk.new _ _ _).below hb1 (by simp)); clear hb1)
  have HQ1 := Lib.hid (HQ.out.below HB1.out)
  obtain ⟨c0, c1, c2, c3, c4, c5, c6, c7, c8, c9, c10, c11, c12⟩ := HQ1.out.cs
  have y34 : w1.cell? ⟨gN, 34, none⟩ = some (.int .i64 0) := HQ1.out.n.get 34 rfl
  have s4 := HQ1.out.s.get 4 rfl
  have sl := HQ1.out.s.lt
  go_upto_region 4 with (go_at_call 81; refine (HCT.out _ _).mono ?_; rintro e w2 ⟨rfl, hw2⟩; subst hw2)
  go_wp2_with fail
  refine wp_loop0 ?_
  have b0 := HG1.out.c1
  have bf := HG1.out.frozen 0
  go_upto_region 15 with (fail)
  go_region
  obtain ⟨X, hX⟩ : ∃ X, X = (w1.setCell ⟨w.heap.size, 0, none⟩ (.bool false)).drew := ⟨_, rfl⟩
  rw [← hX]
  have HX : Hid (Blk X w.heap.size 4 #[.bool false] ∧ Below w.heap.size w X) := Lib.hid (by rw [hX]; exact ⟨(HG1.out.set_ 0 _).drew, (HB1.out.setCell (p := ⟨w.heap.size, 0, none⟩) (Nat.le_refl _) _).drew⟩)
  have z0 := HX.out.1.c1
  clear hX b0 bf
  go_wp2_with fail
  refine bodyPost_ret (v := .tuple #[.slice none 0 0, .bool false]) ?_ rfl ⟨rfl, HX.out.2⟩
  simp [results, Tryz.results137, go_sem, z0]
set_option maxRecDepth 100000 in
set_option maxHeartbeats 4000000 in
theorem fblay_one (Ab : Option Addr) (cb : Nat) (hw : Blk w bw 126 #[.slice (some ⟨gN, 0, none⟩) 1 1, .slice none 0 0, .int .i64 v, .int .i64 0, .slice (some ⟨gU, 0, none⟩) 1 1, .slice (some ⟨gH, 0, none⟩) 1 1, .slice none 0 0, .slice none 0 0, .int .i64 0, .int .i64 0, .int .i64 0, .slice none 0 0, .slice none 0 0]) (hn : Blk w gN 69 (ndsCells l1V).toArray) : Calls Tryz.prog 68 #[.pointer (some ⟨bw, 0, none⟩), .slice Ab 0 cb] w fun e w' => (∃ u, e = .returned u) ∧ ∃ gk gs, Blk w' bw 126 #[.slice (some ⟨gN, 0, none⟩) 1 1, .slice none 0 0, .int .i64 v, .int .i64 0, .slice (some ⟨gU, 0, none⟩) 1 1, .slice (some ⟨gH, 0, none⟩) 1 1, .slice (some ⟨gk, 0, none⟩) 1 1, .slice (some ⟨gs, 0, none⟩) 1 1, .int .i64 0, .int .i64 0, .int .i64 0, .slice none 0 0, .slice none 0 0] ∧ Blk w' gk 50 #[.slice none 0 0] ∧ Blk w' gs 132 #[.int .i64 0, .int .i64 0, .int .i64 0, .bool false, .slice none 0 0, .slice none 0 0, .slice none 0 0] ∧ bw < gs ∧ Below bw w w' := by
  have HW := Lib.hid hw
  have hz := hw.lt
  have c0 : w.cell? ⟨bw, 0, none⟩ = some (.slice (some ⟨gN, 0, none⟩) 1 1) := hw.get 0 rfl
  have c3 : w.cell? ⟨bw, 3, none⟩ = some (.int .i64 0) := hw.get 3 rfl
  have hmk1 := make_row1
  have hmk2 := make_sps1
  have hmk3 := make_bo1
  clear hw hn
  go_enter Tryz.func68, Tryz.ntmps68
  go_wp2_with fail
  refine wp_loop0 ?_
  go_wp2_with fail
  go_quiet (fail)
  have HB1 := Lib.hid (below_drVN (Below.refl bw w) nq)
  have HW1 := Lib.hid (HW.out.drewN nq)
  generalize w.drewN nq = w1 at HB1 HW1 ⊢
  clear c0 c3 hz
  have c3 : w1.cell? ⟨bw, 3, none⟩ = some (.int .i64 0) := HW1.out.get 3 rfl
  have c6 : w1.cell? ⟨bw, 6, none⟩ = some (.slice none 0 0) := HW1.out.get 6 rfl
  have c7 : w1.cell? ⟨bw, 7, none⟩ = some (.slice none 0 0) := HW1.out.get 7 rfl
  have cf := HW1.out.frozen
  have hz1 : bw < w1.heap.size := HW1.out.lt
  have hz2 : bw < w1.heap.size + 1 := by omega
  have hz3 : bw < w1.heap.size + 1 + 1 := by omega
  have hbne : bw ≠ w1.heap.size + 1 + 1 := by omega
  go_upto_region 6 with (fail)
  obtain ⟨w2, hw2⟩ : ∃ w2, w2 = ((((w1.setCell ⟨bw, 6, none⟩ (.slice (some ⟨w1.heap.size, 0, none⟩) 1 1)).setCell ⟨bw, 7, none⟩ (.slice (some ⟨w1.heap.size + 1, 0, none⟩) 1 1)).alloc (.cells #[.slice none 0 0] 50)).alloc (.cells #[.int .i64 0, .int .i64 0, .int .i64 0, .bool false, .slice none 0 0, .slice none 0 0, .slice none 0 0] 132)).alloc (.cells #[.bool false] 4) := ⟨_, rfl⟩
  rw [← hw2]
  obtain ⟨gk, hgk⟩ : ∃ gk, gk = w1.heap.size := ⟨_, rfl⟩
  have HK2 : Hid (Blk w2 gk 50 #[.slice none 0 0]) := Lib.hid (by rw [hw2, hgk]; exact ((Blk.at_ _ _ _ (by simp [World.setCell])).alloc _).alloc _)
  have HS2 : Hid (Blk w2 (gk + 1) 132 #[.int .i64 0, .int .i64 0, .int .i64 0, .bool false, .slice none 0 0, .slice none 0 0, .slice none 0 0]) := Lib.hid (by rw [hw2, hgk]; exact (Blk.at_ _ _ _ (by simp [World.setCell])).alloc _)
  have HL2 : Hid (Blk w2 (gk + 1 + 1) 4 #[.bool false]) := Lib.hid (by rw [hw2, hgk]; exact Blk.at_ _ _ _ (by simp [World.setCell]))
  have HW2 : Hid (Blk w2 bw 126 #[.slice (some ⟨gN, 0, none⟩) 1 1, .slice none 0 0, .int .i64 v, .int .i64 0, .slice (some ⟨gU, 0, none⟩) 1 1, .slice (some ⟨gH, 0, none⟩) 1 1, .slice (some ⟨gk, 0, none⟩) 1 1, .slice (some ⟨gk + 1, 0, none⟩) 1 1, .int .i64 0, .int .i64 0, .int .i64 0, .slice none 0 0, .slice none 0 0]) := Lib.hid (by rw [hw2, hgk]; exact ((((HW1.out.set_ 6 _).set_ 7 _).alloc _).alloc _).alloc _)
  have HB2 : Hid (Below bw w w2) := Lib.hid (by rw [hw2]; exact ((((HB1.out.setCell (p := ⟨bw, 6, none⟩) (Nat.le_refl _) _).setCell (p := ⟨bw, 7, none⟩) (Nat.le_refl _) _).alloc (by simp; omega) _).alloc (by simp; omega) _).alloc (by simp; omega) _)
  have HZ2 : Hid (bw < gk) := Lib.hid (by omega)
  rw [← hgk]
  clear hw2 hgk c3 c6 c7 cf hz1 hz2 hz3 hbne hmk1 hmk2 hmk3
  have b0 := HL2.out.get 0 rfl
  have bf := HL2.out.frozen 0
  have bl := HL2.out.lt
  have hbz := HZ2.out
  go_upto_region 7 with (fail)
  have HK3 := Lib.hid (HK2.out.far (p := ⟨gk + 1 + 1, 0, none⟩) (by show gk ≠ gk + 1 + 1; omega) (.bool true))
  have HS3 := Lib.hid (HS2.out.far (p := ⟨gk + 1 + 1, 0, none⟩) (by show gk + 1 ≠ gk + 1 + 1; omega) (.bool true))
  have HW3 := Lib.hid (HW2.out.far (p := ⟨gk + 1 + 1, 0, none⟩) (by simp; omega) (.bool true))
  have HB3 := Lib.hid (HB2.out.setCell (p := ⟨gk + 1 + 1, 0, none⟩) (by simp; omega) (.bool true))
  clear b0 bf bl hbz
  generalize World.setCell w2 _ _ = w3 at HK3 HS3 HW3 HB3 ⊢
  go_wp2_with fail
  refine wp_loop0 ?_
  have c3 : w3.cell? ⟨bw, 3, none⟩ = some (.int .i64 0) := HW3.out.get 3 rfl
  have cl := HW3.out.lt
  go_wp2_with fail
  refine wp_loop0 ?_
  go_wp2_with fail
  go_end0
  exact ⟨⟨_, rfl⟩, gk, gk + 1, HW3.out, HK3.out, HS3.out, by have := HZ2.out; omega, HB3.out⟩
structure ToV (W : World) (gI : Nat) (is : Array Value) (W' : World) : Prop where
  r : Blk W' W.heap.size 59 #[.slice none 0 0, .slice none 0 0, .slice none 0 0, .int .i64 0, .slice none 0 0, .bool false]
  i : Blk W' gI 59 is
  ge : W.heap.size < gI
  l : Below W.heap.size W W'
theorem ToV.below {W : World} {gI : Nat} {is : Array Value} {W1 W2 : World} (h : ToV W gI is W1) (hb : Below W1.heap.size W1 W2) : ToV W gI is W2 :=
  ⟨h.r.below hb h.r.lt, h.i.below hb h.i.lt, h.ge, h.l.trans (hb.mono h.l.size)⟩
theorem ToV.setI {W : World} {gI : Nat} {is : Array Value} {W1 : World} (h : ToV W gI is W1) (i : Nat) (v : Value) : ToV W gI (is.setIfInBounds i v) (W1.setCell ⟨gI, i, none⟩ v) :=
  ⟨h.r.far (by have := h.ge; simp; omega) _, h.i.set_ i v, h.ge, h.l.setCell (p := ⟨gI, i, none⟩) (by have := h.ge; simp; omega) _⟩
theorem cellV_lt {w : World} {a : Addr} {v : Value} (h : w.cell? a = some v) : a.block < w.heap.size := by
  rcases Nat.lt_or_ge a.block w.heap.size with h1 | h1
  · exact h1
  · unfold World.cell? at h; rw [Array.getElem?_eq_none h1] at h; simp at h
theorem rngV_below {w1 w2 : World} {g : Nat} {cs : List Value} (h : w1.rangeAt g 0 cs) (hg : g < w1.heap.size) (hb : Below w1.heap.size w1 w2) : w2.rangeAt g 0 cs := fun j v hv => (hb.cell (p := ⟨g, 0 + j, none⟩) hg).trans (h j v hv)
set_option maxRecDepth 100000 in
set_option maxHeartbeats 4000000 in
theorem fbtold_one (Ab : Option Addr) (cb : Nat) (q : FbV gN gU gH bw gk gs v uw w) : Calls Tryz.prog 72 #[.pointer (some ⟨bw, 0, none⟩), .slice Ab 0 cb] w fun e w' => (∃ gF gB, e = .returned (.agg #[.slice Ab 0 cb, .slice (some ⟨gF, 0, none⟩) 0 0, .slice (some ⟨gB, 0, none⟩) 0 0, .int .i64 0, .slice none 0 0, .bool false])) ∧ Below w.heap.size w w' := by
  have HQ := Lib.hid q
  have HST : Hid (StyT (styK 1 0)) := Lib.hid ⟨rfl, rfl, .inl rfl, by decide, rfl, rfl, by decide, by decide, by decide, by decide, by decide, by decide, rfl, rfl, rfl, rfl⟩
  have HO := Lib.hid (Sty.one (styK 1 0) (A := none) (n := 0) (c := 0) rfl)
  have HMK := Lib.hid (fun W' (hb : Below w.heap.size w W') => fbmark_one (HQ.out.below hb))
  have HLN := Lib.hid (fun W' (hb : Below w.heap.size w W') => fblines_one (HQ.out.below hb))
  have HFR := Lib.hid (fun W' => frameT_any (styK 1 0) W' HST.out)
  have HHG := Lib.hid (fun W' => high_any (styK 1 0) 0 W' HST.out)
  have HCH : Hid (∀ W', Calls Tryz.prog 81 #[.int .i64 0] W' fun e w' => e = .returned (.tuple #[.int .i64 0, .bool false]) ∧ W' = w') := Lib.hid (fun W' => by have := cut_any 0 W'; rw [show cutF 0 = 0 from rfl, show cutB 0 = false from rfl] at this; exact this)
  have e1 : highF (styK 1 0) 0 = 0 := by decide +kernel
  have e2 : roofF (styK 1 0) + floorF (styK 1 0) = 0 := by decide +kernel
  rw [e1] at HHG
  rw [e2] at HFR
  have hmk1 := make_fr0
  have hmk2 := make_bo0
  clear q e1 e2
  go_enter Tryz.func72, Tryz.ntmps72
  go_upto_region 1 with (fail)
  go_cut [5] (fun v wx => ∃ gI gF gB : Nat, v = .pointer (some ⟨gI, 0, none⟩) ∧ Hid (ToV w gI #[.slice Ab 0 cb, .slice (some ⟨gF, 0, none⟩) 0 0, .slice (some ⟨gB, 0, none⟩) 0 0, .int .i64 0, .slice none 0 0, .bool false] wx))
  case first =>
    refine wp_region_held_drew (S := fun _ => True) (by kernel_rfl) trivial (fun hS => ?_)
    refine wpAnyH_take (i := 0) (v := ?_) rfl (by kernel_rfl) (by kernel_rfl) (by kernel_rfl) (fun _ _ _ h => h) (Or.inl ⟨by rfl, ?_⟩) hS ?_
    rotate_left
    · intro W' hS'
      go_simp
      rfl
    try simp only [Act.put, List.setIfInBounds_toArray, List.set_cons_zero, List.set_cons_succ, List.getElem_toArray, List.getElem_cons_zero, List.getElem_cons_succ]
    refine wpAnyH_take (i := 1) (v := ?_) rfl (by kernel_rfl) (by kernel_rfl) (by kernel_rfl) (fun _ _ _ h => h) (Or.inl ⟨by rfl, ?_⟩) hS ?_
    rotate_left
    · intro W' hS'
      go_simp
      rfl
    try simp only [Act.put, List.setIfInBounds_toArray, List.set_cons_zero, List.set_cons_succ, List.getElem_toArray, List.getElem_cons_zero, List.getElem_cons_succ]
    refine wpAnyH_take (i := 2) (v := ?_) rfl (by kernel_rfl) (by kernel_rfl) (by kernel_rfl) (fun _ _ _ h => h) (Or.inl ⟨by rfl, ?_⟩) hS ?_
    rotate_left
    · intro W' hS'
      go_simp
      rfl
    try simp only [Act.put, List.setIfInBounds_toArray, List.set_cons_zero, List.set_cons_succ, List.getElem_toArray, List.getElem_cons_zero, List.getElem_cons_succ]
    refine wpAnyH_take (i := 4) (v := ?_) rfl (by kernel_rfl) (by kernel_rfl) (by kernel_rfl) (fun _ _ _ h => h) (Or.inl ⟨by rfl, ?_⟩) hS ?_
    rotate_left
    · intro W' hS'
      go_simp
      rfl
    try simp only [Act.put, List.setIfInBounds_toArray, List.set_cons_zero, List.set_cons_succ, List.getElem_toArray, List.getElem_cons_zero, List.getElem_cons_succ]
    refine wpAnyH_take (i := 5) (v := ?_) rfl (by kernel_rfl) (by kernel_rfl) (by kernel_rfl) (fun _ _ _ h => h) (Or.inl ⟨by rfl, ?_⟩) hS ?_
    rotate_left
    · intro W' hS'
      go_simp
      rfl
    try simp only [Act.put, List.setIfInBounds_toArray, List.set_cons_zero, List.set_cons_succ, List.getElem_toArray, List.getElem_cons_zero, List.getElem_cons_succ]
    refine wpAnyH_ready (rs := [3, 6, 8]) (by kernel_rfl) (by simp) (AllReadyH.cons rfl (fun K hK => ?_) (AllReadyH.cons rfl (fun K hK => ?_) (AllReadyH.cons rfl (fun K hK => ?_) (AllReadyH.nil))))
    · go_simp
      refine hK.out _ _ trivial (fun hS => ?_)
      try simp only [Act.put, List.setIfInBounds_toArray, List.set_cons_zero, List.set_cons_succ, List.getElem_toArray, List.getElem_cons_zero, List.getElem_cons_succ]
      clear hK
      refine wpAnyH_ready (rs := [6, 8]) (by kernel_rfl) (by simp) (AllReadyH.cons rfl (fun K hK => ?_) (AllReadyH.cons rfl (fun K hK => ?_) (AllReadyH.nil)))
      · go_simp
        refine hK.out _ _ trivial (fun hS => ?_)
        try simp only [Act.put, List.setIfInBounds_toArray, List.set_cons_zero, List.set_cons_succ, List.getElem_toArray, List.getElem_cons_zero, List.getElem_cons_succ]
        clear hK
        refine wpAnyH_take (i := 7) (v := ?_) rfl (by kernel_rfl) (by kernel_rfl) (by kernel_rfl) (fun _ _ _ h => h) (Or.inl ⟨by rfl, ?_⟩) hS ?_
        rotate_left
        · intro W' hS'
          go_simp
          rfl
        try simp only [Act.put, List.setIfInBounds_toArray, List.set_cons_zero, List.set_cons_succ, List.getElem_toArray, List.getElem_cons_zero, List.getElem_cons_succ]
        refine wpAnyH_ready (rs := [8]) (by kernel_rfl) (by simp) (AllReadyH.cons rfl (fun K hK => ?_) (AllReadyH.nil))
        go_simp
        refine hK.out _ _ trivial (fun hS => ?_)
        try simp only [Act.put, List.setIfInBounds_toArray, List.set_cons_zero, List.set_cons_succ, List.getElem_toArray, List.getElem_cons_zero, List.getElem_cons_succ]
        clear hK
        generalize hw5 : World.drew (World.alloc (World.alloc (World.alloc (World.alloc w _) _) _) _) = w5
        have HR5 : Hid (Blk w5 w.heap.size 59 #[.slice none 0 0, .slice none 0 0, .slice none 0 0, .int .i64 0, .slice none 0 0, .bool false]) := Lib.hid (by rw [← hw5]; repeat (with_reducible first | (apply Blk.at_; simp; done) | apply Blk.drew | apply Blk.alloc))
        have HI5 : Hid (Blk w5 (w.heap.size + 1 + 1 + 1) 59 #[.slice none 0 0, .slice none 0 0, .slice none 0 0, .int .i64 0, .slice none 0 0, .bool false]) := Lib.hid (by rw [← hw5]; repeat (with_reducible first | (apply Blk.at_; simp; done) | apply Blk.drew | apply Blk.alloc))
        have HL5 : Hid (Below w.heap.size w w5) := Lib.hid (by rw [← hw5]; exact ((((((Below.refl _ _).alloc (Nat.le_refl _) _).alloc (by simp) _).alloc (by simp; omega) _).alloc (by simp; omega) _).drew))
        clear hw5
        have HT5 : Hid (ToV w (w.heap.size + 1 + 1 + 1) #[.slice none 0 0, .slice none 0 0, .slice none 0 0, .int .i64 0, .slice none 0 0, .bool false] w5) := Lib.hid ⟨HR5.out, HI5.out, by omega, HL5.out⟩
        have x0 := HI5.out.get 0 rfl
        have x1 := HI5.out.get 1 rfl
        have x2 := HI5.out.get 2 rfl
        have x3 := HI5.out.get 3 rfl
        have x4 := HI5.out.get 4 rfl
        have x5 := HI5.out.get 5 rfl
        have xf := HI5.out.frozen
        refine wpAnyH_ready (rs := [9]) (by kernel_rfl) (by simp) (AllReadyH.cons rfl (fun K hK => ?_) AllReadyH.nil)
        go_simp
        refine hK.out _ _ trivial (fun hS => ?_)
        try simp only [Act.put, List.setIfInBounds_toArray, List.set_cons_zero, List.set_cons_succ, List.getElem_toArray, List.getElem_cons_zero, List.getElem_cons_succ]
        clear hK
        refine wpAnyH_done (by kernel_rfl) ?_ _
        go_wp2_with fail
        go_meet
        case rel => exact ⟨w.heap.size + 1 + 1 + 1, w.heap.size + 1, w.heap.size + 1 + 1, rfl, Lib.hid ((((((HT5.out.setI 0 _).setI 1 _).setI 2 _).setI 3 _).setI 4 _).setI 5 _)⟩
      · go_simp
        refine hK.out _ _ trivial (fun hS => ?_)
        try simp only [Act.put, List.setIfInBounds_toArray, List.set_cons_zero, List.set_cons_succ, List.getElem_toArray, List.getElem_cons_zero, List.getElem_cons_succ]
        clear hK
        refine wpAnyH_ready (rs := [6]) (by kernel_rfl) (by simp) (AllReadyH.cons rfl (fun K hK => ?_) (AllReadyH.nil))
        go_simp
        refine hK.out _ _ trivial (fun hS => ?_)
        try simp only [Act.put, List.setIfInBounds_toArray, List.set_cons_zero, List.set_cons_succ, List.getElem_toArray, List.getElem_cons_zero, List.getElem_cons_succ]
        clear hK
        generalize hw5 : World.drew (World.alloc (World.alloc (World.alloc (World.alloc w _) _) _) _) = w5
        have HR5 : Hid (Blk w5 w.heap.size 59 #[.slice none 0 0, .slice none 0 0, .slice none 0 0, .int .i64 0, .slice none 0 0, .bool false]) := Lib.hid (by rw [← hw5]; repeat (with_reducible first | (apply Blk.at_; simp; done) | apply Blk.drew | apply Blk.alloc))
        have HI5 : Hid (Blk w5 (w.heap.size + 1 + 1) 59 #[.slice none 0 0, .slice none 0 0, .slice none 0 0, .int .i64 0, .slice none 0 0, .bool false]) := Lib.hid (by rw [← hw5]; repeat (with_reducible first | (apply Blk.at_; simp; done) | apply Blk.drew | apply Blk.alloc))
        have HL5 : Hid (Below w.heap.size w w5) := Lib.hid (by rw [← hw5]; exact ((((((Below.refl _ _).alloc (Nat.le_refl _) _).alloc (by simp) _).alloc (by simp; omega) _).alloc (by simp; omega) _).drew))
        clear hw5
        have HT5 : Hid (ToV w (w.heap.size + 1 + 1) #[.slice none 0 0, .slice none 0 0, .slice none 0 0, .int .i64 0, .slice none 0 0, .bool false] w5) := Lib.hid ⟨HR5.out, HI5.out, by omega, HL5.out⟩
        have x0 := HI5.out.get 0 rfl
        have x1 := HI5.out.get 1 rfl
        have x2 := HI5.out.get 2 rfl
        have x3 := HI5.out.get 3 rfl
        have x4 := HI5.out.get 4 rfl
        have x5 := HI5.out.get 5 rfl
        have xf := HI5.out.frozen
        refine wpAnyH_take (i := 7) (v := ?_) rfl (by kernel_rfl) (by kernel_rfl) (by kernel_rfl) (fun _ _ _ h => h) (Or.inl ⟨by rfl, ?_⟩) hS ?_
        rotate_left
        · intro W' hS'
          go_simp
          rfl
        try simp only [Act.put, List.setIfInBounds_toArray, List.set_cons_zero, List.set_cons_succ, List.getElem_toArray, List.getElem_cons_zero, List.getElem_cons_succ]
        refine wpAnyH_ready (rs := [9]) (by kernel_rfl) (by simp) (AllReadyH.cons rfl (fun K hK => ?_) AllReadyH.nil)
        go_simp
        refine hK.out _ _ trivial (fun hS => ?_)
        try simp only [Act.put, List.setIfInBounds_toArray, List.set_cons_zero, List.set_cons_succ, List.getElem_toArray, List.getElem_cons_zero, List.getElem_cons_succ]
        clear hK
        refine wpAnyH_done (by kernel_rfl) ?_ _
        go_wp2_with fail
        go_meet
        case rel => exact ⟨w.heap.size + 1 + 1, w.heap.size + 1, w.heap.size + 1 + 1 + 1, rfl, Lib.hid ((((((HT5.out.setI 0 _).setI 1 _).setI 2 _).setI 3 _).setI 4 _).setI 5 _)⟩
    · go_simp
      refine hK.out _ _ trivial (fun hS => ?_)
      try simp only [Act.put, List.setIfInBounds_toArray, List.set_cons_zero, List.set_cons_succ, List.getElem_toArray, List.getElem_cons_zero, List.getElem_cons_succ]
      clear hK
      refine wpAnyH_ready (rs := [3, 8]) (by kernel_rfl) (by simp) (AllReadyH.cons rfl (fun K hK => ?_) (AllReadyH.cons rfl (fun K hK => ?_) (AllReadyH.nil)))
      · go_simp
        refine hK.out _ _ trivial (fun hS => ?_)
        try simp only [Act.put, List.setIfInBounds_toArray, List.set_cons_zero, List.set_cons_succ, List.getElem_toArray, List.getElem_cons_zero, List.getElem_cons_succ]
        clear hK
        refine wpAnyH_take (i := 7) (v := ?_) rfl (by kernel_rfl) (by kernel_rfl) (by kernel_rfl) (fun _ _ _ h => h) (Or.inl ⟨by rfl, ?_⟩) hS ?_
        rotate_left
        · intro W' hS'
          go_simp
          rfl
        try simp only [Act.put, List.setIfInBounds_toArray, List.set_cons_zero, List.set_cons_succ, List.getElem_toArray, List.getElem_cons_zero, List.getElem_cons_succ]
        refine wpAnyH_ready (rs := [8]) (by kernel_rfl) (by simp) (AllReadyH.cons rfl (fun K hK => ?_) (AllReadyH.nil))
        go_simp
        refine hK.out _ _ trivial (fun hS => ?_)
        try simp only [Act.put, List.setIfInBounds_toArray, List.set_cons_zero, List.set_cons_succ, List.getElem_toArray, List.getElem_cons_zero, List.getElem_cons_succ]
        clear hK
        generalize hw5 : World.drew (World.alloc (World.alloc (World.alloc (World.alloc w _) _) _) _) = w5
        have HR5 : Hid (Blk w5 w.heap.size 59 #[.slice none 0 0, .slice none 0 0, .slice none 0 0, .int .i64 0, .slice none 0 0, .bool false]) := Lib.hid (by rw [← hw5]; repeat (with_reducible first | (apply Blk.at_; simp; done) | apply Blk.drew | apply Blk.alloc))
        have HI5 : Hid (Blk w5 (w.heap.size + 1 + 1 + 1) 59 #[.slice none 0 0, .slice none 0 0, .slice none 0 0, .int .i64 0, .slice none 0 0, .bool false]) := Lib.hid (by rw [← hw5]; repeat (with_reducible first | (apply Blk.at_; simp; done) | apply Blk.drew | apply Blk.alloc))
        have HL5 : Hid (Below w.heap.size w w5) := Lib.hid (by rw [← hw5]; exact ((((((Below.refl _ _).alloc (Nat.le_refl _) _).alloc (by simp) _).alloc (by simp; omega) _).alloc (by simp; omega) _).drew))
        clear hw5
        have HT5 : Hid (ToV w (w.heap.size + 1 + 1 + 1) #[.slice none 0 0, .slice none 0 0, .slice none 0 0, .int .i64 0, .slice none 0 0, .bool false] w5) := Lib.hid ⟨HR5.out, HI5.out, by omega, HL5.out⟩
        have x0 := HI5.out.get 0 rfl
        have x1 := HI5.out.get 1 rfl
        have x2 := HI5.out.get 2 rfl
        have x3 := HI5.out.get 3 rfl
        have x4 := HI5.out.get 4 rfl
        have x5 := HI5.out.get 5 rfl
        have xf := HI5.out.frozen
        refine wpAnyH_ready (rs := [9]) (by kernel_rfl) (by simp) (AllReadyH.cons rfl (fun K hK => ?_) AllReadyH.nil)
        go_simp
        refine hK.out _ _ trivial (fun hS => ?_)
        try simp only [Act.put, List.setIfInBounds_toArray, List.set_cons_zero, List.set_cons_succ, List.getElem_toArray, List.getElem_cons_zero, List.getElem_cons_succ]
        clear hK
        refine wpAnyH_done (by kernel_rfl) ?_ _
        go_wp2_with fail
        go_meet
        case rel => exact ⟨w.heap.size + 1 + 1 + 1, w.heap.size + 1 + 1, w.heap.size + 1, rfl, Lib.hid ((((((HT5.out.setI 0 _).setI 1 _).setI 2 _).setI 3 _).setI 4 _).setI 5 _)⟩
      · go_simp
        refine hK.out _ _ trivial (fun hS => ?_)
        try simp only [Act.put, List.setIfInBounds_toArray, List.set_cons_zero, List.set_cons_succ, List.getElem_toArray, List.getElem_cons_zero, List.getElem_cons_succ]
        clear hK
        refine wpAnyH_ready (rs := [3]) (by kernel_rfl) (by simp) (AllReadyH.cons rfl (fun K hK => ?_) (AllReadyH.nil))
        go_simp
        refine hK.out _ _ trivial (fun hS => ?_)
        try simp only [Act.put, List.setIfInBounds_toArray, List.set_cons_zero, List.set_cons_succ, List.getElem_toArray, List.getElem_cons_zero, List.getElem_cons_succ]
        clear hK
        generalize hw5 : World.drew (World.alloc (World.alloc (World.alloc (World.alloc w _) _) _) _) = w5
        have HR5 : Hid (Blk w5 w.heap.size 59 #[.slice none 0 0, .slice none 0 0, .slice none 0 0, .int .i64 0, .slice none 0 0, .bool false]) := Lib.hid (by rw [← hw5]; repeat (with_reducible first | (apply Blk.at_; simp; done) | apply Blk.drew | apply Blk.alloc))
        have HI5 : Hid (Blk w5 (w.heap.size + 1 + 1) 59 #[.slice none 0 0, .slice none 0 0, .slice none 0 0, .int .i64 0, .slice none 0 0, .bool false]) := Lib.hid (by rw [← hw5]; repeat (with_reducible first | (apply Blk.at_; simp; done) | apply Blk.drew | apply Blk.alloc))
        have HL5 : Hid (Below w.heap.size w w5) := Lib.hid (by rw [← hw5]; exact ((((((Below.refl _ _).alloc (Nat.le_refl _) _).alloc (by simp) _).alloc (by simp; omega) _).alloc (by simp; omega) _).drew))
        clear hw5
        have HT5 : Hid (ToV w (w.heap.size + 1 + 1) #[.slice none 0 0, .slice none 0 0, .slice none 0 0, .int .i64 0, .slice none 0 0, .bool false] w5) := Lib.hid ⟨HR5.out, HI5.out, by omega, HL5.out⟩
        have x0 := HI5.out.get 0 rfl
        have x1 := HI5.out.get 1 rfl
        have x2 := HI5.out.get 2 rfl
        have x3 := HI5.out.get 3 rfl
        have x4 := HI5.out.get 4 rfl
        have x5 := HI5.out.get 5 rfl
        have xf := HI5.out.frozen
        refine wpAnyH_take (i := 7) (v := ?_) rfl (by kernel_rfl) (by kernel_rfl) (by kernel_rfl) (fun _ _ _ h => h) (Or.inl ⟨by rfl, ?_⟩) hS ?_
        rotate_left
        · intro W' hS'
          go_simp
          rfl
        try simp only [Act.put, List.setIfInBounds_toArray, List.set_cons_zero, List.set_cons_succ, List.getElem_toArray, List.getElem_cons_zero, List.getElem_cons_succ]
        refine wpAnyH_ready (rs := [9]) (by kernel_rfl) (by simp) (AllReadyH.cons rfl (fun K hK => ?_) AllReadyH.nil)
        go_simp
        refine hK.out _ _ trivial (fun hS => ?_)
        try simp only [Act.put, List.setIfInBounds_toArray, List.set_cons_zero, List.set_cons_succ, List.getElem_toArray, List.getElem_cons_zero, List.getElem_cons_succ]
        clear hK
        refine wpAnyH_done (by kernel_rfl) ?_ _
        go_wp2_with fail
        go_meet
        case rel => exact ⟨w.heap.size + 1 + 1, w.heap.size + 1 + 1 + 1, w.heap.size + 1, rfl, Lib.hid ((((((HT5.out.setI 0 _).setI 1 _).setI 2 _).setI 3 _).setI 4 _).setI 5 _)⟩
    · go_simp
      refine hK.out _ _ trivial (fun hS => ?_)
      try simp only [Act.put, List.setIfInBounds_toArray, List.set_cons_zero, List.set_cons_succ, List.getElem_toArray, List.getElem_cons_zero, List.getElem_cons_succ]
      clear hK
      refine wpAnyH_ready (rs := [3, 6]) (by kernel_rfl) (by simp) (AllReadyH.cons rfl (fun K hK => ?_) (AllReadyH.cons rfl (fun K hK => ?_) (AllReadyH.nil)))
      · go_simp
        refine hK.out _ _ trivial (fun hS => ?_)
        try simp only [Act.put, List.setIfInBounds_toArray, List.set_cons_zero, List.set_cons_succ, List.getElem_toArray, List.getElem_cons_zero, List.getElem_cons_succ]
        clear hK
        refine wpAnyH_ready (rs := [6]) (by kernel_rfl) (by simp) (AllReadyH.cons rfl (fun K hK => ?_) (AllReadyH.nil))
        go_simp
        refine hK.out _ _ trivial (fun hS => ?_)
        try simp only [Act.put, List.setIfInBounds_toArray, List.set_cons_zero, List.set_cons_succ, List.getElem_toArray, List.getElem_cons_zero, List.getElem_cons_succ]
        clear hK
        generalize hw5 : World.drew (World.alloc (World.alloc (World.alloc (World.alloc w _) _) _) _) = w5
        have HR5 : Hid (Blk w5 w.heap.size 59 #[.slice none 0 0, .slice none 0 0, .slice none 0 0, .int .i64 0, .slice none 0 0, .bool false]) := Lib.hid (by rw [← hw5]; repeat (with_reducible first | (apply Blk.at_; simp; done) | apply Blk.drew | apply Blk.alloc))
        have HI5 : Hid (Blk w5 (w.heap.size + 1) 59 #[.slice none 0 0, .slice none 0 0, .slice none 0 0, .int .i64 0, .slice none 0 0, .bool false]) := Lib.hid (by rw [← hw5]; repeat (with_reducible first | (apply Blk.at_; simp; done) | apply Blk.drew | apply Blk.alloc))
        have HL5 : Hid (Below w.heap.size w w5) := Lib.hid (by rw [← hw5]; exact ((((((Below.refl _ _).alloc (Nat.le_refl _) _).alloc (by simp) _).alloc (by simp; omega) _).alloc (by simp; omega) _).drew))
        clear hw5
        have HT5 : Hid (ToV w (w.heap.size + 1) #[.slice none 0 0, .slice none 0 0, .slice none 0 0, .int .i64 0, .slice none 0 0, .bool false] w5) := Lib.hid ⟨HR5.out, HI5.out, by omega, HL5.out⟩
        have x0 := HI5.out.get 0 rfl
        have x1 := HI5.out.get 1 rfl
        have x2 := HI5.out.get 2 rfl
        have x3 := HI5.out.get 3 rfl
        have x4 := HI5.out.get 4 rfl
        have x5 := HI5.out.get 5 rfl
        have xf := HI5.out.frozen
        refine wpAnyH_take (i := 7) (v := ?_) rfl (by kernel_rfl) (by kernel_rfl) (by kernel_rfl) (fun _ _ _ h => h) (Or.inl ⟨by rfl, ?_⟩) hS ?_
        rotate_left
        · intro W' hS'
          go_simp
          rfl
        try simp only [Act.put, List.setIfInBounds_toArray, List.set_cons_zero, List.set_cons_succ, List.getElem_toArray, List.getElem_cons_zero, List.getElem_cons_succ]
        refine wpAnyH_ready (rs := [9]) (by kernel_rfl) (by simp) (AllReadyH.cons rfl (fun K hK => ?_) AllReadyH.nil)
        go_simp
        refine hK.out _ _ trivial (fun hS => ?_)
        try simp only [Act.put, List.setIfInBounds_toArray, List.set_cons_zero, List.set_cons_succ, List.getElem_toArray, List.getElem_cons_zero, List.getElem_cons_succ]
        clear hK
        refine wpAnyH_done (by kernel_rfl) ?_ _
        go_wp2_with fail
        go_meet
        case rel => exact ⟨w.heap.size + 1, w.heap.size + 1 + 1, w.heap.size + 1 + 1 + 1, rfl, Lib.hid ((((((HT5.out.setI 0 _).setI 1 _).setI 2 _).setI 3 _).setI 4 _).setI 5 _)⟩
      · go_simp
        refine hK.out _ _ trivial (fun hS => ?_)
        try simp only [Act.put, List.setIfInBounds_toArray, List.set_cons_zero, List.set_cons_succ, List.getElem_toArray, List.getElem_cons_zero, List.getElem_cons_succ]
        clear hK
        refine wpAnyH_ready (rs := [3]) (by kernel_rfl) (by simp) (AllReadyH.cons rfl (fun K hK => ?_) (AllReadyH.nil))
        go_simp
        refine hK.out _ _ trivial (fun hS => ?_)
        try simp only [Act.put, List.setIfInBounds_toArray, List.set_cons_zero, List.set_cons_succ, List.getElem_toArray, List.getElem_cons_zero, List.getElem_cons_succ]
        clear hK
        generalize hw5 : World.drew (World.alloc (World.alloc (World.alloc (World.alloc w _) _) _) _) = w5
        have HR5 : Hid (Blk w5 w.heap.size 59 #[.slice none 0 0, .slice none 0 0, .slice none 0 0, .int .i64 0, .slice none 0 0, .bool false]) := Lib.hid (by rw [← hw5]; repeat (with_reducible first | (apply Blk.at_; simp; done) | apply Blk.drew | apply Blk.alloc))
        have HI5 : Hid (Blk w5 (w.heap.size + 1) 59 #[.slice none 0 0, .slice none 0 0, .slice none 0 0, .int .i64 0, .slice none 0 0, .bool false]) := Lib.hid (by rw [← hw5]; repeat (with_reducible first | (apply Blk.at_; simp; done) | apply Blk.drew | apply Blk.alloc))
        have HL5 : Hid (Below w.heap.size w w5) := Lib.hid (by rw [← hw5]; exact ((((((Below.refl _ _).alloc (Nat.le_refl _) _).alloc (by simp) _).alloc (by simp; omega) _).alloc (by simp; omega) _).drew))
        clear hw5
        have HT5 : Hid (ToV w (w.heap.size + 1) #[.slice none 0 0, .slice none 0 0, .slice none 0 0, .int .i64 0, .slice none 0 0, .bool false] w5) := Lib.hid ⟨HR5.out, HI5.out, by omega, HL5.out⟩
        have x0 := HI5.out.get 0 rfl
        have x1 := HI5.out.get 1 rfl
        have x2 := HI5.out.get 2 rfl
        have x3 := HI5.out.get 3 rfl
        have x4 := HI5.out.get 4 rfl
        have x5 := HI5.out.get 5 rfl
        have xf := HI5.out.frozen
        refine wpAnyH_take (i := 7) (v := ?_) rfl (by kernel_rfl) (by kernel_rfl) (by kernel_rfl) (fun _ _ _ h => h) (Or.inl ⟨by rfl, ?_⟩) hS ?_
        rotate_left
        · intro W' hS'
          go_simp
          rfl
        try simp only [Act.put, List.setIfInBounds_toArray, List.set_cons_zero, List.set_cons_succ, List.getElem_toArray, List.getElem_cons_zero, List.getElem_cons_succ]
        refine wpAnyH_ready (rs := [9]) (by kernel_rfl) (by simp) (AllReadyH.cons rfl (fun K hK => ?_) AllReadyH.nil)
        go_simp
        refine hK.out _ _ trivial (fun hS => ?_)
        try simp only [Act.put, List.setIfInBounds_toArray, List.set_cons_zero, List.set_cons_succ, List.getElem_toArray, List.getElem_cons_zero, List.getElem_cons_succ]
        clear hK
        refine wpAnyH_done (by kernel_rfl) ?_ _
        go_wp2_with fail
        go_meet
        case rel => exact ⟨w.heap.size + 1, w.heap.size + 1 + 1 + 1, w.heap.size + 1 + 1, rfl, Lib.hid ((((((HT5.out.setI 0 _).setI 1 _).setI 2 _).setI 3 _).setI 4 _).setI 5 _)⟩
  case rest =>
    obtain ⟨gI, gF, gB, rfl, HT⟩ := hcut
    clear hmk1 hmk2
    have q2 := Lib.hid (HMK.out _ HT.out.l)
    go_upto_region 3 with (go_at_call 136; refine q2.out.mono ?_; rintro e w2 ⟨rfl, hb2⟩; have HT2 := Lib.hid (HT.out.below hb2); clear hb2)
    have HQ2 := Lib.hid (HQ.out.below HT2.out.l)
    obtain ⟨c0, c1, c2, c3, c4, c5, c6, c7, c8, c9, c10, c11, c12⟩ := HQ2.out.cs
    go_wp2_with fail
    clear c0 c1 c2 c3 c4 c5 c6 c7 c8 c9 c10 c11 c12 HQ2
    refine wp_loop0 ?_
    go_upto_region 8 with (fail)
    refine wp_region_S (fun b d u W' => Below w2.heap.size w2 W' ∧ (d = true → ∃ gA, u = .pointer (some ⟨gA, 0, none⟩) ∧ w2.heap.size ≤ gA ∧ (if b then W'.rangeAt gA 0 (styCells (styK 1 0)) else Blk W' gA 67 (styCells styZ).toArray))) 13 12 9 false false (by kernel_rfl) (by kernel_rfl) (by kernel_rfl) (⟨(Below.refl _ _).drew, fun h => absurd h (by decide)⟩) ?_
    refine wpAnyS_take (i := 0) (v := ?_) rfl (by kernel_rfl) (by kernel_rfl) (by kernel_rfl) (fun _ _ _ h => h) (by rfl) (gives_pureF (by rfl) (by kernel_rfl) ?_) ?_
    rotate_left
    · intro d' u' W' hS'
      obtain ⟨c0, c1, c2, c3, c4, c5, c6, c7, c8, c9, c10, c11, c12⟩ := (HQ.out.below (HT2.out.l.trans (hS'.1.mono HT2.out.l.size))).cs
      go_simp
      rfl
    try simp only [Act.put, List.setIfInBounds_toArray, List.set_cons_zero, List.set_cons_succ, List.getElem_toArray, List.getElem_cons_zero, List.getElem_cons_succ]
    refine wpAnyS_take (i := 1) (v := ?_) rfl (by kernel_rfl) (by kernel_rfl) (by kernel_rfl) (fun _ _ _ h => h) (by rfl) (gives_pureF (by rfl) (by kernel_rfl) ?_) ?_
    rotate_left
    · intro d' u' W' hS'
      obtain ⟨c0, c1, c2, c3, c4, c5, c6, c7, c8, c9, c10, c11, c12⟩ := (HQ.out.below (HT2.out.l.trans (hS'.1.mono HT2.out.l.size))).cs
      go_simp
      rfl
    try simp only [Act.put, List.setIfInBounds_toArray, List.set_cons_zero, List.set_cons_succ, List.getElem_toArray, List.getElem_cons_zero, List.getElem_cons_succ]
    refine wpAnyS_take (i := 2) (v := ?_) rfl (by kernel_rfl) (by kernel_rfl) (by kernel_rfl) (fun _ _ _ h => h) (by rfl) (gives_pureF (by rfl) (by kernel_rfl) ?_) ?_
    rotate_left
    · intro d' u' W' hS'
      obtain ⟨c0, c1, c2, c3, c4, c5, c6, c7, c8, c9, c10, c11, c12⟩ := (HQ.out.below (HT2.out.l.trans (hS'.1.mono HT2.out.l.size))).cs
      go_simp
      rfl
    try simp only [Act.put, List.setIfInBounds_toArray, List.set_cons_zero, List.set_cons_succ, List.getElem_toArray, List.getElem_cons_zero, List.getElem_cons_succ]
    refine wpAnyS_take (i := 3) (v := ?_) rfl (by kernel_rfl) (by kernel_rfl) (by kernel_rfl) (fun _ _ _ h => h) (by rfl) (gives_pureF (by rfl) (by kernel_rfl) ?_) ?_
    rotate_left
    · intro d' u' W' hS'
      obtain ⟨c0, c1, c2, c3, c4, c5, c6, c7, c8, c9, c10, c11, c12⟩ := (HQ.out.below (HT2.out.l.trans (hS'.1.mono HT2.out.l.size))).cs
      go_simp
      rfl
    try simp only [Act.put, List.setIfInBounds_toArray, List.set_cons_zero, List.set_cons_succ, List.getElem_toArray, List.getElem_cons_zero, List.getElem_cons_succ]
    refine wpAnyS_take (i := 4) (v := ?_) rfl (by kernel_rfl) (by kernel_rfl) (by kernel_rfl) (fun _ _ _ h => h) (by rfl) (gives_pureF (by rfl) (by kernel_rfl) ?_) ?_
    rotate_left
    · intro d' u' W' hS'
      obtain ⟨c0, c1, c2, c3, c4, c5, c6, c7, c8, c9, c10, c11, c12⟩ := (HQ.out.below (HT2.out.l.trans (hS'.1.mono HT2.out.l.size))).cs
      go_simp
      rfl
    try simp only [Act.put, List.setIfInBounds_toArray, List.set_cons_zero, List.set_cons_succ, List.getElem_toArray, List.getElem_cons_zero, List.getElem_cons_succ]
    refine wpAnyS_take (i := 5) (v := ?_) rfl (by kernel_rfl) (by kernel_rfl) (by kernel_rfl) (fun _ _ _ h => h) (by rfl) (gives_pureF (by rfl) (by kernel_rfl) ?_) ?_
    rotate_left
    · intro d' u' W' hS'
      obtain ⟨c0, c1, c2, c3, c4, c5, c6, c7, c8, c9, c10, c11, c12⟩ := (HQ.out.below (HT2.out.l.trans (hS'.1.mono HT2.out.l.size))).cs
      go_simp
      rfl
    try simp only [Act.put, List.setIfInBounds_toArray, List.set_cons_zero, List.set_cons_succ, List.getElem_toArray, List.getElem_cons_zero, List.getElem_cons_succ]
    refine wpAnyS_take (i := 6) (v := ?_) rfl (by kernel_rfl) (by kernel_rfl) (by kernel_rfl) (fun _ _ _ h => h) (by rfl) (gives_pureF (by rfl) (by kernel_rfl) ?_) ?_
    rotate_left
    · intro d' u' W' hS'
      obtain ⟨c0, c1, c2, c3, c4, c5, c6, c7, c8, c9, c10, c11, c12⟩ := (HQ.out.below (HT2.out.l.trans (hS'.1.mono HT2.out.l.size))).cs
      go_simp
      rfl
    try simp only [Act.put, List.setIfInBounds_toArray, List.set_cons_zero, List.set_cons_succ, List.getElem_toArray, List.getElem_cons_zero, List.getElem_cons_succ]
    refine wpAnyS_take (i := 7) (v := ?_) rfl (by kernel_rfl) (by kernel_rfl) (by kernel_rfl) (fun _ _ _ h => h) (by rfl) (gives_pureF (by rfl) (by kernel_rfl) ?_) ?_
    rotate_left
    · intro d' u' W' hS'
      obtain ⟨c0, c1, c2, c3, c4, c5, c6, c7, c8, c9, c10, c11, c12⟩ := (HQ.out.below (HT2.out.l.trans (hS'.1.mono HT2.out.l.size))).cs
      go_simp
      rfl
    try simp only [Act.put, List.setIfInBounds_toArray, List.set_cons_zero, List.set_cons_succ, List.getElem_toArray, List.getElem_cons_zero, List.getElem_cons_succ]
    refine wpAnyS_take (i := 8) (v := ?_) rfl (by kernel_rfl) (by kernel_rfl) (by kernel_rfl) (fun _ _ _ h => h) (by rfl) (gives_pureF (by rfl) (by kernel_rfl) ?_) ?_
    rotate_left
    · intro d' u' W' hS'
      obtain ⟨c0, c1, c2, c3, c4, c5, c6, c7, c8, c9, c10, c11, c12⟩ := (HQ.out.below (HT2.out.l.trans (hS'.1.mono HT2.out.l.size))).cs
      go_simp
      rfl
    try simp only [Act.put, List.setIfInBounds_toArray, List.set_cons_zero, List.set_cons_succ, List.getElem_toArray, List.getElem_cons_zero, List.getElem_cons_succ]
    refine wpAnyS_take (i := 9) (v := ?_) rfl (by kernel_rfl) (by kernel_rfl) (by kernel_rfl) (fun _ _ _ h => h) (by rfl) (gives_pureF (by rfl) (by kernel_rfl) ?_) ?_
    rotate_left
    · intro d' u' W' hS'
      obtain ⟨c0, c1, c2, c3, c4, c5, c6, c7, c8, c9, c10, c11, c12⟩ := (HQ.out.below (HT2.out.l.trans (hS'.1.mono HT2.out.l.size))).cs
      go_simp
      rfl
    try simp only [Act.put, List.setIfInBounds_toArray, List.set_cons_zero, List.set_cons_succ, List.getElem_toArray, List.getElem_cons_zero, List.getElem_cons_succ]
    refine wpAnyS_take (i := 10) (v := ?_) rfl (by kernel_rfl) (by kernel_rfl) (by kernel_rfl) (fun _ _ _ h => h) (by rfl) (gives_pureF (by rfl) (by kernel_rfl) ?_) ?_
    rotate_left
    · intro d' u' W' hS'
      obtain ⟨c0, c1, c2, c3, c4, c5, c6, c7, c8, c9, c10, c11, c12⟩ := (HQ.out.below (HT2.out.l.trans (hS'.1.mono HT2.out.l.size))).cs
      go_simp
      rfl
    try simp only [Act.put, List.setIfInBounds_toArray, List.set_cons_zero, List.set_cons_succ, List.getElem_toArray, List.getElem_cons_zero, List.getElem_cons_succ]
    refine wpAnyS_take (i := 11) (v := .agg (styCells (styK 1 0)).toArray) rfl (by kernel_rfl) (by kernel_rfl) (by kernel_rfl) (fun _ _ _ h => h) (by rfl) (gives_yields ?_) ?_
    · refine yieldsIf_load_mid (by rfl) 67 (.tmp 58) rfl (gN) 1 rfl (styCells (styK 1 0)) _ ?_ Tryz.underlying67 rfl (by kernel_rfl)
      rintro W' ⟨b', d', u', hS'⟩
      exact (sty1V_rng (HQ.out.below (HT2.out.l.trans (hS'.1.mono HT2.out.l.size))).n)
    try simp only [Act.put, List.setIfInBounds_toArray, List.set_cons_zero, List.set_cons_succ, List.getElem_toArray, List.getElem_cons_zero, List.getElem_cons_succ]
    refine wpAnyS_alloc (i := 12) (b := false) (.cells (styCells styZ).toArray 67) rfl (by kernel_rfl) (by rfl) (by rfl) (by kernel_rfl) ?_ (fun u' W' hS' => ⟨hS'.1.alloc hS'.1.size _, fun _ => ⟨_, rfl, hS'.1.size, Blk.new _ _ _⟩⟩) (fun gA => ?_)
    · intro W'
      first | rfl | kernel_rfl
    try simp only [Act.put, List.setIfInBounds_toArray, List.set_cons_zero, List.set_cons_succ, List.getElem_toArray, List.getElem_cons_zero, List.getElem_cons_succ]
    refine wpAnyS_store (i := 13) (d := true) (fun W' => W'.setCells gA 0 (styCells (styK 1 0))) rfl (by kernel_rfl) (by rfl) (by rfl) (by kernel_rfl) rfl ?_ (fun W' hS' => ?_) ?_
    · intro W' hS'
      obtain ⟨gA', e1, e2, e3⟩ := hS'.2 rfl
      have e4 : gA = gA' := by injection e1 with e1; injection e1 with e1; injection e1
      subst e4
      exact exec_store_mid 67 (.tmp 9) (.tmp 59) rfl gA 0 (styCells (styK 1 0)) rfl rfl W' (there_blkO e3 (Nat.le_refl _)) (by kernel_rfl) HO.out
    · obtain ⟨gA', e1, e2, e3⟩ := hS'.2 rfl
      have e4 : gA = gA' := by injection e1 with e1; injection e1 with e1; injection e1
      subst e4
      exact ⟨below_setCells e2 _ _ _ _ hS'.1, fun _ => ⟨gA, rfl, e2, World.rangeAt_setCells_same _ _ _ _ (there_blkO e3 (Nat.le_refl _))⟩⟩
    try simp only [Act.put, List.setIfInBounds_toArray, List.set_cons_zero, List.set_cons_succ, List.getElem_toArray, List.getElem_cons_zero, List.getElem_cons_succ]
    refine wpAnyS_done (b := true) (d := true) (by kernel_rfl) (by kernel_rfl) (by kernel_rfl) rfl (fun w3 hS => ?_) _
    obtain ⟨gA', e1, e2, e3⟩ := hS.2 rfl
    have e4 : gA = gA' := by injection e1 with e1; injection e1 with e1; injection e1
    subst e4
    have HT3 := Lib.hid (HT2.out.below hS.1)
    have HR3 : Hid (w3.rangeAt gA 0 (styCells (styK 1 0))) := Lib.hid e3
    have HZ3 : Hid (gA < w3.heap.size) := Lib.hid (by have := cellV_lt (e3 0 _ rfl); simpa using this)
    clear hS e1 e2 e3
    go_upto_region 10 with (first | (refine wpList_load_mid rfl 67 (.tmp 9) rfl gA 0 rfl (styCells (styK 1 0)) _ HR3.out Tryz.underlying67 rfl (by kernel_rfl) ?_) | (go_at_call 82; refine (HFR.out _).mono ?_; rintro e w4 ⟨rfl, hw4⟩; have HB4 : Hid (Below w3.heap.size w3 w4) := Lib.hid (hw4 ▸ (Below.refl _ _).alloc (Nat.le_refl _) _); clear hw4; have HT4 := Lib.hid (HT3.out.below HB4.out); have HR4 := Lib.hid (rngV_below HR3.out HZ3.out HB4.out)))
    have x3 := HT4.out.i.get 3 (v := .int .i64 0) rfl
    go_upto_region 12 with (first | (refine wpList_load_mid rfl 67 (.tmp 9) rfl gA 0 rfl (styCells (styK 1 0)) _ HR4.out Tryz.underlying67 rfl (by kernel_rfl) ?_) | (go_at_call 83; refine (HHG.out _).mono ?_; rintro e w5 ⟨rfl, hw5⟩; have HT5 := Lib.hid (HT4.out.below (hw5 ▸ (Below.refl _ _).alloc (Nat.le_refl _) _)); clear hw5 x3; have x3 := HT5.out.i.get 3 (v := .int .i64 0) rfl; have xf := HT5.out.i.frozen 3) | (go_at_call 81; refine (HCH.out _).mono ?_; rintro e w6 ⟨rfl, hw6⟩; subst hw6))
    have HT6' := Lib.hid (HT5.out.setI 3 (.int .i64 0))
    clear x3 xf
    generalize World.setCell w5 _ _ = w6 at HT6' ⊢
    have HT6 : Hid (ToV w gI #[.slice Ab 0 cb, .slice (some ⟨gF, 0, none⟩) 0 0, .slice (some ⟨gB, 0, none⟩) 0 0, .int .i64 0, .slice none 0 0, .bool false] w6) := HT6'
    clear HT6' HT5 HT4 HR4 HB4 HR3 HT3
    have q12 := Lib.hid (HLN.out w6 HT6.out.l)
    obtain ⟨c0, c1, c2, c3, c4, c5, c6, c7, c8, c9, c10, c11, c12⟩ := (HQ.out.below HT6.out.l).cs
    go_upto_region 13 with (go_at_call 137; refine q12.out.mono ?_; rintro e w7 ⟨rfl, hb7⟩; have HT7 := Lib.hid (HT6.out.below hb7); clear hb7; have x4 := HT7.out.i.get 4 (v := .slice none 0 0) rfl; have x5 := HT7.out.i.get 5 (v := .bool false) rfl; have xf := HT7.out.i.frozen)
    clear c0 c1 c2 c3 c4 c5 c6 c7 c8 c9 c10 c11 c12
    have HT8' := Lib.hid (((HT7.out.setI 4 (.slice none 0 0)).setI 5 (.bool false)).setI 5 (.bool false))
    go_upto_region 14 with (fail)
    clear x4 x5 xf
    generalize World.setCell (World.setCell (World.setCell w7 _ _) _ _) _ _ = w8 at HT8' ⊢
    have HT8 : Hid (ToV w gI #[.slice Ab 0 cb, .slice (some ⟨gF, 0, none⟩) 0 0, .slice (some ⟨gB, 0, none⟩) 0 0, .int .i64 0, .slice none 0 0, .bool false] w8) := HT8'
    clear HT8'
    go_wp2_with fail
    refine wp_loop0 ?_
    have x0 := HT8.out.i.get 0 rfl
    have x1 := HT8.out.i.get 1 rfl
    have x2 := HT8.out.i.get 2 rfl
    have x3 := HT8.out.i.get 3 rfl
    have x4 := HT8.out.i.get 4 rfl
    have x5 := HT8.out.i.get 5 rfl
    have xl := HT8.out.i.lt
    have r0 := HT8.out.r.get 0 rfl
    have r1 := HT8.out.r.get 1 rfl
    have r2 := HT8.out.r.get 2 rfl
    have r3 := HT8.out.r.get 3 rfl
    have r4 := HT8.out.r.get 4 rfl
    have r5 := HT8.out.r.get 5 rfl
    have rf := HT8.out.r.frozen
    have rl := HT8.out.r.lt
    have HR9 := Lib.hid ((((((HT8.out.r.set_ 0 (.slice Ab 0 cb)).set_ 1 (.slice (some ⟨gF, 0, none⟩) 0 0)).set_ 2 (.slice (some ⟨gB, 0, none⟩) 0 0)).set_ 3 (.int .i64 0)).set_ 4 (.slice none 0 0)).set_ 5 (.bool false))
    have HB9 := Lib.hid ((((((HT8.out.l.setCell (p := ⟨w.heap.size, 0, none⟩) (Nat.le_refl _) (.slice Ab 0 cb)).setCell (p := ⟨w.heap.size, 1, none⟩) (Nat.le_refl _) (.slice (some ⟨gF, 0, none⟩) 0 0)).setCell (p := ⟨w.heap.size, 2, none⟩) (Nat.le_refl _) (.slice (some ⟨gB, 0, none⟩) 0 0)).setCell (p := ⟨w.heap.size, 3, none⟩) (Nat.le_refl _) (.int .i64 0)).setCell (p := ⟨w.heap.size, 4, none⟩) (Nat.le_refl _) (.slice none 0 0)).setCell (p := ⟨w.heap.size, 5, none⟩) (Nat.le_refl _) (.bool false))
    go_wp2_with fail
    refine bodyPost_ret (results_cell_row rfl _ _ w.heap.size 59 #[.slice Ab 0 cb, .slice (some ⟨gF, 0, none⟩) 0 0, .slice (some ⟨gB, 0, none⟩) 0 0, .int .i64 0, .slice none 0 0, .bool false] (0, 0) _ rfl HR9.out Tryz.underlying59 rfl (by kernel_rfl)) rfl ?_
    exact ⟨⟨gF, gB, rfl⟩, HB9.out⟩
set_option maxRecDepth 100000 in
set_option maxHeartbeats 4000000 in
theorem fblock_one {W : World} (hn : Blk W gN 69 (ndsCells l1V).toArray) (hu : Blk W gU 40 #[.int .i64 uw, .int .i64 0, .int .i64 0]) :
    Calls Tryz.prog 44 #[.agg #[.slice (some ⟨gN, 0, none⟩) 1 1, .slice none 0 0, .int .i64 v], .int .i64 0, .slice (some ⟨gU, 0, none⟩) 1 1, .slice (some ⟨gH, 0, none⟩) 1 1] W fun e w' => (∃ Ab cb gF gB, e = .returned (.agg #[.slice Ab 0 cb, .slice (some ⟨gF, 0, none⟩) 0 0, .slice (some ⟨gB, 0, none⟩) 0 0, .int .i64 0, .slice none 0 0, .bool false])) ∧ Below W.heap.size W w' := by
  obtain ⟨w0, hw0⟩ : ∃ w0, w0 = W := ⟨_, rfl⟩
  obtain ⟨w1, hw1⟩ : ∃ w1, w1 = (W.alloc (.cells #[.slice (some ⟨gN, 0, none⟩) 1 1, .slice none 0 0, .int .i64 v] 25)).alloc (.cells #[.slice none 0 0, .slice none 0 0, .slice none 0 0, .int .i64 0, .slice none 0 0, .bool false] 59) := ⟨_, rfl⟩
  have HT1 : Hid (Blk w1 W.heap.size 25 #[.slice (some ⟨gN, 0, none⟩) 1 1, .slice none 0 0, .int .i64 v]) := Lib.hid (by rw [hw1]; exact (Blk.new _ _ _).alloc _)
  have HL1 : Hid (Below W.heap.size W w1) := Lib.hid (by rw [hw1]; exact ((Below.refl _ _).alloc (Nat.le_refl _) _).alloc (by simp) _)
  have HI1 : Hid (Blk w1 (W.heap.size + 1) 59 #[.slice none 0 0, .slice none 0 0, .slice none 0 0, .int .i64 0, .slice none 0 0, .bool false]) := Lib.hid (by rw [hw1]; exact Blk.at_ _ _ _ (by simp))
  have HN := Lib.hid (fun W' (h : Below W.heap.size W W') => hn.below h hn.lt)
  have HU := Lib.hid (fun W' (h : Below W.heap.size W W') => hu.below h hu.lt)
  have HNU : Hid (gN < W.heap.size ∧ gU < W.heap.size) := Lib.hid ⟨hn.lt, hu.lt⟩
  have HRT := Lib.hid (fun W' (h : Below W.heap.size W W') => root_call (v := v) (HN.out W' h))
  have HIN := Lib.hid (fun W' (h : Below W.heap.size W W') => insideG_any W' l1V (some ⟨gN, 0, none⟩) none 1 0 0 v 0 (by decide) (by decide) (Reads.of_blkC (HN.out W' h) rfl) (by intro i h h0; simp only [l1V, List.length_cons, List.length_nil] at h; omega) (by decide) 1 1 [] (by decide))
  have HO := Lib.hid (Sty.one (styK 1 0) (A := none) (n := 0) (c := 0) rfl)
  have HST : Hid (StyT (styK 1 0)) := Lib.hid ⟨rfl, rfl, .inl rfl, by decide, rfl, rfl, by decide, by decide, by decide, by decide, by decide, by decide, rfl, rfl, rfl, rfl⟩
  have HROF := Lib.hid (fun W' => roof_any (styK 1 0) W' HST.out)
  have e0 : roofF (styK 1 0) = 0 := by decide +kernel
  rw [e0] at HROF
  clear hn hu e0
  go_enter Tryz.func44, Tryz.ntmps44
  go_upto_region 1 with (fail)
  rw [← hw1]
  clear hw1 hw0
  obtain ⟨t0, t1, t2⟩ := HT1.out.c3
  have q1 := Lib.hid (HRT.out w1 HL1.out)
  go_upto_region 3 with (go_at_call 36; refine q1.out.mono ?_; rintro e w2 ⟨rfl, hb2⟩; have HT2 := Lib.hid (HT1.out.below hb2 HT1.out.lt); have HI2 := Lib.hid (HI1.out.below hb2 HI1.out.lt); have HL2 := Lib.hid (HL1.out.trans (hb2.mono HL1.out.size)); clear hb2 t0 t1 t2; obtain ⟨t0, t1, t2⟩ := HT2.out.c3; have y0 : w2.cell? ⟨gN, 1, none⟩ = some (.int .u8 1) := (HN.out _ HL2.out).get 1 rfl; have nl := (HN.out _ HL2.out).lt; have tl := HT2.out.lt)
  have q3 := Lib.hid (HIN.out w2 HL2.out)
  go_upto_region 4 with (go_at_call 63; refine q3.out.mono ?_; rintro e w3 ⟨Ab, cb, rfl, -, hb3⟩; have HT3 := Lib.hid (HT2.out.below hb3 HT2.out.lt); have HI3 := Lib.hid (HI2.out.below hb3 HI2.out.lt); have HL3 := Lib.hid (HL2.out.trans (hb3.mono HL2.out.size)); clear hb3 t0 t1 t2 y0 nl tl; obtain ⟨t0, t1, t2⟩ := HT3.out.c3; have tl := HT3.out.lt)
  go_upto_region 5 with (fail)
  obtain ⟨w4, hw4⟩ : ∃ w4, w4 = w3.alloc (.cells #[.slice (some ⟨gN, 0, none⟩) 1 1, .slice none 0 0, .int .i64 v, .int .i64 0, .slice (some ⟨gU, 0, none⟩) 1 1, .slice (some ⟨gH, 0, none⟩) 1 1, .slice none 0 0, .slice none 0 0, .int .i64 0, .int .i64 0, .int .i64 0, .slice none 0 0, .slice none 0 0] 126) := ⟨_, rfl⟩
  obtain ⟨bw, hbw⟩ : ∃ bw, bw = w3.heap.size := ⟨_, rfl⟩
  have HW4 : Hid (Blk w4 bw 126 #[.slice (some ⟨gN, 0, none⟩) 1 1, .slice none 0 0, .int .i64 v, .int .i64 0, .slice (some ⟨gU, 0, none⟩) 1 1, .slice (some ⟨gH, 0, none⟩) 1 1, .slice none 0 0, .slice none 0 0, .int .i64 0, .int .i64 0, .int .i64 0, .slice none 0 0, .slice none 0 0]) := Lib.hid (by rw [hw4, hbw]; exact Blk.new _ _ _)
  have HL4 : Hid (Below W.heap.size W w4) := Lib.hid (by rw [hw4]; exact HL3.out.alloc HL3.out.size _)
  have HT4 : Hid (Blk w4 W.heap.size 25 #[.slice (some ⟨gN, 0, none⟩) 1 1, .slice none 0 0, .int .i64 v]) := Lib.hid (by rw [hw4]; exact HT3.out.alloc _)
  have HI4 : Hid (Blk w4 (W.heap.size + 1) 59 #[.slice none 0 0, .slice none 0 0, .slice none 0 0, .int .i64 0, .slice none 0 0, .bool false]) := Lib.hid (by rw [hw4]; exact HI3.out.alloc _)
  have HBW : Hid (W.heap.size + 1 < bw) := Lib.hid (by rw [hbw]; exact HI3.out.lt)
  rw [← hw4, ← hbw]
  clear hw4 hbw t0 t1 t2 tl
  have q5 := Lib.hid (fblay_one Ab cb HW4.out (HN.out _ HL4.out))
  go_upto_region 6 with (go_at_call 68; refine q5.out.mono ?_; rintro e w5 ⟨⟨_, rfl⟩, gk, gs, x1, x2, x3, x4, x5⟩; have HX5 := Lib.hid x1; have HK5 := Lib.hid x2; have HS5 := Lib.hid x3; have HZ5 := Lib.hid x4; have HB5 := Lib.hid x5; clear x1 x2 x3 x4 x5)
  have HL5 : Hid (Below W.heap.size W w5) := Lib.hid (HL4.out.trans (HB5.out.mono (by have := HBW.out; omega)))
  have HT5 := Lib.hid (HT4.out.below HB5.out (by have := HBW.out; omega))
  have HI5 := Lib.hid (HI4.out.below HB5.out HBW.out)
  have HQ5 : Hid (FbV gN gU gH bw gk gs v uw w5) := Lib.hid ⟨HX5.out, HK5.out, HS5.out, HN.out _ HL5.out, HU.out _ HL5.out⟩
  obtain ⟨t0, t1, t2⟩ := HT5.out.c3
  have tl := HT5.out.lt
  have nl : gN < w5.heap.size := HQ5.out.n.lt
  go_upto_region 7 with (first | refine wpList_load_mid rfl 67 (.tmp 44) rfl gN 1 rfl (styCells (styK 1 0)) _ (sty1V_rng HQ5.out.n) Tryz.underlying67 rfl (by kernel_rfl) ?_ | refine wpList_store_new rfl 67 _ _ rfl _ rfl (styCells (styK 1 0)).toArray rfl rfl 67 _ (by kernel_rfl) rfl HO.out ?_)
  obtain ⟨w6, hw6⟩ : ∃ w6, w6 = w5.alloc (.cells (styCells (styK 1 0)).toArray 67) := ⟨_, rfl⟩
  obtain ⟨gS, hgS⟩ : ∃ gS, gS = w5.heap.size := ⟨_, rfl⟩
  have HS6 : Hid (Blk w6 gS 67 (styCells (styK 1 0)).toArray) := Lib.hid (by rw [hw6, hgS]; exact Blk.new _ _ _)
  have HB6 : Hid (Below w5.heap.size w5 w6) := Lib.hid (by rw [hw6]; exact (Below.refl _ _).alloc (Nat.le_refl _) _)
  rw [← hw6, ← hgS]
  clear hw6 hgS t0 t1 t2 tl nl
  have HQ6 := Lib.hid (HQ5.out.below HB6.out)
  have q7 := Lib.hid (fbspot_one HQ6.out)
  go_upto_region 8 with (go_at_call 69; refine q7.out.mono ?_; rintro e w7 ⟨rfl, hb7⟩; have HQ7 := Lib.hid (HQ6.out.below hb7); have HS7 := Lib.hid (HS6.out.below hb7 HS6.out.lt); have HB7 := Lib.hid (HB6.out.trans (hb7.mono HB6.out.size)); clear hb7)
  have s0 := HQ7.out.s.get 0 rfl
  have sl := HQ7.out.s.lt
  have sf := HQ7.out.s.frozen
  have y27 := HS7.out.get 27 (v := .int .i64 0) rfl
  have y31 := HS7.out.get 31 (v := .int .i64 0) rfl
  have yl := HS7.out.lt
  have HNS : Hid (gS ≠ gs ∧ bw ≠ gs ∧ gk ≠ gs ∧ gN ≠ gs ∧ gU ≠ gs) := Lib.hid ⟨HS7.out.ne_ HQ7.out.s (by decide), HQ7.out.w.ne_ HQ7.out.s (by decide), HQ7.out.k.ne_ HQ7.out.s (by decide), HQ7.out.n.ne_ HQ7.out.s (by decide), HQ7.out.u.ne_ HQ7.out.s (by decide)⟩
  have HLGS : Hid (W.heap.size ≤ gs) := Lib.hid (by have := HBW.out; have := HZ5.out; omega)
  have HSET : Hid (∀ i X, FbV gN gU gH bw gk gs v uw X → (#[.int .i64 0, .int .i64 0, .int .i64 0, .bool false, .slice none 0 0, .slice none 0 0, .slice none 0 0] : Array Value).setIfInBounds i (.int .i64 0) = #[.int .i64 0, .int .i64 0, .int .i64 0, .bool false, .slice none 0 0, .slice none 0 0, .slice none 0 0] → FbV gN gU gH bw gk gs v uw (X.setCell ⟨gs, i, none⟩ (.int .i64 0))) := Lib.hid (fun i X h hi => ⟨h.w.far HNS.out.2.1 _, h.k.far HNS.out.2.2.1 _, by have := h.s.set_ i (.int .i64 0); rw [hi] at this; exact this, h.n.far HNS.out.2.2.2.1 _, h.u.far HNS.out.2.2.2.2 _⟩)
  go_upto_region 9 with (fail)
  have HQ8 := Lib.hid (HSET.out 0 w7 HQ7.out rfl)
  have HS8 := Lib.hid (HS7.out.far (p := ⟨gs, 0, none⟩) HNS.out.1 (.int .i64 0))
  have HL8 : Hid (Below W.heap.size W (w7.setCell ⟨gs, 0, none⟩ (.int .i64 0))) := Lib.hid ((HL5.out.trans (HB7.out.mono HL5.out.size)).setCell (p := ⟨gs, 0, none⟩) HLGS.out _)
  have HI8 := Lib.hid ((HI5.out.below HB7.out HI5.out.lt).far (p := ⟨gs, 0, none⟩) (by have := HBW.out; have := HZ5.out; simp; omega) (.int .i64 0))
  clear s0 sl sf y27 y31 yl
  generalize World.setCell w7 _ _ = w8 at HQ8 HS8 HL8 HI8 ⊢
  go_upto_region 10 with (first | (refine wpList_load_mid rfl 67 (.tmp 11) rfl gS 0 rfl (styCells (styK 1 0)) _ (blk_rng HS8.out fun j v hv => by rw [Nat.zero_add]; exact hv) Tryz.underlying67 rfl (by kernel_rfl) ?_) | (go_at_call 70; refine (HROF.out _).mono ?_; rintro e w9 ⟨rfl, hw9⟩; have HB9 : Hid (Below w8.heap.size w8 w9) := Lib.hid (hw9 ▸ (Below.refl _ _).alloc (Nat.le_refl _) _); clear hw9; have HQ9 := Lib.hid (HQ8.out.below HB9.out); have s1 := HQ9.out.s.get 1 rfl; have sl := HQ9.out.s.lt; have sf := HQ9.out.s.frozen))
  have HQ10 := Lib.hid (HSET.out 1 w9 HQ9.out rfl)
  have HL10 : Hid (Below W.heap.size W (w9.setCell ⟨gs, 1, none⟩ (.int .i64 0))) := Lib.hid ((HL8.out.trans (HB9.out.mono HL8.out.size)).setCell (p := ⟨gs, 1, none⟩) HLGS.out _)
  have HI10 := Lib.hid ((HI8.out.below HB9.out HI8.out.lt).far (p := ⟨gs, 1, none⟩) (by have := HBW.out; have := HZ5.out; simp; omega) (.int .i64 0))
  clear s1 sl sf
  generalize World.setCell w9 _ _ = w10 at HQ10 HL10 HI10 ⊢
  have q10 := Lib.hid (fbcont_one HQ10.out)
  go_upto_region 11 with (go_at_call 71; refine q10.out.mono ?_; rintro e w11 ⟨⟨_, rfl⟩, hb11⟩; have HB11 := Lib.hid hb11; clear hb11)
  have HQ11 := Lib.hid (HQ10.out.below HB11.out)
  have q11 := Lib.hid (fbtold_one Ab cb HQ11.out)
  have HL11 := Lib.hid (HL10.out.trans (HB11.out.mono HL10.out.size))
  have HI11 := Lib.hid (HI10.out.below HB11.out HI10.out.lt)
  go_wp2_with (go_at_call 72; refine q11.out.mono ?_; rintro e w12 ⟨⟨gF, gB, rfl⟩, hb12⟩; have HL12 := Lib.hid (HL11.out.trans (hb12.mono HL11.out.size)); have HI12 := Lib.hid (HI11.out.below hb12 HI11.out.lt); clear hb12; have r0 := HI12.out.get 0 rfl; have r1 := HI12.out.get 1 rfl; have r2 := HI12.out.get 2 rfl; have r3 := HI12.out.get 3 rfl; have r4 := HI12.out.get 4 rfl; have r5 := HI12.out.get 5 rfl; have rf := HI12.out.frozen; have rl := HI12.out.lt)
  have HR9 := Lib.hid ((((((HI12.out.set_ 0 (.slice Ab 0 cb)).set_ 1 (.slice (some ⟨gF, 0, none⟩) 0 0)).set_ 2 (.slice (some ⟨gB, 0, none⟩) 0 0)).set_ 3 (.int .i64 0)).set_ 4 (.slice none 0 0)).set_ 5 (.bool false))
  have HB9' := Lib.hid ((((((HL12.out.setCell (p := ⟨W.heap.size + 1, 0, none⟩) (by simp) (.slice Ab 0 cb)).setCell (p := ⟨W.heap.size + 1, 1, none⟩) (by simp) (.slice (some ⟨gF, 0, none⟩) 0 0)).setCell (p := ⟨W.heap.size + 1, 2, none⟩) (by simp) (.slice (some ⟨gB, 0, none⟩) 0 0)).setCell (p := ⟨W.heap.size + 1, 3, none⟩) (by simp) (.int .i64 0)).setCell (p := ⟨W.heap.size + 1, 4, none⟩) (by simp) (.slice none 0 0)).setCell (p := ⟨W.heap.size + 1, 5, none⟩) (by simp) (.bool false))
  refine bodyPost_ret (results_cell_row rfl _ _ (W.heap.size + 1) 59 #[.slice Ab 0 cb, .slice (some ⟨gF, 0, none⟩) 0 0, .slice (some ⟨gB, 0, none⟩) 0 0, .int .i64 0, .slice none 0 0, .bool false] (0, 0) _ rfl HR9.out Tryz.underlying59 rfl (by kernel_rfl)) rfl ?_
  exact ⟨⟨Ab, cb, gF, gB, rfl⟩, HB9'.out⟩
end
end Go.Proofs.YtjhfcpadnofdnaaGreat
