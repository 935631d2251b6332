/- seq.Isles of a tree of one node. -/
import Derived.Test.YtjhfcpadnofdnaaGreatVok
set_option linter.unusedSimpArgs false
set_option linter.unusedVariables false
namespace Go.Proofs.YtjhfcpadnofdnaaGreat
open Go.RowKit
attribute [local go_sem] block_of_add
theorem wp_mono_A3 {P : Program} {c : Code} {Q : Exit → Act → World → Prop} {a : Act} {w : World} (R : Nat → Nat → Nat → World → Prop) (A : Nat → Nat → Nat → Act) (h : c.wp P (fun e a' w' => e = .normal ∧ ∃ x y z, a' = A x y z ∧ R x y z w') a w) (hq : ∀ x y z w', R x y z w' → Q .normal (A x y z) w') : c.wp P Q a w :=
  wp_mono h fun e a' w' ⟨he, x, y, z, ha, hr⟩ => by subst he; subst ha; exact hq x y z w' hr
section
variable {ga gN gC gU gH gF gK : Nat} {v uw : Int} {w : World}
structure IsV (gN gT gH gF gL gU : Nat) (v uw : Int) (w W : World) : Prop where
  t : Blk W gT 25 #[.slice (some ⟨gN, 0, none⟩) 1 1, .slice none 0 0, .int .i64 v]
  h : Blk W gH 2 #[.int .i64 0]
  f : Blk W gF 43 #[.int .i64 0, .int .i64 0, .int .i64 0, .int .i64 0, .slice none 0 0]
  l : Blk W gL 4 #[.bool false]
  b : Below w.heap.size w W
  ge : w.heap.size ≤ gH ∧ w.heap.size ≤ gF ∧ w.heap.size ≤ gL ∧ gL ≠ gH ∧ gL ≠ gF
theorem IsV.below {gN gT gH gF gL gU : Nat} {v uw : Int} {w W W' : World} (q : IsV gN gT gH gF gL gU v uw w W) (hb : Below W.heap.size W W') : IsV gN gT gH gF gL gU v uw w W' :=
  ⟨q.t.below hb q.t.lt, q.h.below hb q.h.lt, q.f.below hb q.f.lt, q.l.below hb q.l.lt, q.b.trans (hb.mono q.b.size), q.ge⟩
theorem IsV.set0 {gN gT gH gF gL gU : Nat} {v uw : Int} {w W : World} (q : IsV gN gT gH gF gL gU v uw w W) : IsV gN gT gH gF gL gU v uw w (W.setCell ⟨gH, 0, none⟩ (.int .i64 0)) :=
  ⟨q.t.far (q.t.ne_ q.h (by decide)) _, by simpa using q.h.set_ 0 (.int .i64 0), q.f.far (q.f.ne_ q.h (by decide)) _, q.l.far (q.l.ne_ q.h (by decide)) _, q.b.setCell (p := ⟨gH, 0, none⟩) q.ge.1 _, q.ge⟩
theorem IsV.setF {gN gT gH gF gL gU : Nat} {v uw : Int} {w W : World} (q : IsV gN gT gH gF gL gU v uw w W) : IsV gN gT gH gF gL gU v uw w (W.setCell ⟨gF, 4, none⟩ (.slice none 0 0)) :=
  ⟨q.t.far (q.t.ne_ q.f (by decide)) _, q.h.far (q.h.ne_ q.f (by decide)) _, by simpa using q.f.set_ 4 (.slice none 0 0), q.l.far (q.l.ne_ q.f (by decide)) _, q.b.setCell (p := ⟨gF, 4, none⟩) q.ge.2.1 _, q.ge⟩
theorem IsV.setL {gN gT gH gF gL gU : Nat} {v uw : Int} {w W : World} (q : IsV gN gT gH gF gL gU v uw w W) : IsV gN gT gH gF gL gU v uw w (W.setCell ⟨gL, 0, none⟩ (.bool false)) :=
  ⟨q.t.far (q.t.ne_ q.l (by decide)) _, q.h.far (q.h.ne_ q.l (by decide)) _, q.f.far (q.f.ne_ q.l (by decide)) _, by simpa using q.l.set_ 0 (.bool false), q.b.setCell (p := ⟨gL, 0, none⟩) q.ge.2.2.1 _, q.ge⟩
theorem IsV.farB {gN gT gH gF gL gU g : Nat} {v uw : Int} {w W : World} {u : Value} (q : IsV gN gT gH gF gL gU v uw w W) (hB : w.heap.size ≤ g) (hT : gT ≠ g) (hH : gH ≠ g) (hF : gF ≠ g) (hL : gL ≠ g) (i : Nat) : IsV gN gT gH gF gL gU v uw w (W.setCell ⟨g, i, none⟩ u) :=
  ⟨q.t.far hT _, q.h.far hH _, q.f.far hF _, q.l.far hL _, q.b.setCell (p := ⟨g, i, none⟩) hB _, q.ge⟩
set_option maxRecDepth 100000 in
set_option maxHeartbeats 8000000 in
theorem sisles_one (hc : CB v) (hu : 0 ≤ uw ∧ uw ≤ 1099511627776) (C : Value) (hn : Blk w gN 69 (ndsCells l1V).toArray) (hud : Blk w gU 40 #[.int .i64 uw, .int .i64 0, .int .i64 0]) : Calls Tryz.prog 110 #[.agg #[.slice (some ⟨gN, 0, none⟩) 1 1, .slice none 0 0, .int .i64 v], C, .slice (some ⟨gU, 0, none⟩) 1 1] w fun e w' => (∃ gH gF, e = .returned (.tuple #[.slice (some ⟨gH, 0, none⟩) 1 1, .slice (some ⟨gF, 0, none⟩) 1 1, .int .i64 (-1)]) ∧ w.heap.size ≤ gH ∧ w.heap.size ≤ gF ∧ Blk w' gH 2 #[.int .i64 0] ∧ Blk w' gF 43 #[.int .i64 0, .int .i64 0, .int .i64 uw, .int .i64 0, .slice none 0 0]) ∧ Below w.heap.size w w' := by
  have HN := Lib.hid (fun W' (h : Below w.heap.size w W') => hn.below h hn.lt)
  have HUD := Lib.hid (fun W' (h : Below w.heap.size w W') => hud.below h hud.lt)
  have HRO := Lib.hid (fun W' (h : Below w.heap.size w W') => roots_one (v := v) (HN.out W' h))
  have HPI := Lib.hid (fun gH W' (h : Below w.heap.size w W') => pisle_one (v := v) (gH := gH) C (HN.out W' h) (HUD.out W' h))
  have HFI := Lib.hid (fun W' (h : Below w.heap.size w W') => sfirst_one (v := v) hc hu (HN.out W' h))
  have HVU := Lib.hid (fun gz W' (h : Below w.heap.size w W') hz => svalU_one (gU := gU) (uw := uw) gz W' (HUD.out W' h) hz)
  have hmk1 := make_i641
  have hmk2 := make_frs1
  have hmk3 := make_boo1
  clear hn hud hc hu
  go_enter Tryz.func110, Tryz.ntmps110
  go_upto_region 5 with (fail)
  obtain ⟨w1, hw1⟩ : ∃ W, W = ((((w.alloc (.cells #[.slice (some ⟨gN, 0, none⟩) 1 1, .slice none 0 0, .int .i64 v] 25)).alloc (.cells #[.int .i64 0] 2)).alloc (.cells #[.int .i64 0, .int .i64 0, .int .i64 0, .int .i64 0, .slice none 0 0] 43)).alloc (.cells #[.bool false] 4)).alloc (.cells #[.bool false] 4) := ⟨_, rfl⟩
  obtain ⟨gT, hgT⟩ : ∃ g, g = w.heap.size := ⟨_, rfl⟩
  have HI1 : Hid (IsV gN gT (gT + 1) (gT + 1 + 1) (gT + 1 + 1 + 1) gU v uw w w1) := Lib.hid (by
    rw [hw1, hgT]
    refine ⟨((((Blk.new _ _ _).alloc _).alloc _).alloc _).alloc _, (((Blk.at_ _ _ _ (by simp)).alloc _).alloc _).alloc _, ((Blk.at_ _ _ _ (by simp)).alloc _).alloc _, (Blk.at_ _ _ _ (by simp)).alloc _, (((((Below.refl _ _).alloc (Nat.le_refl _) _).alloc (by simp) _).alloc (by simp; omega) _).alloc (by simp; omega) _).alloc (by simp; omega) _, by omega⟩)
  have HR1 : Hid (Blk w1 (gT + 1 + 1 + 1 + 1) 4 #[.bool false]) := Lib.hid (by rw [hw1, hgT]; exact Blk.at_ _ _ _ (by simp))
  obtain ⟨gH, hgH⟩ : ∃ g, g = gT + 1 := ⟨_, rfl⟩
  obtain ⟨gF, hgF⟩ : ∃ g, g = gH + 1 := ⟨_, rfl⟩
  obtain ⟨gL, hgL⟩ : ∃ g, g = gF + 1 := ⟨_, rfl⟩
  obtain ⟨gR, hgR⟩ : ∃ g, g = gL + 1 := ⟨_, rfl⟩
  have HNE : Hid (w.heap.size ≤ gR ∧ gT ≠ gR ∧ gH ≠ gR ∧ gF ≠ gR ∧ gL ≠ gR) := Lib.hid (by omega)
  rw [← hw1, ← hgT]
  rw [← hgH] at HI1 HR1 ⊢
  rw [← hgF] at HI1 HR1 ⊢
  rw [← hgL] at HI1 HR1 ⊢
  rw [← hgR] at HR1 ⊢
  clear hw1 hgT hgH hgF hgL hgR hmk1 hmk2 hmk3
  have t0 := HI1.out.t.get 0 rfl
  have t1 := HI1.out.t.get 1 rfl
  have t2 := HI1.out.t.get 2 rfl
  have tl := HI1.out.t.lt
  go_upto_region 6 with (go_at_call 112; refine (HRO.out _ HI1.out.b).mono ?_; rintro e w2 ⟨⟨gO, cO, rfl, o0, o1, o2⟩, hb2⟩; have HO2 := Lib.hid o0; have HOZ : Hid (w1.heap.size ≤ gO ∧ gO < w2.heap.size) := Lib.hid ⟨o1, o2⟩; have HI2 := Lib.hid (HI1.out.below hb2); have HR2 := Lib.hid (HR1.out.below hb2 HR1.out.lt); clear hb2 o0 o1 o2 t0 t1 t2 tl)
  go_wp2_with fail
  have o0 := HO2.out
  have ol := HOZ.out.2
  have r0 := HR2.out.get 0 rfl
  have rl := HR2.out.lt
  have rf := HR2.out.frozen 0
  have HGO : Hid (gO ≠ gR ∧ gO ≠ gH ∧ gO ≠ gF ∧ gO ≠ gL) := Lib.hid (by have h1 := HR1.out.lt; have h2 := HOZ.out.1; have h3 := HI1.out.h.lt; have h4 := HI1.out.f.lt; have h5 := HI1.out.l.lt; omega)
  refine wp_loop_rounds 2 ?_
  rw [rounds_succ]
  go_wp2_with fail
  rw [rounds_succ]
  go_upto_region 12 with (fail)
  obtain ⟨w3, hw3⟩ : ∃ W, W = w2.setCell ⟨gR, 0, none⟩ (.bool true) := ⟨_, rfl⟩
  have HI3 : Hid (IsV gN gT gH gF gL gU v uw w w3) := Lib.hid (by rw [hw3]; exact HI2.out.farB HNE.out.1 HNE.out.2.1 HNE.out.2.2.1 HNE.out.2.2.2.1 HNE.out.2.2.2.2 0)
  have HO3 : Hid (w3.cell? ⟨gO, 0, none⟩ = some (.int .i64 0) ∧ gO < w3.heap.size) := Lib.hid (by rw [hw3]; exact ⟨(World.cell?_setCell_far _ _ _ _ (Ne.symm HGO.out.1)).trans HO2.out, by simpa using HOZ.out.2⟩)
  rw [← hw3]
  clear hw3 o0 ol r0 rl rf
  have o0 := HO3.out.1
  have ol := HO3.out.2
  have t0 := HI3.out.t.get 0 rfl
  have t1 := HI3.out.t.get 1 rfl
  have t2 := HI3.out.t.get 2 rfl
  have tl := HI3.out.t.lt
  refine wp_loop_rounds 2 ?_
  rw [rounds_succ]
  go_upto_region 16 with (go_at_call 22; refine (HPI.out gH _ HI3.out.b).mono ?_; rintro e w4 ⟨⟨Ab, cb, gFx, gBx, rfl⟩, hb4⟩; have HI4 := Lib.hid (HI3.out.below hb4); have HO4 : Hid (w4.cell? ⟨gO, 0, none⟩ = some (.int .i64 0) ∧ gO < w4.heap.size) := Lib.hid ⟨(hb4.cell (p := ⟨gO, 0, none⟩) HO3.out.2).trans HO3.out.1, Nat.lt_of_lt_of_le HO3.out.2 hb4.size⟩; clear hb4 o0 ol t0 t1 t2 tl)
  obtain ⟨w5, hw5⟩ : ∃ W, W = w4.alloc (.cells #[.slice Ab 0 cb, .slice (some ⟨gFx, 0, none⟩) 0 0, .slice (some ⟨gBx, 0, none⟩) 0 0, .int .i64 0, .slice none 0 0, .bool false] 59) := ⟨_, rfl⟩
  obtain ⟨gI, hgI⟩ : ∃ g, g = w4.heap.size := ⟨_, rfl⟩
  have HI5 : Hid (IsV gN gT gH gF gL gU v uw w w5) := Lib.hid (by rw [hw5]; exact HI4.out.below ((Below.refl _ _).alloc (Nat.le_refl _) _))
  have HS5 : Hid (Blk w5 gI 59 #[.slice Ab 0 cb, .slice (some ⟨gFx, 0, none⟩) 0 0, .slice (some ⟨gBx, 0, none⟩) 0 0, .int .i64 0, .slice none 0 0, .bool false]) := Lib.hid (by rw [hw5, hgI]; exact Blk.new _ _ _)
  rw [← hw5, ← hgI]
  clear hw5 hgI
  have i3 := HS5.out.get 3 rfl
  have h0 := HI5.out.h.get 0 rfl
  have hl := HI5.out.h.lt
  have hf := HI5.out.h.frozen 0
  go_upto_region 17 with (fail)
  have HI6 := Lib.hid HI5.out.set0
  have HS6 := Lib.hid (HS5.out.far (p := ⟨gH, 0, none⟩) (HS5.out.ne_ HI5.out.h (by decide)) (.int .i64 0))
  clear i3 h0 hl hf
  generalize World.setCell w5 _ _ = w6 at HI6 HS6 ⊢
  have i4 := HS6.out.get 4 rfl
  have f4 := HI6.out.f.get 4 rfl
  have fl := HI6.out.f.lt
  have ff := HI6.out.f.frozen 4
  go_upto_region 18 with (fail)
  have HI7 := Lib.hid HI6.out.setF
  have HS7 := Lib.hid (HS6.out.far (p := ⟨gF, 4, none⟩) (HS6.out.ne_ HI6.out.f (by decide)) (.slice none 0 0))
  clear i4 f4 fl ff
  generalize World.setCell w6 _ _ = w7 at HI7 HS7 ⊢
  have i5 := HS7.out.get 5 rfl
  have l0 := HI7.out.l.get 0 rfl
  have ll := HI7.out.l.lt
  have lf := HI7.out.l.frozen 0
  go_upto_region 19 with (fail)
  have HI8 := Lib.hid HI7.out.setL
  have HS8 := Lib.hid (HS7.out.far (p := ⟨gL, 0, none⟩) (HS7.out.ne_ HI7.out.l (by decide)) (.bool false))
  clear i5 l0 ll lf
  generalize World.setCell w7 _ _ = w8 at HI8 HS8 ⊢
  have i0 := HS8.out.get 0 rfl
  go_wp2_with fail
  refine wp_loop0 ?_
  go_wp2_with fail
  rw [rounds_succ]
  have t0 := HI8.out.t.get 0 rfl
  have tl := HI8.out.t.lt
  go_upto_region 29 with (fail)
  clear i0 t0 tl
  have HF : Hid (∀ W', Below w8.heap.size w8 W' → W'.cell? ⟨gT, 0, none⟩ = some (.slice (some ⟨gN, 0, none⟩) 1 1) ∧ W'.cell? ⟨gT, 1, none⟩ = some (.slice none 0 0) ∧ W'.cell? ⟨gT, 2, none⟩ = some (.int .i64 v) ∧ gT < W'.heap.size ∧ W'.cell? ⟨gH, 0, none⟩ = some (.int .i64 0) ∧ gH < W'.heap.size) := Lib.hid (fun W' h => by
    have q := HI8.out.below h
    exact ⟨q.t.get 0 rfl, q.t.get 1 rfl, q.t.get 2 rfl, q.t.lt, q.h.get 0 rfl, q.h.lt⟩)
  apply wp_mono_A3 (fun gz gu g20 W' => w8.heap.size ≤ g20 ∧ Blk W' g20 43 #[.int .i64 0, .int .i64 0, .int .i64 uw, .int .i64 0, .slice none 0 0] ∧ Below w8.heap.size w8 W')
  have E0 : Below w8.heap.size w8 w8.drew := (Below.refl _ _).drew
  refine wp_region_held_drew (S := fun W => Below w8.heap.size w8 W) (by kernel_rfl) E0 (fun hS => ?_)
  refine wpAnyH_take (i := 0) (v := ?_) rfl (by kernel_rfl) (by kernel_rfl) (by kernel_rfl) (fun _ _ _ h => nomatch h.1) (Or.inl ⟨by rfl, ?_⟩) hS ?_
  rotate_left
  · intro W' hS'
    obtain ⟨t0, t1, t2, tl, h0, hl⟩ := HF.out _ hS'
    go_simp
    rfl
  try simp only [Act.put, List.setIfInBounds_toArray, List.set_cons_zero, List.set_cons_succ, List.getElem_toArray, List.getElem_cons_zero, List.getElem_cons_succ]
  refine wpAnyH_take (i := 1) (v := ?_) rfl (by kernel_rfl) (by kernel_rfl) (by kernel_rfl) (fun _ _ _ h => nomatch h.1) (Or.inl ⟨by rfl, ?_⟩) hS ?_
  rotate_left
  · intro W' hS'
    obtain ⟨t0, t1, t2, tl, h0, hl⟩ := HF.out _ hS'
    go_simp
    rfl
  try simp only [Act.put, List.setIfInBounds_toArray, List.set_cons_zero, List.set_cons_succ, List.getElem_toArray, List.getElem_cons_zero, List.getElem_cons_succ]
  refine wpAnyH_take (i := 6) (v := ?_) rfl (by kernel_rfl) (by kernel_rfl) (by kernel_rfl) (fun _ _ _ h => nomatch h.1) (Or.inl ⟨by rfl, ?_⟩) hS ?_
  rotate_left
  · intro W' hS'
    obtain ⟨t0, t1, t2, tl, h0, hl⟩ := HF.out _ hS'
    go_simp
    rfl
  try simp only [Act.put, List.setIfInBounds_toArray, List.set_cons_zero, List.set_cons_succ, List.getElem_toArray, List.getElem_cons_zero, List.getElem_cons_succ]
  refine wpAnyH_take (i := 7) (v := ?_) rfl (by kernel_rfl) (by kernel_rfl) (by kernel_rfl) (fun _ _ _ h => nomatch h.1) (Or.inl ⟨by rfl, ?_⟩) hS ?_
  rotate_left
  · intro W' hS'
    obtain ⟨t0, t1, t2, tl, h0, hl⟩ := HF.out _ hS'
    go_simp
    rfl
  try simp only [Act.put, List.setIfInBounds_toArray, List.set_cons_zero, List.set_cons_succ, List.getElem_toArray, List.getElem_cons_zero, List.getElem_cons_succ]
  refine wpAnyH_take (i := 8) (v := ?_) rfl (by kernel_rfl) (by kernel_rfl) (by kernel_rfl) (fun _ _ _ h => nomatch h.1) (Or.inl ⟨by rfl, ?_⟩) hS ?_
  rotate_left
  · intro W' hS'
    obtain ⟨t0, t1, t2, tl, h0, hl⟩ := HF.out _ hS'
    go_simp
    rfl
  try simp only [Act.put, List.setIfInBounds_toArray, List.set_cons_zero, List.set_cons_succ, List.getElem_toArray, List.getElem_cons_zero, List.getElem_cons_succ]
  refine wpAnyH_ready (rs := [2, 13]) (by kernel_rfl) (by simp) (AllReadyH.cons rfl (fun K hK => ?_) (AllReadyH.cons rfl (fun K hK => ?_) AllReadyH.nil))
  · skip
    go_simp
    refine hK.out _ _ (hS.alloc hS.size _) (fun hS => ?_)
    try simp only [Act.put, List.setIfInBounds_toArray, List.set_cons_zero, List.set_cons_succ, List.getElem_toArray, List.getElem_cons_zero, List.getElem_cons_succ]
    clear hK
    have hgebz : w8.heap.size ≤ w8.heap.size := Nat.le_refl _
    obtain ⟨wA1, hW1⟩ : ∃ W, W = (w8.alloc (.cells #[.int .i64 0] 3)).drew := ⟨_, rfl⟩
    have bz : Blk wA1 w8.heap.size 3 #[.int .i64 0] := by rw [hW1]; exact (Blk.new _ _ _).drew
    rw [← hW1] at hS ⊢
    clear hW1
    refine wpAnyH_ready (rs := [3, 13]) (by kernel_rfl) (by simp) (AllReadyH.cons rfl (fun K hK => ?_) (AllReadyH.cons rfl (fun K hK => ?_) AllReadyH.nil))
    · skip
      go_simp
      refine (HVU.out _ _ (HI8.out.b.trans (hS.mono HI8.out.b.size)) bz).mono ?_
      rintro e wv ⟨⟨gu, rfl, bu⟩, hbb⟩
      have bz := bz.below hbb bz.lt
      have hS2 : Below w8.heap.size w8 wv := hS.trans (hbb.mono hS.size)
      clear hbb
      refine hK.out _ _ hS2 (fun hS => ?_)
      try simp only [Act.put, List.setIfInBounds_toArray, List.set_cons_zero, List.set_cons_succ, List.getElem_toArray, List.getElem_cons_zero, List.getElem_cons_succ]
      clear hK
      refine wpAnyH_take (i := 4) (v := ?_) rfl (by kernel_rfl) (by kernel_rfl) (by kernel_rfl) (fun _ _ _ h => nomatch h.1) (Or.inl ⟨by rfl, ?_⟩) hS ?_
      rotate_left
      · intro W' hS'
        obtain ⟨t0, t1, t2, tl, h0, hl⟩ := HF.out _ hS'
        go_simp
        rfl
      try simp only [Act.put, List.setIfInBounds_toArray, List.set_cons_zero, List.set_cons_succ, List.getElem_toArray, List.getElem_cons_zero, List.getElem_cons_succ]
      refine wpAnyH_ready (rs := [5, 13]) (by kernel_rfl) (by simp) (AllReadyH.cons rfl (fun K hK => ?_) (AllReadyH.cons rfl (fun K hK => ?_) AllReadyH.nil))
      · skip
        have z0 := bu.get 0 rfl
        have z1 := bu.get 1 rfl
        have z2 := bu.get 2 rfl
        have zl := bu.lt
        go_simp
        refine hK.out _ _ hS (fun hS => ?_)
        try simp only [Act.put, List.setIfInBounds_toArray, List.set_cons_zero, List.set_cons_succ, List.getElem_toArray, List.getElem_cons_zero, List.getElem_cons_succ]
        clear hK z0 z1 z2 zl
        refine wpAnyH_ready (rs := [9, 13]) (by kernel_rfl) (by simp) (AllReadyH.cons rfl (fun K hK => ?_) (AllReadyH.cons rfl (fun K hK => ?_) AllReadyH.nil))
        · skip
          go_simp
          refine (HFI.out _ (HI8.out.b.trans (hS.mono HI8.out.b.size))).mono ?_
          rintro e wn ⟨rfl, hbb⟩
          have bz := bz.below hbb bz.lt
          have bu := bu.below hbb bu.lt
          have hS4 : Below w8.heap.size w8 wn := hS.trans (hbb.mono hS.size)
          clear hbb
          refine hK.out _ _ hS4 (fun hS => ?_)
          try simp only [Act.put, List.setIfInBounds_toArray, List.set_cons_zero, List.set_cons_succ, List.getElem_toArray, List.getElem_cons_zero, List.getElem_cons_succ]
          clear hK
          refine wpAnyH_take (i := 10) (v := ?_) rfl (by kernel_rfl) (by kernel_rfl) (by kernel_rfl) (fun _ _ _ h => nomatch h.1) (Or.inl ⟨by rfl, ?_⟩) hS ?_
          rotate_left
          · intro W' hS'
            obtain ⟨t0, t1, t2, tl, h0, hl⟩ := HF.out _ hS'
            go_simp
            rfl
          try simp only [Act.put, List.setIfInBounds_toArray, List.set_cons_zero, List.set_cons_succ, List.getElem_toArray, List.getElem_cons_zero, List.getElem_cons_succ]
          refine wpAnyH_take (i := 11) (v := ?_) rfl (by kernel_rfl) (by kernel_rfl) (by kernel_rfl) (fun _ _ _ h => nomatch h.1) (Or.inl ⟨by rfl, ?_⟩) hS ?_
          rotate_left
          · intro W' hS'
            obtain ⟨t0, t1, t2, tl, h0, hl⟩ := HF.out _ hS'
            go_simp
            rfl
          try simp only [Act.put, List.setIfInBounds_toArray, List.set_cons_zero, List.set_cons_succ, List.getElem_toArray, List.getElem_cons_zero, List.getElem_cons_succ]
          refine wpAnyH_take (i := 12) (v := ?_) rfl (by kernel_rfl) (by kernel_rfl) (by kernel_rfl) (fun _ _ _ h => nomatch h.1) (Or.inl ⟨by rfl, ?_⟩) hS ?_
          rotate_left
          · intro W' hS'
            obtain ⟨t0, t1, t2, tl, h0, hl⟩ := HF.out _ hS'
            go_simp
            rfl
          try simp only [Act.put, List.setIfInBounds_toArray, List.set_cons_zero, List.set_cons_succ, List.getElem_toArray, List.getElem_cons_zero, List.getElem_cons_succ]
          refine wpAnyH_ready (rs := [13]) (by kernel_rfl) (by simp) (AllReadyH.cons rfl (fun K hK => ?_) AllReadyH.nil)
          go_simp
          have hSp := hS.size
          refine hK.out _ _ (hS.alloc hS.size _) (fun hS => ?_)
          try simp only [Act.put, List.setIfInBounds_toArray, List.set_cons_zero, List.set_cons_succ, List.getElem_toArray, List.getElem_cons_zero, List.getElem_cons_succ]
          clear hK
          obtain ⟨gb20, hg5⟩ : ∃ g, g = wn.heap.size := ⟨_, rfl⟩
          have hgeb20 : w8.heap.size ≤ gb20 := by rw [hg5]; exact hSp
          obtain ⟨wA5, hW5⟩ : ∃ W, W = wn.alloc (.cells #[.int .i64 0, .int .i64 0, .int .i64 0, .int .i64 0, .slice none 0 0] 43) := ⟨_, rfl⟩
          have b20 : Blk wA5 gb20 43 #[.int .i64 0, .int .i64 0, .int .i64 0, .int .i64 0, .slice none 0 0] := by rw [hW5, hg5]; exact Blk.new _ _ _
          have bz := (show Blk wA5 w8.heap.size 3 #[.int .i64 0] from by rw [hW5]; exact bz.alloc _)
          have bu := (show Blk wA5 gu 40 #[.int .i64 uw, .int .i64 0, .int .i64 0] from by rw [hW5]; exact bu.alloc _)
          rw [← hW5] at hS ⊢
          rw [← hg5]
          clear hg5 hSp
          clear hW5
          refine wpAnyH_ready (rs := [14]) (by kernel_rfl) (by simp) (AllReadyH.cons rfl (fun K hK => ?_) AllReadyH.nil)
          have HBLK6 := (((((b20.set_ 0 (.int .i64 0)).set_ 1 (.int .i64 0)).set_ 2 (.int .i64 uw)).set_ 3 (.int .i64 0)).set_ 4 (.slice none 0 0))
          have HBEL6 := (((((hS.setCell (p := ⟨gb20, 0, none⟩) hgeb20 (.int .i64 0)).setCell (p := ⟨gb20, 1, none⟩) hgeb20 (.int .i64 0)).setCell (p := ⟨gb20, 2, none⟩) hgeb20 (.int .i64 uw)).setCell (p := ⟨gb20, 3, none⟩) hgeb20 (.int .i64 0)).setCell (p := ⟨gb20, 4, none⟩) hgeb20 (.slice none 0 0))
          have HNbz6 := (((((bz.far (p := ⟨gb20, 0, none⟩) (Ne.symm (Blk.ne_ b20 bz (by decide))) (.int .i64 0)).far (p := ⟨gb20, 1, none⟩) (Ne.symm (Blk.ne_ b20 bz (by decide))) (.int .i64 0)).far (p := ⟨gb20, 2, none⟩) (Ne.symm (Blk.ne_ b20 bz (by decide))) (.int .i64 uw)).far (p := ⟨gb20, 3, none⟩) (Ne.symm (Blk.ne_ b20 bz (by decide))) (.int .i64 0)).far (p := ⟨gb20, 4, none⟩) (Ne.symm (Blk.ne_ b20 bz (by decide))) (.slice none 0 0))
          have HNbu6 := (((((bu.far (p := ⟨gb20, 0, none⟩) (Ne.symm (Blk.ne_ b20 bu (by decide))) (.int .i64 0)).far (p := ⟨gb20, 1, none⟩) (Ne.symm (Blk.ne_ b20 bu (by decide))) (.int .i64 0)).far (p := ⟨gb20, 2, none⟩) (Ne.symm (Blk.ne_ b20 bu (by decide))) (.int .i64 uw)).far (p := ⟨gb20, 3, none⟩) (Ne.symm (Blk.ne_ b20 bu (by decide))) (.int .i64 0)).far (p := ⟨gb20, 4, none⟩) (Ne.symm (Blk.ne_ b20 bu (by decide))) (.slice none 0 0))
          have z0 := b20.get 0 rfl
          have z1 := b20.get 1 rfl
          have z2 := b20.get 2 rfl
          have z3 := b20.get 3 rfl
          have z4 := b20.get 4 rfl
          have zl := b20.lt
          have zf0 := b20.frozen 0
          have zf1 := b20.frozen 1
          have zf2 := b20.frozen 2
          have zf3 := b20.frozen 3
          have zf4 := b20.frozen 4
          go_simp
          refine hK.out _ _ HBEL6 (fun hS => ?_)
          try simp only [Act.put, List.setIfInBounds_toArray, List.set_cons_zero, List.set_cons_succ, List.getElem_toArray, List.getElem_cons_zero, List.getElem_cons_succ]
          clear hK
          obtain ⟨wS6, hW6⟩ : ∃ W, W = (((((wA5.setCell ⟨gb20, 0, none⟩ (.int .i64 0)).setCell ⟨gb20, 1, none⟩ (.int .i64 0)).setCell ⟨gb20, 2, none⟩ (.int .i64 uw)).setCell ⟨gb20, 3, none⟩ (.int .i64 0)).setCell ⟨gb20, 4, none⟩ (.slice none 0 0)) := ⟨_, rfl⟩
          rw [← hW6] at hS HBLK6 HBEL6 HNbz6 HNbu6 ⊢
          clear hW6 z0 zf0 z1 zf1 z2 zf2 z3 zf3 z4 zf4 zl b20
          have b20 : Blk wS6 gb20 43 #[.int .i64 0, .int .i64 0, .int .i64 uw, .int .i64 0, .slice none 0 0] := by simpa using HBLK6
          have bz := HNbz6
          have bu := HNbu6
          refine wpAnyH_take (i := 15) (v := ?_) rfl (by kernel_rfl) (by kernel_rfl) (by kernel_rfl) (fun _ _ _ h => nomatch h.1) (Or.inl ⟨by rfl, ?_⟩) hS ?_
          rotate_left
          · intro W' hS'
            obtain ⟨t0, t1, t2, tl, h0, hl⟩ := HF.out _ hS'
            go_simp
            rfl
          try simp only [Act.put, List.setIfInBounds_toArray, List.set_cons_zero, List.set_cons_succ, List.getElem_toArray, List.getElem_cons_zero, List.getElem_cons_succ]
          refine wpAnyH_done (by kernel_rfl) ?_ _
          refine ⟨rfl, w8.heap.size, gu, gb20, ?_, hgeb20, b20, hS⟩
          try generalize w8.heap.size = gq
          rfl
        · skip
          go_simp
          have hSp := hS.size
          refine hK.out _ _ (hS.alloc hS.size _) (fun hS => ?_)
          try simp only [Act.put, List.setIfInBounds_toArray, List.set_cons_zero, List.set_cons_succ, List.getElem_toArray, List.getElem_cons_zero, List.getElem_cons_succ]
          clear hK
          obtain ⟨gb20, hg7⟩ : ∃ g, g = wv.heap.size := ⟨_, rfl⟩
          have hgeb20 : w8.heap.size ≤ gb20 := by rw [hg7]; exact hSp
          obtain ⟨wA7, hW7⟩ : ∃ W, W = wv.alloc (.cells #[.int .i64 0, .int .i64 0, .int .i64 0, .int .i64 0, .slice none 0 0] 43) := ⟨_, rfl⟩
          have b20 : Blk wA7 gb20 43 #[.int .i64 0, .int .i64 0, .int .i64 0, .int .i64 0, .slice none 0 0] := by rw [hW7, hg7]; exact Blk.new _ _ _
          have bz := (show Blk wA7 w8.heap.size 3 #[.int .i64 0] from by rw [hW7]; exact bz.alloc _)
          have bu := (show Blk wA7 gu 40 #[.int .i64 uw, .int .i64 0, .int .i64 0] from by rw [hW7]; exact bu.alloc _)
          rw [← hW7] at hS ⊢
          rw [← hg7]
          clear hg7 hSp
          clear hW7
          refine wpAnyH_ready (rs := [9]) (by kernel_rfl) (by simp) (AllReadyH.cons rfl (fun K hK => ?_) AllReadyH.nil)
          go_simp
          refine (HFI.out _ (HI8.out.b.trans (hS.mono HI8.out.b.size))).mono ?_
          rintro e wn ⟨rfl, hbb⟩
          have bz := bz.below hbb bz.lt
          have bu := bu.below hbb bu.lt
          have b20 := b20.below hbb b20.lt
          have hS8 : Below w8.heap.size w8 wn := hS.trans (hbb.mono hS.size)
          clear hbb
          refine hK.out _ _ hS8 (fun hS => ?_)
          try simp only [Act.put, List.setIfInBounds_toArray, List.set_cons_zero, List.set_cons_succ, List.getElem_toArray, List.getElem_cons_zero, List.getElem_cons_succ]
          clear hK
          refine wpAnyH_take (i := 10) (v := ?_) rfl (by kernel_rfl) (by kernel_rfl) (by kernel_rfl) (fun _ _ _ h => nomatch h.1) (Or.inl ⟨by rfl, ?_⟩) hS ?_
          rotate_left
          · intro W' hS'
            obtain ⟨t0, t1, t2, tl, h0, hl⟩ := HF.out _ hS'
            go_simp
            rfl
          try simp only [Act.put, List.setIfInBounds_toArray, List.set_cons_zero, List.set_cons_succ, List.getElem_toArray, List.getElem_cons_zero, List.getElem_cons_succ]
          refine wpAnyH_take (i := 11) (v := ?_) rfl (by kernel_rfl) (by kernel_rfl) (by kernel_rfl) (fun _ _ _ h => nomatch h.1) (Or.inl ⟨by rfl, ?_⟩) hS ?_
          rotate_left
          · intro W' hS'
            obtain ⟨t0, t1, t2, tl, h0, hl⟩ := HF.out _ hS'
            go_simp
            rfl
          try simp only [Act.put, List.setIfInBounds_toArray, List.set_cons_zero, List.set_cons_succ, List.getElem_toArray, List.getElem_cons_zero, List.getElem_cons_succ]
          refine wpAnyH_take (i := 12) (v := ?_) rfl (by kernel_rfl) (by kernel_rfl) (by kernel_rfl) (fun _ _ _ h => nomatch h.1) (Or.inl ⟨by rfl, ?_⟩) hS ?_
          rotate_left
          · intro W' hS'
            obtain ⟨t0, t1, t2, tl, h0, hl⟩ := HF.out _ hS'
            go_simp
            rfl
          try simp only [Act.put, List.setIfInBounds_toArray, List.set_cons_zero, List.set_cons_succ, List.getElem_toArray, List.getElem_cons_zero, List.getElem_cons_succ]
          refine wpAnyH_ready (rs := [14]) (by kernel_rfl) (by simp) (AllReadyH.cons rfl (fun K hK => ?_) AllReadyH.nil)
          have HBLK9 := (((((b20.set_ 0 (.int .i64 0)).set_ 1 (.int .i64 0)).set_ 2 (.int .i64 uw)).set_ 3 (.int .i64 0)).set_ 4 (.slice none 0 0))
          have HBEL9 := (((((hS.setCell (p := ⟨gb20, 0, none⟩) hgeb20 (.int .i64 0)).setCell (p := ⟨gb20, 1, none⟩) hgeb20 (.int .i64 0)).setCell (p := ⟨gb20, 2, none⟩) hgeb20 (.int .i64 uw)).setCell (p := ⟨gb20, 3, none⟩) hgeb20 (.int .i64 0)).setCell (p := ⟨gb20, 4, none⟩) hgeb20 (.slice none 0 0))
          have HNbz9 := (((((bz.far (p := ⟨gb20, 0, none⟩) (Ne.symm (Blk.ne_ b20 bz (by decide))) (.int .i64 0)).far (p := ⟨gb20, 1, none⟩) (Ne.symm (Blk.ne_ b20 bz (by decide))) (.int .i64 0)).far (p := ⟨gb20, 2, none⟩) (Ne.symm (Blk.ne_ b20 bz (by decide))) (.int .i64 uw)).far (p := ⟨gb20, 3, none⟩) (Ne.symm (Blk.ne_ b20 bz (by decide))) (.int .i64 0)).far (p := ⟨gb20, 4, none⟩) (Ne.symm (Blk.ne_ b20 bz (by decide))) (.slice none 0 0))
          have HNbu9 := (((((bu.far (p := ⟨gb20, 0, none⟩) (Ne.symm (Blk.ne_ b20 bu (by decide))) (.int .i64 0)).far (p := ⟨gb20, 1, none⟩) (Ne.symm (Blk.ne_ b20 bu (by decide))) (.int .i64 0)).far (p := ⟨gb20, 2, none⟩) (Ne.symm (Blk.ne_ b20 bu (by decide))) (.int .i64 uw)).far (p := ⟨gb20, 3, none⟩) (Ne.symm (Blk.ne_ b20 bu (by decide))) (.int .i64 0)).far (p := ⟨gb20, 4, none⟩) (Ne.symm (Blk.ne_ b20 bu (by decide))) (.slice none 0 0))
          have z0 := b20.get 0 rfl
          have z1 := b20.get 1 rfl
          have z2 := b20.get 2 rfl
          have z3 := b20.get 3 rfl
          have z4 := b20.get 4 rfl
          have zl := b20.lt
          have zf0 := b20.frozen 0
          have zf1 := b20.frozen 1
          have zf2 := b20.frozen 2
          have zf3 := b20.frozen 3
          have zf4 := b20.frozen 4
          go_simp
          refine hK.out _ _ HBEL9 (fun hS => ?_)
          try simp only [Act.put, List.setIfInBounds_toArray, List.set_cons_zero, List.set_cons_succ, List.getElem_toArray, List.getElem_cons_zero, List.getElem_cons_succ]
          clear hK
          obtain ⟨wS9, hW9⟩ : ∃ W, W = (((((wn.setCell ⟨gb20, 0, none⟩ (.int .i64 0)).setCell ⟨gb20, 1, none⟩ (.int .i64 0)).setCell ⟨gb20, 2, none⟩ (.int .i64 uw)).setCell ⟨gb20, 3, none⟩ (.int .i64 0)).setCell ⟨gb20, 4, none⟩ (.slice none 0 0)) := ⟨_, rfl⟩
          rw [← hW9] at hS HBLK9 HBEL9 HNbz9 HNbu9 ⊢
          clear hW9 z0 zf0 z1 zf1 z2 zf2 z3 zf3 z4 zf4 zl b20
          have b20 : Blk wS9 gb20 43 #[.int .i64 0, .int .i64 0, .int .i64 uw, .int .i64 0, .slice none 0 0] := by simpa using HBLK9
          have bz := HNbz9
          have bu := HNbu9
          refine wpAnyH_take (i := 15) (v := ?_) rfl (by kernel_rfl) (by kernel_rfl) (by kernel_rfl) (fun _ _ _ h => nomatch h.1) (Or.inl ⟨by rfl, ?_⟩) hS ?_
          rotate_left
          · intro W' hS'
            obtain ⟨t0, t1, t2, tl, h0, hl⟩ := HF.out _ hS'
            go_simp
            rfl
          try simp only [Act.put, List.setIfInBounds_toArray, List.set_cons_zero, List.set_cons_succ, List.getElem_toArray, List.getElem_cons_zero, List.getElem_cons_succ]
          refine wpAnyH_done (by kernel_rfl) ?_ _
          refine ⟨rfl, w8.heap.size, gu, gb20, ?_, hgeb20, b20, hS⟩
          try generalize w8.heap.size = gq
          rfl
      · skip
        go_simp
        have hSp := hS.size
        refine hK.out _ _ (hS.alloc hS.size _) (fun hS => ?_)
        try simp only [Act.put, List.setIfInBounds_toArray, List.set_cons_zero, List.set_cons_succ, List.getElem_toArray, List.getElem_cons_zero, List.getElem_cons_succ]
        clear hK
        obtain ⟨gb20, hg10⟩ : ∃ g, g = wv.heap.size := ⟨_, rfl⟩
        have hgeb20 : w8.heap.size ≤ gb20 := by rw [hg10]; exact hSp
        obtain ⟨wA10, hW10⟩ : ∃ W, W = wv.alloc (.cells #[.int .i64 0, .int .i64 0, .int .i64 0, .int .i64 0, .slice none 0 0] 43) := ⟨_, rfl⟩
        have b20 : Blk wA10 gb20 43 #[.int .i64 0, .int .i64 0, .int .i64 0, .int .i64 0, .slice none 0 0] := by rw [hW10, hg10]; exact Blk.new _ _ _
        have bz := (show Blk wA10 w8.heap.size 3 #[.int .i64 0] from by rw [hW10]; exact bz.alloc _)
        have bu := (show Blk wA10 gu 40 #[.int .i64 uw, .int .i64 0, .int .i64 0] from by rw [hW10]; exact bu.alloc _)
        rw [← hW10] at hS ⊢
        rw [← hg10]
        clear hg10 hSp
        clear hW10
        refine wpAnyH_ready (rs := [5]) (by kernel_rfl) (by simp) (AllReadyH.cons rfl (fun K hK => ?_) AllReadyH.nil)
        have z0 := bu.get 0 rfl
        have z1 := bu.get 1 rfl
        have z2 := bu.get 2 rfl
        have zl := bu.lt
        go_simp
        refine hK.out _ _ hS (fun hS => ?_)
        try simp only [Act.put, List.setIfInBounds_toArray, List.set_cons_zero, List.set_cons_succ, List.getElem_toArray, List.getElem_cons_zero, List.getElem_cons_succ]
        clear hK z0 z1 z2 zl
        refine wpAnyH_ready (rs := [9]) (by kernel_rfl) (by simp) (AllReadyH.cons rfl (fun K hK => ?_) AllReadyH.nil)
        go_simp
        refine (HFI.out _ (HI8.out.b.trans (hS.mono HI8.out.b.size))).mono ?_
        rintro e wn ⟨rfl, hbb⟩
        have bz := bz.below hbb bz.lt
        have bu := bu.below hbb bu.lt
        have b20 := b20.below hbb b20.lt
        have hS12 : Below w8.heap.size w8 wn := hS.trans (hbb.mono hS.size)
        clear hbb
        refine hK.out _ _ hS12 (fun hS => ?_)
        try simp only [Act.put, List.setIfInBounds_toArray, List.set_cons_zero, List.set_cons_succ, List.getElem_toArray, List.getElem_cons_zero, List.getElem_cons_succ]
        clear hK
        refine wpAnyH_take (i := 10) (v := ?_) rfl (by kernel_rfl) (by kernel_rfl) (by kernel_rfl) (fun _ _ _ h => nomatch h.1) (Or.inl ⟨by rfl, ?_⟩) hS ?_
        rotate_left
        · intro W' hS'
          obtain ⟨t0, t1, t2, tl, h0, hl⟩ := HF.out _ hS'
          go_simp
          rfl
        try simp only [Act.put, List.setIfInBounds_toArray, List.set_cons_zero, List.set_cons_succ, List.getElem_toArray, List.getElem_cons_zero, List.getElem_cons_succ]
        refine wpAnyH_take (i := 11) (v := ?_) rfl (by kernel_rfl) (by kernel_rfl) (by kernel_rfl) (fun _ _ _ h => nomatch h.1) (Or.inl ⟨by rfl, ?_⟩) hS ?_
        rotate_left
        · intro W' hS'
          obtain ⟨t0, t1, t2, tl, h0, hl⟩ := HF.out _ hS'
          go_simp
          rfl
        try simp only [Act.put, List.setIfInBounds_toArray, List.set_cons_zero, List.set_cons_succ, List.getElem_toArray, List.getElem_cons_zero, List.getElem_cons_succ]
        refine wpAnyH_take (i := 12) (v := ?_) rfl (by kernel_rfl) (by kernel_rfl) (by kernel_rfl) (fun _ _ _ h => nomatch h.1) (Or.inl ⟨by rfl, ?_⟩) hS ?_
        rotate_left
        · intro W' hS'
          obtain ⟨t0, t1, t2, tl, h0, hl⟩ := HF.out _ hS'
          go_simp
          rfl
        try simp only [Act.put, List.setIfInBounds_toArray, List.set_cons_zero, List.set_cons_succ, List.getElem_toArray, List.getElem_cons_zero, List.getElem_cons_succ]
        refine wpAnyH_ready (rs := [14]) (by kernel_rfl) (by simp) (AllReadyH.cons rfl (fun K hK => ?_) AllReadyH.nil)
        have HBLK13 := (((((b20.set_ 0 (.int .i64 0)).set_ 1 (.int .i64 0)).set_ 2 (.int .i64 uw)).set_ 3 (.int .i64 0)).set_ 4 (.slice none 0 0))
        have HBEL13 := (((((hS.setCell (p := ⟨gb20, 0, none⟩) hgeb20 (.int .i64 0)).setCell (p := ⟨gb20, 1, none⟩) hgeb20 (.int .i64 0)).setCell (p := ⟨gb20, 2, none⟩) hgeb20 (.int .i64 uw)).setCell (p := ⟨gb20, 3, none⟩) hgeb20 (.int .i64 0)).setCell (p := ⟨gb20, 4, none⟩) hgeb20 (.slice none 0 0))
        have HNbz13 := (((((bz.far (p := ⟨gb20, 0, none⟩) (Ne.symm (Blk.ne_ b20 bz (by decide))) (.int .i64 0)).far (p := ⟨gb20, 1, none⟩) (Ne.symm (Blk.ne_ b20 bz (by decide))) (.int .i64 0)).far (p := ⟨gb20, 2, none⟩) (Ne.symm (Blk.ne_ b20 bz (by decide))) (.int .i64 uw)).far (p := ⟨gb20, 3, none⟩) (Ne.symm (Blk.ne_ b20 bz (by decide))) (.int .i64 0)).far (p := ⟨gb20, 4, none⟩) (Ne.symm (Blk.ne_ b20 bz (by decide))) (.slice none 0 0))
        have HNbu13 := (((((bu.far (p := ⟨gb20, 0, none⟩) (Ne.symm (Blk.ne_ b20 bu (by decide))) (.int .i64 0)).far (p := ⟨gb20, 1, none⟩) (Ne.symm (Blk.ne_ b20 bu (by decide))) (.int .i64 0)).far (p := ⟨gb20, 2, none⟩) (Ne.symm (Blk.ne_ b20 bu (by decide))) (.int .i64 uw)).far (p := ⟨gb20, 3, none⟩) (Ne.symm (Blk.ne_ b20 bu (by decide))) (.int .i64 0)).far (p := ⟨gb20, 4, none⟩) (Ne.symm (Blk.ne_ b20 bu (by decide))) (.slice none 0 0))
        have z0 := b20.get 0 rfl
        have z1 := b20.get 1 rfl
        have z2 := b20.get 2 rfl
        have z3 := b20.get 3 rfl
        have z4 := b20.get 4 rfl
        have zl := b20.lt
        have zf0 := b20.frozen 0
        have zf1 := b20.frozen 1
        have zf2 := b20.frozen 2
        have zf3 := b20.frozen 3
        have zf4 := b20.frozen 4
        go_simp
        refine hK.out _ _ HBEL13 (fun hS => ?_)
        try simp only [Act.put, List.setIfInBounds_toArray, List.set_cons_zero, List.set_cons_succ, List.getElem_toArray, List.getElem_cons_zero, List.getElem_cons_succ]
        clear hK
        obtain ⟨wS13, hW13⟩ : ∃ W, W = (((((wn.setCell ⟨gb20, 0, none⟩ (.int .i64 0)).setCell ⟨gb20, 1, none⟩ (.int .i64 0)).setCell ⟨gb20, 2, none⟩ (.int .i64 uw)).setCell ⟨gb20, 3, none⟩ (.int .i64 0)).setCell ⟨gb20, 4, none⟩ (.slice none 0 0)) := ⟨_, rfl⟩
        rw [← hW13] at hS HBLK13 HBEL13 HNbz13 HNbu13 ⊢
        clear hW13 z0 zf0 z1 zf1 z2 zf2 z3 zf3 z4 zf4 zl b20
        have b20 : Blk wS13 gb20 43 #[.int .i64 0, .int .i64 0, .int .i64 uw, .int .i64 0, .slice none 0 0] := by simpa using HBLK13
        have bz := HNbz13
        have bu := HNbu13
        refine wpAnyH_take (i := 15) (v := ?_) rfl (by kernel_rfl) (by kernel_rfl) (by kernel_rfl) (fun _ _ _ h => nomatch h.1) (Or.inl ⟨by rfl, ?_⟩) hS ?_
        rotate_left
        · intro W' hS'
          obtain ⟨t0, t1, t2, tl, h0, hl⟩ := HF.out _ hS'
          go_simp
          rfl
        try simp only [Act.put, List.setIfInBounds_toArray, List.set_cons_zero, List.set_cons_succ, List.getElem_toArray, List.getElem_cons_zero, List.getElem_cons_succ]
        refine wpAnyH_done (by kernel_rfl) ?_ _
        refine ⟨rfl, w8.heap.size, gu, gb20, ?_, hgeb20, b20, hS⟩
        try generalize w8.heap.size = gq
        rfl
    · skip
      go_simp
      have hSp := hS.size
      refine hK.out _ _ (hS.alloc hS.size _) (fun hS => ?_)
      try simp only [Act.put, List.setIfInBounds_toArray, List.set_cons_zero, List.set_cons_succ, List.getElem_toArray, List.getElem_cons_zero, List.getElem_cons_succ]
      clear hK
      obtain ⟨gb20, hg14⟩ : ∃ g, g = wA1.heap.size := ⟨_, rfl⟩
      have hgeb20 : w8.heap.size ≤ gb20 := by rw [hg14]; exact hSp
      obtain ⟨wA14, hW14⟩ : ∃ W, W = wA1.alloc (.cells #[.int .i64 0, .int .i64 0, .int .i64 0, .int .i64 0, .slice none 0 0] 43) := ⟨_, rfl⟩
      have b20 : Blk wA14 gb20 43 #[.int .i64 0, .int .i64 0, .int .i64 0, .int .i64 0, .slice none 0 0] := by rw [hW14, hg14]; exact Blk.new _ _ _
      have bz := (show Blk wA14 w8.heap.size 3 #[.int .i64 0] from by rw [hW14]; exact bz.alloc _)
      rw [← hW14] at hS ⊢
      rw [← hg14]
      clear hg14 hSp
      clear hW14
      refine wpAnyH_ready (rs := [3]) (by kernel_rfl) (by simp) (AllReadyH.cons rfl (fun K hK => ?_) AllReadyH.nil)
      go_simp
      refine (HVU.out _ _ (HI8.out.b.trans (hS.mono HI8.out.b.size)) bz).mono ?_
      rintro e wv ⟨⟨gu, rfl, bu⟩, hbb⟩
      have bz := bz.below hbb bz.lt
      have b20 := b20.below hbb b20.lt
      have hS15 : Below w8.heap.size w8 wv := hS.trans (hbb.mono hS.size)
      clear hbb
      refine hK.out _ _ hS15 (fun hS => ?_)
      try simp only [Act.put, List.setIfInBounds_toArray, List.set_cons_zero, List.set_cons_succ, List.getElem_toArray, List.getElem_cons_zero, List.getElem_cons_succ]
      clear hK
      refine wpAnyH_take (i := 4) (v := ?_) rfl (by kernel_rfl) (by kernel_rfl) (by kernel_rfl) (fun _ _ _ h => nomatch h.1) (Or.inl ⟨by rfl, ?_⟩) hS ?_
      rotate_left
      · intro W' hS'
        obtain ⟨t0, t1, t2, tl, h0, hl⟩ := HF.out _ hS'
        go_simp
        rfl
      try simp only [Act.put, List.setIfInBounds_toArray, List.set_cons_zero, List.set_cons_succ, List.getElem_toArray, List.getElem_cons_zero, List.getElem_cons_succ]
      refine wpAnyH_ready (rs := [5]) (by kernel_rfl) (by simp) (AllReadyH.cons rfl (fun K hK => ?_) AllReadyH.nil)
      have z0 := bu.get 0 rfl
      have z1 := bu.get 1 rfl
      have z2 := bu.get 2 rfl
      have zl := bu.lt
      go_simp
      refine hK.out _ _ hS (fun hS => ?_)
      try simp only [Act.put, List.setIfInBounds_toArray, List.set_cons_zero, List.set_cons_succ, List.getElem_toArray, List.getElem_cons_zero, List.getElem_cons_succ]
      clear hK z0 z1 z2 zl
      refine wpAnyH_ready (rs := [9]) (by kernel_rfl) (by simp) (AllReadyH.cons rfl (fun K hK => ?_) AllReadyH.nil)
      go_simp
      refine (HFI.out _ (HI8.out.b.trans (hS.mono HI8.out.b.size))).mono ?_
      rintro e wn ⟨rfl, hbb⟩
      have bz := bz.below hbb bz.lt
      have b20 := b20.below hbb b20.lt
      have bu := bu.below hbb bu.lt
      have hS17 : Below w8.heap.size w8 wn := hS.trans (hbb.mono hS.size)
      clear hbb
      refine hK.out _ _ hS17 (fun hS => ?_)
      try simp only [Act.put, List.setIfInBounds_toArray, List.set_cons_zero, List.set_cons_succ, List.getElem_toArray, List.getElem_cons_zero, List.getElem_cons_succ]
      clear hK
      refine wpAnyH_take (i := 10) (v := ?_) rfl (by kernel_rfl) (by kernel_rfl) (by kernel_rfl) (fun _ _ _ h => nomatch h.1) (Or.inl ⟨by rfl, ?_⟩) hS ?_
      rotate_left
      · intro W' hS'
        obtain ⟨t0, t1, t2, tl, h0, hl⟩ := HF.out _ hS'
        go_simp
        rfl
      try simp only [Act.put, List.setIfInBounds_toArray, List.set_cons_zero, List.set_cons_succ, List.getElem_toArray, List.getElem_cons_zero, List.getElem_cons_succ]
      refine wpAnyH_take (i := 11) (v := ?_) rfl (by kernel_rfl) (by kernel_rfl) (by kernel_rfl) (fun _ _ _ h => nomatch h.1) (Or.inl ⟨by rfl, ?_⟩) hS ?_
      rotate_left
      · intro W' hS'
        obtain ⟨t0, t1, t2, tl, h0, hl⟩ := HF.out _ hS'
        go_simp
        rfl
      try simp only [Act.put, List.setIfInBounds_toArray, List.set_cons_zero, List.set_cons_succ, List.getElem_toArray, List.getElem_cons_zero, List.getElem_cons_succ]
      refine wpAnyH_take (i := 12) (v := ?_) rfl (by kernel_rfl) (by kernel_rfl) (by kernel_rfl) (fun _ _ _ h => nomatch h.1) (Or.inl ⟨by rfl, ?_⟩) hS ?_
      rotate_left
      · intro W' hS'
        obtain ⟨t0, t1, t2, tl, h0, hl⟩ := HF.out _ hS'
        go_simp
        rfl
      try simp only [Act.put, List.setIfInBounds_toArray, List.set_cons_zero, List.set_cons_succ, List.getElem_toArray, List.getElem_cons_zero, List.getElem_cons_succ]
      refine wpAnyH_ready (rs := [14]) (by kernel_rfl) (by simp) (AllReadyH.cons rfl (fun K hK => ?_) AllReadyH.nil)
      have HBLK18 := (((((b20.set_ 0 (.int .i64 0)).set_ 1 (.int .i64 0)).set_ 2 (.int .i64 uw)).set_ 3 (.int .i64 0)).set_ 4 (.slice none 0 0))
      have HBEL18 := (((((hS.setCell (p := ⟨gb20, 0, none⟩) hgeb20 (.int .i64 0)).setCell (p := ⟨gb20, 1, none⟩) hgeb20 (.int .i64 0)).setCell (p := ⟨gb20, 2, none⟩) hgeb20 (.int .i64 uw)).setCell (p := ⟨gb20, 3, none⟩) hgeb20 (.int .i64 0)).setCell (p := ⟨gb20, 4, none⟩) hgeb20 (.slice none 0 0))
      have HNbz18 := (((((bz.far (p := ⟨gb20, 0, none⟩) (Ne.symm (Blk.ne_ b20 bz (by decide))) (.int .i64 0)).far (p := ⟨gb20, 1, none⟩) (Ne.symm (Blk.ne_ b20 bz (by decide))) (.int .i64 0)).far (p := ⟨gb20, 2, none⟩) (Ne.symm (Blk.ne_ b20 bz (by decide))) (.int .i64 uw)).far (p := ⟨gb20, 3, none⟩) (Ne.symm (Blk.ne_ b20 bz (by decide))) (.int .i64 0)).far (p := ⟨gb20, 4, none⟩) (Ne.symm (Blk.ne_ b20 bz (by decide))) (.slice none 0 0))
      have HNbu18 := (((((bu.far (p := ⟨gb20, 0, none⟩) (Ne.symm (Blk.ne_ b20 bu (by decide))) (.int .i64 0)).far (p := ⟨gb20, 1, none⟩) (Ne.symm (Blk.ne_ b20 bu (by decide))) (.int .i64 0)).far (p := ⟨gb20, 2, none⟩) (Ne.symm (Blk.ne_ b20 bu (by decide))) (.int .i64 uw)).far (p := ⟨gb20, 3, none⟩) (Ne.symm (Blk.ne_ b20 bu (by decide))) (.int .i64 0)).far (p := ⟨gb20, 4, none⟩) (Ne.symm (Blk.ne_ b20 bu (by decide))) (.slice none 0 0))
      have z0 := b20.get 0 rfl
      have z1 := b20.get 1 rfl
      have z2 := b20.get 2 rfl
      have z3 := b20.get 3 rfl
      have z4 := b20.get 4 rfl
      have zl := b20.lt
      have zf0 := b20.frozen 0
      have zf1 := b20.frozen 1
      have zf2 := b20.frozen 2
      have zf3 := b20.frozen 3
      have zf4 := b20.frozen 4
      go_simp
      refine hK.out _ _ HBEL18 (fun hS => ?_)
      try simp only [Act.put, List.setIfInBounds_toArray, List.set_cons_zero, List.set_cons_succ, List.getElem_toArray, List.getElem_cons_zero, List.getElem_cons_succ]
      clear hK
      obtain ⟨wS18, hW18⟩ : ∃ W, W = (((((wn.setCell ⟨gb20, 0, none⟩ (.int .i64 0)).setCell ⟨gb20, 1, none⟩ (.int .i64 0)).setCell ⟨gb20, 2, none⟩ (.int .i64 uw)).setCell ⟨gb20, 3, none⟩ (.int .i64 0)).setCell ⟨gb20, 4, none⟩ (.slice none 0 0)) := ⟨_, rfl⟩
      rw [← hW18] at hS HBLK18 HBEL18 HNbz18 HNbu18 ⊢
      clear hW18 z0 zf0 z1 zf1 z2 zf2 z3 zf3 z4 zf4 zl b20
      have b20 : Blk wS18 gb20 43 #[.int .i64 0, .int .i64 0, .int .i64 uw, .int .i64 0, .slice none 0 0] := by simpa using HBLK18
      have bz := HNbz18
      have bu := HNbu18
      refine wpAnyH_take (i := 15) (v := ?_) rfl (by kernel_rfl) (by kernel_rfl) (by kernel_rfl) (fun _ _ _ h => nomatch h.1) (Or.inl ⟨by rfl, ?_⟩) hS ?_
      rotate_left
      · intro W' hS'
        obtain ⟨t0, t1, t2, tl, h0, hl⟩ := HF.out _ hS'
        go_simp
        rfl
      try simp only [Act.put, List.setIfInBounds_toArray, List.set_cons_zero, List.set_cons_succ, List.getElem_toArray, List.getElem_cons_zero, List.getElem_cons_succ]
      refine wpAnyH_done (by kernel_rfl) ?_ _
      refine ⟨rfl, w8.heap.size, gu, gb20, ?_, hgeb20, b20, hS⟩
      try generalize w8.heap.size = gq
      rfl
  · skip
    go_simp
    refine hK.out _ _ (hS.alloc hS.size _) (fun hS => ?_)
    try simp only [Act.put, List.setIfInBounds_toArray, List.set_cons_zero, List.set_cons_succ, List.getElem_toArray, List.getElem_cons_zero, List.getElem_cons_succ]
    clear hK
    have hgeb20 : w8.heap.size ≤ w8.heap.size := Nat.le_refl _
    obtain ⟨wA19, hW19⟩ : ∃ W, W = (w8.alloc (.cells #[.int .i64 0, .int .i64 0, .int .i64 0, .int .i64 0, .slice none 0 0] 43)).drew := ⟨_, rfl⟩
    have b20 : Blk wA19 w8.heap.size 43 #[.int .i64 0, .int .i64 0, .int .i64 0, .int .i64 0, .slice none 0 0] := by rw [hW19]; exact (Blk.new _ _ _).drew
    rw [← hW19] at hS ⊢
    clear hW19
    refine wpAnyH_ready (rs := [2]) (by kernel_rfl) (by simp) (AllReadyH.cons rfl (fun K hK => ?_) AllReadyH.nil)
    go_simp
    have hSp := hS.size
    refine hK.out _ _ (hS.alloc hS.size _) (fun hS => ?_)
    try simp only [Act.put, List.setIfInBounds_toArray, List.set_cons_zero, List.set_cons_succ, List.getElem_toArray, List.getElem_cons_zero, List.getElem_cons_succ]
    clear hK
    obtain ⟨gbz, hg20⟩ : ∃ g, g = wA19.heap.size := ⟨_, rfl⟩
    have hgebz : w8.heap.size ≤ gbz := by rw [hg20]; exact hSp
    obtain ⟨wA20, hW20⟩ : ∃ W, W = wA19.alloc (.cells #[.int .i64 0] 3) := ⟨_, rfl⟩
    have bz : Blk wA20 gbz 3 #[.int .i64 0] := by rw [hW20, hg20]; exact Blk.new _ _ _
    have b20 := (show Blk wA20 w8.heap.size 43 #[.int .i64 0, .int .i64 0, .int .i64 0, .int .i64 0, .slice none 0 0] from by rw [hW20]; exact b20.alloc _)
    rw [← hW20] at hS ⊢
    rw [← hg20]
    clear hg20 hSp
    clear hW20
    refine wpAnyH_ready (rs := [3]) (by kernel_rfl) (by simp) (AllReadyH.cons rfl (fun K hK => ?_) AllReadyH.nil)
    go_simp
    refine (HVU.out _ _ (HI8.out.b.trans (hS.mono HI8.out.b.size)) bz).mono ?_
    rintro e wv ⟨⟨gu, rfl, bu⟩, hbb⟩
    have b20 := b20.below hbb b20.lt
    have bz := bz.below hbb bz.lt
    have hS21 : Below w8.heap.size w8 wv := hS.trans (hbb.mono hS.size)
    clear hbb
    refine hK.out _ _ hS21 (fun hS => ?_)
    try simp only [Act.put, List.setIfInBounds_toArray, List.set_cons_zero, List.set_cons_succ, List.getElem_toArray, List.getElem_cons_zero, List.getElem_cons_succ]
    clear hK
    refine wpAnyH_take (i := 4) (v := ?_) rfl (by kernel_rfl) (by kernel_rfl) (by kernel_rfl) (fun _ _ _ h => nomatch h.1) (Or.inl ⟨by rfl, ?_⟩) hS ?_
    rotate_left
    · intro W' hS'
      obtain ⟨t0, t1, t2, tl, h0, hl⟩ := HF.out _ hS'
      go_simp
      rfl
    try simp only [Act.put, List.setIfInBounds_toArray, List.set_cons_zero, List.set_cons_succ, List.getElem_toArray, List.getElem_cons_zero, List.getElem_cons_succ]
    refine wpAnyH_ready (rs := [5]) (by kernel_rfl) (by simp) (AllReadyH.cons rfl (fun K hK => ?_) AllReadyH.nil)
    have z0 := bu.get 0 rfl
    have z1 := bu.get 1 rfl
    have z2 := bu.get 2 rfl
    have zl := bu.lt
    go_simp
    refine hK.out _ _ hS (fun hS => ?_)
    try simp only [Act.put, List.setIfInBounds_toArray, List.set_cons_zero, List.set_cons_succ, List.getElem_toArray, List.getElem_cons_zero, List.getElem_cons_succ]
    clear hK z0 z1 z2 zl
    refine wpAnyH_ready (rs := [9]) (by kernel_rfl) (by simp) (AllReadyH.cons rfl (fun K hK => ?_) AllReadyH.nil)
    go_simp
    refine (HFI.out _ (HI8.out.b.trans (hS.mono HI8.out.b.size))).mono ?_
    rintro e wn ⟨rfl, hbb⟩
    have b20 := b20.below hbb b20.lt
    have bz := bz.below hbb bz.lt
    have bu := bu.below hbb bu.lt
    have hS23 : Below w8.heap.size w8 wn := hS.trans (hbb.mono hS.size)
    clear hbb
    refine hK.out _ _ hS23 (fun hS => ?_)
    try simp only [Act.put, List.setIfInBounds_toArray, List.set_cons_zero, List.set_cons_succ, List.getElem_toArray, List.getElem_cons_zero, List.getElem_cons_succ]
    clear hK
    refine wpAnyH_take (i := 10) (v := ?_) rfl (by kernel_rfl) (by kernel_rfl) (by kernel_rfl) (fun _ _ _ h => nomatch h.1) (Or.inl ⟨by rfl, ?_⟩) hS ?_
    rotate_left
    · intro W' hS'
      obtain ⟨t0, t1, t2, tl, h0, hl⟩ := HF.out _ hS'
      go_simp
      rfl
    try simp only [Act.put, List.setIfInBounds_toArray, List.set_cons_zero, List.set_cons_succ, List.getElem_toArray, List.getElem_cons_zero, List.getElem_cons_succ]
    refine wpAnyH_take (i := 11) (v := ?_) rfl (by kernel_rfl) (by kernel_rfl) (by kernel_rfl) (fun _ _ _ h => nomatch h.1) (Or.inl ⟨by rfl, ?_⟩) hS ?_
    rotate_left
    · intro W' hS'
      obtain ⟨t0, t1, t2, tl, h0, hl⟩ := HF.out _ hS'
      go_simp
      rfl
    try simp only [Act.put, List.setIfInBounds_toArray, List.set_cons_zero, List.set_cons_succ, List.getElem_toArray, List.getElem_cons_zero, List.getElem_cons_succ]
    refine wpAnyH_take (i := 12) (v := ?_) rfl (by kernel_rfl) (by kernel_rfl) (by kernel_rfl) (fun _ _ _ h => nomatch h.1) (Or.inl ⟨by rfl, ?_⟩) hS ?_
    rotate_left
    · intro W' hS'
      obtain ⟨t0, t1, t2, tl, h0, hl⟩ := HF.out _ hS'
      go_simp
      rfl
    try simp only [Act.put, List.setIfInBounds_toArray, List.set_cons_zero, List.set_cons_succ, List.getElem_toArray, List.getElem_cons_zero, List.getElem_cons_succ]
    refine wpAnyH_ready (rs := [14]) (by kernel_rfl) (by simp) (AllReadyH.cons rfl (fun K hK => ?_) AllReadyH.nil)
    have HBLK24 := (((((b20.set_ 0 (.int .i64 0)).set_ 1 (.int .i64 0)).set_ 2 (.int .i64 uw)).set_ 3 (.int .i64 0)).set_ 4 (.slice none 0 0))
    have HBEL24 := (((((hS.setCell (p := ⟨w8.heap.size, 0, none⟩) hgeb20 (.int .i64 0)).setCell (p := ⟨w8.heap.size, 1, none⟩) hgeb20 (.int .i64 0)).setCell (p := ⟨w8.heap.size, 2, none⟩) hgeb20 (.int .i64 uw)).setCell (p := ⟨w8.heap.size, 3, none⟩) hgeb20 (.int .i64 0)).setCell (p := ⟨w8.heap.size, 4, none⟩) hgeb20 (.slice none 0 0))
    have HNbz24 := (((((bz.far (p := ⟨w8.heap.size, 0, none⟩) (Ne.symm (Blk.ne_ b20 bz (by decide))) (.int .i64 0)).far (p := ⟨w8.heap.size, 1, none⟩) (Ne.symm (Blk.ne_ b20 bz (by decide))) (.int .i64 0)).far (p := ⟨w8.heap.size, 2, none⟩) (Ne.symm (Blk.ne_ b20 bz (by decide))) (.int .i64 uw)).far (p := ⟨w8.heap.size, 3, none⟩) (Ne.symm (Blk.ne_ b20 bz (by decide))) (.int .i64 0)).far (p := ⟨w8.heap.size, 4, none⟩) (Ne.symm (Blk.ne_ b20 bz (by decide))) (.slice none 0 0))
    have HNbu24 := (((((bu.far (p := ⟨w8.heap.size, 0, none⟩) (Ne.symm (Blk.ne_ b20 bu (by decide))) (.int .i64 0)).far (p := ⟨w8.heap.size, 1, none⟩) (Ne.symm (Blk.ne_ b20 bu (by decide))) (.int .i64 0)).far (p := ⟨w8.heap.size, 2, none⟩) (Ne.symm (Blk.ne_ b20 bu (by decide))) (.int .i64 uw)).far (p := ⟨w8.heap.size, 3, none⟩) (Ne.symm (Blk.ne_ b20 bu (by decide))) (.int .i64 0)).far (p := ⟨w8.heap.size, 4, none⟩) (Ne.symm (Blk.ne_ b20 bu (by decide))) (.slice none 0 0))
    have z0 := b20.get 0 rfl
    have z1 := b20.get 1 rfl
    have z2 := b20.get 2 rfl
    have z3 := b20.get 3 rfl
    have z4 := b20.get 4 rfl
    have zl := b20.lt
    have zf0 := b20.frozen 0
    have zf1 := b20.frozen 1
    have zf2 := b20.frozen 2
    have zf3 := b20.frozen 3
    have zf4 := b20.frozen 4
    go_simp
    refine hK.out _ _ HBEL24 (fun hS => ?_)
    try simp only [Act.put, List.setIfInBounds_toArray, List.set_cons_zero, List.set_cons_succ, List.getElem_toArray, List.getElem_cons_zero, List.getElem_cons_succ]
    clear hK
    obtain ⟨wS24, hW24⟩ : ∃ W, W = (((((wn.setCell ⟨w8.heap.size, 0, none⟩ (.int .i64 0)).setCell ⟨w8.heap.size, 1, none⟩ (.int .i64 0)).setCell ⟨w8.heap.size, 2, none⟩ (.int .i64 uw)).setCell ⟨w8.heap.size, 3, none⟩ (.int .i64 0)).setCell ⟨w8.heap.size, 4, none⟩ (.slice none 0 0)) := ⟨_, rfl⟩
    rw [← hW24] at hS HBLK24 HBEL24 HNbz24 HNbu24 ⊢
    clear hW24 z0 zf0 z1 zf1 z2 zf2 z3 zf3 z4 zf4 zl b20
    have b20 : Blk wS24 w8.heap.size 43 #[.int .i64 0, .int .i64 0, .int .i64 uw, .int .i64 0, .slice none 0 0] := by simpa using HBLK24
    have bz := HNbz24
    have bu := HNbu24
    refine wpAnyH_take (i := 15) (v := ?_) rfl (by kernel_rfl) (by kernel_rfl) (by kernel_rfl) (fun _ _ _ h => nomatch h.1) (Or.inl ⟨by rfl, ?_⟩) hS ?_
    rotate_left
    · intro W' hS'
      obtain ⟨t0, t1, t2, tl, h0, hl⟩ := HF.out _ hS'
      go_simp
      rfl
    try simp only [Act.put, List.setIfInBounds_toArray, List.set_cons_zero, List.set_cons_succ, List.getElem_toArray, List.getElem_cons_zero, List.getElem_cons_succ]
    refine wpAnyH_done (by kernel_rfl) ?_ _
    refine ⟨rfl, gbz, gu, w8.heap.size, ?_, hgeb20, b20, hS⟩
    try generalize w8.heap.size = gq
    rfl
  rintro gz gu g20 w9 ⟨hge, b20, hb9⟩
  have HI9 := Lib.hid (HI8.out.below hb9)
  have HX9 := Lib.hid b20
  have HNX : Hid (w.heap.size ≤ g20 ∧ gT ≠ g20 ∧ gH ≠ g20 ∧ gF ≠ g20 ∧ gL ≠ g20) := Lib.hid ⟨Nat.le_trans HI8.out.b.size hge, by have := HI8.out.t.lt; omega, by have := HI8.out.h.lt; omega, by have := HI8.out.f.lt; omega, by have := HI8.out.l.lt; omega⟩
  clear hge b20 hb9
  have f4 := HI9.out.f.get 4 rfl
  have fl := HI9.out.f.lt
  have x4 := HX9.out.get 4 rfl
  have xl := HX9.out.lt
  have xf := HX9.out.frozen 4
  go_upto_region 31 with (fail)
  have HI10 := Lib.hid (HI9.out.farB (u := .slice none 0 0) HNX.out.1 HNX.out.2.1 HNX.out.2.2.1 HNX.out.2.2.2.1 HNX.out.2.2.2.2 4)
  have HX10 : Hid (Blk (w9.setCell ⟨g20, 4, none⟩ (.slice none 0 0)) g20 43 #[.int .i64 0, .int .i64 0, .int .i64 uw, .int .i64 0, .slice none 0 0]) := Lib.hid (by simpa using HX9.out.set_ 4 (.slice none 0 0))
  clear f4 fl x4 xl xf
  generalize World.setCell w9 _ _ = w10 at HI10 HX10 ⊢
  have x0 := HX10.out.get 0 rfl
  have x1 := HX10.out.get 1 rfl
  have x2 := HX10.out.get 2 rfl
  have x3 := HX10.out.get 3 rfl
  have x4 := HX10.out.get 4 rfl
  have xl := HX10.out.lt
  have f0 := HI10.out.f.get 0 rfl
  have f1 := HI10.out.f.get 1 rfl
  have f2 := HI10.out.f.get 2 rfl
  have f3 := HI10.out.f.get 3 rfl
  have f4 := HI10.out.f.get 4 rfl
  have fl := HI10.out.f.lt
  have ff := HI10.out.f.frozen
  go_upto_region 32 with (fail)
  obtain ⟨w11, hw11⟩ : ∃ W, W = ((((w10.setCell ⟨gF, 0, none⟩ (.int .i64 0)).setCell ⟨gF, 1, none⟩ (.int .i64 0)).setCell ⟨gF, 2, none⟩ (.int .i64 uw)).setCell ⟨gF, 3, none⟩ (.int .i64 0)).setCell ⟨gF, 4, none⟩ (.slice none 0 0) := ⟨_, rfl⟩
  have HF11 : Hid (Blk w11 gF 43 #[.int .i64 0, .int .i64 0, .int .i64 uw, .int .i64 0, .slice none 0 0]) := Lib.hid (by rw [hw11]; simpa using ((((HI10.out.f.set_ 0 (.int .i64 0)).set_ 1 (.int .i64 0)).set_ 2 (.int .i64 uw)).set_ 3 (.int .i64 0)).set_ 4 (.slice none 0 0))
  have nHF := HI10.out.h.ne_ HI10.out.f (by decide)
  have nLF := HI10.out.l.ne_ HI10.out.f (by decide)
  have HH11 : Hid (Blk w11 gH 2 #[.int .i64 0]) := Lib.hid (by rw [hw11]; exact ((((HI10.out.h.far (p := ⟨gF, 0, none⟩) nHF _).far (p := ⟨gF, 1, none⟩) nHF _).far (p := ⟨gF, 2, none⟩) nHF _).far (p := ⟨gF, 3, none⟩) nHF _).far (p := ⟨gF, 4, none⟩) nHF _)
  have HL11 : Hid (Blk w11 gL 4 #[.bool false]) := Lib.hid (by rw [hw11]; exact ((((HI10.out.l.far (p := ⟨gF, 0, none⟩) nLF _).far (p := ⟨gF, 1, none⟩) nLF _).far (p := ⟨gF, 2, none⟩) nLF _).far (p := ⟨gF, 3, none⟩) nLF _).far (p := ⟨gF, 4, none⟩) nLF _)
  have HB11 : Hid (Below w.heap.size w w11) := Lib.hid (by rw [hw11]; exact ((((HI10.out.b.setCell (p := ⟨gF, 0, none⟩) HI10.out.ge.2.1 _).setCell (p := ⟨gF, 1, none⟩) HI10.out.ge.2.1 _).setCell (p := ⟨gF, 2, none⟩) HI10.out.ge.2.1 _).setCell (p := ⟨gF, 3, none⟩) HI10.out.ge.2.1 _).setCell (p := ⟨gF, 4, none⟩) HI10.out.ge.2.1 _)
  have HGE := Lib.hid HI10.out.ge
  rw [← hw11]
  clear hw11 nHF nLF x0 x1 x2 x3 x4 xl f0 f1 f2 f3 f4 fl ff
  have l0 := HL11.out.get 0 rfl
  have ll := HL11.out.lt
  have lf := HL11.out.frozen 0
  go_upto_region 33 with (fail)
  have HF12 := Lib.hid (HF11.out.far (p := ⟨gL, 0, none⟩) (HF11.out.ne_ HL11.out (by decide)) (.bool false))
  have HH12 := Lib.hid (HH11.out.far (p := ⟨gL, 0, none⟩) (HH11.out.ne_ HL11.out (by decide)) (.bool false))
  have HL12 : Hid (Blk (w11.setCell ⟨gL, 0, none⟩ (.bool false)) gL 4 #[.bool false]) := Lib.hid (by simpa using HL11.out.set_ 0 (.bool false))
  have HB12 := Lib.hid (HB11.out.setCell (p := ⟨gL, 0, none⟩) HGE.out.2.2.1 (.bool false))
  clear l0 ll lf
  generalize World.setCell w11 _ _ = w12 at HF12 HH12 HL12 HB12 ⊢
  have q12 := Lib.hid (sleast_one gL w12 HL12.out)
  go_wp2_with (go_at_call 181; refine q12.out.mono ?_; rintro e w13 ⟨rfl, rfl⟩)
  refine bodyPost_ret (v := .tuple #[.slice (some ⟨gH, 0, none⟩) 1 1, .slice (some ⟨gF, 0, none⟩) 1 1, .int .i64 (-1)]) ?_ rfl ⟨⟨gH, gF, rfl, HGE.out.1, HGE.out.2.1, HH12.out, HF12.out⟩, HB12.out⟩
  simp [results, Tryz.results110, go_sem]
end
end Go.Proofs.YtjhfcpadnofdnaaGreat
