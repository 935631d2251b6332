/- seq.Up of a tree of one node. -/
import Derived.Test.YtjhfcpadnofdnaaGreatVoj
set_option linter.unusedSimpArgs false
set_option linter.unusedVariables false
namespace Go.Proofs.YtjhfcpadnofdnaaGreat
open Go.RowKit
attribute [local go_sem] block_of_add
theorem wp_mono_A2 {P : Program} {c : Code} {Q : Exit → Act → World → Prop} {a : Act} {w : World} (R : Nat → Nat → World → Prop) (A : Nat → Nat → Act) (h : c.wp P (fun e a' w' => e = .normal ∧ ∃ x y, a' = A x y ∧ R x y w') a w) (hq : ∀ x y w', R x y w' → Q .normal (A x y) w') : c.wp P Q a w :=
  wp_mono h fun e a' w' ⟨he, x, y, ha, hr⟩ => by subst he; subst ha; exact hq x y w' hr
section
variable {ga gN gC gU gH gF gK : Nat} {v uw : Int} {w : World}
theorem reads_no (W : World) (B : Nat) (A : Option Addr) : Reads W B 4 A 0 (cnsCells []) := ⟨rfl, fun h => absurd h (by omega)⟩
set_option maxRecDepth 100000 in
set_option maxHeartbeats 8000000 in
theorem sup_one (hn : Blk w gN 69 (ndsCells l1V).toArray) : Calls Tryz.prog 106 #[.agg #[.slice (some ⟨gN, 0, none⟩) 1 1, .slice none 0 0, .int .i64 v]] w fun e w' => (∃ g, e = .returned (.tuple #[.slice (some ⟨g, 0, none⟩) 1 1, .int .i64 (-1)]) ∧ w.heap.size ≤ g ∧ Blk w' g 38 #[.int .i64 0, .int .i64 0, .int .i64 0, .int .i64 0]) ∧ Below w.heap.size w w' := by
  have HN := Lib.hid (fun W' (h : Below w.heap.size w W') => hn.below h hn.lt)
  have hmk := make_cns1
  have HB1 : Hid (Below w.heap.size w (w.alloc (.cells #[.slice (some ⟨gN, 0, none⟩) 1 1, .slice none 0 0, .int .i64 v] 25))) := Lib.hid ((Below.refl _ _).alloc (Nat.le_refl _) _)
  have HT1 : Hid (Blk (w.alloc (.cells #[.slice (some ⟨gN, 0, none⟩) 1 1, .slice none 0 0, .int .i64 v] 25)) w.heap.size 25 #[.slice (some ⟨gN, 0, none⟩) 1 1, .slice none 0 0, .int .i64 v]) := Lib.hid (Blk.new _ _ _)
  clear hn
  go_enter Tryz.func106, Tryz.ntmps106
  go_wp2_with fail
  refine (kids_one (v := v) (HN.out _ HB1.out)).mono ?_
  rintro e w2 ⟨⟨gK, rfl, bK⟩, hb2⟩
  have HB2 := Lib.hid (HB1.out.trans (hb2.mono HB1.out.size))
  have HT2 := Lib.hid (HT1.out.below hb2 HT1.out.lt)
  have HK2 := Lib.hid bK
  clear hb2 bK
  have t0 := HT2.out.get 0 rfl
  have tl := HT2.out.lt
  go_upto_region 3 with (fail)
  obtain ⟨gX, hgX⟩ : ∃ g, g = w2.heap.size := ⟨_, rfl⟩
  obtain ⟨w3, hw3⟩ : ∃ W, W = w2.alloc (.cells #[.int .i64 0, .int .i64 0, .int .i64 0, .int .i64 0] 38) := ⟨_, rfl⟩
  have HB3 : Hid (Below w.heap.size w w3) := Lib.hid (by rw [hw3]; exact HB2.out.alloc HB2.out.size _)
  have HT3 : Hid (Blk w3 w.heap.size 25 #[.slice (some ⟨gN, 0, none⟩) 1 1, .slice none 0 0, .int .i64 v]) := Lib.hid (by rw [hw3]; exact HT2.out.alloc _)
  have HK3 : Hid (Blk w3 gK 50 #[.slice none 0 0]) := Lib.hid (by rw [hw3]; exact HK2.out.alloc _)
  have HX3 : Hid (Blk w3 gX 38 #[.int .i64 0, .int .i64 0, .int .i64 0, .int .i64 0] ∧ w.heap.size ≤ gX) := Lib.hid (by rw [hw3, hgX]; exact ⟨Blk.new _ _ _, HB2.out.size⟩)
  rw [← hw3, ← hgX]
  clear hw3 hgX t0 tl hmk
  have t0 := HT3.out.get 0 rfl
  have tl := HT3.out.lt
  go_wp2_with fail
  clear t0 tl
  have HT : Hid (∀ W', Below w3.heap.size w3 W' → W'.cell? ⟨w.heap.size, 0, none⟩ = some (.slice (some ⟨gN, 0, none⟩) 1 1) ∧ W'.cell? ⟨w.heap.size, 1, none⟩ = some (.slice none 0 0) ∧ W'.cell? ⟨w.heap.size, 2, none⟩ = some (.int .i64 v) ∧ w.heap.size < W'.heap.size ∧ W'.cell? ⟨gK, 0, none⟩ = some (.slice none 0 0) ∧ gK < W'.heap.size) := Lib.hid (fun W' h => by
    have b := HT3.out.below h HT3.out.lt
    have c := HK3.out.below h HK3.out.lt
    exact ⟨b.get 0 rfl, b.get 1 rfl, b.get 2 rfl, b.lt, c.get 0 rfl, c.lt⟩)
  have HVAL := Lib.hid (fun W => svalC_one (.slice (some ⟨gX, 0, none⟩) 1 1) W)
  have HNODE := Lib.hid (fun W' (h : Below w3.heap.size w3 W') (gv : Nat) => cnode_one gN v (some ⟨gv, 0, none⟩) 0 W' (HN.out W' (HB3.out.trans (h.mono HB3.out.size))) (reads_no _ _ _))
  refine wp_loop_rounds 2 ?_
  rw [rounds_succ]
  go_upto_region 7 with (fail)
  apply wp_mono_A2 (fun gv g6 W' => w3.heap.size ≤ g6 ∧ Blk W' g6 38 #[.int .i64 0, .int .i64 0, .int .i64 0, .int .i64 0] ∧ Below w3.heap.size w3 W')
  have E0 : Below w3.heap.size w3 w3.drew := (Below.refl _ _).drew
  refine wp_region_held_drew (S := fun W => Below w3.heap.size w3 W) (by kernel_rfl) E0 (fun hS => ?_)
  refine wpAnyH_take (i := 0) (v := ?_) rfl (by kernel_rfl) (by kernel_rfl) (by kernel_rfl) (fun _ _ _ h => nomatch h.1) (Or.inl ⟨by rfl, ?_⟩) hS ?_
  rotate_left
  · intro W' hS'
    obtain ⟨t0, t1, t2, tl, k0, kl⟩ := HT.out _ hS'
    go_simp
    rfl
  try simp only [Act.put, List.setIfInBounds_toArray, List.set_cons_zero, List.set_cons_succ, List.getElem_toArray, List.getElem_cons_zero, List.getElem_cons_succ]
  refine wpAnyH_take (i := 1) (v := ?_) rfl (by kernel_rfl) (by kernel_rfl) (by kernel_rfl) (fun _ _ _ h => nomatch h.1) (Or.inl ⟨by rfl, ?_⟩) hS ?_
  rotate_left
  · intro W' hS'
    obtain ⟨t0, t1, t2, tl, k0, kl⟩ := HT.out _ hS'
    go_simp
    rfl
  try simp only [Act.put, List.setIfInBounds_toArray, List.set_cons_zero, List.set_cons_succ, List.getElem_toArray, List.getElem_cons_zero, List.getElem_cons_succ]
  refine wpAnyH_take (i := 2) (v := ?_) rfl (by kernel_rfl) (by kernel_rfl) (by kernel_rfl) (fun _ _ _ h => nomatch h.1) (Or.inl ⟨by rfl, ?_⟩) hS ?_
  rotate_left
  · intro W' hS'
    obtain ⟨t0, t1, t2, tl, k0, kl⟩ := HT.out _ hS'
    go_simp
    rfl
  try simp only [Act.put, List.setIfInBounds_toArray, List.set_cons_zero, List.set_cons_succ, List.getElem_toArray, List.getElem_cons_zero, List.getElem_cons_succ]
  refine wpAnyH_take (i := 3) (v := ?_) rfl (by kernel_rfl) (by kernel_rfl) (by kernel_rfl) (fun _ _ _ h => nomatch h.1) (Or.inl ⟨by rfl, ?_⟩) hS ?_
  rotate_left
  · intro W' hS'
    obtain ⟨t0, t1, t2, tl, k0, kl⟩ := HT.out _ hS'
    go_simp
    rfl
  try simp only [Act.put, List.setIfInBounds_toArray, List.set_cons_zero, List.set_cons_succ, List.getElem_toArray, List.getElem_cons_zero, List.getElem_cons_succ]
  refine wpAnyH_take (i := 4) (v := ?_) rfl (by kernel_rfl) (by kernel_rfl) (by kernel_rfl) (fun _ _ _ h => nomatch h.1) (Or.inl ⟨by rfl, ?_⟩) hS ?_
  rotate_left
  · intro W' hS'
    obtain ⟨t0, t1, t2, tl, k0, kl⟩ := HT.out _ hS'
    go_simp
    rfl
  try simp only [Act.put, List.setIfInBounds_toArray, List.set_cons_zero, List.set_cons_succ, List.getElem_toArray, List.getElem_cons_zero, List.getElem_cons_succ]
  refine wpAnyH_take (i := 5) (v := ?_) rfl (by kernel_rfl) (by kernel_rfl) (by kernel_rfl) (fun _ _ _ h => nomatch h.1) (Or.inl ⟨by rfl, ?_⟩) hS ?_
  rotate_left
  · intro W' hS'
    obtain ⟨t0, t1, t2, tl, k0, kl⟩ := HT.out _ hS'
    go_simp
    rfl
  try simp only [Act.put, List.setIfInBounds_toArray, List.set_cons_zero, List.set_cons_succ, List.getElem_toArray, List.getElem_cons_zero, List.getElem_cons_succ]
  refine wpAnyH_take (i := 6) (v := ?_) rfl (by kernel_rfl) (by kernel_rfl) (by kernel_rfl) (fun _ _ _ h => nomatch h.1) (Or.inl ⟨by rfl, ?_⟩) hS ?_
  rotate_left
  · intro W' hS'
    obtain ⟨t0, t1, t2, tl, k0, kl⟩ := HT.out _ hS'
    go_simp
    rfl
  try simp only [Act.put, List.setIfInBounds_toArray, List.set_cons_zero, List.set_cons_succ, List.getElem_toArray, List.getElem_cons_zero, List.getElem_cons_succ]
  refine wpAnyH_take (i := 7) (v := ?_) rfl (by kernel_rfl) (by kernel_rfl) (by kernel_rfl) (fun _ _ _ h => nomatch h.1) (Or.inl ⟨by rfl, ?_⟩) hS ?_
  rotate_left
  · intro W' hS'
    obtain ⟨t0, t1, t2, tl, k0, kl⟩ := HT.out _ hS'
    go_simp
    rfl
  try simp only [Act.put, List.setIfInBounds_toArray, List.set_cons_zero, List.set_cons_succ, List.getElem_toArray, List.getElem_cons_zero, List.getElem_cons_succ]
  refine wpAnyH_take (i := 8) (v := ?_) rfl (by kernel_rfl) (by kernel_rfl) (by kernel_rfl) (fun _ _ _ h => nomatch h.1) (Or.inl ⟨by rfl, ?_⟩) hS ?_
  rotate_left
  · intro W' hS'
    obtain ⟨t0, t1, t2, tl, k0, kl⟩ := HT.out _ hS'
    go_simp
    rfl
  try simp only [Act.put, List.setIfInBounds_toArray, List.set_cons_zero, List.set_cons_succ, List.getElem_toArray, List.getElem_cons_zero, List.getElem_cons_succ]
  refine wpAnyH_take (i := 9) (v := ?_) rfl (by kernel_rfl) (by kernel_rfl) (by kernel_rfl) (fun _ _ _ h => nomatch h.1) (Or.inl ⟨by rfl, ?_⟩) hS ?_
  rotate_left
  · intro W' hS'
    obtain ⟨t0, t1, t2, tl, k0, kl⟩ := HT.out _ hS'
    go_simp
    rfl
  try simp only [Act.put, List.setIfInBounds_toArray, List.set_cons_zero, List.set_cons_succ, List.getElem_toArray, List.getElem_cons_zero, List.getElem_cons_succ]
  refine wpAnyH_take (i := 10) (v := ?_) rfl (by kernel_rfl) (by kernel_rfl) (by kernel_rfl) (fun _ _ _ h => nomatch h.1) (Or.inl ⟨by rfl, ?_⟩) hS ?_
  rotate_left
  · intro W' hS'
    obtain ⟨t0, t1, t2, tl, k0, kl⟩ := HT.out _ hS'
    go_simp
    rfl
  try simp only [Act.put, List.setIfInBounds_toArray, List.set_cons_zero, List.set_cons_succ, List.getElem_toArray, List.getElem_cons_zero, List.getElem_cons_succ]
  refine wpAnyH_ready (rs := [11, 16]) (by kernel_rfl) (by simp) (AllReadyH.cons rfl (fun K hK => ?_) (AllReadyH.cons rfl (fun K hK => ?_) AllReadyH.nil))
  · skip
    go_simp
    refine (HVAL.out _).mono ?_
    rintro e wv ⟨⟨gv, rfl⟩, hbb⟩
    have hS1 : Below w3.heap.size w3 wv := hS.trans (hbb.mono hS.size)
    clear hbb
    refine hK.out _ _ hS1 (fun hS => ?_)
    try simp only [Act.put, List.setIfInBounds_toArray, List.set_cons_zero, List.set_cons_succ, List.getElem_toArray, List.getElem_cons_zero, List.getElem_cons_succ]
    clear hK
    refine wpAnyH_ready (rs := [12, 16]) (by kernel_rfl) (by simp) (AllReadyH.cons rfl (fun K hK => ?_) (AllReadyH.cons rfl (fun K hK => ?_) AllReadyH.nil))
    · skip
      go_simp
      refine (HNODE.out _ hS gv).mono ?_
      rintro e wn ⟨rfl, hbb⟩
      have hS2 : Below w3.heap.size w3 wn := hS.trans (hbb.mono hS.size)
      clear hbb
      refine hK.out _ _ hS2 (fun hS => ?_)
      try simp only [Act.put, List.setIfInBounds_toArray, List.set_cons_zero, List.set_cons_succ, List.getElem_toArray, List.getElem_cons_zero, List.getElem_cons_succ]
      clear hK
      refine wpAnyH_take (i := 13) (v := ?_) rfl (by kernel_rfl) (by kernel_rfl) (by kernel_rfl) (fun _ _ _ h => nomatch h.1) (Or.inl ⟨by rfl, ?_⟩) hS ?_
      rotate_left
      · intro W' hS'
        obtain ⟨t0, t1, t2, tl, k0, kl⟩ := HT.out _ hS'
        go_simp
        rfl
      try simp only [Act.put, List.setIfInBounds_toArray, List.set_cons_zero, List.set_cons_succ, List.getElem_toArray, List.getElem_cons_zero, List.getElem_cons_succ]
      refine wpAnyH_take (i := 14) (v := ?_) rfl (by kernel_rfl) (by kernel_rfl) (by kernel_rfl) (fun _ _ _ h => nomatch h.1) (Or.inl ⟨by rfl, ?_⟩) hS ?_
      rotate_left
      · intro W' hS'
        obtain ⟨t0, t1, t2, tl, k0, kl⟩ := HT.out _ hS'
        go_simp
        rfl
      try simp only [Act.put, List.setIfInBounds_toArray, List.set_cons_zero, List.set_cons_succ, List.getElem_toArray, List.getElem_cons_zero, List.getElem_cons_succ]
      refine wpAnyH_take (i := 15) (v := ?_) rfl (by kernel_rfl) (by kernel_rfl) (by kernel_rfl) (fun _ _ _ h => nomatch h.1) (Or.inl ⟨by rfl, ?_⟩) hS ?_
      rotate_left
      · intro W' hS'
        obtain ⟨t0, t1, t2, tl, k0, kl⟩ := HT.out _ hS'
        go_simp
        rfl
      try simp only [Act.put, List.setIfInBounds_toArray, List.set_cons_zero, List.set_cons_succ, List.getElem_toArray, List.getElem_cons_zero, List.getElem_cons_succ]
      refine wpAnyH_ready (rs := [16]) (by kernel_rfl) (by simp) (AllReadyH.cons rfl (fun K hK => ?_) AllReadyH.nil)
      go_simp
      have hSp := hS.size
      refine hK.out _ _ (hS.alloc hS.size _) (fun hS => ?_)
      try simp only [Act.put, List.setIfInBounds_toArray, List.set_cons_zero, List.set_cons_succ, List.getElem_toArray, List.getElem_cons_zero, List.getElem_cons_succ]
      clear hK
      obtain ⟨gb6, hg3⟩ : ∃ g, g = wn.heap.size := ⟨_, rfl⟩
      have hgeb6 : w3.heap.size ≤ gb6 := by rw [hg3]; exact hSp
      obtain ⟨wA3, hW3⟩ : ∃ W, W = wn.alloc (.cells #[.int .i64 0, .int .i64 0, .int .i64 0, .int .i64 0] 38) := ⟨_, rfl⟩
      have b6 : Blk wA3 gb6 38 #[.int .i64 0, .int .i64 0, .int .i64 0, .int .i64 0] := by rw [hW3, hg3]; exact Blk.new _ _ _
      rw [← hW3] at hS ⊢
      rw [← hg3]
      clear hg3 hSp
      clear hW3
      refine wpAnyH_ready (rs := [17]) (by kernel_rfl) (by simp) (AllReadyH.cons rfl (fun K hK => ?_) AllReadyH.nil)
      have HBLK4 := ((((b6.set_ 0 (.int .i64 0)).set_ 1 (.int .i64 0)).set_ 2 (.int .i64 0)).set_ 3 (.int .i64 0))
      have HBEL4 := ((((hS.setCell (p := ⟨gb6, 0, none⟩) hgeb6 (.int .i64 0)).setCell (p := ⟨gb6, 1, none⟩) hgeb6 (.int .i64 0)).setCell (p := ⟨gb6, 2, none⟩) hgeb6 (.int .i64 0)).setCell (p := ⟨gb6, 3, none⟩) hgeb6 (.int .i64 0))
      have z0 := b6.get 0 rfl
      have z1 := b6.get 1 rfl
      have z2 := b6.get 2 rfl
      have z3 := b6.get 3 rfl
      have zl := b6.lt
      have zf0 := b6.frozen 0
      have zf1 := b6.frozen 1
      have zf2 := b6.frozen 2
      have zf3 := b6.frozen 3
      go_simp
      refine hK.out _ _ HBEL4 (fun hS => ?_)
      try simp only [Act.put, List.setIfInBounds_toArray, List.set_cons_zero, List.set_cons_succ, List.getElem_toArray, List.getElem_cons_zero, List.getElem_cons_succ]
      clear hK
      obtain ⟨wS4, hW4⟩ : ∃ W, W = ((((wA3.setCell ⟨gb6, 0, none⟩ (.int .i64 0)).setCell ⟨gb6, 1, none⟩ (.int .i64 0)).setCell ⟨gb6, 2, none⟩ (.int .i64 0)).setCell ⟨gb6, 3, none⟩ (.int .i64 0)) := ⟨_, rfl⟩
      rw [← hW4] at hS HBLK4 HBEL4  ⊢
      clear hW4 z0 zf0 z1 zf1 z2 zf2 z3 zf3 zl b6
      have b6 : Blk wS4 gb6 38 #[.int .i64 0, .int .i64 0, .int .i64 0, .int .i64 0] := by simpa using HBLK4
      refine wpAnyH_take (i := 18) (v := ?_) rfl (by kernel_rfl) (by kernel_rfl) (by kernel_rfl) (fun _ _ _ h => nomatch h.1) (Or.inl ⟨by rfl, ?_⟩) hS ?_
      rotate_left
      · intro W' hS'
        obtain ⟨t0, t1, t2, tl, k0, kl⟩ := HT.out _ hS'
        go_simp
        rfl
      try simp only [Act.put, List.setIfInBounds_toArray, List.set_cons_zero, List.set_cons_succ, List.getElem_toArray, List.getElem_cons_zero, List.getElem_cons_succ]
      refine wpAnyH_done (by kernel_rfl) ?_ _
      exact ⟨rfl, gv, gb6, rfl, hgeb6, b6, hS⟩
    · skip
      go_simp
      have hSp := hS.size
      refine hK.out _ _ (hS.alloc hS.size _) (fun hS => ?_)
      try simp only [Act.put, List.setIfInBounds_toArray, List.set_cons_zero, List.set_cons_succ, List.getElem_toArray, List.getElem_cons_zero, List.getElem_cons_succ]
      clear hK
      obtain ⟨gb6, hg5⟩ : ∃ g, g = wv.heap.size := ⟨_, rfl⟩
      have hgeb6 : w3.heap.size ≤ gb6 := by rw [hg5]; exact hSp
      obtain ⟨wA5, hW5⟩ : ∃ W, W = wv.alloc (.cells #[.int .i64 0, .int .i64 0, .int .i64 0, .int .i64 0] 38) := ⟨_, rfl⟩
      have b6 : Blk wA5 gb6 38 #[.int .i64 0, .int .i64 0, .int .i64 0, .int .i64 0] := by rw [hW5, hg5]; exact Blk.new _ _ _
      rw [← hW5] at hS ⊢
      rw [← hg5]
      clear hg5 hSp
      clear hW5
      refine wpAnyH_ready (rs := [12]) (by kernel_rfl) (by simp) (AllReadyH.cons rfl (fun K hK => ?_) AllReadyH.nil)
      go_simp
      refine (HNODE.out _ hS gv).mono ?_
      rintro e wn ⟨rfl, hbb⟩
      have b6 := b6.below hbb b6.lt
      have hS6 : Below w3.heap.size w3 wn := hS.trans (hbb.mono hS.size)
      clear hbb
      refine hK.out _ _ hS6 (fun hS => ?_)
      try simp only [Act.put, List.setIfInBounds_toArray, List.set_cons_zero, List.set_cons_succ, List.getElem_toArray, List.getElem_cons_zero, List.getElem_cons_succ]
      clear hK
      refine wpAnyH_take (i := 13) (v := ?_) rfl (by kernel_rfl) (by kernel_rfl) (by kernel_rfl) (fun _ _ _ h => nomatch h.1) (Or.inl ⟨by rfl, ?_⟩) hS ?_
      rotate_left
      · intro W' hS'
        obtain ⟨t0, t1, t2, tl, k0, kl⟩ := HT.out _ hS'
        go_simp
        rfl
      try simp only [Act.put, List.setIfInBounds_toArray, List.set_cons_zero, List.set_cons_succ, List.getElem_toArray, List.getElem_cons_zero, List.getElem_cons_succ]
      refine wpAnyH_take (i := 14) (v := ?_) rfl (by kernel_rfl) (by kernel_rfl) (by kernel_rfl) (fun _ _ _ h => nomatch h.1) (Or.inl ⟨by rfl, ?_⟩) hS ?_
      rotate_left
      · intro W' hS'
        obtain ⟨t0, t1, t2, tl, k0, kl⟩ := HT.out _ hS'
        go_simp
        rfl
      try simp only [Act.put, List.setIfInBounds_toArray, List.set_cons_zero, List.set_cons_succ, List.getElem_toArray, List.getElem_cons_zero, List.getElem_cons_succ]
      refine wpAnyH_take (i := 15) (v := ?_) rfl (by kernel_rfl) (by kernel_rfl) (by kernel_rfl) (fun _ _ _ h => nomatch h.1) (Or.inl ⟨by rfl, ?_⟩) hS ?_
      rotate_left
      · intro W' hS'
        obtain ⟨t0, t1, t2, tl, k0, kl⟩ := HT.out _ hS'
        go_simp
        rfl
      try simp only [Act.put, List.setIfInBounds_toArray, List.set_cons_zero, List.set_cons_succ, List.getElem_toArray, List.getElem_cons_zero, List.getElem_cons_succ]
      refine wpAnyH_ready (rs := [17]) (by kernel_rfl) (by simp) (AllReadyH.cons rfl (fun K hK => ?_) AllReadyH.nil)
      have HBLK7 := ((((b6.set_ 0 (.int .i64 0)).set_ 1 (.int .i64 0)).set_ 2 (.int .i64 0)).set_ 3 (.int .i64 0))
      have HBEL7 := ((((hS.setCell (p := ⟨gb6, 0, none⟩) hgeb6 (.int .i64 0)).setCell (p := ⟨gb6, 1, none⟩) hgeb6 (.int .i64 0)).setCell (p := ⟨gb6, 2, none⟩) hgeb6 (.int .i64 0)).setCell (p := ⟨gb6, 3, none⟩) hgeb6 (.int .i64 0))
      have z0 := b6.get 0 rfl
      have z1 := b6.get 1 rfl
      have z2 := b6.get 2 rfl
      have z3 := b6.get 3 rfl
      have zl := b6.lt
      have zf0 := b6.frozen 0
      have zf1 := b6.frozen 1
      have zf2 := b6.frozen 2
      have zf3 := b6.frozen 3
      go_simp
      refine hK.out _ _ HBEL7 (fun hS => ?_)
      try simp only [Act.put, List.setIfInBounds_toArray, List.set_cons_zero, List.set_cons_succ, List.getElem_toArray, List.getElem_cons_zero, List.getElem_cons_succ]
      clear hK
      obtain ⟨wS7, hW7⟩ : ∃ W, W = ((((wn.setCell ⟨gb6, 0, none⟩ (.int .i64 0)).setCell ⟨gb6, 1, none⟩ (.int .i64 0)).setCell ⟨gb6, 2, none⟩ (.int .i64 0)).setCell ⟨gb6, 3, none⟩ (.int .i64 0)) := ⟨_, rfl⟩
      rw [← hW7] at hS HBLK7 HBEL7  ⊢
      clear hW7 z0 zf0 z1 zf1 z2 zf2 z3 zf3 zl b6
      have b6 : Blk wS7 gb6 38 #[.int .i64 0, .int .i64 0, .int .i64 0, .int .i64 0] := by simpa using HBLK7
      refine wpAnyH_take (i := 18) (v := ?_) rfl (by kernel_rfl) (by kernel_rfl) (by kernel_rfl) (fun _ _ _ h => nomatch h.1) (Or.inl ⟨by rfl, ?_⟩) hS ?_
      rotate_left
      · intro W' hS'
        obtain ⟨t0, t1, t2, tl, k0, kl⟩ := HT.out _ hS'
        go_simp
        rfl
      try simp only [Act.put, List.setIfInBounds_toArray, List.set_cons_zero, List.set_cons_succ, List.getElem_toArray, List.getElem_cons_zero, List.getElem_cons_succ]
      refine wpAnyH_done (by kernel_rfl) ?_ _
      exact ⟨rfl, gv, gb6, rfl, hgeb6, b6, hS⟩
  · skip
    go_simp
    refine hK.out _ _ (hS.alloc hS.size _) (fun hS => ?_)
    try simp only [Act.put, List.setIfInBounds_toArray, List.set_cons_zero, List.set_cons_succ, List.getElem_toArray, List.getElem_cons_zero, List.getElem_cons_succ]
    clear hK
    have hgeb6 : w3.heap.size ≤ w3.heap.size := Nat.le_refl _
    obtain ⟨wA8, hW8⟩ : ∃ W, W = (w3.alloc (.cells #[.int .i64 0, .int .i64 0, .int .i64 0, .int .i64 0] 38)).drew := ⟨_, rfl⟩
    have b6 : Blk wA8 w3.heap.size 38 #[.int .i64 0, .int .i64 0, .int .i64 0, .int .i64 0] := by rw [hW8]; exact (Blk.new _ _ _).drew
    rw [← hW8] at hS ⊢
    clear hW8
    refine wpAnyH_ready (rs := [11]) (by kernel_rfl) (by simp) (AllReadyH.cons rfl (fun K hK => ?_) AllReadyH.nil)
    go_simp
    refine (HVAL.out _).mono ?_
    rintro e wv ⟨⟨gv, rfl⟩, hbb⟩
    have b6 := b6.below hbb b6.lt
    have hS9 : Below w3.heap.size w3 wv := hS.trans (hbb.mono hS.size)
    clear hbb
    refine hK.out _ _ hS9 (fun hS => ?_)
    try simp only [Act.put, List.setIfInBounds_toArray, List.set_cons_zero, List.set_cons_succ, List.getElem_toArray, List.getElem_cons_zero, List.getElem_cons_succ]
    clear hK
    refine wpAnyH_ready (rs := [12]) (by kernel_rfl) (by simp) (AllReadyH.cons rfl (fun K hK => ?_) AllReadyH.nil)
    go_simp
    refine (HNODE.out _ hS gv).mono ?_
    rintro e wn ⟨rfl, hbb⟩
    have b6 := b6.below hbb b6.lt
    have hS10 : Below w3.heap.size w3 wn := hS.trans (hbb.mono hS.size)
    clear hbb
    refine hK.out _ _ hS10 (fun hS => ?_)
    try simp only [Act.put, List.setIfInBounds_toArray, List.set_cons_zero, List.set_cons_succ, List.getElem_toArray, List.getElem_cons_zero, List.getElem_cons_succ]
    clear hK
    refine wpAnyH_take (i := 13) (v := ?_) rfl (by kernel_rfl) (by kernel_rfl) (by kernel_rfl) (fun _ _ _ h => nomatch h.1) (Or.inl ⟨by rfl, ?_⟩) hS ?_
    rotate_left
    · intro W' hS'
      obtain ⟨t0, t1, t2, tl, k0, kl⟩ := HT.out _ hS'
      go_simp
      rfl
    try simp only [Act.put, List.setIfInBounds_toArray, List.set_cons_zero, List.set_cons_succ, List.getElem_toArray, List.getElem_cons_zero, List.getElem_cons_succ]
    refine wpAnyH_take (i := 14) (v := ?_) rfl (by kernel_rfl) (by kernel_rfl) (by kernel_rfl) (fun _ _ _ h => nomatch h.1) (Or.inl ⟨by rfl, ?_⟩) hS ?_
    rotate_left
    · intro W' hS'
      obtain ⟨t0, t1, t2, tl, k0, kl⟩ := HT.out _ hS'
      go_simp
      rfl
    try simp only [Act.put, List.setIfInBounds_toArray, List.set_cons_zero, List.set_cons_succ, List.getElem_toArray, List.getElem_cons_zero, List.getElem_cons_succ]
    refine wpAnyH_take (i := 15) (v := ?_) rfl (by kernel_rfl) (by kernel_rfl) (by kernel_rfl) (fun _ _ _ h => nomatch h.1) (Or.inl ⟨by rfl, ?_⟩) hS ?_
    rotate_left
    · intro W' hS'
      obtain ⟨t0, t1, t2, tl, k0, kl⟩ := HT.out _ hS'
      go_simp
      rfl
    try simp only [Act.put, List.setIfInBounds_toArray, List.set_cons_zero, List.set_cons_succ, List.getElem_toArray, List.getElem_cons_zero, List.getElem_cons_succ]
    refine wpAnyH_ready (rs := [17]) (by kernel_rfl) (by simp) (AllReadyH.cons rfl (fun K hK => ?_) AllReadyH.nil)
    have HBLK11 := ((((b6.set_ 0 (.int .i64 0)).set_ 1 (.int .i64 0)).set_ 2 (.int .i64 0)).set_ 3 (.int .i64 0))
    have HBEL11 := ((((hS.setCell (p := ⟨w3.heap.size, 0, none⟩) hgeb6 (.int .i64 0)).setCell (p := ⟨w3.heap.size, 1, none⟩) hgeb6 (.int .i64 0)).setCell (p := ⟨w3.heap.size, 2, none⟩) hgeb6 (.int .i64 0)).setCell (p := ⟨w3.heap.size, 3, none⟩) hgeb6 (.int .i64 0))
    have z0 := b6.get 0 rfl
    have z1 := b6.get 1 rfl
    have z2 := b6.get 2 rfl
    have z3 := b6.get 3 rfl
    have zl := b6.lt
    have zf0 := b6.frozen 0
    have zf1 := b6.frozen 1
    have zf2 := b6.frozen 2
    have zf3 := b6.frozen 3
    go_simp
    refine hK.out _ _ HBEL11 (fun hS => ?_)
    try simp only [Act.put, List.setIfInBounds_toArray, List.set_cons_zero, List.set_cons_succ, List.getElem_toArray, List.getElem_cons_zero, List.getElem_cons_succ]
    clear hK
    obtain ⟨wS11, hW11⟩ : ∃ W, W = ((((wn.setCell ⟨w3.heap.size, 0, none⟩ (.int .i64 0)).setCell ⟨w3.heap.size, 1, none⟩ (.int .i64 0)).setCell ⟨w3.heap.size, 2, none⟩ (.int .i64 0)).setCell ⟨w3.heap.size, 3, none⟩ (.int .i64 0)) := ⟨_, rfl⟩
    rw [← hW11] at hS HBLK11 HBEL11  ⊢
    clear hW11 z0 zf0 z1 zf1 z2 zf2 z3 zf3 zl b6
    have b6 : Blk wS11 w3.heap.size 38 #[.int .i64 0, .int .i64 0, .int .i64 0, .int .i64 0] := by simpa using HBLK11
    refine wpAnyH_take (i := 18) (v := ?_) rfl (by kernel_rfl) (by kernel_rfl) (by kernel_rfl) (fun _ _ _ h => nomatch h.1) (Or.inl ⟨by rfl, ?_⟩) hS ?_
    rotate_left
    · intro W' hS'
      obtain ⟨t0, t1, t2, tl, k0, kl⟩ := HT.out _ hS'
      go_simp
      rfl
    try simp only [Act.put, List.setIfInBounds_toArray, List.set_cons_zero, List.set_cons_succ, List.getElem_toArray, List.getElem_cons_zero, List.getElem_cons_succ]
    refine wpAnyH_done (by kernel_rfl) ?_ _
    exact ⟨rfl, gv, w3.heap.size, rfl, hgeb6, b6, hS⟩
  rintro gv g6 w4 ⟨hge, b6, hb4⟩
  have HX4 := Lib.hid (HX3.out.1.below hb4 HX3.out.1.lt)
  have HB4 := Lib.hid (HB3.out.trans (hb4.mono HB3.out.size))
  have z0 := b6.get 0 rfl
  have z1 := b6.get 1 rfl
  have z2 := b6.get 2 rfl
  have z3 := b6.get 3 rfl
  have zl := b6.lt
  have x0 := HX4.out.get 0 rfl
  have x1 := HX4.out.get 1 rfl
  have x2 := HX4.out.get 2 rfl
  have x3 := HX4.out.get 3 rfl
  have xl := HX4.out.lt
  have xf0 := HX4.out.frozen 0
  have xf1 := HX4.out.frozen 1
  have xf2 := HX4.out.frozen 2
  have xf3 := HX4.out.frozen 3
  have HX5 := Lib.hid ((((HX4.out.set_ 0 (.int .i64 0)).set_ 1 (.int .i64 0)).set_ 2 (.int .i64 0)).set_ 3 (.int .i64 0))
  have HB5 := Lib.hid ((((HB4.out.setCell (p := ⟨gX, 0, none⟩) HX3.out.2 (.int .i64 0)).setCell (p := ⟨gX, 1, none⟩) HX3.out.2 (.int .i64 0)).setCell (p := ⟨gX, 2, none⟩) HX3.out.2 (.int .i64 0)).setCell (p := ⟨gX, 3, none⟩) HX3.out.2 (.int .i64 0))
  clear b6 hb4 hge
  go_wp2_with fail
  rw [rounds_succ]
  go_wp2_with fail
  go_ret2
  exact ⟨⟨gX, rfl, HX3.out.2, by simpa using HX5.out⟩, HB5.out⟩
end
end Go.Proofs.YtjhfcpadnofdnaaGreat
