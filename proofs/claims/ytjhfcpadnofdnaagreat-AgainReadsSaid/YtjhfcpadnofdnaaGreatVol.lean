/- seq.Down and seq.Isles of a tree of one node. -/
import Derived.Test.YtjhfcpadnofdnaaGreatVok
set_option linter.unusedSimpArgs false
set_option linter.unusedVariables false
namespace Go.Proofs.YtjhfcpadnofdnaaGreat
open Go.RowKit
attribute [local go_sem] block_of_add
section
variable {ga gN gC gU gH gF gK : Nat} {v uw : Int} {w : World}
set_option maxRecDepth 100000 in
set_option maxHeartbeats 8000000 in
theorem sdown_one (hv : usedV (flowN (styK 1 0) v) = .tuple #[.agg #[.int .i64 v, .int .i64 0, .int .i64 0], .bool false]) (hc : CB v) (C : Value) (hn : Blk w gN 69 (ndsCells l1V).toArray) : Calls Tryz.prog 108 #[.agg #[.slice (some ⟨gN, 0, none⟩) 1 1, .slice none 0 0, .int .i64 v], C] w fun e w' => (∃ g, e = .returned (.tuple #[.slice (some ⟨g, 0, none⟩) 1 1, .int .i64 (-1)]) ∧ w.heap.size ≤ g ∧ Blk w' g 40 #[.int .i64 v, .int .i64 0, .int .i64 0]) ∧ Below w.heap.size w w' := by
  have HN := Lib.hid (fun W' (h : Below w.heap.size w W') => hn.below h hn.lt)
  have HFIR := Lib.hid (fun W' (h : Below w.heap.size w W') => vfirst_call hv hc (HN.out W' h))
  have HKIDS := Lib.hid (fun g W' (h : Below w.heap.size w W') => vkids_call (v := v) hc (HN.out W' h) (some ⟨g, 0, none⟩) 0 (reads_no _ _ _))
  have HVAL := Lib.hid (fun W => svalC_one C W)
  have hmk := make_uds1
  have hmk2 := make_boo1
  have HB1 : Hid (Below w.heap.size w (w.alloc (.cells #[.slice (some ⟨gN, 0, none⟩) 1 1, .slice none 0 0, .int .i64 v] 25))) := Lib.hid ((Below.refl _ _).alloc (Nat.le_refl _) _)
  have HT1 : Hid (Blk (w.alloc (.cells #[.slice (some ⟨gN, 0, none⟩) 1 1, .slice none 0 0, .int .i64 v] 25)) w.heap.size 25 #[.slice (some ⟨gN, 0, none⟩) 1 1, .slice none 0 0, .int .i64 v]) := Lib.hid (Blk.new _ _ _)
  clear hn hv hc
  go_enter Tryz.func108, Tryz.ntmps108
  go_wp2_with fail
  refine (kids_one (v := v) (HN.out _ HB1.out)).mono ?_
  rintro e w2 ⟨⟨gK, rfl, bK⟩, hb2⟩
  have HB2 := Lib.hid (HB1.out.trans (hb2.mono HB1.out.size))
  have HT2 := Lib.hid (HT1.out.below hb2 HT1.out.lt)
  have HK2 := Lib.hid bK
  clear hb2 bK
  have t0 := HT2.out.get 0 rfl
  have tl := HT2.out.lt
  go_upto_region 6 with (fail)
  obtain ⟨gX, hgX⟩ : ∃ g, g = w2.heap.size := ⟨_, rfl⟩
  obtain ⟨w3, hw3⟩ : ∃ W, W = (w2.alloc (.cells #[.int .i64 0, .int .i64 0, .int .i64 0] 40)).alloc (.cells #[.bool false] 4) := ⟨_, rfl⟩
  have HB3 : Hid (Below w.heap.size w w3) := Lib.hid (by rw [hw3]; exact (HB2.out.alloc HB2.out.size _).alloc (by have := HB2.out.size; simp; omega) _)
  have HT3 : Hid (Blk w3 w.heap.size 25 #[.slice (some ⟨gN, 0, none⟩) 1 1, .slice none 0 0, .int .i64 v]) := Lib.hid (by rw [hw3]; exact (HT2.out.alloc _).alloc _)
  have HK3 : Hid (Blk w3 gK 50 #[.slice none 0 0]) := Lib.hid (by rw [hw3]; exact (HK2.out.alloc _).alloc _)
  have HX3 : Hid (Blk w3 gX 40 #[.int .i64 0, .int .i64 0, .int .i64 0] ∧ w.heap.size ≤ gX) := Lib.hid (by rw [hw3, hgX]; exact ⟨(Blk.new _ _ _).alloc _, HB2.out.size⟩)
  have HL3 : Hid (Blk w3 (gX + 1) 4 #[.bool false]) := Lib.hid (by rw [hw3, hgX]; exact Blk.at_ _ _ _ (by simp))
  rw [← hw3, ← hgX]
  clear hw3 hgX t0 tl hmk hmk2
  have t0 := HT3.out.get 0 rfl
  have t1 := HT3.out.get 1 rfl
  have t2 := HT3.out.get 2 rfl
  have tl := HT3.out.lt
  go_upto_region 7 with (go_at_call 99; refine (HFIR.out _ HB3.out).mono ?_; rintro e w4 ⟨rfl, hb4⟩; have HB4 := Lib.hid (HB3.out.trans (hb4.mono HB3.out.size)); have HT4 := Lib.hid (HT3.out.below hb4 HT3.out.lt); have HK4 := Lib.hid (HK3.out.below hb4 HK3.out.lt); have HX4 := Lib.hid (HX3.out.1.below hb4 HX3.out.1.lt); have HL4 := Lib.hid (HL3.out.below hb4 HL3.out.lt); clear hb4 t0 t1 t2 tl; have x0 := HX4.out.get 0 rfl; have x1 := HX4.out.get 1 rfl; have x2 := HX4.out.get 2 rfl; have xl := HX4.out.lt; have xf := HX4.out.frozen; have l0 := HL4.out.get 0 rfl; have ll := HL4.out.lt; have lf := HL4.out.frozen 0)
  obtain ⟨w5, hw5⟩ : ∃ W, W = (((w4.setCell ⟨gX, 0, none⟩ (.int .i64 v)).setCell ⟨gX, 1, none⟩ (.int .i64 0)).setCell ⟨gX, 2, none⟩ (.int .i64 0)).setCell ⟨gX + 1, 0, none⟩ (.bool false) := ⟨_, rfl⟩
  have hXl : gX ≠ gX + 1 := by omega
  have hlX : gX + 1 ≠ gX := by omega
  have HX5 : Hid (Blk w5 gX 40 #[.int .i64 v, .int .i64 0, .int .i64 0]) := Lib.hid (by rw [hw5]; simpa using (((HX4.out.set_ 0 (.int .i64 v)).set_ 1 (.int .i64 0)).set_ 2 (.int .i64 0)).far (p := ⟨gX + 1, 0, none⟩) hXl (.bool false))
  have HL5 : Hid (Blk w5 (gX + 1) 4 #[.bool false]) := Lib.hid (by rw [hw5]; simpa using ((((HL4.out.far (p := ⟨gX, 0, none⟩) hlX (.int .i64 v)).far (p := ⟨gX, 1, none⟩) hlX (.int .i64 0)).far (p := ⟨gX, 2, none⟩) hlX (.int .i64 0)).set_ 0 (.bool false)))
  have hw2X : w.heap.size ≠ gX ∧ w.heap.size ≠ gX + 1 := ⟨HT4.out.ne_ HX4.out (by decide), HT4.out.ne_ HL4.out (by decide)⟩
  have hK2X : gK ≠ gX ∧ gK ≠ gX + 1 := ⟨HK4.out.ne_ HX4.out (by decide), HK4.out.ne_ HL4.out (by decide)⟩
  have HT5 : Hid (Blk w5 w.heap.size 25 #[.slice (some ⟨gN, 0, none⟩) 1 1, .slice none 0 0, .int .i64 v]) := Lib.hid (by rw [hw5]; exact (((HT4.out.far (p := ⟨gX, 0, none⟩) hw2X.1 _).far (p := ⟨gX, 1, none⟩) hw2X.1 _).far (p := ⟨gX, 2, none⟩) hw2X.1 _).far (p := ⟨gX + 1, 0, none⟩) hw2X.2 _)
  have HK5 : Hid (Blk w5 gK 50 #[.slice none 0 0]) := Lib.hid (by rw [hw5]; exact (((HK4.out.far (p := ⟨gX, 0, none⟩) hK2X.1 _).far (p := ⟨gX, 1, none⟩) hK2X.1 _).far (p := ⟨gX, 2, none⟩) hK2X.1 _).far (p := ⟨gX + 1, 0, none⟩) hK2X.2 _)
  have HB5 : Hid (Below w.heap.size w w5) := Lib.hid (by rw [hw5]; exact (((HB4.out.setCell (p := ⟨gX, 0, none⟩) HX3.out.2 _).setCell (p := ⟨gX, 1, none⟩) HX3.out.2 _).setCell (p := ⟨gX, 2, none⟩) HX3.out.2 _).setCell (p := ⟨gX + 1, 0, none⟩) (by have := HX3.out.2; simp; omega) _)
  have HGX := Lib.hid HX3.out.2
  rw [← hw5]
  clear hw5 hXl hlX hw2X hK2X x0 x1 x2 xl xf l0 ll lf
  have t0 := HT5.out.get 0 rfl
  have tl := HT5.out.lt
  go_wp2_with fail
  clear t0 tl
  have HF : Hid (∀ W', Below w5.heap.size w5 W' → W'.cell? ⟨w.heap.size, 0, none⟩ = some (.slice (some ⟨gN, 0, none⟩) 1 1) ∧ W'.cell? ⟨w.heap.size, 1, none⟩ = some (.slice none 0 0) ∧ W'.cell? ⟨w.heap.size, 2, none⟩ = some (.int .i64 v) ∧ w.heap.size < W'.heap.size ∧ W'.cell? ⟨gK, 0, none⟩ = some (.slice none 0 0) ∧ gK < W'.heap.size ∧ W'.cell? ⟨gX, 0, none⟩ = some (.int .i64 v) ∧ W'.cell? ⟨gX, 1, none⟩ = some (.int .i64 0) ∧ W'.cell? ⟨gX, 2, none⟩ = some (.int .i64 0) ∧ gX < W'.heap.size) := Lib.hid (fun W' h => by
    have b := HT5.out.below h HT5.out.lt
    have c := HK5.out.below h HK5.out.lt
    have d := HX5.out.below h HX5.out.lt
    exact ⟨b.get 0 rfl, b.get 1 rfl, b.get 2 rfl, b.lt, c.get 0 rfl, c.lt, d.get 0 rfl, d.get 1 rfl, d.get 2 rfl, d.lt⟩)
  refine wp_loop_rounds 2 ?_
  rw [rounds_succ]
  go_upto_region 10 with (fail)
  have E0 : Below w5.heap.size w5 w5.drew := (Below.refl _ _).drew
  refine wp_region_held_drew (S := fun W => Below w5.heap.size w5 W) (by kernel_rfl) E0 (fun hS => ?_)
  refine wpAnyH_take (i := 0) (v := ?_) rfl (by kernel_rfl) (by kernel_rfl) (by kernel_rfl) (fun _ _ _ h => h) (Or.inl ⟨by rfl, ?_⟩) hS ?_
  rotate_left
  · intro W' hS'
    obtain ⟨t0, t1, t2, tl, k0, kl, x0, x1, x2, xl⟩ := HF.out _ hS'
    go_simp
    rfl
  try simp only [Act.put, List.setIfInBounds_toArray, List.set_cons_zero, List.set_cons_succ, List.getElem_toArray, List.getElem_cons_zero, List.getElem_cons_succ]
  refine wpAnyH_take (i := 1) (v := ?_) rfl (by kernel_rfl) (by kernel_rfl) (by kernel_rfl) (fun _ _ _ h => h) (Or.inl ⟨by rfl, ?_⟩) hS ?_
  rotate_left
  · intro W' hS'
    obtain ⟨t0, t1, t2, tl, k0, kl, x0, x1, x2, xl⟩ := HF.out _ hS'
    go_simp
    rfl
  try simp only [Act.put, List.setIfInBounds_toArray, List.set_cons_zero, List.set_cons_succ, List.getElem_toArray, List.getElem_cons_zero, List.getElem_cons_succ]
  refine wpAnyH_take (i := 2) (v := ?_) rfl (by kernel_rfl) (by kernel_rfl) (by kernel_rfl) (fun _ _ _ h => h) (Or.inl ⟨by rfl, ?_⟩) hS ?_
  rotate_left
  · intro W' hS'
    obtain ⟨t0, t1, t2, tl, k0, kl, x0, x1, x2, xl⟩ := HF.out _ hS'
    go_simp
    rfl
  try simp only [Act.put, List.setIfInBounds_toArray, List.set_cons_zero, List.set_cons_succ, List.getElem_toArray, List.getElem_cons_zero, List.getElem_cons_succ]
  refine wpAnyH_take (i := 3) (v := ?_) rfl (by kernel_rfl) (by kernel_rfl) (by kernel_rfl) (fun _ _ _ h => h) (Or.inl ⟨by rfl, ?_⟩) hS ?_
  rotate_left
  · intro W' hS'
    obtain ⟨t0, t1, t2, tl, k0, kl, x0, x1, x2, xl⟩ := HF.out _ hS'
    go_simp
    rfl
  try simp only [Act.put, List.setIfInBounds_toArray, List.set_cons_zero, List.set_cons_succ, List.getElem_toArray, List.getElem_cons_zero, List.getElem_cons_succ]
  refine wpAnyH_take (i := 4) (v := ?_) rfl (by kernel_rfl) (by kernel_rfl) (by kernel_rfl) (fun _ _ _ h => h) (Or.inl ⟨by rfl, ?_⟩) hS ?_
  rotate_left
  · intro W' hS'
    obtain ⟨t0, t1, t2, tl, k0, kl, x0, x1, x2, xl⟩ := HF.out _ hS'
    go_simp
    rfl
  try simp only [Act.put, List.setIfInBounds_toArray, List.set_cons_zero, List.set_cons_succ, List.getElem_toArray, List.getElem_cons_zero, List.getElem_cons_succ]
  refine wpAnyH_take (i := 5) (v := ?_) rfl (by kernel_rfl) (by kernel_rfl) (by kernel_rfl) (fun _ _ _ h => h) (Or.inl ⟨by rfl, ?_⟩) hS ?_
  rotate_left
  · intro W' hS'
    obtain ⟨t0, t1, t2, tl, k0, kl, x0, x1, x2, xl⟩ := HF.out _ hS'
    go_simp
    rfl
  try simp only [Act.put, List.setIfInBounds_toArray, List.set_cons_zero, List.set_cons_succ, List.getElem_toArray, List.getElem_cons_zero, List.getElem_cons_succ]
  refine wpAnyH_take (i := 6) (v := ?_) rfl (by kernel_rfl) (by kernel_rfl) (by kernel_rfl) (fun _ _ _ h => h) (Or.inl ⟨by rfl, ?_⟩) hS ?_
  rotate_left
  · intro W' hS'
    obtain ⟨t0, t1, t2, tl, k0, kl, x0, x1, x2, xl⟩ := HF.out _ hS'
    go_simp
    rfl
  try simp only [Act.put, List.setIfInBounds_toArray, List.set_cons_zero, List.set_cons_succ, List.getElem_toArray, List.getElem_cons_zero, List.getElem_cons_succ]
  refine wpAnyH_take (i := 7) (v := ?_) rfl (by kernel_rfl) (by kernel_rfl) (by kernel_rfl) (fun _ _ _ h => h) (Or.inl ⟨by rfl, ?_⟩) hS ?_
  rotate_left
  · intro W' hS'
    obtain ⟨t0, t1, t2, tl, k0, kl, x0, x1, x2, xl⟩ := HF.out _ hS'
    go_simp
    rfl
  try simp only [Act.put, List.setIfInBounds_toArray, List.set_cons_zero, List.set_cons_succ, List.getElem_toArray, List.getElem_cons_zero, List.getElem_cons_succ]
  refine wpAnyH_take (i := 8) (v := ?_) rfl (by kernel_rfl) (by kernel_rfl) (by kernel_rfl) (fun _ _ _ h => h) (Or.inl ⟨by rfl, ?_⟩) hS ?_
  rotate_left
  · intro W' hS'
    obtain ⟨t0, t1, t2, tl, k0, kl, x0, x1, x2, xl⟩ := HF.out _ hS'
    go_simp
    rfl
  try simp only [Act.put, List.setIfInBounds_toArray, List.set_cons_zero, List.set_cons_succ, List.getElem_toArray, List.getElem_cons_zero, List.getElem_cons_succ]
  refine wpAnyH_take (i := 9) (v := ?_) rfl (by kernel_rfl) (by kernel_rfl) (by kernel_rfl) (fun _ _ _ h => h) (Or.inl ⟨by rfl, ?_⟩) hS ?_
  rotate_left
  · intro W' hS'
    obtain ⟨t0, t1, t2, tl, k0, kl, x0, x1, x2, xl⟩ := HF.out _ hS'
    go_simp
    rfl
  try simp only [Act.put, List.setIfInBounds_toArray, List.set_cons_zero, List.set_cons_succ, List.getElem_toArray, List.getElem_cons_zero, List.getElem_cons_succ]
  refine wpAnyH_take (i := 10) (v := ?_) rfl (by kernel_rfl) (by kernel_rfl) (by kernel_rfl) (fun _ _ _ h => h) (Or.inl ⟨by rfl, ?_⟩) hS ?_
  rotate_left
  · intro W' hS'
    obtain ⟨t0, t1, t2, tl, k0, kl, x0, x1, x2, xl⟩ := HF.out _ hS'
    go_simp
    rfl
  try simp only [Act.put, List.setIfInBounds_toArray, List.set_cons_zero, List.set_cons_succ, List.getElem_toArray, List.getElem_cons_zero, List.getElem_cons_succ]
  refine wpAnyH_take (i := 11) (v := ?_) rfl (by kernel_rfl) (by kernel_rfl) (by kernel_rfl) (fun _ _ _ h => h) (Or.inl ⟨by rfl, ?_⟩) hS ?_
  rotate_left
  · intro W' hS'
    obtain ⟨t0, t1, t2, tl, k0, kl, x0, x1, x2, xl⟩ := HF.out _ hS'
    go_simp
    rfl
  try simp only [Act.put, List.setIfInBounds_toArray, List.set_cons_zero, List.set_cons_succ, List.getElem_toArray, List.getElem_cons_zero, List.getElem_cons_succ]
  refine wpAnyH_take (i := 12) (v := ?_) rfl (by kernel_rfl) (by kernel_rfl) (by kernel_rfl) (fun _ _ _ h => h) (Or.inl ⟨by rfl, ?_⟩) hS ?_
  rotate_left
  · intro W' hS'
    obtain ⟨t0, t1, t2, tl, k0, kl, x0, x1, x2, xl⟩ := HF.out _ hS'
    go_simp
    rfl
  try simp only [Act.put, List.setIfInBounds_toArray, List.set_cons_zero, List.set_cons_succ, List.getElem_toArray, List.getElem_cons_zero, List.getElem_cons_succ]
  refine wpAnyH_take (i := 13) (v := ?_) rfl (by kernel_rfl) (by kernel_rfl) (by kernel_rfl) (fun _ _ _ h => h) (Or.inl ⟨by rfl, ?_⟩) hS ?_
  rotate_left
  · intro W' hS'
    obtain ⟨t0, t1, t2, tl, k0, kl, x0, x1, x2, xl⟩ := HF.out _ hS'
    go_simp
    rfl
  try simp only [Act.put, List.setIfInBounds_toArray, List.set_cons_zero, List.set_cons_succ, List.getElem_toArray, List.getElem_cons_zero, List.getElem_cons_succ]
  refine wpAnyH_take (i := 14) (v := ?_) rfl (by kernel_rfl) (by kernel_rfl) (by kernel_rfl) (fun _ _ _ h => h) (Or.inl ⟨by rfl, ?_⟩) hS ?_
  rotate_left
  · intro W' hS'
    obtain ⟨t0, t1, t2, tl, k0, kl, x0, x1, x2, xl⟩ := HF.out _ hS'
    go_simp
    rfl
  try simp only [Act.put, List.setIfInBounds_toArray, List.set_cons_zero, List.set_cons_succ, List.getElem_toArray, List.getElem_cons_zero, List.getElem_cons_succ]
  refine wpAnyH_ready (rs := [15]) (by kernel_rfl) (by simp) (AllReadyH.cons rfl (fun K hK => ?_) AllReadyH.nil)
  go_simp
  refine (HVAL.out _).mono ?_
  rintro e wv ⟨⟨gv, rfl⟩, hbb⟩
  refine hK.out _ _ (hS.trans (hbb.mono hS.size)) (fun hS => ?_)
  try simp only [Act.put, List.setIfInBounds_toArray, List.set_cons_zero, List.set_cons_succ, List.getElem_toArray, List.getElem_cons_zero, List.getElem_cons_succ]
  clear hK
  refine wpAnyH_ready (rs := [16]) (by kernel_rfl) (by simp) (AllReadyH.cons rfl (fun K hK => ?_) AllReadyH.nil)
  go_simp
  refine (HKIDS.out gv _ (HB5.out.trans (hS.mono HB5.out.size))).mono ?_
  rintro e wk ⟨⟨gu, gb, rfl⟩, hbb⟩
  refine hK.out _ _ (hS.trans (hbb.mono hS.size)) (fun hS => ?_)
  try simp only [Act.put, List.setIfInBounds_toArray, List.set_cons_zero, List.set_cons_succ, List.getElem_toArray, List.getElem_cons_zero, List.getElem_cons_succ]
  clear hK
  refine wpAnyH_take (i := 17) (v := ?_) rfl (by kernel_rfl) (by kernel_rfl) (by kernel_rfl) (fun _ _ _ h => h) (Or.inl ⟨by rfl, ?_⟩) hS ?_
  rotate_left
  · intro W' hS'
    obtain ⟨t0, t1, t2, tl, k0, kl, x0, x1, x2, xl⟩ := HF.out _ hS'
    go_simp
    rfl
  try simp only [Act.put, List.setIfInBounds_toArray, List.set_cons_zero, List.set_cons_succ, List.getElem_toArray, List.getElem_cons_zero, List.getElem_cons_succ]
  refine wpAnyH_take (i := 18) (v := ?_) rfl (by kernel_rfl) (by kernel_rfl) (by kernel_rfl) (fun _ _ _ h => h) (Or.inl ⟨by rfl, ?_⟩) hS ?_
  rotate_left
  · intro W' hS'
    obtain ⟨t0, t1, t2, tl, k0, kl, x0, x1, x2, xl⟩ := HF.out _ hS'
    go_simp
    rfl
  try simp only [Act.put, List.setIfInBounds_toArray, List.set_cons_zero, List.set_cons_succ, List.getElem_toArray, List.getElem_cons_zero, List.getElem_cons_succ]
  refine wpAnyH_take (i := 19) (v := ?_) rfl (by kernel_rfl) (by kernel_rfl) (by kernel_rfl) (fun _ _ _ h => h) (Or.inl ⟨by rfl, ?_⟩) hS ?_
  rotate_left
  · intro W' hS'
    obtain ⟨t0, t1, t2, tl, k0, kl, x0, x1, x2, xl⟩ := HF.out _ hS'
    go_simp
    rfl
  try simp only [Act.put, List.setIfInBounds_toArray, List.set_cons_zero, List.set_cons_succ, List.getElem_toArray, List.getElem_cons_zero, List.getElem_cons_succ]
  refine wpAnyH_take (i := 20) (v := ?_) rfl (by kernel_rfl) (by kernel_rfl) (by kernel_rfl) (fun _ _ _ h => h) (Or.inl ⟨by rfl, ?_⟩) hS ?_
  rotate_left
  · intro W' hS'
    obtain ⟨t0, t1, t2, tl, k0, kl, x0, x1, x2, xl⟩ := HF.out _ hS'
    go_simp
    rfl
  try simp only [Act.put, List.setIfInBounds_toArray, List.set_cons_zero, List.set_cons_succ, List.getElem_toArray, List.getElem_cons_zero, List.getElem_cons_succ]
  refine wpAnyH_take (i := 21) (v := ?_) rfl (by kernel_rfl) (by kernel_rfl) (by kernel_rfl) (fun _ _ _ h => h) (Or.inl ⟨by rfl, ?_⟩) hS ?_
  rotate_left
  · intro W' hS'
    obtain ⟨t0, t1, t2, tl, k0, kl, x0, x1, x2, xl⟩ := HF.out _ hS'
    go_simp
    rfl
  try simp only [Act.put, List.setIfInBounds_toArray, List.set_cons_zero, List.set_cons_succ, List.getElem_toArray, List.getElem_cons_zero, List.getElem_cons_succ]
  refine wpAnyH_done (by kernel_rfl) ?_ _
  have HB6 := Lib.hid (HB5.out.trans (hS.mono HB5.out.size))
  have HX6 := Lib.hid (HX5.out.below hS HX5.out.lt)
  have HL6 := Lib.hid (HL5.out.below hS HL5.out.lt)
  clear hS E0
  go_wp2_with fail
  refine wp_loop0 ?_
  go_wp2_with fail
  rw [rounds_succ]
  have q9 := Lib.hid (sleast_one (gX + 1) _ HL6.out)
  go_wp2_with (go_at_call 181; refine q9.out.mono ?_; rintro e w9 ⟨rfl, rfl⟩)
  go_ret2
  exact ⟨⟨gX, rfl, HGX.out, HX6.out⟩, HB6.out⟩
end
end Go.Proofs.YtjhfcpadnofdnaaGreat
