/- Items of a row: their cells. -/
import Derived.Test.YtbopeofglhkffaaWq
import Derived.Test.YtbopeofglhkffaaRgh
import Derived.Test.YtbopeofglhkffaaMr
import Derived.Test.YtbopeofglhkffaaWs
set_option linter.unusedSimpArgs false
set_option linter.unusedVariables false
namespace Go.Proofs.Ytbopeofglhkffaa
open Go.RowKit
attribute [local go_sem] block_of_add run_store_hi run_store_lo
def itTail (x : It) : List Value := [.int .i64 x.c, .int .i64 x.left, .int .i64 x.right, hiOf x.sides, loOf x.sides, .int .i64 x.base, .int .i64 x.guess, hiOf x.factor, loOf x.factor, hiOf x.aim, loOf x.aim, hiOf x.width, loOf x.width, .bool x.held]
def itCells (x : It) : List Value := styCells x.s ++ itTail x
def it0 (s : Sty) (c : Int) : It := ⟨s, c, 0, 0, 0, 0, 0, 0, 0, 0, false⟩
section
variable (x : It)
theorem it_c : (itCells x).toArray[43]? = some (.int .i64 x.c) := rfl
theorem it_left : (itCells x).toArray[44]? = some (.int .i64 x.left) := rfl
theorem it_right : (itCells x).toArray[45]? = some (.int .i64 x.right) := rfl
theorem it_sidesh : (itCells x).toArray[46]? = some (hiOf x.sides) := rfl
theorem it_sidesl : (itCells x).toArray[47]? = some (loOf x.sides) := rfl
theorem it_base : (itCells x).toArray[48]? = some (.int .i64 x.base) := rfl
theorem it_guess : (itCells x).toArray[49]? = some (.int .i64 x.guess) := rfl
theorem it_factorh : (itCells x).toArray[50]? = some (hiOf x.factor) := rfl
theorem it_factorl : (itCells x).toArray[51]? = some (loOf x.factor) := rfl
theorem it_aimh : (itCells x).toArray[52]? = some (hiOf x.aim) := rfl
theorem it_aiml : (itCells x).toArray[53]? = some (loOf x.aim) := rfl
theorem it_widthh : (itCells x).toArray[54]? = some (hiOf x.width) := rfl
theorem it_widthl : (itCells x).toArray[55]? = some (loOf x.width) := rfl
theorem it_held : (itCells x).toArray[56]? = some (.bool x.held) := rfl
theorem it_grow : (itCells x).toArray[38]? = some (.int .i64 x.s.grow) := rfl
theorem it_shrink : (itCells x).toArray[39]? = some (.int .i64 x.s.shrink) := rfl
end
/-- A cell of an item is written. -/
theorem Blk.it_set {W : World} {g : Nat} {x y : It} (h : Blk W g 89 (itCells x).toArray) (i : Nat) (u : Value) (e : (itCells x).toArray.setIfInBounds i u = (itCells y).toArray) : Blk (W.setCell ⟨g, i, none⟩ u) g 89 (itCells y).toArray := e ▸ h.set_ i u
theorem Blk.it_set2 {W : World} {g : Nat} {x y : It} (h : Blk W g 89 (itCells x).toArray) (i : Nat) (u v : Value) (e : ((itCells x).toArray.setIfInBounds i u).setIfInBounds (i + 1) v = (itCells y).toArray) : Blk ((W.setCell ⟨g, i, none⟩ u).setCell ⟨g, i + 1, none⟩ v) g 89 (itCells y).toArray := e ▸ (h.set_ i u).set_ (i + 1) v
theorem sty_rngB {W : World} {g : Nat} {s : Sty} (hb : Blk W g 52 (styCells s).toArray) : W.rangeAt g 0 (styCells s) := fun j v hv => by rw [Nat.zero_add]; exact hb.get j (by simpa using hv)
/-- The variables of measure. -/
structure MeI (g : Nat) (s : Sty) (x : Cn) (y : It) (w wr : World) : Prop where
  st : Blk wr g 52 (styCells s).toArray
  cn : Blk wr (g + 1) 45 (cnCells x).toArray
  it : Blk wr (g + 1 + 1) 89 (itCells y).toArray
  b : Below g w wr
section
variable {g : Nat} {s : Sty} {x : Cn} {y z : It} {w wr w' : World}
theorem MeI.bel (h : MeI g s x y w wr) (hb : Below wr.heap.size wr w') : MeI g s x y w w' :=
  ⟨h.st.below hb h.st.lt, h.cn.below hb h.cn.lt, h.it.below hb h.it.lt, h.b.trans (hb.mono (by have := h.st.lt; omega))⟩
theorem MeI.set_ (h : MeI g s x y w wr) (i : Nat) (u : Value) (e : (itCells y).toArray.setIfInBounds i u = (itCells z).toArray) : MeI g s x z w (wr.setCell ⟨g + 1 + 1, i, none⟩ u) :=
  ⟨h.st.far (by show g ≠ g + 1 + 1; omega) _, h.cn.far (by show g + 1 ≠ g + 1 + 1; omega) _, h.it.it_set i u e, h.b.setCell (p := ⟨g + 1 + 1, i, none⟩) (by show g ≤ g + 1 + 1; omega) _⟩
theorem MeI.set2 (h : MeI g s x y w wr) (i : Nat) (u v : Value) (e : ((itCells y).toArray.setIfInBounds i u).setIfInBounds (i + 1) v = (itCells z).toArray) : MeI g s x z w ((wr.setCell ⟨g + 1 + 1, i, none⟩ u).setCell ⟨g + 1 + 1, i + 1, none⟩ v) :=
  ⟨(h.st.far (by show g ≠ g + 1 + 1; omega) _).far (by show g ≠ g + 1 + 1; omega) _, (h.cn.far (by show g + 1 ≠ g + 1 + 1; omega) _).far (by show g + 1 ≠ g + 1 + 1; omega) _, h.it.it_set2 i u v e, (h.b.setCell (p := ⟨g + 1 + 1, i, none⟩) (by show g ≤ g + 1 + 1; omega) _).setCell (p := ⟨g + 1 + 1, i + 1, none⟩) (by show g ≤ g + 1 + 1; omega) _⟩
theorem MeI.drew (h : MeI g s x y w wr) : MeI g s x y w wr.drew := ⟨h.st.drew, h.cn.drew, h.it.drew, h.b.drew⟩
end
set_option maxRecDepth 100000 in
set_option maxHeartbeats 2000000 in
theorem measure_any (s : Sty) (c : Int) (x : Cn) (w : World) (hm1 : LnM s.m1) (hm3 : LnM s.m3) (hw : LnM s.w) (hb : LnM s.basis) (h1 : LnM s.maxw) (h2 : LnM s.minw) (hc : CB c) (hs : StyB s) (hx : 0 ≤ x.greatest ∧ x.greatest ≤ 1099511627776) :
    Calls Try.prog 55 #[.agg (styCells s).toArray, .int .i64 c, .agg (cnCells x).toArray] w fun e w' => e = .returned (.pointer (some ⟨w.heap.size + 1 + 1, 0, none⟩)) ∧ Blk w' (w.heap.size + 1 + 1) 89 (itCells (measF s c x.greatest)).toArray ∧ Below w.heap.size w w' := by
  have R3 := Lib.hid (fun W => resolve_b W s.m3 c hm3 hc)
  have R1 := Lib.hid (fun W => resolve_b W s.m1 c hm1 hc)
  have RW := Lib.hid (fun W => resolve_b W s.w c hw hc)
  have RB := Lib.hid (fun W => resolve_b W s.basis c hb hc)
  have RC := Lib.hid (fun W v => clamp_b W s c v h1 h2 hc)
  have RF := Lib.hid (fun W => frame_any s W hs)
  have b3 := res_bd hm3 hc
  have b1 := res_bd hm1 hc
  have bf : 0 ≤ frameF s ∧ frameF s ≤ 4398046511104 := by
    have := hs.b1; have := hs.b3; have := hs.p1; have := hs.p3
    unfold frameF; omega
  obtain ⟨L, hL⟩ : ∃ L, L = (resF s.m3 c).1 := ⟨_, rfl⟩
  obtain ⟨R, hR⟩ : ∃ R, R = (resF s.m1 c).1 := ⟨_, rfl⟩
  obtain ⟨NB, hNB⟩ : ∃ N, N = (resF s.basis c).1 := ⟨_, rfl⟩
  obtain ⟨BB, hBB⟩ : ∃ N, N = (resF s.basis c).2 := ⟨_, rfl⟩
  obtain ⟨NW, hNW⟩ : ∃ N, N = (resF s.w c).1 := ⟨_, rfl⟩
  obtain ⟨BW, hBW⟩ : ∃ N, N = (resF s.w c).2 := ⟨_, rfl⟩
  obtain ⟨F, hF⟩ : ∃ F, F = frameF s := ⟨_, rfl⟩
  have HZ : Hid (measF s c x.greatest = ⟨s, c, L, R, L + R + F, if BB then NB else if BW then NW else x.greatest, clampF s c (if BB then NB else if BW then NW else x.greatest), 0, 0, 0, false⟩) := Lib.hid (by
    rw [hL, hR, hNB, hBB, hNW, hBW, hF]; rfl)
  rw [← hL] at R3 b3
  rw [← hR] at R1 b1
  rw [← hNB, ← hBB] at RB
  rw [← hNW, ← hBW] at RW
  rw [← hF] at RF bf
  clear hm1 hm3 hw hb h1 h2 hc hs hL hR hNB hBB hNW hBW hF
  have w1 : W128 (L + R) := ⟨by omega, by omega⟩
  have w2 : W128 (L + R + F) := ⟨by omega, by omega⟩
  go_enter Try.func55, Try.ntmps55
  go_upto_region 1 with (fail)
  have HRG := Lib.hid (show ((w.alloc (.cells (styCells s).toArray 52)).alloc (.cells (cnCells x).toArray 45)).rangeAt w.heap.size 0 (styCells s) from sty_rngB ((Blk.new _ _ _).alloc _))
  go_upto_region 2 with (first
    | refine wpList_load_mid rfl 52 (.tmp 3) rfl w.heap.size 0 rfl (styCells s) _ HRG.out Try.underlying52 rfl (by kernel_rfl) ?_
    | refine wpList_build rfl 89 #[(0, .tmp 14), (1, .tmp 15)] rfl (.agg (itCells (it0 s c)).toArray) (by kernel_rfl) ?_)
  have HE0 : Hid (MeI w.heap.size s x (it0 s c) w (((w.alloc (.cells (styCells s).toArray 52)).alloc (.cells (cnCells x).toArray 45)).alloc (.cells (itCells (it0 s c)).toArray 89))) := Lib.hid ⟨((Blk.new _ _ _).alloc _).alloc _, (Blk.at_ _ _ _ (by simp)).alloc _, Blk.at_ _ _ _ (by simp), (((Below.refl _ _).alloc (Nat.le_refl _) _).alloc (by simp) _).alloc (by simp; omega) _⟩
  obtain ⟨u0, hw1⟩ : ∃ w1, w1 = (((w.alloc (.cells (styCells s).toArray 52)).alloc (.cells (cnCells x).toArray 45)).alloc (.cells (itCells (it0 s c)).toArray 89)) := ⟨_, rfl⟩
  rw [← hw1] at HE0 ⊢
  obtain ⟨g, hg⟩ : ∃ g, g = w.heap.size := ⟨_, rfl⟩
  rw [← hg] at HE0 ⊢
  have HG := Lib.hid hg
  clear hw1 hg HRG
  have a1 := HE0.out.st.get 22 (sty_a22 s)
  have a2 := HE0.out.st.get 23 (sty_a23 s)
  go_upto_region 3 with (go_at_call 29; refine (R3.out _).mono ?_; rintro e w' ⟨rfl, hb2⟩; have HX := Lib.hid (HE0.out.bel hb2); clear hb2 a1 a2; have a1 := HX.out.it.get 44 (it_left _); have a2 := HX.out.it.frozen 44)
  have HE1 := Lib.hid (HX.out.set_ (z := { it0 s c with left := L }) 44 (.int .i64 L) rfl)
  obtain ⟨u1, hw'⟩ : ∃ W, W = w'.setCell ⟨g + 1 + 1, 44, none⟩ (.int .i64 L) := ⟨_, rfl⟩
  rw [← hw'] at HE1 ⊢
  clear hw' HX a1 a2
  have a1 := HE1.out.st.get 18 (sty_a18 s)
  have a2 := HE1.out.st.get 19 (sty_a19 s)
  go_upto_region 4 with (go_at_call 29; refine (R1.out _).mono ?_; rintro e w' ⟨rfl, hb2⟩; have HX := Lib.hid (HE1.out.bel hb2); clear hb2 a1 a2; have a1 := HX.out.it.get 45 (it_right _); have a2 := HX.out.it.frozen 45)
  have HE2 := Lib.hid (HX.out.set_ (z := { it0 s c with left := L, right := R }) 45 (.int .i64 R) rfl)
  obtain ⟨u2, hw'⟩ : ∃ W, W = w'.setCell ⟨g + 1 + 1, 45, none⟩ (.int .i64 R) := ⟨_, rfl⟩
  rw [← hw'] at HE2 ⊢
  clear hw' HX a1 a2
  have HRG := Lib.hid (sty_rngB HE2.out.st)
  go_upto_region 5 with (first
    | refine wpList_load_mid rfl 52 (.tmp 3) rfl g 0 rfl (styCells s) _ HRG.out Try.underlying52 rfl (by kernel_rfl) ?_
    | (go_at_call 30; refine (RF.out _).mono ?_; rintro e w' ⟨⟨dn, rfl⟩, hb2⟩; have HE3 := Lib.hid (HE2.out.bel (hb2 ▸ bal (Below.refl _ _) _)); clear hb2))
  have E0 := HE3.out.drew
  refine wp_region_S (fun b _ _ => MeI g s x (if b then { it0 s c with left := L, right := R, sides := L + R + F } else { it0 s c with left := L, right := R }) w) 17 1000 100000 false true (by kernel_rfl) (by kernel_rfl) (by kernel_rfl) (E0) ?_
  refine wpAnyS_pre (j := 0) (by kernel_rfl) ?_
  iterate 5
    refine wpAnyS_nx (v := ?_) rfl (by kernel_rfl) (by kernel_rfl) (by kernel_rfl) (fun _ _ _ h => h) (by rfl) (gives_pureF (by rfl) (by kernel_rfl) ?_) ?_
    rotate_left
    · intro d' u' W' hS'
      have q1 : W'.cell? ⟨g + 1 + 1, 44, none⟩ = some (.int .i64 L) := hS'.it.get 44 rfl
      have q2 : W'.cell? ⟨g + 1 + 1, 45, none⟩ = some (.int .i64 R) := hS'.it.get 45 rfl
      go_simp
      rfl
    try simp only [Act.put, List.setIfInBounds_toArray, List.set_cons_zero, List.set_cons_succ, List.getElem_toArray, List.getElem_cons_zero, List.getElem_cons_succ]
  refine wpAnyS_take (i := 5) (v := _) rfl (by kernel_rfl) (by kernel_rfl) (by kernel_rfl) (fun _ _ _ h => h) (by rfl) (gives_callF (by rfl) (by kernel_rfl) _ _ ?_ (fun d' u' W' hS' => (of_b W' L (by omega) (by omega)).mono fun e W2 ⟨he, hb⟩ => ⟨he, hS'.bel hb⟩)) ?_
  · intro W'
    first | rfl | kernel_rfl
  try simp only [Act.put, List.setIfInBounds_toArray, List.set_cons_zero, List.set_cons_succ, List.getElem_toArray, List.getElem_cons_zero, List.getElem_cons_succ]
  refine wpAnyS_pre (j := 6) (by kernel_rfl) ?_
  iterate 4
    refine wpAnyS_nx (v := ?_) rfl (by kernel_rfl) (by kernel_rfl) (by kernel_rfl) (fun _ _ _ h => h) (by rfl) (gives_pureF (by rfl) (by kernel_rfl) ?_) ?_
    rotate_left
    · intro d' u' W' hS'
      have q1 : W'.cell? ⟨g + 1 + 1, 44, none⟩ = some (.int .i64 L) := hS'.it.get 44 rfl
      have q2 : W'.cell? ⟨g + 1 + 1, 45, none⟩ = some (.int .i64 R) := hS'.it.get 45 rfl
      go_simp
      rfl
    try simp only [Act.put, List.setIfInBounds_toArray, List.set_cons_zero, List.set_cons_succ, List.getElem_toArray, List.getElem_cons_zero, List.getElem_cons_succ]
  refine wpAnyS_take (i := 10) (v := _) rfl (by kernel_rfl) (by kernel_rfl) (by kernel_rfl) (fun _ _ _ h => h) (by rfl) (gives_callF (by rfl) (by kernel_rfl) _ _ ?_ (fun d' u' W' hS' => (of_b W' R (by omega) (by omega)).mono fun e W2 ⟨he, hb⟩ => ⟨he, hS'.bel hb⟩)) ?_
  · intro W'
    first | rfl | kernel_rfl
  try simp only [Act.put, List.setIfInBounds_toArray, List.set_cons_zero, List.set_cons_succ, List.getElem_toArray, List.getElem_cons_zero, List.getElem_cons_succ]
  refine wpAnyS_take (i := 11) (v := _) rfl (by kernel_rfl) (by kernel_rfl) (by kernel_rfl) (fun _ _ _ h => h) (by rfl) (gives_callF (by rfl) (by kernel_rfl) _ _ ?_ (fun d' u' W' hS' => (plus_b W' L R w1).mono fun e W2 ⟨he, hb⟩ => ⟨he, hS'.bel hb⟩)) ?_
  · intro W'
    first | rfl | kernel_rfl
  try simp only [Act.put, List.setIfInBounds_toArray, List.set_cons_zero, List.set_cons_succ, List.getElem_toArray, List.getElem_cons_zero, List.getElem_cons_succ]
  refine wpAnyS_take (i := 12) (v := ?_) rfl (by kernel_rfl) (by kernel_rfl) (by kernel_rfl) (fun _ _ _ h => h) (by rfl) (gives_pureF (by rfl) (by kernel_rfl) ?_) ?_
  rotate_left
  · intro d' u' W' hS'
    have q1 : W'.cell? ⟨g + 1 + 1, 44, none⟩ = some (.int .i64 L) := hS'.it.get 44 rfl
    have q2 : W'.cell? ⟨g + 1 + 1, 45, none⟩ = some (.int .i64 R) := hS'.it.get 45 rfl
    go_simp
    rfl
  try simp only [Act.put, List.setIfInBounds_toArray, List.set_cons_zero, List.set_cons_succ, List.getElem_toArray, List.getElem_cons_zero, List.getElem_cons_succ]
  refine wpAnyS_take (i := 13) (v := _) rfl (by kernel_rfl) (by kernel_rfl) (by kernel_rfl) (fun _ _ _ h => h) (by rfl) (gives_callF (by rfl) (by kernel_rfl) _ _ ?_ (fun d' u' W' hS' => (of_b W' F (by omega) (by omega)).mono fun e W2 ⟨he, hb⟩ => ⟨he, hS'.bel hb⟩)) ?_
  · intro W'
    first | rfl | kernel_rfl
  try simp only [Act.put, List.setIfInBounds_toArray, List.set_cons_zero, List.set_cons_succ, List.getElem_toArray, List.getElem_cons_zero, List.getElem_cons_succ]
  refine wpAnyS_take (i := 14) (v := _) rfl (by kernel_rfl) (by kernel_rfl) (by kernel_rfl) (fun _ _ _ h => h) (by rfl) (gives_callF (by rfl) (by kernel_rfl) _ _ ?_ (fun d' u' W' hS' => (plus_b W' (L + R) F w2).mono fun e W2 ⟨he, hb⟩ => ⟨he, hS'.bel hb⟩)) ?_
  · intro W'
    first | rfl | kernel_rfl
  try simp only [Act.put, List.setIfInBounds_toArray, List.set_cons_zero, List.set_cons_succ, List.getElem_toArray, List.getElem_cons_zero, List.getElem_cons_succ]
  refine wpAnyS_pre (j := 15) (by kernel_rfl) ?_
  iterate 2
    refine wpAnyS_nx (v := ?_) rfl (by kernel_rfl) (by kernel_rfl) (by kernel_rfl) (fun _ _ _ h => h) (by rfl) (gives_pureF (by rfl) (by kernel_rfl) ?_) ?_
    rotate_left
    · intro d' u' W' hS'
      have q1 : W'.cell? ⟨g + 1 + 1, 44, none⟩ = some (.int .i64 L) := hS'.it.get 44 rfl
      have q2 : W'.cell? ⟨g + 1 + 1, 45, none⟩ = some (.int .i64 R) := hS'.it.get 45 rfl
      go_simp
      rfl
    try simp only [Act.put, List.setIfInBounds_toArray, List.set_cons_zero, List.set_cons_succ, List.getElem_toArray, List.getElem_cons_zero, List.getElem_cons_succ]
  refine wpAnyS_store (i := 17) (d := true) (fun W' => (W'.setCell ⟨g + 1 + 1, 46, none⟩ (hiOf (L + R + F))).setCell ⟨g + 1 + 1, 47, none⟩ (loOf (L + R + F))) rfl (by kernel_rfl) (by rfl) (by rfl) (by kernel_rfl) rfl ?_ (fun W' hS' => hS'.set2 46 (hiOf (L + R + F)) (loOf (L + R + F)) rfl) ?_
  · intro W' hS'
    have q1 : W'.cell? ⟨g + 1 + 1, 46, none⟩ = some (hiOf 0) := hS'.it.get 46 rfl
    have q2 : W'.cell? ⟨g + 1 + 1, 47, none⟩ = some (loOf 0) := hS'.it.get 47 rfl
    have q3 := hS'.it.frozen 46
    have q4 := hS'.it.frozen 47
    go_simp
    try rfl
  try simp only [Act.put, List.setIfInBounds_toArray, List.set_cons_zero, List.set_cons_succ, List.getElem_toArray, List.getElem_cons_zero, List.getElem_cons_succ]
  refine wpAnyS_done (b := true) (d := true) (by kernel_rfl) (by kernel_rfl) (by kernel_rfl) rfl (fun wS hS => ?_) _
  have HE4 := Lib.hid (show MeI g s x ({ it0 s c with left := L, right := R, sides := L + R + F }) w wS from hS)
  clear hS E0
  have a1 := HE4.out.cn.get 1 (v := .int .i64 x.greatest) rfl
  have a2 := HE4.out.it.get 48 (it_base _)
  have a3 := HE4.out.it.frozen 48
  go_upto_region 7 with (fail)
  have HE5 := Lib.hid (HE4.out.set_ (z := { it0 s c with left := L, right := R, sides := L + R + F, base := x.greatest }) 48 (.int .i64 x.greatest) rfl)
  obtain ⟨u5, hw'⟩ : ∃ W, W = wS.setCell ⟨g + 1 + 1, 48, none⟩ (.int .i64 x.greatest) := ⟨_, rfl⟩
  rw [← hw'] at HE5 ⊢
  clear hw' a1 a2 a3
  have a1 := HE5.out.st.get 40 (sty_a40 s)
  have a2 := HE5.out.st.get 41 (sty_a41 s)
  cases BB
  · go_upto_region 10 with (go_at_call 29; refine (RB.out _).mono ?_; rintro e w6 ⟨rfl, hb2⟩; have HE6 := Lib.hid (HE5.out.bel hb2); clear hb2 a1 a2)
    have a1 := HE6.out.st.get 4 (sty_a4 s)
    have a2 := HE6.out.st.get 5 (sty_a5 s)
    cases BW
    · go_upto_region 13 with (go_at_call 29; refine (RW.out _).mono ?_; rintro e w7 ⟨rfl, hb2⟩; have HE7 := Lib.hid (HE6.out.bel hb2); clear hb2 a1 a2)
      have E0 := HE7.out.drew
      refine wp_region_S (fun b _ _ => MeI g s x (if b then { it0 s c with left := L, right := R, sides := L + R + F, base := x.greatest, guess := clampF s c (x.greatest) } else { it0 s c with left := L, right := R, sides := L + R + F, base := x.greatest }) w) 10 1000 100000 false true (by kernel_rfl) (by kernel_rfl) (by kernel_rfl) (E0) ?_
      refine wpAnyS_take (i := 0) (v := ?_) rfl (by kernel_rfl) (by kernel_rfl) (by kernel_rfl) (fun _ _ _ h => h) (by rfl) (gives_pureF (by rfl) (by kernel_rfl) ?_) ?_
      rotate_left
      · intro d' u' W' hS'
        have q1 : W'.cell? ⟨g + 1 + 1, 48, none⟩ = some (.int .i64 (x.greatest)) := hS'.it.get 48 rfl
        go_simp
        rfl
      try simp only [Act.put, List.setIfInBounds_toArray, List.set_cons_zero, List.set_cons_succ, List.getElem_toArray, List.getElem_cons_zero, List.getElem_cons_succ]
      refine wpAnyS_take (i := 1) (v := .agg ((styCells s)).toArray) rfl (by kernel_rfl) (by kernel_rfl) (by kernel_rfl) (fun _ _ _ h => h) (by rfl) (gives_yields ?_) ?_
      · refine yieldsIf_load_mid (by rfl) 52 (.tmp 3) rfl (g) 0 rfl ((styCells s)) _ ?_ Try.underlying52 rfl (by kernel_rfl)
        rintro W' ⟨b', d', u', hS'⟩
        exact sty_rngB hS'.st
      try simp only [Act.put, List.setIfInBounds_toArray, List.set_cons_zero, List.set_cons_succ, List.getElem_toArray, List.getElem_cons_zero, List.getElem_cons_succ]
      refine wpAnyS_pre (j := 2) (by kernel_rfl) ?_
      iterate 5
        refine wpAnyS_nx (v := ?_) rfl (by kernel_rfl) (by kernel_rfl) (by kernel_rfl) (fun _ _ _ h => h) (by rfl) (gives_pureF (by rfl) (by kernel_rfl) ?_) ?_
        rotate_left
        · intro d' u' W' hS'
          have q1 : W'.cell? ⟨g + 1 + 1, 48, none⟩ = some (.int .i64 (x.greatest)) := hS'.it.get 48 rfl
          go_simp
          rfl
        try simp only [Act.put, List.setIfInBounds_toArray, List.set_cons_zero, List.set_cons_succ, List.getElem_toArray, List.getElem_cons_zero, List.getElem_cons_succ]
      refine wpAnyS_take (i := 7) (v := _) rfl (by kernel_rfl) (by kernel_rfl) (by kernel_rfl) (fun _ _ _ h => h) (by rfl) (gives_callF (by rfl) (by kernel_rfl) _ _ ?_ (fun d' u' W' hS' => (RC.out W' (x.greatest)).mono fun e W2 ⟨he, hb⟩ => ⟨he, hS'.bel hb⟩)) ?_
      · intro W'
        first | rfl | kernel_rfl
      try simp only [Act.put, List.setIfInBounds_toArray, List.set_cons_zero, List.set_cons_succ, List.getElem_toArray, List.getElem_cons_zero, List.getElem_cons_succ]
      refine wpAnyS_pre (j := 8) (by kernel_rfl) ?_
      iterate 2
        refine wpAnyS_nx (v := ?_) rfl (by kernel_rfl) (by kernel_rfl) (by kernel_rfl) (fun _ _ _ h => h) (by rfl) (gives_pureF (by rfl) (by kernel_rfl) ?_) ?_
        rotate_left
        · intro d' u' W' hS'
          have q1 : W'.cell? ⟨g + 1 + 1, 48, none⟩ = some (.int .i64 (x.greatest)) := hS'.it.get 48 rfl
          go_simp
          rfl
        try simp only [Act.put, List.setIfInBounds_toArray, List.set_cons_zero, List.set_cons_succ, List.getElem_toArray, List.getElem_cons_zero, List.getElem_cons_succ]
      refine wpAnyS_store (i := 10) (d := true) (fun W' => W'.setCell ⟨g + 1 + 1, 49, none⟩ (.int .i64 (clampF s c (x.greatest)))) rfl (by kernel_rfl) (by rfl) (by rfl) (by kernel_rfl) rfl ?_ (fun W' hS' => hS'.set_ 49 (.int .i64 (clampF s c (x.greatest))) rfl) ?_
      · intro W' hS'
        have q1 : W'.cell? ⟨g + 1 + 1, 49, none⟩ = some (.int .i64 0) := hS'.it.get 49 rfl
        have q3 := hS'.it.frozen 49
        go_simp
        try rfl
      try simp only [Act.put, List.setIfInBounds_toArray, List.set_cons_zero, List.set_cons_succ, List.getElem_toArray, List.getElem_cons_zero, List.getElem_cons_succ]
      refine wpAnyS_done (b := true) (d := true) (by kernel_rfl) (by kernel_rfl) (by kernel_rfl) rfl (fun wT hT => ?_) _
      have HT := Lib.hid hT
      clear hT E0
      go_wp2_with fail
      go_ret
      rw [← HG.out, HZ.out]
      exact ⟨rfl, HT.out.it, HT.out.b⟩
    · go_upto_region 13 with (go_at_call 29; refine (RW.out _).mono ?_; rintro e w7 ⟨rfl, hb2⟩; have HE7 := Lib.hid (HE6.out.bel hb2); clear hb2 a1 a2; have a1 := HE7.out.it.get 48 (it_base _); have a2 := HE7.out.it.frozen 48)
      have HE8 := Lib.hid (HE7.out.set_ (z := { it0 s c with left := L, right := R, sides := L + R + F, base := NW }) 48 (.int .i64 NW) rfl)
      obtain ⟨u8, hw'⟩ : ∃ W, W = w7.setCell ⟨g + 1 + 1, 48, none⟩ (.int .i64 NW) := ⟨_, rfl⟩
      rw [← hw'] at HE8 ⊢
      clear hw' a1 a2
      have E0 := HE8.out.drew
      refine wp_region_S (fun b _ _ => MeI g s x (if b then { it0 s c with left := L, right := R, sides := L + R + F, base := NW, guess := clampF s c (NW) } else { it0 s c with left := L, right := R, sides := L + R + F, base := NW }) w) 10 1000 100000 false true (by kernel_rfl) (by kernel_rfl) (by kernel_rfl) (E0) ?_
      refine wpAnyS_take (i := 0) (v := ?_) rfl (by kernel_rfl) (by kernel_rfl) (by kernel_rfl) (fun _ _ _ h => h) (by rfl) (gives_pureF (by rfl) (by kernel_rfl) ?_) ?_
      rotate_left
      · intro d' u' W' hS'
        have q1 : W'.cell? ⟨g + 1 + 1, 48, none⟩ = some (.int .i64 (NW)) := hS'.it.get 48 rfl
        go_simp
        rfl
      try simp only [Act.put, List.setIfInBounds_toArray, List.set_cons_zero, List.set_cons_succ, List.getElem_toArray, List.getElem_cons_zero, List.getElem_cons_succ]
      refine wpAnyS_take (i := 1) (v := .agg ((styCells s)).toArray) rfl (by kernel_rfl) (by kernel_rfl) (by kernel_rfl) (fun _ _ _ h => h) (by rfl) (gives_yields ?_) ?_
      · refine yieldsIf_load_mid (by rfl) 52 (.tmp 3) rfl (g) 0 rfl ((styCells s)) _ ?_ Try.underlying52 rfl (by kernel_rfl)
        rintro W' ⟨b', d', u', hS'⟩
        exact sty_rngB hS'.st
      try simp only [Act.put, List.setIfInBounds_toArray, List.set_cons_zero, List.set_cons_succ, List.getElem_toArray, List.getElem_cons_zero, List.getElem_cons_succ]
      refine wpAnyS_pre (j := 2) (by kernel_rfl) ?_
      iterate 5
        refine wpAnyS_nx (v := ?_) rfl (by kernel_rfl) (by kernel_rfl) (by kernel_rfl) (fun _ _ _ h => h) (by rfl) (gives_pureF (by rfl) (by kernel_rfl) ?_) ?_
        rotate_left
        · intro d' u' W' hS'
          have q1 : W'.cell? ⟨g + 1 + 1, 48, none⟩ = some (.int .i64 (NW)) := hS'.it.get 48 rfl
          go_simp
          rfl
        try simp only [Act.put, List.setIfInBounds_toArray, List.set_cons_zero, List.set_cons_succ, List.getElem_toArray, List.getElem_cons_zero, List.getElem_cons_succ]
      refine wpAnyS_take (i := 7) (v := _) rfl (by kernel_rfl) (by kernel_rfl) (by kernel_rfl) (fun _ _ _ h => h) (by rfl) (gives_callF (by rfl) (by kernel_rfl) _ _ ?_ (fun d' u' W' hS' => (RC.out W' (NW)).mono fun e W2 ⟨he, hb⟩ => ⟨he, hS'.bel hb⟩)) ?_
      · intro W'
        first | rfl | kernel_rfl
      try simp only [Act.put, List.setIfInBounds_toArray, List.set_cons_zero, List.set_cons_succ, List.getElem_toArray, List.getElem_cons_zero, List.getElem_cons_succ]
      refine wpAnyS_pre (j := 8) (by kernel_rfl) ?_
      iterate 2
        refine wpAnyS_nx (v := ?_) rfl (by kernel_rfl) (by kernel_rfl) (by kernel_rfl) (fun _ _ _ h => h) (by rfl) (gives_pureF (by rfl) (by kernel_rfl) ?_) ?_
        rotate_left
        · intro d' u' W' hS'
          have q1 : W'.cell? ⟨g + 1 + 1, 48, none⟩ = some (.int .i64 (NW)) := hS'.it.get 48 rfl
          go_simp
          rfl
        try simp only [Act.put, List.setIfInBounds_toArray, List.set_cons_zero, List.set_cons_succ, List.getElem_toArray, List.getElem_cons_zero, List.getElem_cons_succ]
      refine wpAnyS_store (i := 10) (d := true) (fun W' => W'.setCell ⟨g + 1 + 1, 49, none⟩ (.int .i64 (clampF s c (NW)))) rfl (by kernel_rfl) (by rfl) (by rfl) (by kernel_rfl) rfl ?_ (fun W' hS' => hS'.set_ 49 (.int .i64 (clampF s c (NW))) rfl) ?_
      · intro W' hS'
        have q1 : W'.cell? ⟨g + 1 + 1, 49, none⟩ = some (.int .i64 0) := hS'.it.get 49 rfl
        have q3 := hS'.it.frozen 49
        go_simp
        try rfl
      try simp only [Act.put, List.setIfInBounds_toArray, List.set_cons_zero, List.set_cons_succ, List.getElem_toArray, List.getElem_cons_zero, List.getElem_cons_succ]
      refine wpAnyS_done (b := true) (d := true) (by kernel_rfl) (by kernel_rfl) (by kernel_rfl) rfl (fun wT hT => ?_) _
      have HT := Lib.hid hT
      clear hT E0
      go_wp2_with fail
      go_ret
      rw [← HG.out, HZ.out]
      exact ⟨rfl, HT.out.it, HT.out.b⟩
  · go_upto_region 13 with (go_at_call 29; refine (RB.out _).mono ?_; rintro e w6 ⟨rfl, hb2⟩; have HE6 := Lib.hid (HE5.out.bel hb2); clear hb2 a1 a2; have a1 := HE6.out.it.get 48 (it_base _); have a2 := HE6.out.it.frozen 48)
    have HE8 := Lib.hid (HE6.out.set_ (z := { it0 s c with left := L, right := R, sides := L + R + F, base := NB }) 48 (.int .i64 NB) rfl)
    obtain ⟨u8, hw'⟩ : ∃ W, W = w6.setCell ⟨g + 1 + 1, 48, none⟩ (.int .i64 NB) := ⟨_, rfl⟩
    rw [← hw'] at HE8 ⊢
    clear hw' a1 a2
    have E0 := HE8.out.drew
    refine wp_region_S (fun b _ _ => MeI g s x (if b then { it0 s c with left := L, right := R, sides := L + R + F, base := NB, guess := clampF s c (NB) } else { it0 s c with left := L, right := R, sides := L + R + F, base := NB }) w) 10 1000 100000 false true (by kernel_rfl) (by kernel_rfl) (by kernel_rfl) (E0) ?_
    refine wpAnyS_take (i := 0) (v := ?_) rfl (by kernel_rfl) (by kernel_rfl) (by kernel_rfl) (fun _ _ _ h => h) (by rfl) (gives_pureF (by rfl) (by kernel_rfl) ?_) ?_
    rotate_left
    · intro d' u' W' hS'
      have q1 : W'.cell? ⟨g + 1 + 1, 48, none⟩ = some (.int .i64 (NB)) := hS'.it.get 48 rfl
      go_simp
      rfl
    try simp only [Act.put, List.setIfInBounds_toArray, List.set_cons_zero, List.set_cons_succ, List.getElem_toArray, List.getElem_cons_zero, List.getElem_cons_succ]
    refine wpAnyS_take (i := 1) (v := .agg ((styCells s)).toArray) rfl (by kernel_rfl) (by kernel_rfl) (by kernel_rfl) (fun _ _ _ h => h) (by rfl) (gives_yields ?_) ?_
    · refine yieldsIf_load_mid (by rfl) 52 (.tmp 3) rfl (g) 0 rfl ((styCells s)) _ ?_ Try.underlying52 rfl (by kernel_rfl)
      rintro W' ⟨b', d', u', hS'⟩
      exact sty_rngB hS'.st
    try simp only [Act.put, List.setIfInBounds_toArray, List.set_cons_zero, List.set_cons_succ, List.getElem_toArray, List.getElem_cons_zero, List.getElem_cons_succ]
    refine wpAnyS_pre (j := 2) (by kernel_rfl) ?_
    iterate 5
      refine wpAnyS_nx (v := ?_) rfl (by kernel_rfl) (by kernel_rfl) (by kernel_rfl) (fun _ _ _ h => h) (by rfl) (gives_pureF (by rfl) (by kernel_rfl) ?_) ?_
      rotate_left
      · intro d' u' W' hS'
        have q1 : W'.cell? ⟨g + 1 + 1, 48, none⟩ = some (.int .i64 (NB)) := hS'.it.get 48 rfl
        go_simp
        rfl
      try simp only [Act.put, List.setIfInBounds_toArray, List.set_cons_zero, List.set_cons_succ, List.getElem_toArray, List.getElem_cons_zero, List.getElem_cons_succ]
    refine wpAnyS_take (i := 7) (v := _) rfl (by kernel_rfl) (by kernel_rfl) (by kernel_rfl) (fun _ _ _ h => h) (by rfl) (gives_callF (by rfl) (by kernel_rfl) _ _ ?_ (fun d' u' W' hS' => (RC.out W' (NB)).mono fun e W2 ⟨he, hb⟩ => ⟨he, hS'.bel hb⟩)) ?_
    · intro W'
      first | rfl | kernel_rfl
    try simp only [Act.put, List.setIfInBounds_toArray, List.set_cons_zero, List.set_cons_succ, List.getElem_toArray, List.getElem_cons_zero, List.getElem_cons_succ]
    refine wpAnyS_pre (j := 8) (by kernel_rfl) ?_
    iterate 2
      refine wpAnyS_nx (v := ?_) rfl (by kernel_rfl) (by kernel_rfl) (by kernel_rfl) (fun _ _ _ h => h) (by rfl) (gives_pureF (by rfl) (by kernel_rfl) ?_) ?_
      rotate_left
      · intro d' u' W' hS'
        have q1 : W'.cell? ⟨g + 1 + 1, 48, none⟩ = some (.int .i64 (NB)) := hS'.it.get 48 rfl
        go_simp
        rfl
      try simp only [Act.put, List.setIfInBounds_toArray, List.set_cons_zero, List.set_cons_succ, List.getElem_toArray, List.getElem_cons_zero, List.getElem_cons_succ]
    refine wpAnyS_store (i := 10) (d := true) (fun W' => W'.setCell ⟨g + 1 + 1, 49, none⟩ (.int .i64 (clampF s c (NB)))) rfl (by kernel_rfl) (by rfl) (by rfl) (by kernel_rfl) rfl ?_ (fun W' hS' => hS'.set_ 49 (.int .i64 (clampF s c (NB))) rfl) ?_
    · intro W' hS'
      have q1 : W'.cell? ⟨g + 1 + 1, 49, none⟩ = some (.int .i64 0) := hS'.it.get 49 rfl
      have q3 := hS'.it.frozen 49
      go_simp
      try rfl
    try simp only [Act.put, List.setIfInBounds_toArray, List.set_cons_zero, List.set_cons_succ, List.getElem_toArray, List.getElem_cons_zero, List.getElem_cons_succ]
    refine wpAnyS_done (b := true) (d := true) (by kernel_rfl) (by kernel_rfl) (by kernel_rfl) rfl (fun wT hT => ?_) _
    have HT := Lib.hid hT
    clear hT E0
    go_wp2_with fail
    go_ret
    rw [← HG.out, HZ.out]
    exact ⟨rfl, HT.out.it, HT.out.b⟩
end Go.Proofs.Ytbopeofglhkffaa
