/- MainsPlays: for every case order, rows and widths of the items are the document's. No condition. -/
import Derived.Test.YtdnpobfnkdllmaaRmn
import Derived.Test.YtdnpobfnkdllmaaCopy
import Derived.Test.YtdnpobfnkdllmaaFil
import Derived.Test.YtdnpobfnkdllmaaRowc
/- The law MainsPlays, walked. -/
set_option linter.unusedSimpArgs false
set_option linter.unusedVariables false
namespace Go.Proofs.Ytdnpobfnkdllmaa
open Go.RowKit
attribute [local go_sem] block_of_add eqU3 guardU3 eqC4 guardC4

theorem stys_one {l : List Sty} (h : ∀ s ∈ l, ∃ Au nu cu, s.uv = .slice Au nu cu) : ∀ u ∈ stysCells l, u.oneCell' = true := fun u hu => by
  unfold stysCells at hu
  obtain ⟨x, hx, hu⟩ := List.mem_flatMap.1 hu
  obtain ⟨A, n, c, e⟩ := h x hx
  exact Array.all_eq_true'.1 (Sty.one x e) u (by simpa using hu)
theorem natCells_n (l : List Nat) : natCells l = nCells l := rfl
/-- What a call of Order leaves: a row of numbers. -/
def OrdX (n : Nat) (ks : List Nat) (v : Value) (W : World) : Prop := ∃ A c, v = .slice A n c ∧ Reads W W.heap.size 1 A n (nCells ks)
theorem OrdX.below {n : Nat} {ks : List Nat} {v : Value} {W W' : World} (h : OrdX n ks v W) (hb : Below W.heap.size W W') : OrdX n ks v W' := by
  obtain ⟨A, c, e, hr⟩ := h
  exact ⟨A, c, e, (hr.below hb).more hb.size⟩
theorem Reads.of_blk {w : World} {g n : Nat} {t : TypeId} {xs : List Value} {size : Nat} (h : Blk w g t xs.toArray) (hl : xs.length = n * size) : Reads w w.heap.size size (some ⟨g, 0, none⟩) n xs :=
  ⟨hl, fun _ => ⟨_, rfl, h.lt, fun j u hu => by
    have ha : (⟨g, 0, none⟩ : Addr).add j = ⟨g, j, none⟩ := by unfold Addr.add; split <;> simp_all
    rw [ha]; exact h.get j (by rw [List.getElem?_toArray]; exact hu)⟩⟩
theorem Reads.tri {W : World} {B n k : Nat} {A : Option Addr} {p : Nat → Int × Int × Int} (h : Reads W B 3 A n (triC p n)) (hk : k < n) :
    ∃ ad : Addr, A = some ad ∧ W.cell? (ad.add (k * 3)) = some (.int .i64 (p k).1) ∧ W.cell? ⟨ad.block, (ad.add (k * 3)).off + 1, none⟩ = some (.int .i64 (p k).2.1) ∧ W.cell? ⟨ad.block, (ad.add (k * 3)).off + 2, none⟩ = some (.int .i64 (p k).2.2) := by
  obtain ⟨ad, e, hb, hc⟩ := h.2 (by omega)
  have ha : ∀ i, i ≠ 0 → (⟨ad.block, (ad.add (k * 3)).off + i, none⟩ : Addr) = ad.add (k * 3 + i) := fun i hi => by
    rw [← add_of_add, show ∀ p : Addr, p.add i = ⟨p.block, p.off + i, none⟩ from fun p => by unfold Addr.add; rw [if_neg hi], block_of_add]
  refine ⟨ad, e, ?_, ?_, ?_⟩
  · exact hc _ _ (by have := triC_at p (r := 0) (by omega) hk; exact this)
  · rw [ha 1 (by omega)]; exact hc _ _ (by have := triC_at p (r := 1) (by omega) hk; exact this)
  · rw [ha 2 (by omega)]; exact hc _ _ (by have := triC_at p (r := 2) (by omega) hk; exact this)
set_option maxRecDepth 100000 in
set_option maxHeartbeats 8000000 in
theorem mainsPlays_any (s : Sty) (c : Int) (l : List Sty) (got : List Cn) (A Ag : Option Addr) (ck cg : Nat) (w : World) (hr : Reads w w.heap.size 43 A l.length (stysCells l)) (huv : ∀ s ∈ l, ∃ Au nu cu, s.uv = .slice Au nu cu) (hsv : ∃ Au nu cu, s.uv = .slice Au nu cu) (hg : Reads w w.heap.size 4 Ag got.length (cnsCells got)) :
    Calls Try.prog 5 #[.agg (caseCells s c A l.length ck Ag got.length cg).toArray] w fun e w' => e = .returned (.bool true) ∧ Below w.heap.size w w' := by
  have HMAY := Lib.hid (fun W (hb : Below w.heap.size w W) => may19_any s c l got A Ag ck cg W ((hr.below hb).more hb.size) huv ((hg.below hb).more hb.size))
  have HR := Lib.hid hr
  have HG := Lib.hid hg
  have HUV := Lib.hid huv
  clear hr hg huv
  have HC0 : Hid (Blk (w.alloc (.cells (caseCells s c A l.length ck Ag got.length cg).toArray 45)) w.heap.size 45 (caseCells s c A l.length ck Ag got.length cg).toArray) := Lib.hid (Blk.new _ _ _)
  have HCB : Hid (Below w.heap.size w (w.alloc (.cells (caseCells s c A l.length ck Ag got.length cg).toArray 45))) := Lib.hid (bal (Below.refl _ _) _)
  obtain ⟨n, hne⟩ : ∃ n, n = l.length := ⟨_, rfl⟩
  rw [← hne] at HR HC0 HCB HMAY ⊢
  have HN := Lib.hid hne
  clear hne
  obtain ⟨m, hme⟩ : ∃ m, m = got.length := ⟨_, rfl⟩
  rw [← hme] at HG HC0 HCB HMAY ⊢
  have HM := Lib.hid hme
  clear hme
  go_enter Try.func5, Try.ntmps5
  go_upto_region 1 with (fail)
  obtain ⟨gc, hgc⟩ : ∃ gc, gc = w.heap.size := ⟨_, rfl⟩
  obtain ⟨w1, hw1⟩ : ∃ w1, w1 = w.alloc (.cells (caseCells s c A n ck Ag m cg).toArray 45) := ⟨_, rfl⟩
  have HZ : Hid (w1.heap.size = gc + 1 ∧ gc = w.heap.size) := Lib.hid ⟨by rw [hw1, hgc]; simp, hgc⟩
  have HE : Hid (w.alloc (.cells (caseCells s c A n ck Ag m cg).toArray 45) = w1) := Lib.hid hw1.symm
  rw [← hw1] at HC0 HCB
  rw [← hgc] at HC0
  rw [← hgc]
  first | rw [HE.out] | (rw [show (w.alloc _) = w1 from HE.out])
  clear HE hw1 hgc
  have HRG1 : Hid (w1.rangeAt gc 0 (caseCells s c A n ck Ag m cg)) := Lib.hid (blk_rng HC0.out fun j v hv => by rw [Nat.zero_add]; exact hv)
  go_wp2_with (refine wpList_load_mid rfl 45 (.tmp 1) rfl gc 0 rfl (caseCells s c A n ck Ag m cg) _ HRG1.out Try.underlying45 rfl (by kernel_rfl) ?_)
  refine (HMAY.out _ HCB.out).mono ?_
  rintro e w2 ⟨⟨b, rfl, hb⟩, hb2⟩
  have HMB := Lib.hid hb
  have H2 := Lib.hid (And.intro (HC0.out.below hb2 HC0.out.lt) (HCB.out.trans (hb2.mono HCB.out.size)))
  have HZ2 := Lib.hid (show gc + 1 ≤ w2.heap.size by rw [← HZ.out.1]; exact hb2.size)
  clear hb hb2 HMAY HRG1
  cases b
  · go_wp2_with (go_at_call 12; refine (works19_any _).mono ?_; rintro e w' ⟨rfl, hb9⟩; have HB9 := Lib.hid (H2.out.2.trans (hb9.mono H2.out.2.size)); clear hb9)
    go_ret
    exact ⟨rfl, HB9.out⟩
  have HMY := Lib.hid (HMB.out rfl)
  have hn60 : n ≤ 60 := by rw [HN.out]; exact HMY.out.n
  clear hsv
  have HCS := Lib.hid H2.out.1
  have HBX := Lib.hid H2.out.2
  have HSX : Hid (∀ x ∈ l, StX x) := Lib.hid (fun k hk => by obtain ⟨j, hj, rfl⟩ := List.mem_iff_getElem.1 hk; exact (HMY.out.l j hj).x)
  have hm4 : m ≤ 400 := by rw [HM.out]; exact HMY.out.got.n
  have HK2 : Hid (Reads w2 w2.heap.size 43 A n (stysCells l)) := Lib.hid ((HR.out.below HBX.out).more HBX.out.size)
  have HG2 : Hid (Reads w2 w2.heap.size 4 Ag m (cnsCells got)) := Lib.hid ((HG.out.below HBX.out).more HBX.out.size)
  have c44 : w2.cell? ⟨gc, 44, none⟩ = some (.slice A n ck) := HCS.out.get 44 rfl
  have hgc0 : gc < w2.heap.size := HCS.out.lt
  go_upto_region 4 with (at_builtin; refine wpList_copyE rfl _ _ rfl el_sty rfl (stysCells l) rfl HK2.out (Nat.le_refl _) (stys_one HUV.out) (by omega) (by omega) ?_; intro Ak ck2 w3 hown hb3; have H3 := Lib.hid (And.intro (Reads.of_own hown) (show Below w2.heap.size w2 w3 from hb3)); clear hown hb3)
  clear c44 hgc0
  have c45 : w3.cell? ⟨gc, 45, none⟩ = some (.slice Ag m cg) := (HCS.out.below H3.out.2 HCS.out.lt).get 45 rfl
  have hgc0 : gc < w3.heap.size := (HCS.out.below H3.out.2 HCS.out.lt).lt
  have HG3 : Hid (Reads w3 w3.heap.size 4 Ag m (cnsCells got)) := Lib.hid ((HG2.out.below H3.out.2).more H3.out.2.size)
  go_upto_region 5 with (at_builtin; refine wpList_copyE rfl _ _ rfl el_cn rfl (cnsCells got) rfl HG3.out (Nat.le_refl _) (cnsCells_one got) (by omega) (by omega) ?_; intro Ab cb2 w4 hown hb4; have H4 := Lib.hid (And.intro (Reads.of_own hown) (show Below w3.heap.size w3 w4 from hb4)); clear hown hb4)
  clear c45 hgc0
  have HBw4 := Lib.hid (Below.refl w4.heap.size w4)
  have HB24 : Hid (Below w2.heap.size w2 w4) := Lib.hid (H3.out.2.trans (H4.out.2.mono H3.out.2.size))
  have HALL : Hid (∀ W, Below w4.heap.size w4 W → Reads W W.heap.size 43 A n (stysCells l) ∧ Reads W W.heap.size 43 Ak n (stysCells l) ∧ Reads W W.heap.size 4 Ag m (cnsCells got) ∧ Reads W W.heap.size 4 Ab m (cnsCells got)) := Lib.hid (fun W hb => by
    have b3 : Below w3.heap.size w3 W := H4.out.2.trans (hb.mono H4.out.2.size)
    have b2 : Below w2.heap.size w2 W := H3.out.2.trans (b3.mono H3.out.2.size)
    exact ⟨(HK2.out.below b2).more b2.size, (H3.out.1.below b3).more b3.size, (HG2.out.below b2).more b2.size, (H4.out.1.below hb).more hb.size⟩)
  have HCS4 : Hid (Blk w4 gc 45 (caseCells s c A n ck Ag m cg).toArray) := Lib.hid (HCS.out.below HB24.out HCS.out.lt)
  have HBX4 : Hid (Below w.heap.size w w4) := Lib.hid (HBX.out.trans (HB24.out.mono HBX.out.size))
  obtain ⟨ks, hks⟩ : ∃ ks, ks = orderF (ordF l) l.length := ⟨_, rfl⟩
  have HKL : Hid (ks.length = n) := Lib.hid (by rw [hks, orderF_len, HN.out])
  have HO1 : Hid (∀ W, Below w4.heap.size w4 W → Calls Try.prog 17 #[.slice Ak n ck2] W fun e w' => ∃ v, e = .returned v ∧ OrdX n ks v w' ∧ Below w4.heap.size w4 w' ∧ ∀ u, OrdX n ks u W → OrdX n ks u w') := Lib.hid (fun W hb => by
    have h := order_any l Ak ck2 W (by rw [← HN.out]; omega) (by rw [← HN.out]; exact (HALL.out W hb).2.1)
    rw [← HN.out] at h
    refine h.mono fun e w' h => ⟨_, h.1, ⟨_, _, rfl, ?_⟩, hb.trans (h.2.2.mono hb.size), fun u hu => hu.below h.2.2⟩
    have := h.2.1
    rw [natCells_n, HN.out, ← hks] at this
    exact Reads.of_blk this (by simp [nCells, HKL.out]))
  have HO2 : Hid (∀ W, Below w4.heap.size w4 W → Calls Try.prog 18 #[.slice A n ck] W fun e w' => ∃ v, e = .returned v ∧ OrdX n ks v w' ∧ Below w4.heap.size w4 w' ∧ ∀ u, OrdX n ks u W → OrdX n ks u w') := Lib.hid (fun W hb => by
    have h := rorder_any l A ck W (by rw [← HN.out]; omega) (by rw [← HN.out]; exact (HALL.out W hb).1)
    rw [← HN.out] at h
    refine h.mono fun e w' h => ?_
    obtain ⟨⟨v, rfl, hown⟩, hb2⟩ := h
    obtain ⟨Ao, co, rfl⟩ := own_form hown
    refine ⟨_, rfl, ⟨_, _, rfl, ?_⟩, hb.trans (hb2.mono hb.size), fun u hu => hu.below hb2⟩
    have := Reads.of_own hown
    rw [HN.out, ← hks, ← HN.out] at this
    exact this)
  clear hks
  have HRO : Hid (∀ W, Below w4.heap.size w4 W → Calls Try.prog 19 #[.agg (styCells s).toArray, .int .i64 c, .slice Ak n ck2, .slice Ab m cb2] W fun e w' => RowsAns s c l (itM l c got) W w' e) := Lib.hid (fun W hb => by
    have h := rows_any s c l got Ak Ab ck2 cb2 W (by rw [← HN.out]; omega) (by rw [← HN.out]; exact (HALL.out W hb).2.1) HUV.out (by rw [← HM.out]; exact (HALL.out W hb).2.2.2) HMY.out.c (fun x hx => (HSX.out x hx).m) HMY.out.g
    rw [← HN.out, ← HM.out] at h; exact h)
  have HRR : Hid (∀ W, Below w4.heap.size w4 W → Calls Try.prog 20 #[.agg (styCells s).toArray, .int .i64 c, .slice A n ck, .slice Ag m cg] W fun e w' => RowsAns s c l (itM l c got) W w' e) := Lib.hid (fun W hb => by
    have h := rrows_any s c l got A Ag ck cg W (by rw [← HN.out]; omega) (by rw [← HN.out]; exact (HALL.out W hb).1) HUV.out (by rw [← HM.out]; exact (HALL.out W hb).2.2.1) HMY.out.c (fun x hx => (HSX.out x hx).m) HMY.out.g
    rw [← HN.out, ← HM.out] at h; exact h)
  have HMA : Hid (∀ W, Below w4.heap.size w4 W → Calls Try.prog 14 #[.agg (styCells s).toArray, .int .i64 c, .slice Ak n ck2, .slice Ab m cb2] W fun e w' => MainsAns s c l got W w' e) := Lib.hid (fun W hb => by
    have h := mains_any s c l got Ak Ab ck2 cb2 W (by rw [← HN.out]; omega) (by rw [← HN.out]; exact (HALL.out W hb).2.1) HUV.out (by rw [← HM.out]; exact (HALL.out W hb).2.2.2) HMY.out.c HSX.out HMY.out.g
    rw [← HN.out, ← HM.out] at h; exact h)
  have HMR : Hid (∀ W, Below w4.heap.size w4 W → Calls Try.prog 21 #[.agg (styCells s).toArray, .int .i64 c, .slice A n ck, .slice Ag m cg] W fun e w' => RMainsAns s c l got W w' e) := Lib.hid (fun W hb => by
    have h := rmains_any s c l got A Ag ck cg W (by rw [← HN.out]; omega) (by rw [← HN.out]; exact (HALL.out W hb).1) HUV.out (by rw [← HM.out]; exact (HALL.out W hb).2.2.1) HMY.out.c HSX.out HMY.out.g
    rw [← HN.out, ← HM.out] at h; exact h)
  have HRB : Hid ((rowsF s.wrap c (ownM (itM l c got)) (orderF (ordF l) l.length)).length ≤ n ∧ ∀ r, (rowAt (rowsF s.wrap c (ownM (itM l c got)) (orderF (ordF l) l.length)) r).length ≤ n) := Lib.hid (by
    have h := fill_ans s c l got n HN.out
    exact ⟨h.cnt, h.rl⟩)
  clear H2 HMY HC0 HCB HR HG HBX H3 H4 HG3 HG2 HK2 HB24 HCS
  have HCS := HCS4
  clear HCS4
  as_aux_lemma =>
  have c44 : w4.cell? ⟨gc, 44, none⟩ = some (.slice A n ck) := HCS.out.get 44 rfl
  have HC44 : Hid (∀ W, Below w4.heap.size w4 W → W.cell? ⟨gc, 44, none⟩ = some (.slice A n ck)) := Lib.hid (fun W hb => (HCS.out.below hb HCS.out.lt).get 44 rfl)
  clear c44
  have E0 : Below w4.heap.size w4 w4.drew := (Below.refl _ _).drew
  refine wp_region_held_drew (S := fun W' => Below w4.heap.size w4 W') (by kernel_rfl) E0 (fun hS => ?_)
  refine wpAnyH_take (i := 0) (v := ?_) rfl (by kernel_rfl) (by kernel_rfl) (by kernel_rfl) (fun _ _ _ h => h) (Or.inl ⟨by rfl, ?_⟩) hS ?_
  rotate_left
  · intro W' hS'
    go_simp
    rfl
  try simp only [Act.put, List.setIfInBounds_toArray, List.set_cons_zero, List.set_cons_succ, List.getElem_toArray, List.getElem_cons_zero, List.getElem_cons_succ]
  refine wpAnyH_take (i := 2) (v := ?_) rfl (by kernel_rfl) (by kernel_rfl) (by kernel_rfl) (fun _ _ _ h => h) (Or.inl ⟨by rfl, ?_⟩) hS ?_
  rotate_left
  · intro W' hS'
    go_simp
    rfl
  try simp only [Act.put, List.setIfInBounds_toArray, List.set_cons_zero, List.set_cons_succ, List.getElem_toArray, List.getElem_cons_zero, List.getElem_cons_succ]
  refine wpAnyH_take (i := 3) (v := ?_) rfl (by kernel_rfl) (by kernel_rfl) (by kernel_rfl) (fun _ _ _ h => h) (Or.inl ⟨by rfl, ?_⟩) hS ?_
  rotate_left
  · intro W' hS'
    have c44 := HC44.out W' hS'; go_simp
    rfl
  try simp only [Act.put, List.setIfInBounds_toArray, List.set_cons_zero, List.set_cons_succ, List.getElem_toArray, List.getElem_cons_zero, List.getElem_cons_succ]
  refine wpAnyH_ready (rs := [1]) (by kernel_rfl) (by simp) (AllReadyH.cons rfl (fun K hK => ?_) AllReadyH.nil)
  go_simp
  refine (HO1.out _ hS).mono ?_
  rintro e wo ⟨v1, rfl, ⟨B1, d1, rfl, hr1⟩, hS2, -⟩
  have HR1 := Lib.hid hr1
  clear hr1
  refine hK.out _ _ hS2 (fun hS => ?_)
  try simp only [Act.put, List.setIfInBounds_toArray, List.set_cons_zero, List.set_cons_succ, List.getElem_toArray, List.getElem_cons_zero, List.getElem_cons_succ]
  clear hK
  refine wpAnyH_ready (rs := [4]) (by kernel_rfl) (by simp) (AllReadyH.cons rfl (fun K hK => ?_) AllReadyH.nil)
  go_simp
  refine (HO2.out _ hS).mono ?_
  rintro e wp ⟨v2, rfl, ⟨B2, d2, rfl, hr2⟩, hS2, hkeep⟩
  have HR2 := Lib.hid hr2
  obtain ⟨B1b, d1b, e1, hr1⟩ := hkeep (.slice B1 n d1) ⟨_, _, rfl, HR1.out⟩
  obtain ⟨rfl, -, -⟩ : B1 = B1b ∧ n = n ∧ d1 = d1b := by injection e1 with a b c; exact ⟨a, rfl, c⟩
  have HR3 := Lib.hid hr1
  clear hr1 hr2 hkeep HR1 e1
  refine hK.out _ _ hS2 (fun hS => ?_)
  try simp only [Act.put, List.setIfInBounds_toArray, List.set_cons_zero, List.set_cons_succ, List.getElem_toArray, List.getElem_cons_zero, List.getElem_cons_succ]
  clear hK
  have HSM := Lib.hid (same18_any ks B1 B2 d1 d2 wp (by rw [HKL.out]; omega) (by rw [HKL.out]; exact HR3.out) (by rw [HKL.out]; exact HR2.out))
  rw [HKL.out] at HSM
  have hSo := hS
  clear HR3 HR2
  refine wpAnyH_ready (rs := [5]) (by kernel_rfl) (by simp) (AllReadyH.cons rfl (fun K hK => ?_) AllReadyH.nil)
  go_simp
  refine HSM.out.mono ?_
  rintro e wS ⟨rfl, hb⟩
  have hS2 : Below w4.heap.size w4 wS := hSo.trans (hb.mono hSo.size)
  clear hb
  refine hK.out _ _ hS2 (fun hS => ?_)
  try simp only [Act.put, List.setIfInBounds_toArray, List.set_cons_zero, List.set_cons_succ, List.getElem_toArray, List.getElem_cons_zero, List.getElem_cons_succ]
  clear hK
  refine wpAnyH_take (i := 6) (v := ?_) rfl (by kernel_rfl) (by kernel_rfl) (by kernel_rfl) (fun _ _ _ h => h) (Or.inl ⟨by rfl, ?_⟩) hS ?_
  rotate_left
  · intro W' hS'
    go_simp
    rfl
  try simp only [Act.put, List.setIfInBounds_toArray, List.set_cons_zero, List.set_cons_succ, List.getElem_toArray, List.getElem_cons_zero, List.getElem_cons_succ]
  refine wpAnyH_done (by kernel_rfl) ?_ _
  have HB5 := Lib.hid (show Below w4.heap.size w4 wS from hS)
  clear hS E0 HC44 HO1 HO2 HKL
  go_upto_region 7 with (fail)
  have HRNGwS : Hid (wS.rangeAt gc 0 (styCells s)) := Lib.hid (blk_rng (HCS.out.below HB5.out HCS.out.lt) fun q v hv => by
    rw [Nat.zero_add]
    unfold caseCells
    rw [List.getElem?_append_left (by have := (List.getElem?_eq_some_iff.1 hv).1; exact this)]; exact hv)
  have c43 : wS.cell? ⟨gc, 43, none⟩ = some (.int .i64 c) := (HCS.out.below HB5.out HCS.out.lt).get 43 rfl
  have c44 : wS.cell? ⟨gc, 44, none⟩ = some (.slice A n ck) := (HCS.out.below HB5.out HCS.out.lt).get 44 rfl
  have c45 : wS.cell? ⟨gc, 45, none⟩ = some (.slice Ag m cg) := (HCS.out.below HB5.out HCS.out.lt).get 45 rfl
  go_upto_region 8 with (first
    | refine wpList_load_mid rfl 32 (.tmp 33) rfl gc 0 rfl (styCells s) _ HRNGwS.out Try.underlying32 rfl (by kernel_rfl) ?_
    | (go_at_call 19; refine (HRO.out _ HB5.out).mono ?_; rintro e w6 ⟨⟨v1, rfl, hra⟩, hb⟩; obtain ⟨Av, cv, hv, _⟩ := hra.ex; subst hv; have H6 := Lib.hid (And.intro hra.x (show Below wS.heap.size wS w6 from hb)); clear hra hb))
  clear c43 c44 c45 HRNGwS

  have HBw6 := Lib.hid (HB5.out.trans (H6.out.2.mono HB5.out.size))
  have HRNGw6 : Hid (w6.rangeAt gc 0 (styCells s)) := Lib.hid (blk_rng (HCS.out.below HBw6.out HCS.out.lt) fun q v hv => by
    rw [Nat.zero_add]
    unfold caseCells
    rw [List.getElem?_append_left (by have := (List.getElem?_eq_some_iff.1 hv).1; exact this)]; exact hv)
  have c43 : w6.cell? ⟨gc, 43, none⟩ = some (.int .i64 c) := (HCS.out.below HBw6.out HCS.out.lt).get 43 rfl
  have c44 : w6.cell? ⟨gc, 44, none⟩ = some (.slice A n ck) := (HCS.out.below HBw6.out HCS.out.lt).get 44 rfl
  have c45 : w6.cell? ⟨gc, 45, none⟩ = some (.slice Ag m cg) := (HCS.out.below HBw6.out HCS.out.lt).get 45 rfl
  go_upto_region 9 with (first
    | refine wpList_load_mid rfl 32 (.tmp 40) rfl gc 0 rfl (styCells s) _ HRNGw6.out Try.underlying32 rfl (by kernel_rfl) ?_
    | (go_at_call 20; refine (HRR.out _ HBw6.out).mono ?_; rintro e w7 ⟨⟨v2, rfl, hra⟩, hb⟩; obtain ⟨Aq, cq, hv2, _⟩ := hra.ex; subst hv2; have H7 := Lib.hid (And.intro hra.x (show Below w6.heap.size w6 w7 from hb)); clear hra hb))
  clear c43 c44 c45 HRNGw6

  have HBw7 := Lib.hid (HBw6.out.trans (H7.out.2.mono HBw6.out.size))
  have HRX : Hid (RowsX w7 w7.heap.size Av (rowsF s.wrap c (ownM (itM l c got)) (orderF (ordF l) l.length)) ∧ RowsX w7 w7.heap.size Aq (rowsF s.wrap c (ownM (itM l c got)) (orderF (ordF l) l.length))) := Lib.hid (by
    have h1 := H6.out.1.below H7.out.2
    have hb := H7.out.2
    refine ⟨⟨fun r hr => ?_⟩, H7.out.1⟩
    obtain ⟨g, Ar, cr, e1, e2, e3, e4⟩ := h1.at_ r hr
    exact ⟨g, Ar, cr, e1, Nat.lt_of_lt_of_le e2 hb.size, e3, e4.more hb.size⟩)
  obtain ⟨R, hR⟩ : ∃ R, R = rowsF s.wrap c (ownM (itM l c got)) (orderF (ordF l) l.length) := ⟨_, rfl⟩
  rw [← hR] at HRX HRB ⊢
  clear hR H6 H7 HB5 HBw6 HRO HRR
  have hrn := HRB.out.1
  go_upto_region 11 with (fail)
  as_aux_lemma =>
  go_wp2_with fail
  go_loopw [7] (fun kv wr => ∃ r : Nat, r ≤ R.length ∧ kv = .int .i64 r ∧ Hid (Below w7.heap.size w7 wr)) (fun kv _ => R.length - (intOf kv).toNat)
  case atStart => exact ⟨0, by omega, rfl, Lib.hid (Below.refl _ _)⟩
  case round =>
    obtain ⟨r, hr, rfl, HJ⟩ := hrel
    by_cases hlt : r < R.length
    · as_aux_lemma =>
      have g1 : decide ((r : Int) < (R.length : Int)) = true := decide_eq_true (by omega)
      have g1' : decide (r < R.length) = true := decide_eq_true hlt
      have hki : (r : Int) < (R.length : Int) := by omega
      have hk0 : (0 : Int) ≤ (r : Int) := by omega
      have wk : IntKind.i64.wrap ((r : Int) + 1) = (r : Int) + 1 := IntWalk.i64_in _ ⟨by omega, by omega⟩
      obtain ⟨ga, Ar, cr, rfl, gab, f1, rd1⟩ := HRX.out.1.at_ r hlt
      obtain ⟨gq, Br, dr, rfl, gqb, f2, rd2⟩ := HRX.out.2.at_ r hlt
      have hrl := HRB.out.2 r
      obtain ⟨row, hrow⟩ : ∃ row, row = rowAt R r := ⟨_, rfl⟩
      rw [← hrow] at f1 f2 rd1 rd2 hrl
      clear hrow
      have HC : Hid (∀ W, Below w7.heap.size w7 W → W.cell? ⟨ga, r, none⟩ = some (.slice Ar row.length cr) ∧ W.cell? ⟨gq, r, none⟩ = some (.slice Br row.length dr)) := Lib.hid (fun W hb => ⟨(hb.cell (p := ⟨ga, r, none⟩) gab).trans f1, (hb.cell (p := ⟨gq, r, none⟩) gqb).trans f2⟩)
      have HSM : Hid (∀ W, Below w7.heap.size w7 W → Calls Try.prog 16 #[.slice Ar row.length cr, .slice Br row.length dr] W (AnsB (.bool true) W)) := Lib.hid (fun W hb =>
        same18_any row Ar Br cr dr W (by omega) ((rd1.below hb).more hb.size) ((rd2.below hb).more hb.size))
      clear f1 f2 rd1 rd2
      go_upto_region 14 with (fail)
      have E0 : Below w7.heap.size w7 wr.drew := HJ.out.drew
      refine wp_region_S (fun _ _ _ W => Below w7.heap.size w7 W) 1000 1000 100000 true true (by kernel_rfl) (by kernel_rfl) (by kernel_rfl) (E0) ?_
      refine wpAnyS_take (i := 0) (v := ?_) rfl (by kernel_rfl) (by kernel_rfl) (by kernel_rfl) (fun _ _ _ h => h) (by rfl) (gives_pure (by rfl) ?_) ?_
      rotate_left
      · intro b' d' u' W' hS'
        have c1 := (HC.out W' hS').1
        have c2 := (HC.out W' hS').2
        go_simp
        rfl
      try simp only [Act.put, List.setIfInBounds_toArray, List.set_cons_zero, List.set_cons_succ, List.getElem_toArray, List.getElem_cons_zero, List.getElem_cons_succ]
      refine wpAnyS_take (i := 1) (v := ?_) rfl (by kernel_rfl) (by kernel_rfl) (by kernel_rfl) (fun _ _ _ h => h) (by rfl) (gives_pure (by rfl) ?_) ?_
      rotate_left
      · intro b' d' u' W' hS'
        have c1 := (HC.out W' hS').1
        have c2 := (HC.out W' hS').2
        go_simp
        rfl
      try simp only [Act.put, List.setIfInBounds_toArray, List.set_cons_zero, List.set_cons_succ, List.getElem_toArray, List.getElem_cons_zero, List.getElem_cons_succ]
      refine wpAnyS_take (i := 2) (v := ?_) rfl (by kernel_rfl) (by kernel_rfl) (by kernel_rfl) (fun _ _ _ h => h) (by rfl) (gives_pure (by rfl) ?_) ?_
      rotate_left
      · intro b' d' u' W' hS'
        have c1 := (HC.out W' hS').1
        have c2 := (HC.out W' hS').2
        go_simp
        rfl
      try simp only [Act.put, List.setIfInBounds_toArray, List.set_cons_zero, List.set_cons_succ, List.getElem_toArray, List.getElem_cons_zero, List.getElem_cons_succ]
      refine wpAnyS_take (i := 3) (v := ?_) rfl (by kernel_rfl) (by kernel_rfl) (by kernel_rfl) (fun _ _ _ h => h) (by rfl) (gives_pure (by rfl) ?_) ?_
      rotate_left
      · intro b' d' u' W' hS'
        have c1 := (HC.out W' hS').1
        have c2 := (HC.out W' hS').2
        go_simp
        rfl
      try simp only [Act.put, List.setIfInBounds_toArray, List.set_cons_zero, List.set_cons_succ, List.getElem_toArray, List.getElem_cons_zero, List.getElem_cons_succ]
      refine wpAnyS_take (i := 4) (v := ?_) rfl (by kernel_rfl) (by kernel_rfl) (by kernel_rfl) (fun _ _ _ h => h) (by rfl) (gives_pure (by rfl) ?_) ?_
      rotate_left
      · intro b' d' u' W' hS'
        have c1 := (HC.out W' hS').1
        have c2 := (HC.out W' hS').2
        go_simp
        rfl
      try simp only [Act.put, List.setIfInBounds_toArray, List.set_cons_zero, List.set_cons_succ, List.getElem_toArray, List.getElem_cons_zero, List.getElem_cons_succ]
      refine wpAnyS_take (i := 5) (v := ?_) rfl (by kernel_rfl) (by kernel_rfl) (by kernel_rfl) (fun _ _ _ h => h) (by rfl) (gives_pure (by rfl) ?_) ?_
      rotate_left
      · intro b' d' u' W' hS'
        have c1 := (HC.out W' hS').1
        have c2 := (HC.out W' hS').2
        go_simp
        rfl
      try simp only [Act.put, List.setIfInBounds_toArray, List.set_cons_zero, List.set_cons_succ, List.getElem_toArray, List.getElem_cons_zero, List.getElem_cons_succ]
      refine wpAnyS_take (i := 6) (v := ?_) rfl (by kernel_rfl) (by kernel_rfl) (by kernel_rfl) (fun _ _ _ h => h) (by rfl) (gives_pure (by rfl) ?_) ?_
      rotate_left
      · intro b' d' u' W' hS'
        have c1 := (HC.out W' hS').1
        have c2 := (HC.out W' hS').2
        go_simp
        rfl
      try simp only [Act.put, List.setIfInBounds_toArray, List.set_cons_zero, List.set_cons_succ, List.getElem_toArray, List.getElem_cons_zero, List.getElem_cons_succ]
      refine wpAnyS_take (i := 7) (v := ?_) rfl (by kernel_rfl) (by kernel_rfl) (by kernel_rfl) (fun _ _ _ h => h) (by rfl) (gives_pure (by rfl) ?_) ?_
      rotate_left
      · intro b' d' u' W' hS'
        have c1 := (HC.out W' hS').1
        have c2 := (HC.out W' hS').2
        go_simp
        rfl
      try simp only [Act.put, List.setIfInBounds_toArray, List.set_cons_zero, List.set_cons_succ, List.getElem_toArray, List.getElem_cons_zero, List.getElem_cons_succ]
      refine wpAnyS_take (i := 8) (v := .bool true) rfl (by kernel_rfl) (by kernel_rfl) (by kernel_rfl) (fun _ _ _ h => h) (by rfl) (gives_call (by rfl) _ _ ?_ (fun b' d' u' W' hS' => (HSM.out W' hS').mono (fun _ _ h => ⟨h.1, hS'.trans (h.2.mono hS'.size)⟩))) ?_
      · intro W'
        first | rfl | kernel_rfl
      try simp only [Act.put, List.setIfInBounds_toArray, List.set_cons_zero, List.set_cons_succ, List.getElem_toArray, List.getElem_cons_zero, List.getElem_cons_succ]
      refine wpAnyS_take (i := 9) (v := ?_) rfl (by kernel_rfl) (by kernel_rfl) (by kernel_rfl) (fun _ _ _ h => h) (by rfl) (gives_pure (by rfl) ?_) ?_
      rotate_left
      · intro b' d' u' W' hS'
        have c1 := (HC.out W' hS').1
        have c2 := (HC.out W' hS').2
        go_simp
        rfl
      try simp only [Act.put, List.setIfInBounds_toArray, List.set_cons_zero, List.set_cons_succ, List.getElem_toArray, List.getElem_cons_zero, List.getElem_cons_succ]
      refine wpAnyS_done (b := true) (d := true) (by kernel_rfl) (by kernel_rfl) (by kernel_rfl) rfl (fun wS hS => ?_) _
      have HS := Lib.hid hS
      clear hS E0
      go_wp2_with fail
      go_roundw
      case rel => exact ⟨r + 1, by omega, by go_num, HS⟩
      case measure => simp [intOf] <;> omega
    as_aux_lemma =>
    have g1 : decide ((r : Int) < (R.length : Int)) = false := decide_eq_false (by omega)
    have g1' : decide (r < R.length) = false := decide_eq_false hlt
    have HBwr : Hid (Below w4.heap.size w4 wr) := Lib.hid (HBw7.out.trans (HJ.out.mono HBw7.out.size))
    clear hlt hr HJ HRX HRB hrn
    go_upto_region 16 with (fail)
    clear g1 g1'
    have HRNGwr : Hid (wr.rangeAt gc 0 (styCells s)) := Lib.hid (blk_rng (HCS.out.below HBwr.out HCS.out.lt) fun q v hv => by
      rw [Nat.zero_add]
      unfold caseCells
      rw [List.getElem?_append_left (by have := (List.getElem?_eq_some_iff.1 hv).1; exact this)]; exact hv)
    have c43 : wr.cell? ⟨gc, 43, none⟩ = some (.int .i64 c) := (HCS.out.below HBwr.out HCS.out.lt).get 43 rfl
    have c44 : wr.cell? ⟨gc, 44, none⟩ = some (.slice A n ck) := (HCS.out.below HBwr.out HCS.out.lt).get 44 rfl
    have c45 : wr.cell? ⟨gc, 45, none⟩ = some (.slice Ag m cg) := (HCS.out.below HBwr.out HCS.out.lt).get 45 rfl
    go_upto_region 17 with (first
      | refine wpList_load_mid rfl 32 (.tmp 71) rfl gc 0 rfl (styCells s) _ HRNGwr.out Try.underlying32 rfl (by kernel_rfl) ?_
      | (go_at_call 14; refine (HMA.out _ HBwr.out).mono ?_; rintro e w8 ⟨⟨gu, gb, he, hu, hbo, hge1, hge2⟩, hb⟩; rw [← HN.out] at he hu hbo; subst he; have H8 := Lib.hid (And.intro hu (And.intro hbo (show Below wr.heap.size wr w8 from hb))); clear hu hbo hge1 hge2 hb))
    clear c43 c44 c45 HRNGwr

    have HBw8 := Lib.hid (HBwr.out.trans (H8.out.2.2.mono HBwr.out.size))
    have HRNGw8 : Hid (w8.rangeAt gc 0 (styCells s)) := Lib.hid (blk_rng (HCS.out.below HBw8.out HCS.out.lt) fun q v hv => by
      rw [Nat.zero_add]
      unfold caseCells
      rw [List.getElem?_append_left (by have := (List.getElem?_eq_some_iff.1 hv).1; exact this)]; exact hv)
    have c43 : w8.cell? ⟨gc, 43, none⟩ = some (.int .i64 c) := (HCS.out.below HBw8.out HCS.out.lt).get 43 rfl
    have c44 : w8.cell? ⟨gc, 44, none⟩ = some (.slice A n ck) := (HCS.out.below HBw8.out HCS.out.lt).get 44 rfl
    have c45 : w8.cell? ⟨gc, 45, none⟩ = some (.slice Ag m cg) := (HCS.out.below HBw8.out HCS.out.lt).get 45 rfl
    go_upto_region 18 with (first
      | refine wpList_load_mid rfl 32 (.tmp 81) rfl gc 0 rfl (styCells s) _ HRNGw8.out Try.underlying32 rfl (by kernel_rfl) ?_
      | (go_at_call 21; refine (HMR.out _ HBw8.out).mono ?_; rintro e w9 ⟨⟨Au, cu, Ax, cx, he, hu, hx⟩, hb⟩; rw [← HN.out] at he hu hx; subst he; have H9 := Lib.hid (And.intro hu (And.intro hx (show Below w8.heap.size w8 w9 from hb))); clear hu hx hb))
    clear c43 c44 c45 HRNGw8

    have HBw9 := Lib.hid (HBw8.out.trans (H9.out.2.2.mono HBw8.out.size))
    obtain ⟨U, hU⟩ : ∃ U, U = mainsM s c l got := ⟨_, rfl⟩
    rw [← hU] at H8 H9
    have HF : Hid (Blk w9 gu 39 (triC (fun k => usedT (U k)) n).toArray ∧ Blk w9 gb 4 (booC (fun k => usedB (U k)) n).toArray ∧ Reads w9 w9.heap.size 3 Au n (triC (fun k => usedT (U k)) n) ∧ Reads w9 w9.heap.size 1 Ax n (booC (fun k => usedB (U k)) n)) := Lib.hid ⟨H8.out.1.below H9.out.2.2 H8.out.1.lt, H8.out.2.1.below H9.out.2.2 H8.out.2.1.lt, H9.out.1, H9.out.2.1⟩
    clear hU H8 H9 HBw8 HBwr HMA HMR
    go_upto_region 20 with (fail)
    as_aux_lemma =>
    go_wp2_with fail
    obtain ⟨wq, rfl⟩ : ∃ wq, wq = wr := ⟨_, rfl⟩
    go_loopw [12] (fun kv wr => ∃ i : Nat, i ≤ n ∧ kv = .int .i64 i ∧ Hid (Below w9.heap.size w9 wr)) (fun kv _ => n - (intOf kv).toNat)
    case atStart => exact ⟨0, by omega, rfl, Lib.hid (Below.refl _ _)⟩
    case round =>
      obtain ⟨i, hi, rfl, HJ⟩ := hrel
      by_cases hlt : i < n
      · as_aux_lemma =>
        have g1 : decide ((i : Int) < (n : Int)) = true := decide_eq_true (by omega)
        have g1' : decide (i < n) = true := decide_eq_true hlt
        have hki : (i : Int) < (n : Int) := by omega
        have hk0 : (0 : Int) ≤ (i : Int) := by omega
        have wk : IntKind.i64.wrap ((i : Int) + 1) = (i : Int) + 1 := IntWalk.i64_in _ ⟨by omega, by omega⟩
        obtain ⟨t1, ht1⟩ : ∃ t, t = (usedT (U i)).1 := ⟨_, rfl⟩
        obtain ⟨t2, ht2⟩ : ∃ t, t = (usedT (U i)).2.1 := ⟨_, rfl⟩
        obtain ⟨t3, ht3⟩ : ∃ t, t = (usedT (U i)).2.2 := ⟨_, rfl⟩
        obtain ⟨bb, hbb⟩ : ∃ t, t = usedB (U i) := ⟨_, rfl⟩
        have x0 : wr.cell? ⟨gu, i * 3, none⟩ = some (.int .i64 t1) := by rw [ht1]; exact (HF.out.1.below HJ.out HF.out.1.lt).get (i * 3) (triC_g0 _ hlt)
        have x1 : wr.cell? ⟨gu, i * 3 + 1, none⟩ = some (.int .i64 t2) := by rw [ht2]; exact (HF.out.1.below HJ.out HF.out.1.lt).get (i * 3 + 1) (triC_g1 _ hlt)
        have x2 : wr.cell? ⟨gu, i * 3 + 2, none⟩ = some (.int .i64 t3) := by rw [ht3]; exact (HF.out.1.below HJ.out HF.out.1.lt).get (i * 3 + 2) (triC_g2 _ hlt)
        have x3 : wr.cell? ⟨gb, i, none⟩ = some (.bool bb) := by rw [hbb]; exact (HF.out.2.1.below HJ.out HF.out.2.1.lt).get i (by rw [List.getElem?_toArray]; exact booC_at _ hlt)
        obtain ⟨au, rfl, y0, y1, y2⟩ := (HF.out.2.2.1.below HJ.out).tri hlt
        obtain ⟨ax, u3, rfl, _, hx3, y3⟩ := (HF.out.2.2.2.below HJ.out).at_ hlt
        have e3 : u3 = .bool bb := by rw [hbb]; simpa [booC, hlt] using hx3.symm
        subst e3
        rw [← ht1] at y0
        rw [← ht2] at y1
        rw [← ht3] at y2
        clear ht1 ht2 ht3 hbb hx3
        have r1 : (t1 == t1) = true := by simp
        have r2 : (t2 == t2) = true := by simp
        have r3 : (t3 == t3) = true := by simp
        go_upto_region 23 with (fail)
        cases bb
        · go_quiet (fail)
          go_wp2_with fail
          go_roundw
          case rel => exact ⟨i + 1, by omega, by go_num, Lib.hid (below_dr HJ.out _)⟩
          case measure => simp [intOf] <;> omega
        · go_quiet (fail)
          go_wp2_with fail
          go_roundw
          case rel => exact ⟨i + 1, by omega, by go_num, Lib.hid (below_dr HJ.out _)⟩
          case measure => simp [intOf] <;> omega
      as_aux_lemma =>
      have g1 : decide ((i : Int) < (n : Int)) = false := decide_eq_false (by omega)
      have g1' : decide (i < n) = false := decide_eq_false hlt
      have HBv : Hid (Below w4.heap.size w4 wr) := Lib.hid (HBw9.out.trans (HJ.out.mono HBw9.out.size))
      clear hlt hi HJ HF
      go_wp2_with fail
      obtain ⟨wp, rfl⟩ : ∃ wp, wp = wr := ⟨_, rfl⟩
      clear g1 g1'
      go_loopw [13] (fun kv wr => ∃ i : Nat, i ≤ m ∧ kv = .int .i64 i ∧ Hid (Below w4.heap.size w4 wr)) (fun kv _ => m - (intOf kv).toNat)
      case atStart => exact ⟨0, by omega, rfl, HBv⟩
      case round =>
        obtain ⟨i, hi, rfl, HJ⟩ := hrel
        by_cases hlt : i < m
        · as_aux_lemma =>
          have g1 : decide ((i : Int) < (m : Int)) = true := decide_eq_true (by omega)
          have g1' : decide (i < m) = true := decide_eq_true hlt
          have hki : (i : Int) < (m : Int) := by omega
          have hk0 : (0 : Int) ≤ (i : Int) := by omega
          have wk : IntKind.i64.wrap ((i : Int) + 1) = (i : Int) + 1 := IntWalk.i64_in _ ⟨by omega, by omega⟩
          have hil : i < got.length := by rw [← HM.out]; exact hlt
          obtain ⟨ad, hA1, _, x0, x1, x2, x3⟩ := (HALL.out wr HJ.out).2.2.1.cn HM.out hil
          obtain ⟨ae, hA2, _, y0, y1, y2, y3⟩ := (HALL.out wr HJ.out).2.2.2.cn HM.out hil
          subst hA1
          subst hA2
          have c45 : wr.cell? ⟨gc, 45, none⟩ = some (.slice (some ad) m cg) := (HCS.out.below HJ.out HCS.out.lt).get 45 rfl
          obtain ⟨z0, hz0⟩ : ∃ z, z = got[i].least := ⟨_, rfl⟩
          obtain ⟨z1, hz1⟩ : ∃ z, z = got[i].greatest := ⟨_, rfl⟩
          obtain ⟨z2, hz2⟩ : ∃ z, z = got[i].ol := ⟨_, rfl⟩
          obtain ⟨z3, hz3⟩ : ∃ z, z = got[i].og := ⟨_, rfl⟩
          rw [← hz0] at x0 y0
          rw [← hz1] at x1 y1
          rw [← hz2] at x2 y2
          rw [← hz3] at x3 y3
          clear hz0 hz1 hz2 hz3
          have r0 : (z0 == z0) = true := by simp
          have r1 : (z1 == z1) = true := by simp
          have r2 : (z2 == z2) = true := by simp
          have r3 : (z3 == z3) = true := by simp
          go_upto_region 28 with (fail)
          go_quiet (fail)
          go_wp2_with fail
          go_roundw
          case rel => exact ⟨i + 1, by omega, by go_num, Lib.hid (below_dr HJ.out _)⟩
          case measure => simp [intOf] <;> omega
        as_aux_lemma =>
        have g1 : decide ((i : Int) < (m : Int)) = false := decide_eq_false (by omega)
        have g1' : decide (i < m) = false := decide_eq_false hlt
        go_wp2_with (go_at_call 12; refine (works19_any _).mono ?_; rintro e w' ⟨rfl, hb9⟩; have HB9 := Lib.hid ((HBX4.out.trans (HJ.out.mono HBX4.out.size)).trans (hb9.mono (HBX4.out.trans (HJ.out.mono HBX4.out.size)).size)); clear hb9)
        go_ret
        exact ⟨rfl, HB9.out⟩
end Go.Proofs.Ytdnpobfnkdllmaa
set_option linter.unusedSimpArgs false
set_option linter.unusedVariables false
namespace Go.Proofs.Ytdnpobfnkdllmaa
open Go.ChangeShapes Go.WideShapes Go.ChangeAt Go.RowKit

set_option maxRecDepth 100000 in
theorem mainsPlays_lifted (os : Os) (started : os.Started) (H : Type) (enc : TypeId × Value → H) :
    ReturnsInHanded {} Try.checked os 5 .any (Rows.mainsPlaysSpec.pre6 enc Try.prog Try.f5 Rows.mainsPlaysRow.domain false) (Rows.mainsPlaysSpec.post enc Try.prog Try.f5 false true false false) := by
  refine law_lifted (tb := 4) started (by kernel_rfl) Try.func5 rfl ?_ (by kernel_rfl) Try.underlying4 (by kernel_rfl)
    (ChangeSpec.witness6 (enc := enc) (C := Try.checked) false ⟨#[], #[.agg (caseCells styD 0 none 0 0 none 0 0).toArray], []⟩ 8 (by kernel_rfl) (by kernel_rfl) (by kernel_rfl) (by kernel_rfl)) ?_
  · intro ds hd
    match ds, hd with
    | [d], _ => rfl
  · intro W base args ds ps hval hA hlt _
    rw [Try.params5] at hA hval
    obtain ⟨v, d, rfl, rfl, h0⟩ := trodAll_one hA
    obtain ⟨s, c, A, Ag, ck, cg, l, got, rfl, hsu, hlu, hr, hg⟩ := reads_case hlt (okWide_struct Try.underlying45 (hval 0 _ _ rfl rfl)) h0
    exact mainsPlays_any s c l got A Ag ck cg W hr hlu hsu hg

theorem mainsPlays_holds : Rows.MainsPlaysSaid :=
  OpenClaim.holds_of_wide 5 Try.f5 rfl rfl rfl rfl rfl rfl rfl ⟨rfl, rfl, rfl, rfl, rfl⟩ rfl rfl rfl rfl rfl (by kernel_rfl) Try.func5 (by kernel_rfl)
    (of_decide_eq_true (by kernel_rfl)) (by unfold Func.isWrapper; rw [if_neg (of_decide_eq_false (by kernel_rfl))]; exact ⟨rfl, rfl⟩)
    (fun os started H enc _ => mainsPlays_lifted os started H enc)
end Go.Proofs.Ytdnpobfnkdllmaa
