/- Contracts: leave of flow's walk, the other cases. -/
import Derived.Test.YtlebbkhhhmempaaFk
set_option linter.unusedSimpArgs false
set_option linter.unusedVariables false
namespace Go.Proofs.Ytlebbkhhhmempaa
open Go.RowKit
attribute [local go_sem] block_of_add
theorem high_le {s : Sty} (h : StyT s) (a b : Int) (hb : 1048576 ≤ b) (ha : a ≤ b) : highF s a ≤ b := by have := h.hn; unfold highF; split <;> omega
theorem spB_at {k : Wk} (h : wkB k = true) {i : Nat} (hi : i < k.sp.length) : (-lim ≤ k.sp[i].left ∧ k.sp[i].left ≤ lim) ∧ (-lim ≤ k.sp[i].top ∧ k.sp[i].top ≤ lim) ∧ (-lim ≤ k.sp[i].high ∧ k.sp[i].high ≤ lim) := by
  have := (wkB_p h).2.2.2.2.2.2 _ (List.getElem_mem hi)
  unfold spB inL at this
  simp only [Bool.and_eq_true, decide_eq_true_eq] at this
  exact ⟨this.1.1, this.1.2, this.2⟩
section
variable (C : Cx) (k : Wk) (Af Ao : Option Addr) (cf co : Nat) (W : World)
attribute [local go_sem] fld_w fld_l
set_option maxRecDepth 100000 in
set_option maxHeartbeats 2000000 in
theorem leave_b (hC : CxOk C) (h : WkI C k Af cf Ao co W) (i : Nat) (hi : i < C.l.length) (below : Int) (hwb : wkB k = true) (k' : Wk) (hk' : leaveF C.l[i].s k i below = some k') (ho : ∀ own, k.sp[i]? = some own → own.op = true) (hf : ¬ (floorF C.l[i].s = 0 ∧ highF C.l[i].s 0 = 0)) :
    Calls Try.prog 111 #[.pointer (some ⟨C.bw, 0, none⟩), .int .i64 i, .int .i64 below] W fun e w' => (∃ v, e = .returned v) ∧ ∃ Af' cf' Ao' co', WkI C k' Af' cf' Ao' co' w' := by
  obtain ⟨ad, hA, hb, hadw, hads, hnd⟩ := WkI.nd C k Af Ao cf co W hC h i hi
  have HST := Lib.hid (hC.sty _ (List.getElem_mem hi))
  obtain ⟨_, _, _, huv⟩ := hC.uv _ (List.getElem_mem hi)
  have HO := Lib.hid (Sty.one C.l[i].s huv)
  have HSF : Hid (styF C.l i = some C.l[i].s) := Lib.hid (by unfold styF; rw [List.getElem?_eq_getElem hi]; rfl)
  have HRNG := Lib.hid (nd_range hnd)
  have HMG := Lib.hid (fun k' Af' cf' Ao' co' W' (h : WkI C k' Af' cf' Ao' co' W') (h0 : 0 < i) => margins_any C k' Af' Ao' cf' co' W' hC h i hi h0)
  obtain ⟨s, hs⟩ : ∃ s, s = C.l[i].s := ⟨_, rfl⟩
  rw [← hs] at HST HO HSF HRNG HMG
  have HI := Lib.hid h
  have HC := Lib.hid hC
  obtain ⟨c0, c1, c2, c3, c4, c5, c6, c7, c8, c9, c10, c11, c12⟩ := h.cs
  rw [hA] at c0
  clear huv hnd hC h hadw hads
  rw [← hs] at hf
  rw [← hs] at hk'
  clear hs
  have HWB := Lib.hid hwb
  have HK := Lib.hid hk'
  have HSP := Lib.hid (fun k' Af' cf' Ao' co' W' (h : WkI C k' Af' cf' Ao' co' W') => spot_any C k' Af' Ao' cf' co' W' HC.out h i hi)
  have HMK := Lib.hid (fun k' Af' cf' Ao' co' W' (h : WkI C k' Af' cf' Ao' co' W') (hb : wkB k' = true) => mark_any C k' Af' Ao' cf' co' W' HC.out h hb)
  have HSE := Lib.hid (fun k' Af' cf' Ao' co' W' (h : WkI C k' Af' cf' Ao' co' W') (hb : wkB k' = true) => settle_any C k' Af' Ao' cf' co' W' HC.out h hb)
  have HBE := Lib.hid (fun k' Af' cf' Ao' co' W' (h : WkI C k' Af' cf' Ao' co' W') y below => behind_any C k' Af' Ao' cf' co' W' HC.out h y below)
  have HJO := Lib.hid (fun (st : Stt) (m : Int) W' => join_any st m W')
  have HRO := Lib.hid (fun W' => roof_any s W' HST.out.1)
  have HFL := Lib.hid (fun W' => floor_any s W' HST.out.1)
  have HHG := Lib.hid (fun a W' => high_any s a W' HST.out.1)
  have HIL : Hid (i < k.sp.length) := Lib.hid (by rw [HI.out.len]; exact hi)
  obtain ⟨own, hown⟩ : ∃ own, own = k.sp[i]'HIL.out := ⟨_, rfl⟩
  have HSO : Hid (k.sp[i]? = some own) := Lib.hid (by rw [hown, List.getElem?_eq_getElem])
  have HOW := Lib.hid hown
  obtain ⟨fl, hfl⟩ : ∃ fl, fl = floorF s := ⟨_, rfl⟩
  obtain ⟨ro, hro⟩ : ∃ ro, ro = roofF s := ⟨_, rfl⟩
  obtain ⟨h0, hh0⟩ : ∃ h0, h0 = highF s 0 := ⟨_, rfl⟩
  rw [← hfl] at HFL
  rw [← hro] at HRO
  have HFF : Hid (0 ≤ fl ∧ fl ≤ 2097152 ∧ 0 ≤ ro ∧ ro ≤ 2097152 ∧ 0 ≤ h0) := Lib.hid (by rw [hfl, hro, hh0]; exact ⟨(floor_bd HST.out.1).1, (floor_bd HST.out.1).2, (roof_bd HST.out.1).1, (roof_bd HST.out.1).2, high_nn _ _⟩)
  have HEQ : Hid (fl = floorF s ∧ ro = roofF s ∧ h0 = highF s 0) := Lib.hid ⟨hfl, hro, hh0⟩
  have HH0 := Lib.hid (HHG.out 0)
  rw [← hh0] at HH0
  clear hk' hwb hown hfl hro hh0
  rw [← HEQ.out.1, ← HEQ.out.2.2] at hf
  have o1 : own.op = true := ho own HSO.out
  have h0b : h0 ≤ 1048576 := by rw [HEQ.out.2.2]; exact high_le HST.out.1 _ _ (by omega) (by omega)
  have hff := HFF.out
  have HKK : Hid (wkB (behindF (setSp (settleF k) i fun p => { p with high := h0 + fl }) (markF k + (h0 + fl)) below) = true ∧ k' = behindF (setSp (settleF k) i fun p => { p with high := h0 + fl }) (markF k + (h0 + fl)) below) := Lib.hid (by
    have h := HK.out
    unfold leaveF at h
    rw [HSO.out] at h
    simp only at h
    rw [← HEQ.out.1, ← HEQ.out.2.2, if_neg (fun hh => hf hh.2), if_pos o1] at h
    exact chk_p h)
  have u1 : IntKind.i64.wrap (h0 + fl) = h0 + fl := IntWalk.i64_in _ ⟨by omega, by omega⟩
  have HMB : Hid (-1125899906842624 ≤ markF k + (h0 + fl) ∧ markF k + (h0 + fl) ≤ 1125899906842624) := Lib.hid (wkB_p HKK.out.1).1
  have hmb := HMB.out
  obtain ⟨mk, hmk⟩ : ∃ mk, mk = markF k := ⟨_, rfl⟩
  rw [← hmk] at hmb
  have u2 : IntKind.i64.wrap (mk + (h0 + fl)) = mk + (h0 + fl) := IntWalk.i64_in _ ⟨by omega, by omega⟩
  have HMM := Lib.hid hmk
  clear ho HK hmk hmb hff h0b
  go_enter Try.func111, Try.ntmps111
  go_upto_region 1 with (first | refine wpList_load_mid rfl 69 (.tmp 17) rfl ad.block ((ad.add (i * 44)).off + 1) rfl (styCells s) _ HRNG.out Try.underlying69 rfl (by kernel_rfl) ?_ | refine wpList_store_new rfl 69 _ _ rfl _ rfl (styCells s).toArray rfl rfl 69 _ (by kernel_rfl) rfl HO.out ?_)
  obtain ⟨w1, hw1⟩ : ∃ w1, w1 = W.alloc (.cells (styCells s).toArray 69) := ⟨_, rfl⟩
  have HB1 : Hid (Blk w1 W.heap.size 69 (styCells s).toArray) := Lib.hid (by rw [hw1]; exact Blk.new _ _ _)
  have HI1 : Hid (WkI C k Af cf Ao co w1) := Lib.hid (by rw [hw1]; exact HI.out.below ((Below.refl _ _).alloc (Nat.le_refl _) _))
  have HL1 : Hid (Below W.heap.size W w1) := Lib.hid (by rw [hw1]; exact (Below.refl _ _).alloc (Nat.le_refl _) _)
  rw [← hw1]
  obtain ⟨g, hg⟩ : ∃ g, g = W.heap.size := ⟨_, rfl⟩
  rw [← hg] at HB1 ⊢
  have HG := Lib.hid hg
  clear hw1 hg c0 c1 c2 c3 c4 c5 c6 c7 c8 c9 c10 c11 c12 HRNG hb HI
  have HI1s := Lib.hid (HSP.out _ _ _ _ _ _ HI1.out)
  go_upto_region 2 with (go_at_call 42; refine HI1s.out.mono ?_; rintro e w2 ⟨rfl, hb2⟩; have HI2 := Lib.hid (HI1.out.below hb2); have HB2 := Lib.hid (HB1.out.below hb2 HB1.out.lt); clear hb2)
  obtain ⟨s0, s1, s2, s3, s4⟩ := HI2.out.sc HIL.out
  rw [← HOW.out] at s0 s1 s2 s3
  clear HI1s HI1 HB1 HL1 HG
  rw [o1] at s3
  by_cases hf0 : fl = 0
  · have e1 : (fl == 0) = true := by simp [hf0]
    have e2 : (h0 == 0) = false := by simpa using (fun h => hf ⟨hf0, h⟩)
    clear hf hf0
    go_upto_region 8 with (first | (refine wpList_load_midG (by rfl) 69 (.tmp 6) rfl g 0 rfl (styCells s) _ (sty_rngF HB2.out) Try.underlying69 rfl (by kernel_rfl) ?_) | (refine wpList_load_midG (by rfl) 69 (.tmp 6) rfl g 0 rfl (styCells s) _ (sty_rngF (HB2.out.alloc _)) Try.underlying69 rfl (by kernel_rfl) ?_) | (go_at_call 145; refine (HFL.out _).mono ?_; rintro e w3 ⟨rfl, hw3⟩; subst hw3) | (go_at_call 78; refine (HH0.out _).mono ?_; rintro e w3 ⟨rfl, hw3⟩; subst hw3))
    obtain ⟨w3, hww3⟩ : ∃ w3, w3 = (w2.alloc (.cells (styCells s).toArray 69)).alloc (.cells (styCells s).toArray 69) := ⟨_, rfl⟩
    have HI3 : Hid (WkI C k Af cf Ao co w3) := Lib.hid (by rw [hww3]; exact HI2.out.below (((Below.refl _ _).alloc (Nat.le_refl _) _).alloc (by simp) _))
    have HB3 : Hid (Blk w3 g 69 (styCells s).toArray) := Lib.hid (by rw [hww3]; exact (HB2.out.alloc _).alloc _)
    rw [← hww3]
    clear hww3
    clear s0 s1 s2 s3 s4
    obtain ⟨s0, s1, s2, s3, s4⟩ := HI3.out.sc HIL.out
    rw [← HOW.out, o1] at s3
    have HS3 := Lib.hid (HSE.out _ _ _ _ _ _ HI3.out HWB.out)
    have HNG : Hid (¬ cxBad C g) := Lib.hid (fun h => by rcases h with h | h; exact HB3.out.ne_ HI3.out.blk (by decide) h; exact HB3.out.ne_ HI3.out.spt (by decide) h)
    go_upto_region 10 with (go_at_call 71; refine HS3.out.mono ?_; rintro e w4 ⟨⟨_, rfl⟩, ⟨Ao4, co4, hi4⟩, k4⟩; have HI4 := Lib.hid hi4; have HB4 := Lib.hid (HB3.out.kp k4 HNG.out); clear hi4 k4)
    clear s0 s1 s2 s3 s4
    have HIL4 : Hid (i < (settleF k).sp.length) := Lib.hid (by rw [HI4.out.len]; exact hi)
    have E0 : WkI C (settleF k) Af cf Ao4 co4 w4.drew ∧ Blk w4.drew g 69 (styCells s).toArray := ⟨HI4.out.below (Below.refl _ _).drew, HB4.out.drew⟩
    refine wp_region_S (fun b _ _ W' => (if b then WkI C (setSp (settleF k) i fun p => { p with high := h0 + fl }) Af cf Ao4 co4 W' else WkI C (settleF k) Af cf Ao4 co4 W') ∧ Blk W' g 69 (styCells s).toArray) 8 1000 100000 false true (by kernel_rfl) (by kernel_rfl) (by kernel_rfl) (E0) ?_
    refine wpAnyS_take (i := 0) (v := ?_) rfl (by kernel_rfl) (by kernel_rfl) (by kernel_rfl) (fun _ _ _ h => h) (by rfl) (gives_pureF (by rfl) (by kernel_rfl) ?_) ?_
    rotate_left
    · intro d' u' W' hS'
      go_simp
      rfl
    try simp only [Act.put, List.setIfInBounds_toArray, List.set_cons_zero, List.set_cons_succ, List.getElem_toArray, List.getElem_cons_zero, List.getElem_cons_succ]
    refine wpAnyS_take (i := 1) (v := .agg (styCells s).toArray) rfl (by kernel_rfl) (by kernel_rfl) (by kernel_rfl) (fun _ _ _ h => h) (by rfl) (gives_yields ?_) ?_
    · refine yieldsIf_load_mid (by rfl) 69 (.tmp 6) rfl (g) 0 rfl (styCells s) _ ?_ Try.underlying69 rfl (by kernel_rfl)
      rintro W' ⟨b', d', u', hS'⟩
      exact (sty_rngF hS'.2)
    try simp only [Act.put, List.setIfInBounds_toArray, List.set_cons_zero, List.set_cons_succ, List.getElem_toArray, List.getElem_cons_zero, List.getElem_cons_succ]
    refine wpAnyS_take (i := 2) (v := _) rfl (by kernel_rfl) (by kernel_rfl) (by kernel_rfl) (fun _ _ _ h => h) (by rfl) (gives_callF (by rfl) (by kernel_rfl) _ _ ?_ (fun d' u' W' hS' => (HH0.out W').mono (fun _ _ h => ⟨h.1, h.2 ▸ ⟨(show WkI C (settleF k) Af cf Ao4 co4 W' from hS'.1).below ((Below.refl _ _).alloc (Nat.le_refl _) _), hS'.2.alloc _⟩⟩))) ?_
    · intro W'
      first | rfl | kernel_rfl
    try simp only [Act.put, List.setIfInBounds_toArray, List.set_cons_zero, List.set_cons_succ, List.getElem_toArray, List.getElem_cons_zero, List.getElem_cons_succ]
    refine wpAnyS_take (i := 3) (v := .agg (styCells s).toArray) rfl (by kernel_rfl) (by kernel_rfl) (by kernel_rfl) (fun _ _ _ h => h) (by rfl) (gives_yields ?_) ?_
    · refine yieldsIf_load_mid (by rfl) 69 (.tmp 6) rfl (g) 0 rfl (styCells s) _ ?_ Try.underlying69 rfl (by kernel_rfl)
      rintro W' ⟨b', d', u', hS'⟩
      exact (sty_rngF hS'.2)
    try simp only [Act.put, List.setIfInBounds_toArray, List.set_cons_zero, List.set_cons_succ, List.getElem_toArray, List.getElem_cons_zero, List.getElem_cons_succ]
    refine wpAnyS_take (i := 4) (v := _) rfl (by kernel_rfl) (by kernel_rfl) (by kernel_rfl) (fun _ _ _ h => h) (by rfl) (gives_callF (by rfl) (by kernel_rfl) _ _ ?_ (fun d' u' W' hS' => (HFL.out W').mono (fun _ _ h => ⟨h.1, h.2 ▸ ⟨(show WkI C (settleF k) Af cf Ao4 co4 W' from hS'.1).below ((Below.refl _ _).alloc (Nat.le_refl _) _), hS'.2.alloc _⟩⟩))) ?_
    · intro W'
      first | rfl | kernel_rfl
    try simp only [Act.put, List.setIfInBounds_toArray, List.set_cons_zero, List.set_cons_succ, List.getElem_toArray, List.getElem_cons_zero, List.getElem_cons_succ]
    refine wpAnyS_take (i := 5) (v := ?_) rfl (by kernel_rfl) (by kernel_rfl) (by kernel_rfl) (fun _ _ _ h => h) (by rfl) (gives_pureF (by rfl) (by kernel_rfl) ?_) ?_
    rotate_left
    · intro d' u' W' hS'
      go_simp
      rfl
    try simp only [Act.put, List.setIfInBounds_toArray, List.set_cons_zero, List.set_cons_succ, List.getElem_toArray, List.getElem_cons_zero, List.getElem_cons_succ]
    refine wpAnyS_take (i := 6) (v := ?_) rfl (by kernel_rfl) (by kernel_rfl) (by kernel_rfl) (fun _ _ _ h => h) (by rfl) (gives_pureF (by rfl) (by kernel_rfl) ?_) ?_
    rotate_left
    · intro d' u' W' hS'
      go_simp
      rfl
    try simp only [Act.put, List.setIfInBounds_toArray, List.set_cons_zero, List.set_cons_succ, List.getElem_toArray, List.getElem_cons_zero, List.getElem_cons_succ]
    refine wpAnyS_take (i := 7) (v := ?_) rfl (by kernel_rfl) (by kernel_rfl) (by kernel_rfl) (fun _ _ _ h => h) (by rfl) (gives_pureF (by rfl) (by kernel_rfl) ?_) ?_
    rotate_left
    · intro d' u' W' hS'
      go_simp
      rfl
    try simp only [Act.put, List.setIfInBounds_toArray, List.set_cons_zero, List.set_cons_succ, List.getElem_toArray, List.getElem_cons_zero, List.getElem_cons_succ]
    refine wpAnyS_store (i := 8) (d := true) (fun W' => W'.setCell ⟨C.bs, i * 7 + 2, none⟩ (.int .i64 (h0 + fl))) rfl (by kernel_rfl) (by rfl) (by rfl) (by kernel_rfl) rfl ?_ (fun W' hS' => ⟨(show WkI C (settleF k) Af cf Ao4 co4 W' from hS'.1).setS HC.out HIL4.out 2 (by omega) _ (fun p => { p with high := h0 + fl }) (fun _ => rfl), hS'.2.far (fun e => HNG.out (.inr e)) _⟩) ?_
    · intro W' hS'
      have hh : WkI C (settleF k) Af cf Ao4 co4 W' := hS'.1
      obtain ⟨s0, s1, s2, s3, s4⟩ := hh.sc HIL4.out
      have fs := (wk_fr hh).2
      clear hh
      go_simp
      try rfl
    try simp only [Act.put, List.setIfInBounds_toArray, List.set_cons_zero, List.set_cons_succ, List.getElem_toArray, List.getElem_cons_zero, List.getElem_cons_succ]
    refine wpAnyS_done (b := true) (d := true) (by kernel_rfl) (by kernel_rfl) (by kernel_rfl) rfl (fun w5 hS => ?_) _
    have HI5 : Hid (WkI C (setSp (settleF k) i fun p => { p with high := h0 + fl }) Af cf Ao4 co4 w5) := Lib.hid hS.1
    clear hS E0
    obtain ⟨c0, c1, c2, c3, c4, c5, c6, c7, c8, c9, c10, c11, c12⟩ := HI5.out.cs
    have HIL5 : Hid (i < (setSp (settleF k) i fun p => { p with high := h0 + fl }).sp.length) := Lib.hid (by rw [HI5.out.len]; exact hi)
    obtain ⟨s0, s1, s2, s3, s4⟩ := HI5.out.sc HIL5.out
    rw [show ((setSp (settleF k) i fun p => { p with high := h0 + fl }).sp[i]'HIL5.out).high = h0 + fl by unfold setSp; simp [List.getElem_modify]] at s2
    rw [show (setSp (settleF k) i fun p => { p with high := h0 + fl }).y = mk from HMM.out.symm] at c8
    have HB6 := Lib.hid (fun W6 (h : WkI C (setSp (settleF k) i fun p => { p with high := h0 + fl }) Af cf Ao4 co4 W6) => HBE.out _ _ _ _ _ _ h (mk + (h0 + fl)) below)
    go_upto_region 11 with (fail)
    go_still_tail 11, (by kernel_rfl)
    change wpList _ _ _ _ _ w5.drew
    have HI6 := Lib.hid (HB6.out _ (HI5.out.below (Below.refl _ _).drew))
    generalize w5.drew = w6 at HI6 ⊢
    clear c0 c1 c2 c3 c4 c5 c6 c7 c8 c9 c10 c11 c12 s0 s1 s2 s3 s4
    go_wp2_with (go_at_call 110; refine HI6.out.mono ?_; rintro e w7 ⟨⟨_, rfl⟩, hi7⟩; have HI7 := Lib.hid hi7; clear hi7)
    exact bodyPost_ret (results_none rfl _ _ _) rfl ⟨⟨_, rfl⟩, _, _, _, _, by rw [HKK.out.2, ← HMM.out]; exact HI7.out⟩
  · have e1 : (fl == 0) = false := by simpa using hf0
    clear hf hf0
    go_upto_region 8 with (first | (refine wpList_load_midG (by rfl) 69 (.tmp 6) rfl g 0 rfl (styCells s) _ (sty_rngF HB2.out) Try.underlying69 rfl (by kernel_rfl) ?_) | (refine wpList_load_midG (by rfl) 69 (.tmp 6) rfl g 0 rfl (styCells s) _ (sty_rngF (HB2.out.alloc _)) Try.underlying69 rfl (by kernel_rfl) ?_) | (go_at_call 145; refine (HFL.out _).mono ?_; rintro e w3 ⟨rfl, hw3⟩; subst hw3) | (go_at_call 78; refine (HH0.out _).mono ?_; rintro e w3 ⟨rfl, hw3⟩; subst hw3))
    obtain ⟨w3, hww3⟩ : ∃ w3, w3 = w2.alloc (.cells (styCells s).toArray 69) := ⟨_, rfl⟩
    have HI3 : Hid (WkI C k Af cf Ao co w3) := Lib.hid (by rw [hww3]; exact HI2.out.below ((Below.refl _ _).alloc (Nat.le_refl _) _))
    have HB3 : Hid (Blk w3 g 69 (styCells s).toArray) := Lib.hid (by rw [hww3]; exact HB2.out.alloc _)
    rw [← hww3]
    clear hww3
    clear s0 s1 s2 s3 s4
    obtain ⟨s0, s1, s2, s3, s4⟩ := HI3.out.sc HIL.out
    rw [← HOW.out, o1] at s3
    have HS3 := Lib.hid (HSE.out _ _ _ _ _ _ HI3.out HWB.out)
    have HNG : Hid (¬ cxBad C g) := Lib.hid (fun h => by rcases h with h | h; exact HB3.out.ne_ HI3.out.blk (by decide) h; exact HB3.out.ne_ HI3.out.spt (by decide) h)
    go_upto_region 10 with (go_at_call 71; refine HS3.out.mono ?_; rintro e w4 ⟨⟨_, rfl⟩, ⟨Ao4, co4, hi4⟩, k4⟩; have HI4 := Lib.hid hi4; have HB4 := Lib.hid (HB3.out.kp k4 HNG.out); clear hi4 k4)
    clear s0 s1 s2 s3 s4
    have HIL4 : Hid (i < (settleF k).sp.length) := Lib.hid (by rw [HI4.out.len]; exact hi)
    have E0 : WkI C (settleF k) Af cf Ao4 co4 w4.drew ∧ Blk w4.drew g 69 (styCells s).toArray := ⟨HI4.out.below (Below.refl _ _).drew, HB4.out.drew⟩
    refine wp_region_S (fun b _ _ W' => (if b then WkI C (setSp (settleF k) i fun p => { p with high := h0 + fl }) Af cf Ao4 co4 W' else WkI C (settleF k) Af cf Ao4 co4 W') ∧ Blk W' g 69 (styCells s).toArray) 8 1000 100000 false true (by kernel_rfl) (by kernel_rfl) (by kernel_rfl) (E0) ?_
    refine wpAnyS_take (i := 0) (v := ?_) rfl (by kernel_rfl) (by kernel_rfl) (by kernel_rfl) (fun _ _ _ h => h) (by rfl) (gives_pureF (by rfl) (by kernel_rfl) ?_) ?_
    rotate_left
    · intro d' u' W' hS'
      go_simp
      rfl
    try simp only [Act.put, List.setIfInBounds_toArray, List.set_cons_zero, List.set_cons_succ, List.getElem_toArray, List.getElem_cons_zero, List.getElem_cons_succ]
    refine wpAnyS_take (i := 1) (v := .agg (styCells s).toArray) rfl (by kernel_rfl) (by kernel_rfl) (by kernel_rfl) (fun _ _ _ h => h) (by rfl) (gives_yields ?_) ?_
    · refine yieldsIf_load_mid (by rfl) 69 (.tmp 6) rfl (g) 0 rfl (styCells s) _ ?_ Try.underlying69 rfl (by kernel_rfl)
      rintro W' ⟨b', d', u', hS'⟩
      exact (sty_rngF hS'.2)
    try simp only [Act.put, List.setIfInBounds_toArray, List.set_cons_zero, List.set_cons_succ, List.getElem_toArray, List.getElem_cons_zero, List.getElem_cons_succ]
    refine wpAnyS_take (i := 2) (v := _) rfl (by kernel_rfl) (by kernel_rfl) (by kernel_rfl) (fun _ _ _ h => h) (by rfl) (gives_callF (by rfl) (by kernel_rfl) _ _ ?_ (fun d' u' W' hS' => (HH0.out W').mono (fun _ _ h => ⟨h.1, h.2 ▸ ⟨(show WkI C (settleF k) Af cf Ao4 co4 W' from hS'.1).below ((Below.refl _ _).alloc (Nat.le_refl _) _), hS'.2.alloc _⟩⟩))) ?_
    · intro W'
      first | rfl | kernel_rfl
    try simp only [Act.put, List.setIfInBounds_toArray, List.set_cons_zero, List.set_cons_succ, List.getElem_toArray, List.getElem_cons_zero, List.getElem_cons_succ]
    refine wpAnyS_take (i := 3) (v := .agg (styCells s).toArray) rfl (by kernel_rfl) (by kernel_rfl) (by kernel_rfl) (fun _ _ _ h => h) (by rfl) (gives_yields ?_) ?_
    · refine yieldsIf_load_mid (by rfl) 69 (.tmp 6) rfl (g) 0 rfl (styCells s) _ ?_ Try.underlying69 rfl (by kernel_rfl)
      rintro W' ⟨b', d', u', hS'⟩
      exact (sty_rngF hS'.2)
    try simp only [Act.put, List.setIfInBounds_toArray, List.set_cons_zero, List.set_cons_succ, List.getElem_toArray, List.getElem_cons_zero, List.getElem_cons_succ]
    refine wpAnyS_take (i := 4) (v := _) rfl (by kernel_rfl) (by kernel_rfl) (by kernel_rfl) (fun _ _ _ h => h) (by rfl) (gives_callF (by rfl) (by kernel_rfl) _ _ ?_ (fun d' u' W' hS' => (HFL.out W').mono (fun _ _ h => ⟨h.1, h.2 ▸ ⟨(show WkI C (settleF k) Af cf Ao4 co4 W' from hS'.1).below ((Below.refl _ _).alloc (Nat.le_refl _) _), hS'.2.alloc _⟩⟩))) ?_
    · intro W'
      first | rfl | kernel_rfl
    try simp only [Act.put, List.setIfInBounds_toArray, List.set_cons_zero, List.set_cons_succ, List.getElem_toArray, List.getElem_cons_zero, List.getElem_cons_succ]
    refine wpAnyS_take (i := 5) (v := ?_) rfl (by kernel_rfl) (by kernel_rfl) (by kernel_rfl) (fun _ _ _ h => h) (by rfl) (gives_pureF (by rfl) (by kernel_rfl) ?_) ?_
    rotate_left
    · intro d' u' W' hS'
      go_simp
      rfl
    try simp only [Act.put, List.setIfInBounds_toArray, List.set_cons_zero, List.set_cons_succ, List.getElem_toArray, List.getElem_cons_zero, List.getElem_cons_succ]
    refine wpAnyS_take (i := 6) (v := ?_) rfl (by kernel_rfl) (by kernel_rfl) (by kernel_rfl) (fun _ _ _ h => h) (by rfl) (gives_pureF (by rfl) (by kernel_rfl) ?_) ?_
    rotate_left
    · intro d' u' W' hS'
      go_simp
      rfl
    try simp only [Act.put, List.setIfInBounds_toArray, List.set_cons_zero, List.set_cons_succ, List.getElem_toArray, List.getElem_cons_zero, List.getElem_cons_succ]
    refine wpAnyS_take (i := 7) (v := ?_) rfl (by kernel_rfl) (by kernel_rfl) (by kernel_rfl) (fun _ _ _ h => h) (by rfl) (gives_pureF (by rfl) (by kernel_rfl) ?_) ?_
    rotate_left
    · intro d' u' W' hS'
      go_simp
      rfl
    try simp only [Act.put, List.setIfInBounds_toArray, List.set_cons_zero, List.set_cons_succ, List.getElem_toArray, List.getElem_cons_zero, List.getElem_cons_succ]
    refine wpAnyS_store (i := 8) (d := true) (fun W' => W'.setCell ⟨C.bs, i * 7 + 2, none⟩ (.int .i64 (h0 + fl))) rfl (by kernel_rfl) (by rfl) (by rfl) (by kernel_rfl) rfl ?_ (fun W' hS' => ⟨(show WkI C (settleF k) Af cf Ao4 co4 W' from hS'.1).setS HC.out HIL4.out 2 (by omega) _ (fun p => { p with high := h0 + fl }) (fun _ => rfl), hS'.2.far (fun e => HNG.out (.inr e)) _⟩) ?_
    · intro W' hS'
      have hh : WkI C (settleF k) Af cf Ao4 co4 W' := hS'.1
      obtain ⟨s0, s1, s2, s3, s4⟩ := hh.sc HIL4.out
      have fs := (wk_fr hh).2
      clear hh
      go_simp
      try rfl
    try simp only [Act.put, List.setIfInBounds_toArray, List.set_cons_zero, List.set_cons_succ, List.getElem_toArray, List.getElem_cons_zero, List.getElem_cons_succ]
    refine wpAnyS_done (b := true) (d := true) (by kernel_rfl) (by kernel_rfl) (by kernel_rfl) rfl (fun w5 hS => ?_) _
    have HI5 : Hid (WkI C (setSp (settleF k) i fun p => { p with high := h0 + fl }) Af cf Ao4 co4 w5) := Lib.hid hS.1
    clear hS E0
    obtain ⟨c0, c1, c2, c3, c4, c5, c6, c7, c8, c9, c10, c11, c12⟩ := HI5.out.cs
    have HIL5 : Hid (i < (setSp (settleF k) i fun p => { p with high := h0 + fl }).sp.length) := Lib.hid (by rw [HI5.out.len]; exact hi)
    obtain ⟨s0, s1, s2, s3, s4⟩ := HI5.out.sc HIL5.out
    rw [show ((setSp (settleF k) i fun p => { p with high := h0 + fl }).sp[i]'HIL5.out).high = h0 + fl by unfold setSp; simp [List.getElem_modify]] at s2
    rw [show (setSp (settleF k) i fun p => { p with high := h0 + fl }).y = mk from HMM.out.symm] at c8
    have HB6 := Lib.hid (fun W6 (h : WkI C (setSp (settleF k) i fun p => { p with high := h0 + fl }) Af cf Ao4 co4 W6) => HBE.out _ _ _ _ _ _ h (mk + (h0 + fl)) below)
    go_upto_region 11 with (fail)
    go_still_tail 11, (by kernel_rfl)
    change wpList _ _ _ _ _ w5.drew
    have HI6 := Lib.hid (HB6.out _ (HI5.out.below (Below.refl _ _).drew))
    generalize w5.drew = w6 at HI6 ⊢
    clear c0 c1 c2 c3 c4 c5 c6 c7 c8 c9 c10 c11 c12 s0 s1 s2 s3 s4
    go_wp2_with (go_at_call 110; refine HI6.out.mono ?_; rintro e w7 ⟨⟨_, rfl⟩, hi7⟩; have HI7 := Lib.hid hi7; clear hi7)
    exact bodyPost_ret (results_none rfl _ _ _) rfl ⟨⟨_, rfl⟩, _, _, _, _, by rw [HKK.out.2, ← HMM.out]; exact HI7.out⟩
set_option maxRecDepth 100000 in
set_option maxHeartbeats 2000000 in
theorem leave_a (hC : CxOk C) (h : WkI C k Af cf Ao co W) (i : Nat) (hi : i < C.l.length) (below : Int) (hwb : wkB k = true) (k' : Wk) (hk' : leaveF C.l[i].s k i below = some k') (ho : ∀ own, k.sp[i]? = some own → own.op = false) :
    Calls Try.prog 111 #[.pointer (some ⟨C.bw, 0, none⟩), .int .i64 i, .int .i64 below] W fun e w' => (∃ v, e = .returned v) ∧ ∃ Af' cf' Ao' co', WkI C k' Af' cf' Ao' co' w' := by
  obtain ⟨ad, hA, hb, hadw, hads, hnd⟩ := WkI.nd C k Af Ao cf co W hC h i hi
  have HST := Lib.hid (hC.sty _ (List.getElem_mem hi))
  obtain ⟨_, _, _, huv⟩ := hC.uv _ (List.getElem_mem hi)
  have HO := Lib.hid (Sty.one C.l[i].s huv)
  have HSF : Hid (styF C.l i = some C.l[i].s) := Lib.hid (by unfold styF; rw [List.getElem?_eq_getElem hi]; rfl)
  have HRNG := Lib.hid (nd_range hnd)
  have HMG := Lib.hid (fun k' Af' cf' Ao' co' W' (h : WkI C k' Af' cf' Ao' co' W') (h0 : 0 < i) => margins_any C k' Af' Ao' cf' co' W' hC h i hi h0)
  obtain ⟨s, hs⟩ : ∃ s, s = C.l[i].s := ⟨_, rfl⟩
  rw [← hs] at HST HO HSF HRNG HMG
  have HI := Lib.hid h
  have HC := Lib.hid hC
  obtain ⟨c0, c1, c2, c3, c4, c5, c6, c7, c8, c9, c10, c11, c12⟩ := h.cs
  rw [hA] at c0
  clear huv hnd hC h hadw hads
  rw [← hs] at hk'
  clear hs
  have HWB := Lib.hid hwb
  have HK := Lib.hid hk'
  have HSP := Lib.hid (fun k' Af' cf' Ao' co' W' (h : WkI C k' Af' cf' Ao' co' W') => spot_any C k' Af' Ao' cf' co' W' HC.out h i hi)
  have HMK := Lib.hid (fun k' Af' cf' Ao' co' W' (h : WkI C k' Af' cf' Ao' co' W') (hb : wkB k' = true) => mark_any C k' Af' Ao' cf' co' W' HC.out h hb)
  have HSE := Lib.hid (fun k' Af' cf' Ao' co' W' (h : WkI C k' Af' cf' Ao' co' W') (hb : wkB k' = true) => settle_any C k' Af' Ao' cf' co' W' HC.out h hb)
  have HBE := Lib.hid (fun k' Af' cf' Ao' co' W' (h : WkI C k' Af' cf' Ao' co' W') y below => behind_any C k' Af' Ao' cf' co' W' HC.out h y below)
  have HJO := Lib.hid (fun (st : Stt) (m : Int) W' => join_any st m W')
  have HRO := Lib.hid (fun W' => roof_any s W' HST.out.1)
  have HFL := Lib.hid (fun W' => floor_any s W' HST.out.1)
  have HHG := Lib.hid (fun a W' => high_any s a W' HST.out.1)
  have HIL : Hid (i < k.sp.length) := Lib.hid (by rw [HI.out.len]; exact hi)
  obtain ⟨own, hown⟩ : ∃ own, own = k.sp[i]'HIL.out := ⟨_, rfl⟩
  have HSO : Hid (k.sp[i]? = some own) := Lib.hid (by rw [hown, List.getElem?_eq_getElem])
  have HOW := Lib.hid hown
  obtain ⟨fl, hfl⟩ : ∃ fl, fl = floorF s := ⟨_, rfl⟩
  obtain ⟨ro, hro⟩ : ∃ ro, ro = roofF s := ⟨_, rfl⟩
  obtain ⟨h0, hh0⟩ : ∃ h0, h0 = highF s 0 := ⟨_, rfl⟩
  rw [← hfl] at HFL
  rw [← hro] at HRO
  have HFF : Hid (0 ≤ fl ∧ fl ≤ 2097152 ∧ 0 ≤ ro ∧ ro ≤ 2097152 ∧ 0 ≤ h0) := Lib.hid (by rw [hfl, hro, hh0]; exact ⟨(floor_bd HST.out.1).1, (floor_bd HST.out.1).2, (roof_bd HST.out.1).1, (roof_bd HST.out.1).2, high_nn _ _⟩)
  have HEQ : Hid (fl = floorF s ∧ ro = roofF s ∧ h0 = highF s 0) := Lib.hid ⟨hfl, hro, hh0⟩
  have HH0 := Lib.hid (HHG.out 0)
  rw [← hh0] at HH0
  clear hk' hwb hown hfl hro hh0
  have o1 : own.op = false := ho own HSO.out
  have hff := HFF.out
  obtain ⟨k1, hk1⟩ : ∃ k1, k1 = if 0 < fl then settleF k else k := ⟨_, rfl⟩
  have HK1 := Lib.hid hk1
  have HL1 : Hid (i < k1.sp.length) := Lib.hid (by
    rw [hk1]; split
    · show i < (shutAll _ _ _).length; rw [shutAll_len]; exact HIL.out
    · exact HIL.out)
  obtain ⟨ow, how⟩ : ∃ ow, ow = k1.sp[i]'HL1.out := ⟨_, rfl⟩
  obtain ⟨av, hav⟩ : ∃ av, av = k1.y - ow.top - ro := ⟨_, rfl⟩
  obtain ⟨hv, hhv⟩ : ∃ hv, hv = highF s av := ⟨_, rfl⟩
  have HKK : Hid ((if s.h.k = 0 ∧ hv = av ∧ fl = 0 then chk (joinS (setSp k1 i fun p => { p with high := ro + hv + fl }) below) else chk (behindF (setSp k1 i fun p => { p with high := ro + hv + fl }) (ow.top + (ro + hv + fl)) below)) = some k') := Lib.hid (by
    have h := HK.out
    unfold leaveF at h
    rw [HSO.out] at h
    simp only at h
    rw [o1, if_neg (by simp), if_neg (by simp), ← HEQ.out.1, ← hk1, List.getElem?_eq_getElem HL1.out, ← how] at h
    simp only at h
    rw [← HEQ.out.2.1, ← hav, ← hhv] at h
    exact h)
  have HKB : Hid ((-1125899906842624 ≤ ow.top ∧ ow.top ≤ 1125899906842624) ∧ (-1125899906842624 ≤ ro + hv + fl ∧ ro + hv + fl ≤ 1125899906842624)) := Lib.hid (by
    have key : ∀ k2 : Wk, k2.sp = (setSp k1 i fun p => { p with high := ro + hv + fl }).sp → wkB k2 = true → (-1125899906842624 ≤ ow.top ∧ ow.top ≤ 1125899906842624) ∧ (-1125899906842624 ≤ ro + hv + fl ∧ ro + hv + fl ≤ 1125899906842624) := by
      intro k2 e hb
      have hl : i < k2.sp.length := by rw [e]; show i < (List.modify _ _ _).length; rw [List.length_modify]; exact HL1.out
      have hs2 : k2.sp[i] = { ow with high := ro + hv + fl } := by
        have : k2.sp[i]? = some { ow with high := ro + hv + fl } := by
          rw [e]; unfold setSp; rw [List.getElem?_modify, List.getElem?_eq_getElem HL1.out, ← how]; simp
        rw [List.getElem?_eq_getElem hl] at this
        simpa using this
      have hh := spB_at hb hl
      rw [hs2] at hh
      exact hh.2
    have h := HKK.out
    split at h
    · exact key (joinS _ below) rfl (chk_p h).1
    · exact key (behindF _ _ below) rfl (chk_p h).1)
  have hkb := HKB.out
  have hvn : 0 ≤ hv := by rw [hhv]; exact high_nn _ _
  have hy1 : -4503599627370496 ≤ k1.y ∧ k1.y ≤ 4503599627370496 := by
    have hp := wkB_p HWB.out
    unfold lim at hp
    rw [hk1]; split
    · show _ ≤ markF k ∧ markF k ≤ _; unfold markF sumF; omega
    · omega
  have u1 : IntKind.i64.wrap (k1.y - ow.top) = k1.y - ow.top := IntWalk.i64_in _ ⟨by omega, by omega⟩
  have u2 : IntKind.i64.wrap (k1.y - ow.top - ro) = av := by rw [hav]; exact IntWalk.i64_in _ ⟨by omega, by omega⟩
  have u3 : IntKind.i64.wrap (ro + hv) = ro + hv := IntWalk.i64_in _ ⟨by omega, by omega⟩
  have u4 : IntKind.i64.wrap (ro + hv + fl) = ro + hv + fl := IntWalk.i64_in _ ⟨by omega, by omega⟩
  have u5 : IntKind.i64.wrap (ow.top + (ro + hv + fl)) = ow.top + (ro + hv + fl) := IntWalk.i64_in _ ⟨by omega, by omega⟩
  have HHV := Lib.hid (HHG.out av)
  rw [← hhv] at HHV
  obtain ⟨yv, hyv⟩ : ∃ yv, yv = k1.y := ⟨_, rfl⟩
  rw [← hyv] at u1 u2
  have HYV := Lib.hid hyv
  have HOW2 := Lib.hid how
  have HHK := Lib.hid (rfl : s.h.k = s.h.k)
  clear ho HK hff hk1 how hav hhv hkb hvn hy1 hyv HHG
  go_enter Try.func111, Try.ntmps111
  go_upto_region 1 with (first | refine wpList_load_mid rfl 69 (.tmp 17) rfl ad.block ((ad.add (i * 44)).off + 1) rfl (styCells s) _ HRNG.out Try.underlying69 rfl (by kernel_rfl) ?_ | refine wpList_store_new rfl 69 _ _ rfl _ rfl (styCells s).toArray rfl rfl 69 _ (by kernel_rfl) rfl HO.out ?_)
  obtain ⟨w1, hw1⟩ : ∃ w1, w1 = W.alloc (.cells (styCells s).toArray 69) := ⟨_, rfl⟩
  have HB1 : Hid (Blk w1 W.heap.size 69 (styCells s).toArray) := Lib.hid (by rw [hw1]; exact Blk.new _ _ _)
  have HI1 : Hid (WkI C k Af cf Ao co w1) := Lib.hid (by rw [hw1]; exact HI.out.below ((Below.refl _ _).alloc (Nat.le_refl _) _))
  have HL1 : Hid (Below W.heap.size W w1) := Lib.hid (by rw [hw1]; exact (Below.refl _ _).alloc (Nat.le_refl _) _)
  rw [← hw1]
  obtain ⟨g, hg⟩ : ∃ g, g = W.heap.size := ⟨_, rfl⟩
  rw [← hg] at HB1 ⊢
  have HG := Lib.hid hg
  clear hw1 hg c0 c1 c2 c3 c4 c5 c6 c7 c8 c9 c10 c11 c12 HRNG hb HI
  have HI1s := Lib.hid (HSP.out _ _ _ _ _ _ HI1.out)
  go_upto_region 2 with (go_at_call 42; refine HI1s.out.mono ?_; rintro e w2 ⟨rfl, hb2⟩; have HI2 := Lib.hid (HI1.out.below hb2); have HB2 := Lib.hid (HB1.out.below hb2 HB1.out.lt); clear hb2)
  obtain ⟨s0, s1, s2, s3, s4⟩ := HI2.out.sc HIL.out
  rw [← HOW.out] at s0 s1 s2 s3
  clear HI1s HI1 HB1 HL1 HG
  rw [o1] at s3
  go_upto_region 12 with (fail)
  clear s0 s1 s2 s3 s4
  have HNG : Hid (¬ cxBad C g) := Lib.hid (fun h => by rcases h with h | h; exact HB2.out.ne_ HI2.out.blk (by decide) h; exact HB2.out.ne_ HI2.out.spt (by decide) h)
  by_cases hf0 : 0 < fl
  · have e1 : decide (0 < fl) = true := decide_eq_true hf0
    have HK1b : Hid (k1 = settleF k) := Lib.hid (by rw [HK1.out, if_pos hf0])
    go_upto_region 13 with (first | (refine wpList_load_midG (by rfl) 69 (.tmp 6) rfl g 0 rfl (styCells s) _ (sty_rngF HB2.out) Try.underlying69 rfl (by kernel_rfl) ?_) | (go_at_call 145; refine (HFL.out _).mono ?_; rintro e w3 ⟨rfl, hw3⟩; subst hw3))
    obtain ⟨w3, hww3⟩ : ∃ w3, w3 = w2.alloc (.cells (styCells s).toArray 69) := ⟨_, rfl⟩
    have HI3 : Hid (WkI C k Af cf Ao co w3) := Lib.hid (by rw [hww3]; exact HI2.out.below ((Below.refl _ _).alloc (Nat.le_refl _) _))
    have HB3 : Hid (Blk w3 g 69 (styCells s).toArray) := Lib.hid (by rw [hww3]; exact HB2.out.alloc _)
    rw [← hww3]
    clear hww3
    have HS3 := Lib.hid (HSE.out _ _ _ _ _ _ HI3.out HWB.out)
    go_upto_region 14 with (go_at_call 71; refine HS3.out.mono ?_; rintro e w4 ⟨⟨_, rfl⟩, ⟨Ao4, co4, hi4⟩, k4⟩; have HI4 : Hid (WkI C k1 Af cf Ao4 co4 w4) := Lib.hid (by rw [HK1b.out]; exact hi4); have HB4 := Lib.hid (HB3.out.kp k4 HNG.out); clear hi4 k4)
    have E0 : WkI C k1 Af cf Ao4 co4 w4.drew ∧ Blk w4.drew g 69 (styCells s).toArray := ⟨HI4.out.below (Below.refl _ _).drew, HB4.out.drew⟩
    refine wp_region_S (fun _ _ _ W' => WkI C k1 Af cf Ao4 co4 W' ∧ Blk W' g 69 (styCells s).toArray) 1000 1000 100000 true true (by kernel_rfl) (by kernel_rfl) (by kernel_rfl) (E0) ?_
    refine wpAnyS_take (i := 0) (v := ?_) rfl (by kernel_rfl) (by kernel_rfl) (by kernel_rfl) (fun _ _ _ h => h) (by rfl) (gives_pure (by rfl) ?_) ?_
    rotate_left
    · intro b' d' u' W' hS'
      have hh : WkI C k1 Af cf Ao4 co4 W' := hS'.1
      obtain ⟨s0, s1, s2, s3, s4⟩ := hh.sc HL1.out
      rw [← HOW2.out] at s1
      have c8 := hh.c 8 (v := .int .i64 k1.y) rfl
      rw [← HYV.out] at c8
      clear hh
      go_simp
      rfl
    try simp only [Act.put, List.setIfInBounds_toArray, List.set_cons_zero, List.set_cons_succ, List.getElem_toArray, List.getElem_cons_zero, List.getElem_cons_succ]
    refine wpAnyS_take (i := 1) (v := ?_) rfl (by kernel_rfl) (by kernel_rfl) (by kernel_rfl) (fun _ _ _ h => h) (by rfl) (gives_pure (by rfl) ?_) ?_
    rotate_left
    · intro b' d' u' W' hS'
      have hh : WkI C k1 Af cf Ao4 co4 W' := hS'.1
      obtain ⟨s0, s1, s2, s3, s4⟩ := hh.sc HL1.out
      rw [← HOW2.out] at s1
      have c8 := hh.c 8 (v := .int .i64 k1.y) rfl
      rw [← HYV.out] at c8
      clear hh
      go_simp
      rfl
    try simp only [Act.put, List.setIfInBounds_toArray, List.set_cons_zero, List.set_cons_succ, List.getElem_toArray, List.getElem_cons_zero, List.getElem_cons_succ]
    refine wpAnyS_take (i := 2) (v := ?_) rfl (by kernel_rfl) (by kernel_rfl) (by kernel_rfl) (fun _ _ _ h => h) (by rfl) (gives_pure (by rfl) ?_) ?_
    rotate_left
    · intro b' d' u' W' hS'
      have hh : WkI C k1 Af cf Ao4 co4 W' := hS'.1
      obtain ⟨s0, s1, s2, s3, s4⟩ := hh.sc HL1.out
      rw [← HOW2.out] at s1
      have c8 := hh.c 8 (v := .int .i64 k1.y) rfl
      rw [← HYV.out] at c8
      clear hh
      go_simp
      rfl
    try simp only [Act.put, List.setIfInBounds_toArray, List.set_cons_zero, List.set_cons_succ, List.getElem_toArray, List.getElem_cons_zero, List.getElem_cons_succ]
    refine wpAnyS_take (i := 3) (v := ?_) rfl (by kernel_rfl) (by kernel_rfl) (by kernel_rfl) (fun _ _ _ h => h) (by rfl) (gives_pure (by rfl) ?_) ?_
    rotate_left
    · intro b' d' u' W' hS'
      have hh : WkI C k1 Af cf Ao4 co4 W' := hS'.1
      obtain ⟨s0, s1, s2, s3, s4⟩ := hh.sc HL1.out
      rw [← HOW2.out] at s1
      have c8 := hh.c 8 (v := .int .i64 k1.y) rfl
      rw [← HYV.out] at c8
      clear hh
      go_simp
      rfl
    try simp only [Act.put, List.setIfInBounds_toArray, List.set_cons_zero, List.set_cons_succ, List.getElem_toArray, List.getElem_cons_zero, List.getElem_cons_succ]
    refine wpAnyS_take (i := 4) (v := ?_) rfl (by kernel_rfl) (by kernel_rfl) (by kernel_rfl) (fun _ _ _ h => h) (by rfl) (gives_pure (by rfl) ?_) ?_
    rotate_left
    · intro b' d' u' W' hS'
      have hh : WkI C k1 Af cf Ao4 co4 W' := hS'.1
      obtain ⟨s0, s1, s2, s3, s4⟩ := hh.sc HL1.out
      rw [← HOW2.out] at s1
      have c8 := hh.c 8 (v := .int .i64 k1.y) rfl
      rw [← HYV.out] at c8
      clear hh
      go_simp
      rfl
    try simp only [Act.put, List.setIfInBounds_toArray, List.set_cons_zero, List.set_cons_succ, List.getElem_toArray, List.getElem_cons_zero, List.getElem_cons_succ]
    refine wpAnyS_take (i := 5) (v := ?_) rfl (by kernel_rfl) (by kernel_rfl) (by kernel_rfl) (fun _ _ _ h => h) (by rfl) (gives_pure (by rfl) ?_) ?_
    rotate_left
    · intro b' d' u' W' hS'
      have hh : WkI C k1 Af cf Ao4 co4 W' := hS'.1
      obtain ⟨s0, s1, s2, s3, s4⟩ := hh.sc HL1.out
      rw [← HOW2.out] at s1
      have c8 := hh.c 8 (v := .int .i64 k1.y) rfl
      rw [← HYV.out] at c8
      clear hh
      go_simp
      rfl
    try simp only [Act.put, List.setIfInBounds_toArray, List.set_cons_zero, List.set_cons_succ, List.getElem_toArray, List.getElem_cons_zero, List.getElem_cons_succ]
    refine wpAnyS_take (i := 6) (v := ?_) rfl (by kernel_rfl) (by kernel_rfl) (by kernel_rfl) (fun _ _ _ h => h) (by rfl) (gives_pure (by rfl) ?_) ?_
    rotate_left
    · intro b' d' u' W' hS'
      have hh : WkI C k1 Af cf Ao4 co4 W' := hS'.1
      obtain ⟨s0, s1, s2, s3, s4⟩ := hh.sc HL1.out
      rw [← HOW2.out] at s1
      have c8 := hh.c 8 (v := .int .i64 k1.y) rfl
      rw [← HYV.out] at c8
      clear hh
      go_simp
      rfl
    try simp only [Act.put, List.setIfInBounds_toArray, List.set_cons_zero, List.set_cons_succ, List.getElem_toArray, List.getElem_cons_zero, List.getElem_cons_succ]
    refine wpAnyS_take (i := 7) (v := ?_) rfl (by kernel_rfl) (by kernel_rfl) (by kernel_rfl) (fun _ _ _ h => h) (by rfl) (gives_pure (by rfl) ?_) ?_
    rotate_left
    · intro b' d' u' W' hS'
      have hh : WkI C k1 Af cf Ao4 co4 W' := hS'.1
      obtain ⟨s0, s1, s2, s3, s4⟩ := hh.sc HL1.out
      rw [← HOW2.out] at s1
      have c8 := hh.c 8 (v := .int .i64 k1.y) rfl
      rw [← HYV.out] at c8
      clear hh
      go_simp
      rfl
    try simp only [Act.put, List.setIfInBounds_toArray, List.set_cons_zero, List.set_cons_succ, List.getElem_toArray, List.getElem_cons_zero, List.getElem_cons_succ]
    refine wpAnyS_take (i := 8) (v := ?_) rfl (by kernel_rfl) (by kernel_rfl) (by kernel_rfl) (fun _ _ _ h => h) (by rfl) (gives_pure (by rfl) ?_) ?_
    rotate_left
    · intro b' d' u' W' hS'
      have hh : WkI C k1 Af cf Ao4 co4 W' := hS'.1
      obtain ⟨s0, s1, s2, s3, s4⟩ := hh.sc HL1.out
      rw [← HOW2.out] at s1
      have c8 := hh.c 8 (v := .int .i64 k1.y) rfl
      rw [← HYV.out] at c8
      clear hh
      go_simp
      rfl
    try simp only [Act.put, List.setIfInBounds_toArray, List.set_cons_zero, List.set_cons_succ, List.getElem_toArray, List.getElem_cons_zero, List.getElem_cons_succ]
    refine wpAnyS_take (i := 9) (v := .agg (styCells s).toArray) rfl (by kernel_rfl) (by kernel_rfl) (by kernel_rfl) (fun _ _ _ h => h) (by rfl) (gives_yields ?_) ?_
    · refine yieldsIf_load_mid (by rfl) 69 (.tmp 6) rfl (g) 0 rfl (styCells s) _ ?_ Try.underlying69 rfl (by kernel_rfl)
      rintro W' ⟨b', d', u', hS'⟩
      exact (sty_rngF hS'.2)
    try simp only [Act.put, List.setIfInBounds_toArray, List.set_cons_zero, List.set_cons_succ, List.getElem_toArray, List.getElem_cons_zero, List.getElem_cons_succ]
    refine wpAnyS_take (i := 10) (v := _) rfl (by kernel_rfl) (by kernel_rfl) (by kernel_rfl) (fun _ _ _ h => h) (by rfl) (gives_call (by rfl) _ _ ?_ (fun b' d' u' W' hS' => (HRO.out W').mono (fun _ _ h => ⟨h.1, h.2 ▸ ⟨(show WkI C k1 Af cf Ao4 co4 W' from hS'.1).below ((Below.refl _ _).alloc (Nat.le_refl _) _), hS'.2.alloc _⟩⟩))) ?_
    · intro W'
      first | rfl | kernel_rfl
    try simp only [Act.put, List.setIfInBounds_toArray, List.set_cons_zero, List.set_cons_succ, List.getElem_toArray, List.getElem_cons_zero, List.getElem_cons_succ]
    refine wpAnyS_take (i := 11) (v := ?_) rfl (by kernel_rfl) (by kernel_rfl) (by kernel_rfl) (fun _ _ _ h => h) (by rfl) (gives_pure (by rfl) ?_) ?_
    rotate_left
    · intro b' d' u' W' hS'
      have hh : WkI C k1 Af cf Ao4 co4 W' := hS'.1
      obtain ⟨s0, s1, s2, s3, s4⟩ := hh.sc HL1.out
      rw [← HOW2.out] at s1
      have c8 := hh.c 8 (v := .int .i64 k1.y) rfl
      rw [← HYV.out] at c8
      clear hh
      go_simp
      rfl
    try simp only [Act.put, List.setIfInBounds_toArray, List.set_cons_zero, List.set_cons_succ, List.getElem_toArray, List.getElem_cons_zero, List.getElem_cons_succ]
    refine wpAnyS_take (i := 12) (v := ?_) rfl (by kernel_rfl) (by kernel_rfl) (by kernel_rfl) (fun _ _ _ h => h) (by rfl) (gives_pure (by rfl) ?_) ?_
    rotate_left
    · intro b' d' u' W' hS'
      have hh : WkI C k1 Af cf Ao4 co4 W' := hS'.1
      obtain ⟨s0, s1, s2, s3, s4⟩ := hh.sc HL1.out
      rw [← HOW2.out] at s1
      have c8 := hh.c 8 (v := .int .i64 k1.y) rfl
      rw [← HYV.out] at c8
      clear hh
      go_simp
      rfl
    try simp only [Act.put, List.setIfInBounds_toArray, List.set_cons_zero, List.set_cons_succ, List.getElem_toArray, List.getElem_cons_zero, List.getElem_cons_succ]
    refine wpAnyS_done (b := true) (d := true) (by kernel_rfl) (by kernel_rfl) (by kernel_rfl) rfl (fun w5 hS => ?_) _
    have HI5 : Hid (WkI C k1 Af cf Ao4 co4 w5) := Lib.hid hS.1
    have HB5 := Lib.hid hS.2
    clear hS E0
    go_upto_region 16 with (first | (refine wpList_load_midG (by rfl) 69 (.tmp 6) rfl g 0 rfl (styCells s) _ (sty_rngF HB5.out) Try.underlying69 rfl (by kernel_rfl) ?_) | (go_at_call 78; refine (HHV.out _).mono ?_; rintro e w6 ⟨rfl, hw6⟩; subst hw6))
    obtain ⟨w6, hww6⟩ : ∃ w6, w6 = w5.alloc (.cells (styCells s).toArray 69) := ⟨_, rfl⟩
    have HI6 : Hid (WkI C k1 Af cf Ao4 co4 w6) := Lib.hid (by rw [hww6]; exact HI5.out.below ((Below.refl _ _).alloc (Nat.le_refl _) _))
    have HB6 : Hid (Blk w6 g 69 (styCells s).toArray) := Lib.hid (by rw [hww6]; exact HB5.out.alloc _)
    rw [← hww6]
    clear hww6
    have E0 : WkI C k1 Af cf Ao4 co4 w6.drew ∧ Blk w6.drew g 69 (styCells s).toArray := ⟨HI6.out.below (Below.refl _ _).drew, HB6.out.drew⟩
    refine wp_region_S (fun b _ _ W' => (if b then WkI C (setSp k1 i fun p => { p with high := ro + hv + fl }) Af cf Ao4 co4 W' else WkI C k1 Af cf Ao4 co4 W') ∧ Blk W' g 69 (styCells s).toArray) 10 1000 100000 false true (by kernel_rfl) (by kernel_rfl) (by kernel_rfl) (E0) ?_
    refine wpAnyS_take (i := 0) (v := ?_) rfl (by kernel_rfl) (by kernel_rfl) (by kernel_rfl) (fun _ _ _ h => h) (by rfl) (gives_pureF (by rfl) (by kernel_rfl) ?_) ?_
    rotate_left
    · intro d' u' W' hS'
      go_simp
      rfl
    try simp only [Act.put, List.setIfInBounds_toArray, List.set_cons_zero, List.set_cons_succ, List.getElem_toArray, List.getElem_cons_zero, List.getElem_cons_succ]
    refine wpAnyS_take (i := 1) (v := .agg (styCells s).toArray) rfl (by kernel_rfl) (by kernel_rfl) (by kernel_rfl) (fun _ _ _ h => h) (by rfl) (gives_yields ?_) ?_
    · refine yieldsIf_load_mid (by rfl) 69 (.tmp 6) rfl (g) 0 rfl (styCells s) _ ?_ Try.underlying69 rfl (by kernel_rfl)
      rintro W' ⟨b', d', u', hS'⟩
      exact (sty_rngF hS'.2)
    try simp only [Act.put, List.setIfInBounds_toArray, List.set_cons_zero, List.set_cons_succ, List.getElem_toArray, List.getElem_cons_zero, List.getElem_cons_succ]
    refine wpAnyS_take (i := 2) (v := _) rfl (by kernel_rfl) (by kernel_rfl) (by kernel_rfl) (fun _ _ _ h => h) (by rfl) (gives_callF (by rfl) (by kernel_rfl) _ _ ?_ (fun d' u' W' hS' => (HRO.out W').mono (fun _ _ h => ⟨h.1, h.2 ▸ ⟨(show WkI C k1 Af cf Ao4 co4 W' from hS'.1).below ((Below.refl _ _).alloc (Nat.le_refl _) _), hS'.2.alloc _⟩⟩))) ?_
    · intro W'
      first | rfl | kernel_rfl
    try simp only [Act.put, List.setIfInBounds_toArray, List.set_cons_zero, List.set_cons_succ, List.getElem_toArray, List.getElem_cons_zero, List.getElem_cons_succ]
    refine wpAnyS_take (i := 3) (v := ?_) rfl (by kernel_rfl) (by kernel_rfl) (by kernel_rfl) (fun _ _ _ h => h) (by rfl) (gives_pureF (by rfl) (by kernel_rfl) ?_) ?_
    rotate_left
    · intro d' u' W' hS'
      go_simp
      rfl
    try simp only [Act.put, List.setIfInBounds_toArray, List.set_cons_zero, List.set_cons_succ, List.getElem_toArray, List.getElem_cons_zero, List.getElem_cons_succ]
    refine wpAnyS_take (i := 4) (v := ?_) rfl (by kernel_rfl) (by kernel_rfl) (by kernel_rfl) (fun _ _ _ h => h) (by rfl) (gives_pureF (by rfl) (by kernel_rfl) ?_) ?_
    rotate_left
    · intro d' u' W' hS'
      go_simp
      rfl
    try simp only [Act.put, List.setIfInBounds_toArray, List.set_cons_zero, List.set_cons_succ, List.getElem_toArray, List.getElem_cons_zero, List.getElem_cons_succ]
    refine wpAnyS_take (i := 5) (v := .agg (styCells s).toArray) rfl (by kernel_rfl) (by kernel_rfl) (by kernel_rfl) (fun _ _ _ h => h) (by rfl) (gives_yields ?_) ?_
    · refine yieldsIf_load_mid (by rfl) 69 (.tmp 6) rfl (g) 0 rfl (styCells s) _ ?_ Try.underlying69 rfl (by kernel_rfl)
      rintro W' ⟨b', d', u', hS'⟩
      exact (sty_rngF hS'.2)
    try simp only [Act.put, List.setIfInBounds_toArray, List.set_cons_zero, List.set_cons_succ, List.getElem_toArray, List.getElem_cons_zero, List.getElem_cons_succ]
    refine wpAnyS_take (i := 6) (v := _) rfl (by kernel_rfl) (by kernel_rfl) (by kernel_rfl) (fun _ _ _ h => h) (by rfl) (gives_callF (by rfl) (by kernel_rfl) _ _ ?_ (fun d' u' W' hS' => (HFL.out W').mono (fun _ _ h => ⟨h.1, h.2 ▸ ⟨(show WkI C k1 Af cf Ao4 co4 W' from hS'.1).below ((Below.refl _ _).alloc (Nat.le_refl _) _), hS'.2.alloc _⟩⟩))) ?_
    · intro W'
      first | rfl | kernel_rfl
    try simp only [Act.put, List.setIfInBounds_toArray, List.set_cons_zero, List.set_cons_succ, List.getElem_toArray, List.getElem_cons_zero, List.getElem_cons_succ]
    refine wpAnyS_take (i := 7) (v := ?_) rfl (by kernel_rfl) (by kernel_rfl) (by kernel_rfl) (fun _ _ _ h => h) (by rfl) (gives_pureF (by rfl) (by kernel_rfl) ?_) ?_
    rotate_left
    · intro d' u' W' hS'
      go_simp
      rfl
    try simp only [Act.put, List.setIfInBounds_toArray, List.set_cons_zero, List.set_cons_succ, List.getElem_toArray, List.getElem_cons_zero, List.getElem_cons_succ]
    refine wpAnyS_take (i := 8) (v := ?_) rfl (by kernel_rfl) (by kernel_rfl) (by kernel_rfl) (fun _ _ _ h => h) (by rfl) (gives_pureF (by rfl) (by kernel_rfl) ?_) ?_
    rotate_left
    · intro d' u' W' hS'
      go_simp
      rfl
    try simp only [Act.put, List.setIfInBounds_toArray, List.set_cons_zero, List.set_cons_succ, List.getElem_toArray, List.getElem_cons_zero, List.getElem_cons_succ]
    refine wpAnyS_take (i := 9) (v := ?_) rfl (by kernel_rfl) (by kernel_rfl) (by kernel_rfl) (fun _ _ _ h => h) (by rfl) (gives_pureF (by rfl) (by kernel_rfl) ?_) ?_
    rotate_left
    · intro d' u' W' hS'
      go_simp
      rfl
    try simp only [Act.put, List.setIfInBounds_toArray, List.set_cons_zero, List.set_cons_succ, List.getElem_toArray, List.getElem_cons_zero, List.getElem_cons_succ]
    refine wpAnyS_store (i := 10) (d := true) (fun W' => W'.setCell ⟨C.bs, i * 7 + 2, none⟩ (.int .i64 (ro + hv + fl))) rfl (by kernel_rfl) (by rfl) (by rfl) (by kernel_rfl) rfl ?_ (fun W' hS' => ⟨(show WkI C k1 Af cf Ao4 co4 W' from hS'.1).setS HC.out HL1.out 2 (by omega) _ (fun p => { p with high := ro + hv + fl }) (fun _ => rfl), hS'.2.far (fun e => HNG.out (.inr e)) _⟩) ?_
    · intro W' hS'
      have hh : WkI C k1 Af cf Ao4 co4 W' := hS'.1
      obtain ⟨s0, s1, s2, s3, s4⟩ := hh.sc HL1.out
      have fs := (wk_fr hh).2
      clear hh
      go_simp
      try rfl
    try simp only [Act.put, List.setIfInBounds_toArray, List.set_cons_zero, List.set_cons_succ, List.getElem_toArray, List.getElem_cons_zero, List.getElem_cons_succ]
    refine wpAnyS_done (b := true) (d := true) (by kernel_rfl) (by kernel_rfl) (by kernel_rfl) rfl (fun w7 hS => ?_) _
    have HI7 : Hid (WkI C (setSp k1 i fun p => { p with high := ro + hv + fl }) Af cf Ao4 co4 w7) := Lib.hid hS.1
    have HB7 := Lib.hid hS.2
    clear hS E0
    have y6 := HB7.out.get 6 (v := .int .u8 s.h.k) rfl
    obtain ⟨hk, hhk⟩ : ∃ hk, s.h.k = hk := ⟨_, rfl⟩
    rw [hhk] at y6
    have HHK2 := Lib.hid hhk
    clear hhk
    by_cases q1 : hk = 0
    · have p1 : (hk == 0) = true := by simp [q1]
      by_cases q2 : hv = av
      · have p2 : (hv == av) = true := by simp [q2]
        have HQ2 := Lib.hid q2
        clear q2
        by_cases q3 : fl = 0
        · have p3 : (fl == 0) = true := by simp [q3]
          have HKE : Hid (k' = joinS (setSp k1 i fun p => { p with high := ro + hv + fl }) below) := Lib.hid (by have h := HKK.out; rw [if_pos ⟨HHK2.out.trans q1, HQ2.out, q3⟩] at h; exact (chk_p h).2)
          clear q1 q3
          go_upto_region 18 with (first | (refine wpList_load_midG (by rfl) 69 (.tmp 6) rfl g 0 rfl (styCells s) _ (sty_rngF HB7.out) Try.underlying69 rfl (by kernel_rfl) ?_) | (go_at_call 145; refine (HFL.out _).mono ?_; rintro e w3 ⟨rfl, hw3⟩; subst hw3))
          obtain ⟨w8, hww8⟩ : ∃ w8, w8 = w7.alloc (.cells (styCells s).toArray 69) := ⟨_, rfl⟩
          have HI8 : Hid (WkI C (setSp k1 i fun p => { p with high := ro + hv + fl }) Af cf Ao4 co4 w8) := Lib.hid (by rw [hww8]; exact HI7.out.below ((Below.refl _ _).alloc (Nat.le_refl _) _))
          rw [← hww8]
          clear hww8
          clear y6
          obtain ⟨c0, c1, c2, c3, c4, c5, c6, c7, c8, c9, c10, c11, c12⟩ := HI8.out.cs
          go_wp2_with (go_at_call 109; refine (HJO.out (setSp k1 i fun p => { p with high := ro + hv + fl }).st below _).mono ?_; rintro e w9 ⟨rfl, hw9⟩; have HI9 := Lib.hid (HI8.out.below (hw9 ▸ ((Below.refl _ _).alloc (Nat.le_refl _) _).alloc (by simp) _)); clear hw9; obtain ⟨c0, c1, c2, c3, c4, c5, c6, c7, c8, c9, c10, c11, c12⟩ := HI9.out.cs; have fw := (wk_fr HI9.out).1)
          have HI10 := Lib.hid (HI9.out.setSt HC.out (joinF (setSp k1 i fun p => { p with high := ro + hv + fl }).st below))
          exact bodyPost_ret (results_none rfl _ _ _) rfl ⟨⟨_, rfl⟩, _, _, _, _, by rw [HKE.out]; exact HI10.out⟩
        · have p3 : (fl == 0) = false := by simpa using q3
          have HQ3 := Lib.hid q3
          clear q1 q3
          go_upto_region 19 with (first | (refine wpList_load_midG (by rfl) 69 (.tmp 6) rfl g 0 rfl (styCells s) _ (sty_rngF HB7.out) Try.underlying69 rfl (by kernel_rfl) ?_) | (go_at_call 145; refine (HFL.out _).mono ?_; rintro e w3 ⟨rfl, hw3⟩; subst hw3))
          obtain ⟨w8, hww8⟩ : ∃ w8, w8 = w7.alloc (.cells (styCells s).toArray 69) := ⟨_, rfl⟩
          have HI8 : Hid (WkI C (setSp k1 i fun p => { p with high := ro + hv + fl }) Af cf Ao4 co4 w8) := Lib.hid (by rw [hww8]; exact HI7.out.below ((Below.refl _ _).alloc (Nat.le_refl _) _))
          rw [← hww8]
          clear hww8
          clear y6
          have HKE : Hid (k' = behindF (setSp k1 i fun p => { p with high := ro + hv + fl }) (ow.top + (ro + hv + fl)) below) := Lib.hid (by have h := HKK.out; rw [if_neg (fun h => HQ3.out h.2.2)] at h; exact (chk_p h).2)
          have HIL8 : Hid (i < (setSp k1 i fun p => { p with high := ro + hv + fl }).sp.length) := Lib.hid (by rw [HI8.out.len]; exact hi)
          obtain ⟨s0, s1, s2, s3, s4⟩ := HI8.out.sc HIL8.out
          rw [show ((setSp k1 i fun p => { p with high := ro + hv + fl }).sp[i]'HIL8.out).high = ro + hv + fl by unfold setSp; simp [List.getElem_modify]] at s2
          rw [show ((setSp k1 i fun p => { p with high := ro + hv + fl }).sp[i]'HIL8.out).top = ow.top by rw [HOW2.out]; unfold setSp; simp [List.getElem_modify]] at s1
          have HB9 := Lib.hid (fun W9 (h : WkI C (setSp k1 i fun p => { p with high := ro + hv + fl }) Af cf Ao4 co4 W9) => HBE.out _ _ _ _ _ _ h (ow.top + (ro + hv + fl)) below)
          go_upto_region 19 with (fail)
          go_still_tail 11, (by kernel_rfl)
          change wpList _ _ _ _ _ w8.drew
          have HI9 := Lib.hid (HB9.out _ (HI8.out.below (Below.refl _ _).drew))
          generalize w8.drew = w9 at HI9 ⊢
          clear s0 s1 s2 s3 s4
          go_wp2_with (go_at_call 110; refine HI9.out.mono ?_; rintro e w10 ⟨⟨_, rfl⟩, hi10⟩; have HI10 := Lib.hid hi10; clear hi10)
          go_end0
          exact ⟨⟨_, rfl⟩, _, _, _, _, by rw [HKE.out]; exact HI10.out⟩
      · have p2 : (hv == av) = false := by simpa using q2
        have HQ2 := Lib.hid q2
        clear q1 q2
        go_upto_region 19 with (fail)
        clear y6
        have HKE : Hid (k' = behindF (setSp k1 i fun p => { p with high := ro + hv + fl }) (ow.top + (ro + hv + fl)) below) := Lib.hid (by have h := HKK.out; rw [if_neg (fun h => HQ2.out h.2.1)] at h; exact (chk_p h).2)
        have HIL8 : Hid (i < (setSp k1 i fun p => { p with high := ro + hv + fl }).sp.length) := Lib.hid (by rw [HI7.out.len]; exact hi)
        obtain ⟨s0, s1, s2, s3, s4⟩ := HI7.out.sc HIL8.out
        rw [show ((setSp k1 i fun p => { p with high := ro + hv + fl }).sp[i]'HIL8.out).high = ro + hv + fl by unfold setSp; simp [List.getElem_modify]] at s2
        rw [show ((setSp k1 i fun p => { p with high := ro + hv + fl }).sp[i]'HIL8.out).top = ow.top by rw [HOW2.out]; unfold setSp; simp [List.getElem_modify]] at s1
        have HB9 := Lib.hid (fun W9 (h : WkI C (setSp k1 i fun p => { p with high := ro + hv + fl }) Af cf Ao4 co4 W9) => HBE.out _ _ _ _ _ _ h (ow.top + (ro + hv + fl)) below)
        go_upto_region 19 with (fail)
        go_still_tail 11, (by kernel_rfl)
        change wpList _ _ _ _ _ w7.drew
        have HI9 := Lib.hid (HB9.out _ (HI7.out.below (Below.refl _ _).drew))
        generalize w7.drew = w9 at HI9 ⊢
        clear s0 s1 s2 s3 s4
        go_wp2_with (go_at_call 110; refine HI9.out.mono ?_; rintro e w10 ⟨⟨_, rfl⟩, hi10⟩; have HI10 := Lib.hid hi10; clear hi10)
        go_end0
        exact ⟨⟨_, rfl⟩, _, _, _, _, by rw [HKE.out]; exact HI10.out⟩
    · have p1 : (hk == 0) = false := by simpa using q1
      have HQ1 := Lib.hid q1
      clear q1
      go_upto_region 19 with (fail)
      clear y6
      have HKE : Hid (k' = behindF (setSp k1 i fun p => { p with high := ro + hv + fl }) (ow.top + (ro + hv + fl)) below) := Lib.hid (by have h := HKK.out; rw [if_neg (fun h => HQ1.out (HHK2.out.symm.trans h.1))] at h; exact (chk_p h).2)
      have HIL8 : Hid (i < (setSp k1 i fun p => { p with high := ro + hv + fl }).sp.length) := Lib.hid (by rw [HI7.out.len]; exact hi)
      obtain ⟨s0, s1, s2, s3, s4⟩ := HI7.out.sc HIL8.out
      rw [show ((setSp k1 i fun p => { p with high := ro + hv + fl }).sp[i]'HIL8.out).high = ro + hv + fl by unfold setSp; simp [List.getElem_modify]] at s2
      rw [show ((setSp k1 i fun p => { p with high := ro + hv + fl }).sp[i]'HIL8.out).top = ow.top by rw [HOW2.out]; unfold setSp; simp [List.getElem_modify]] at s1
      have HB9 := Lib.hid (fun W9 (h : WkI C (setSp k1 i fun p => { p with high := ro + hv + fl }) Af cf Ao4 co4 W9) => HBE.out _ _ _ _ _ _ h (ow.top + (ro + hv + fl)) below)
      go_upto_region 19 with (fail)
      go_still_tail 11, (by kernel_rfl)
      change wpList _ _ _ _ _ w7.drew
      have HI9 := Lib.hid (HB9.out _ (HI7.out.below (Below.refl _ _).drew))
      generalize w7.drew = w9 at HI9 ⊢
      clear s0 s1 s2 s3 s4
      go_wp2_with (go_at_call 110; refine HI9.out.mono ?_; rintro e w10 ⟨⟨_, rfl⟩, hi10⟩; have HI10 := Lib.hid hi10; clear hi10)
      go_end0
      exact ⟨⟨_, rfl⟩, _, _, _, _, by rw [HKE.out]; exact HI10.out⟩
  · have e1 : decide (0 < fl) = false := decide_eq_false hf0
    have HK1b : Hid (k1 = k) := Lib.hid (by rw [HK1.out, if_neg hf0])
    go_upto_region 14 with (first | (refine wpList_load_midG (by rfl) 69 (.tmp 6) rfl g 0 rfl (styCells s) _ (sty_rngF HB2.out) Try.underlying69 rfl (by kernel_rfl) ?_) | (go_at_call 145; refine (HFL.out _).mono ?_; rintro e w3 ⟨rfl, hw3⟩; subst hw3))
    have HI2k : Hid (WkI C k1 Af cf Ao co w2) := Lib.hid (by rw [HK1b.out]; exact HI2.out)
    obtain ⟨w4, hww4⟩ : ∃ w4, w4 = w2.alloc (.cells (styCells s).toArray 69) := ⟨_, rfl⟩
    have HI4 : Hid (WkI C k1 Af cf Ao co w4) := Lib.hid (by rw [hww4]; exact HI2k.out.below ((Below.refl _ _).alloc (Nat.le_refl _) _))
    have HB4 : Hid (Blk w4 g 69 (styCells s).toArray) := Lib.hid (by rw [hww4]; exact HB2.out.alloc _)
    rw [← hww4]
    clear hww4
    have E0 : WkI C k1 Af cf Ao co w4.drew ∧ Blk w4.drew g 69 (styCells s).toArray := ⟨HI4.out.below (Below.refl _ _).drew, HB4.out.drew⟩
    refine wp_region_S (fun _ _ _ W' => WkI C k1 Af cf Ao co W' ∧ Blk W' g 69 (styCells s).toArray) 1000 1000 100000 true true (by kernel_rfl) (by kernel_rfl) (by kernel_rfl) (E0) ?_
    refine wpAnyS_take (i := 0) (v := ?_) rfl (by kernel_rfl) (by kernel_rfl) (by kernel_rfl) (fun _ _ _ h => h) (by rfl) (gives_pure (by rfl) ?_) ?_
    rotate_left
    · intro b' d' u' W' hS'
      have hh : WkI C k1 Af cf Ao co W' := hS'.1
      obtain ⟨s0, s1, s2, s3, s4⟩ := hh.sc HL1.out
      rw [← HOW2.out] at s1
      have c8 := hh.c 8 (v := .int .i64 k1.y) rfl
      rw [← HYV.out] at c8
      clear hh
      go_simp
      rfl
    try simp only [Act.put, List.setIfInBounds_toArray, List.set_cons_zero, List.set_cons_succ, List.getElem_toArray, List.getElem_cons_zero, List.getElem_cons_succ]
    refine wpAnyS_take (i := 1) (v := ?_) rfl (by kernel_rfl) (by kernel_rfl) (by kernel_rfl) (fun _ _ _ h => h) (by rfl) (gives_pure (by rfl) ?_) ?_
    rotate_left
    · intro b' d' u' W' hS'
      have hh : WkI C k1 Af cf Ao co W' := hS'.1
      obtain ⟨s0, s1, s2, s3, s4⟩ := hh.sc HL1.out
      rw [← HOW2.out] at s1
      have c8 := hh.c 8 (v := .int .i64 k1.y) rfl
      rw [← HYV.out] at c8
      clear hh
      go_simp
      rfl
    try simp only [Act.put, List.setIfInBounds_toArray, List.set_cons_zero, List.set_cons_succ, List.getElem_toArray, List.getElem_cons_zero, List.getElem_cons_succ]
    refine wpAnyS_take (i := 2) (v := ?_) rfl (by kernel_rfl) (by kernel_rfl) (by kernel_rfl) (fun _ _ _ h => h) (by rfl) (gives_pure (by rfl) ?_) ?_
    rotate_left
    · intro b' d' u' W' hS'
      have hh : WkI C k1 Af cf Ao co W' := hS'.1
      obtain ⟨s0, s1, s2, s3, s4⟩ := hh.sc HL1.out
      rw [← HOW2.out] at s1
      have c8 := hh.c 8 (v := .int .i64 k1.y) rfl
      rw [← HYV.out] at c8
      clear hh
      go_simp
      rfl
    try simp only [Act.put, List.setIfInBounds_toArray, List.set_cons_zero, List.set_cons_succ, List.getElem_toArray, List.getElem_cons_zero, List.getElem_cons_succ]
    refine wpAnyS_take (i := 3) (v := ?_) rfl (by kernel_rfl) (by kernel_rfl) (by kernel_rfl) (fun _ _ _ h => h) (by rfl) (gives_pure (by rfl) ?_) ?_
    rotate_left
    · intro b' d' u' W' hS'
      have hh : WkI C k1 Af cf Ao co W' := hS'.1
      obtain ⟨s0, s1, s2, s3, s4⟩ := hh.sc HL1.out
      rw [← HOW2.out] at s1
      have c8 := hh.c 8 (v := .int .i64 k1.y) rfl
      rw [← HYV.out] at c8
      clear hh
      go_simp
      rfl
    try simp only [Act.put, List.setIfInBounds_toArray, List.set_cons_zero, List.set_cons_succ, List.getElem_toArray, List.getElem_cons_zero, List.getElem_cons_succ]
    refine wpAnyS_take (i := 4) (v := ?_) rfl (by kernel_rfl) (by kernel_rfl) (by kernel_rfl) (fun _ _ _ h => h) (by rfl) (gives_pure (by rfl) ?_) ?_
    rotate_left
    · intro b' d' u' W' hS'
      have hh : WkI C k1 Af cf Ao co W' := hS'.1
      obtain ⟨s0, s1, s2, s3, s4⟩ := hh.sc HL1.out
      rw [← HOW2.out] at s1
      have c8 := hh.c 8 (v := .int .i64 k1.y) rfl
      rw [← HYV.out] at c8
      clear hh
      go_simp
      rfl
    try simp only [Act.put, List.setIfInBounds_toArray, List.set_cons_zero, List.set_cons_succ, List.getElem_toArray, List.getElem_cons_zero, List.getElem_cons_succ]
    refine wpAnyS_take (i := 5) (v := ?_) rfl (by kernel_rfl) (by kernel_rfl) (by kernel_rfl) (fun _ _ _ h => h) (by rfl) (gives_pure (by rfl) ?_) ?_
    rotate_left
    · intro b' d' u' W' hS'
      have hh : WkI C k1 Af cf Ao co W' := hS'.1
      obtain ⟨s0, s1, s2, s3, s4⟩ := hh.sc HL1.out
      rw [← HOW2.out] at s1
      have c8 := hh.c 8 (v := .int .i64 k1.y) rfl
      rw [← HYV.out] at c8
      clear hh
      go_simp
      rfl
    try simp only [Act.put, List.setIfInBounds_toArray, List.set_cons_zero, List.set_cons_succ, List.getElem_toArray, List.getElem_cons_zero, List.getElem_cons_succ]
    refine wpAnyS_take (i := 6) (v := ?_) rfl (by kernel_rfl) (by kernel_rfl) (by kernel_rfl) (fun _ _ _ h => h) (by rfl) (gives_pure (by rfl) ?_) ?_
    rotate_left
    · intro b' d' u' W' hS'
      have hh : WkI C k1 Af cf Ao co W' := hS'.1
      obtain ⟨s0, s1, s2, s3, s4⟩ := hh.sc HL1.out
      rw [← HOW2.out] at s1
      have c8 := hh.c 8 (v := .int .i64 k1.y) rfl
      rw [← HYV.out] at c8
      clear hh
      go_simp
      rfl
    try simp only [Act.put, List.setIfInBounds_toArray, List.set_cons_zero, List.set_cons_succ, List.getElem_toArray, List.getElem_cons_zero, List.getElem_cons_succ]
    refine wpAnyS_take (i := 7) (v := ?_) rfl (by kernel_rfl) (by kernel_rfl) (by kernel_rfl) (fun _ _ _ h => h) (by rfl) (gives_pure (by rfl) ?_) ?_
    rotate_left
    · intro b' d' u' W' hS'
      have hh : WkI C k1 Af cf Ao co W' := hS'.1
      obtain ⟨s0, s1, s2, s3, s4⟩ := hh.sc HL1.out
      rw [← HOW2.out] at s1
      have c8 := hh.c 8 (v := .int .i64 k1.y) rfl
      rw [← HYV.out] at c8
      clear hh
      go_simp
      rfl
    try simp only [Act.put, List.setIfInBounds_toArray, List.set_cons_zero, List.set_cons_succ, List.getElem_toArray, List.getElem_cons_zero, List.getElem_cons_succ]
    refine wpAnyS_take (i := 8) (v := ?_) rfl (by kernel_rfl) (by kernel_rfl) (by kernel_rfl) (fun _ _ _ h => h) (by rfl) (gives_pure (by rfl) ?_) ?_
    rotate_left
    · intro b' d' u' W' hS'
      have hh : WkI C k1 Af cf Ao co W' := hS'.1
      obtain ⟨s0, s1, s2, s3, s4⟩ := hh.sc HL1.out
      rw [← HOW2.out] at s1
      have c8 := hh.c 8 (v := .int .i64 k1.y) rfl
      rw [← HYV.out] at c8
      clear hh
      go_simp
      rfl
    try simp only [Act.put, List.setIfInBounds_toArray, List.set_cons_zero, List.set_cons_succ, List.getElem_toArray, List.getElem_cons_zero, List.getElem_cons_succ]
    refine wpAnyS_take (i := 9) (v := .agg (styCells s).toArray) rfl (by kernel_rfl) (by kernel_rfl) (by kernel_rfl) (fun _ _ _ h => h) (by rfl) (gives_yields ?_) ?_
    · refine yieldsIf_load_mid (by rfl) 69 (.tmp 6) rfl (g) 0 rfl (styCells s) _ ?_ Try.underlying69 rfl (by kernel_rfl)
      rintro W' ⟨b', d', u', hS'⟩
      exact (sty_rngF hS'.2)
    try simp only [Act.put, List.setIfInBounds_toArray, List.set_cons_zero, List.set_cons_succ, List.getElem_toArray, List.getElem_cons_zero, List.getElem_cons_succ]
    refine wpAnyS_take (i := 10) (v := _) rfl (by kernel_rfl) (by kernel_rfl) (by kernel_rfl) (fun _ _ _ h => h) (by rfl) (gives_call (by rfl) _ _ ?_ (fun b' d' u' W' hS' => (HRO.out W').mono (fun _ _ h => ⟨h.1, h.2 ▸ ⟨(show WkI C k1 Af cf Ao co W' from hS'.1).below ((Below.refl _ _).alloc (Nat.le_refl _) _), hS'.2.alloc _⟩⟩))) ?_
    · intro W'
      first | rfl | kernel_rfl
    try simp only [Act.put, List.setIfInBounds_toArray, List.set_cons_zero, List.set_cons_succ, List.getElem_toArray, List.getElem_cons_zero, List.getElem_cons_succ]
    refine wpAnyS_take (i := 11) (v := ?_) rfl (by kernel_rfl) (by kernel_rfl) (by kernel_rfl) (fun _ _ _ h => h) (by rfl) (gives_pure (by rfl) ?_) ?_
    rotate_left
    · intro b' d' u' W' hS'
      have hh : WkI C k1 Af cf Ao co W' := hS'.1
      obtain ⟨s0, s1, s2, s3, s4⟩ := hh.sc HL1.out
      rw [← HOW2.out] at s1
      have c8 := hh.c 8 (v := .int .i64 k1.y) rfl
      rw [← HYV.out] at c8
      clear hh
      go_simp
      rfl
    try simp only [Act.put, List.setIfInBounds_toArray, List.set_cons_zero, List.set_cons_succ, List.getElem_toArray, List.getElem_cons_zero, List.getElem_cons_succ]
    refine wpAnyS_take (i := 12) (v := ?_) rfl (by kernel_rfl) (by kernel_rfl) (by kernel_rfl) (fun _ _ _ h => h) (by rfl) (gives_pure (by rfl) ?_) ?_
    rotate_left
    · intro b' d' u' W' hS'
      have hh : WkI C k1 Af cf Ao co W' := hS'.1
      obtain ⟨s0, s1, s2, s3, s4⟩ := hh.sc HL1.out
      rw [← HOW2.out] at s1
      have c8 := hh.c 8 (v := .int .i64 k1.y) rfl
      rw [← HYV.out] at c8
      clear hh
      go_simp
      rfl
    try simp only [Act.put, List.setIfInBounds_toArray, List.set_cons_zero, List.set_cons_succ, List.getElem_toArray, List.getElem_cons_zero, List.getElem_cons_succ]
    refine wpAnyS_done (b := true) (d := true) (by kernel_rfl) (by kernel_rfl) (by kernel_rfl) rfl (fun w5 hS => ?_) _
    have HI5 : Hid (WkI C k1 Af cf Ao co w5) := Lib.hid hS.1
    have HB5 := Lib.hid hS.2
    clear hS E0
    go_upto_region 16 with (first | (refine wpList_load_midG (by rfl) 69 (.tmp 6) rfl g 0 rfl (styCells s) _ (sty_rngF HB5.out) Try.underlying69 rfl (by kernel_rfl) ?_) | (go_at_call 78; refine (HHV.out _).mono ?_; rintro e w6 ⟨rfl, hw6⟩; subst hw6))
    obtain ⟨w6, hww6⟩ : ∃ w6, w6 = w5.alloc (.cells (styCells s).toArray 69) := ⟨_, rfl⟩
    have HI6 : Hid (WkI C k1 Af cf Ao co w6) := Lib.hid (by rw [hww6]; exact HI5.out.below ((Below.refl _ _).alloc (Nat.le_refl _) _))
    have HB6 : Hid (Blk w6 g 69 (styCells s).toArray) := Lib.hid (by rw [hww6]; exact HB5.out.alloc _)
    rw [← hww6]
    clear hww6
    have E0 : WkI C k1 Af cf Ao co w6.drew ∧ Blk w6.drew g 69 (styCells s).toArray := ⟨HI6.out.below (Below.refl _ _).drew, HB6.out.drew⟩
    refine wp_region_S (fun b _ _ W' => (if b then WkI C (setSp k1 i fun p => { p with high := ro + hv + fl }) Af cf Ao co W' else WkI C k1 Af cf Ao co W') ∧ Blk W' g 69 (styCells s).toArray) 10 1000 100000 false true (by kernel_rfl) (by kernel_rfl) (by kernel_rfl) (E0) ?_
    refine wpAnyS_take (i := 0) (v := ?_) rfl (by kernel_rfl) (by kernel_rfl) (by kernel_rfl) (fun _ _ _ h => h) (by rfl) (gives_pureF (by rfl) (by kernel_rfl) ?_) ?_
    rotate_left
    · intro d' u' W' hS'
      go_simp
      rfl
    try simp only [Act.put, List.setIfInBounds_toArray, List.set_cons_zero, List.set_cons_succ, List.getElem_toArray, List.getElem_cons_zero, List.getElem_cons_succ]
    refine wpAnyS_take (i := 1) (v := .agg (styCells s).toArray) rfl (by kernel_rfl) (by kernel_rfl) (by kernel_rfl) (fun _ _ _ h => h) (by rfl) (gives_yields ?_) ?_
    · refine yieldsIf_load_mid (by rfl) 69 (.tmp 6) rfl (g) 0 rfl (styCells s) _ ?_ Try.underlying69 rfl (by kernel_rfl)
      rintro W' ⟨b', d', u', hS'⟩
      exact (sty_rngF hS'.2)
    try simp only [Act.put, List.setIfInBounds_toArray, List.set_cons_zero, List.set_cons_succ, List.getElem_toArray, List.getElem_cons_zero, List.getElem_cons_succ]
    refine wpAnyS_take (i := 2) (v := _) rfl (by kernel_rfl) (by kernel_rfl) (by kernel_rfl) (fun _ _ _ h => h) (by rfl) (gives_callF (by rfl) (by kernel_rfl) _ _ ?_ (fun d' u' W' hS' => (HRO.out W').mono (fun _ _ h => ⟨h.1, h.2 ▸ ⟨(show WkI C k1 Af cf Ao co W' from hS'.1).below ((Below.refl _ _).alloc (Nat.le_refl _) _), hS'.2.alloc _⟩⟩))) ?_
    · intro W'
      first | rfl | kernel_rfl
    try simp only [Act.put, List.setIfInBounds_toArray, List.set_cons_zero, List.set_cons_succ, List.getElem_toArray, List.getElem_cons_zero, List.getElem_cons_succ]
    refine wpAnyS_take (i := 3) (v := ?_) rfl (by kernel_rfl) (by kernel_rfl) (by kernel_rfl) (fun _ _ _ h => h) (by rfl) (gives_pureF (by rfl) (by kernel_rfl) ?_) ?_
    rotate_left
    · intro d' u' W' hS'
      go_simp
      rfl
    try simp only [Act.put, List.setIfInBounds_toArray, List.set_cons_zero, List.set_cons_succ, List.getElem_toArray, List.getElem_cons_zero, List.getElem_cons_succ]
    refine wpAnyS_take (i := 4) (v := ?_) rfl (by kernel_rfl) (by kernel_rfl) (by kernel_rfl) (fun _ _ _ h => h) (by rfl) (gives_pureF (by rfl) (by kernel_rfl) ?_) ?_
    rotate_left
    · intro d' u' W' hS'
      go_simp
      rfl
    try simp only [Act.put, List.setIfInBounds_toArray, List.set_cons_zero, List.set_cons_succ, List.getElem_toArray, List.getElem_cons_zero, List.getElem_cons_succ]
    refine wpAnyS_take (i := 5) (v := .agg (styCells s).toArray) rfl (by kernel_rfl) (by kernel_rfl) (by kernel_rfl) (fun _ _ _ h => h) (by rfl) (gives_yields ?_) ?_
    · refine yieldsIf_load_mid (by rfl) 69 (.tmp 6) rfl (g) 0 rfl (styCells s) _ ?_ Try.underlying69 rfl (by kernel_rfl)
      rintro W' ⟨b', d', u', hS'⟩
      exact (sty_rngF hS'.2)
    try simp only [Act.put, List.setIfInBounds_toArray, List.set_cons_zero, List.set_cons_succ, List.getElem_toArray, List.getElem_cons_zero, List.getElem_cons_succ]
    refine wpAnyS_take (i := 6) (v := _) rfl (by kernel_rfl) (by kernel_rfl) (by kernel_rfl) (fun _ _ _ h => h) (by rfl) (gives_callF (by rfl) (by kernel_rfl) _ _ ?_ (fun d' u' W' hS' => (HFL.out W').mono (fun _ _ h => ⟨h.1, h.2 ▸ ⟨(show WkI C k1 Af cf Ao co W' from hS'.1).below ((Below.refl _ _).alloc (Nat.le_refl _) _), hS'.2.alloc _⟩⟩))) ?_
    · intro W'
      first | rfl | kernel_rfl
    try simp only [Act.put, List.setIfInBounds_toArray, List.set_cons_zero, List.set_cons_succ, List.getElem_toArray, List.getElem_cons_zero, List.getElem_cons_succ]
    refine wpAnyS_take (i := 7) (v := ?_) rfl (by kernel_rfl) (by kernel_rfl) (by kernel_rfl) (fun _ _ _ h => h) (by rfl) (gives_pureF (by rfl) (by kernel_rfl) ?_) ?_
    rotate_left
    · intro d' u' W' hS'
      go_simp
      rfl
    try simp only [Act.put, List.setIfInBounds_toArray, List.set_cons_zero, List.set_cons_succ, List.getElem_toArray, List.getElem_cons_zero, List.getElem_cons_succ]
    refine wpAnyS_take (i := 8) (v := ?_) rfl (by kernel_rfl) (by kernel_rfl) (by kernel_rfl) (fun _ _ _ h => h) (by rfl) (gives_pureF (by rfl) (by kernel_rfl) ?_) ?_
    rotate_left
    · intro d' u' W' hS'
      go_simp
      rfl
    try simp only [Act.put, List.setIfInBounds_toArray, List.set_cons_zero, List.set_cons_succ, List.getElem_toArray, List.getElem_cons_zero, List.getElem_cons_succ]
    refine wpAnyS_take (i := 9) (v := ?_) rfl (by kernel_rfl) (by kernel_rfl) (by kernel_rfl) (fun _ _ _ h => h) (by rfl) (gives_pureF (by rfl) (by kernel_rfl) ?_) ?_
    rotate_left
    · intro d' u' W' hS'
      go_simp
      rfl
    try simp only [Act.put, List.setIfInBounds_toArray, List.set_cons_zero, List.set_cons_succ, List.getElem_toArray, List.getElem_cons_zero, List.getElem_cons_succ]
    refine wpAnyS_store (i := 10) (d := true) (fun W' => W'.setCell ⟨C.bs, i * 7 + 2, none⟩ (.int .i64 (ro + hv + fl))) rfl (by kernel_rfl) (by rfl) (by rfl) (by kernel_rfl) rfl ?_ (fun W' hS' => ⟨(show WkI C k1 Af cf Ao co W' from hS'.1).setS HC.out HL1.out 2 (by omega) _ (fun p => { p with high := ro + hv + fl }) (fun _ => rfl), hS'.2.far (fun e => HNG.out (.inr e)) _⟩) ?_
    · intro W' hS'
      have hh : WkI C k1 Af cf Ao co W' := hS'.1
      obtain ⟨s0, s1, s2, s3, s4⟩ := hh.sc HL1.out
      have fs := (wk_fr hh).2
      clear hh
      go_simp
      try rfl
    try simp only [Act.put, List.setIfInBounds_toArray, List.set_cons_zero, List.set_cons_succ, List.getElem_toArray, List.getElem_cons_zero, List.getElem_cons_succ]
    refine wpAnyS_done (b := true) (d := true) (by kernel_rfl) (by kernel_rfl) (by kernel_rfl) rfl (fun w7 hS => ?_) _
    have HI7 : Hid (WkI C (setSp k1 i fun p => { p with high := ro + hv + fl }) Af cf Ao co w7) := Lib.hid hS.1
    have HB7 := Lib.hid hS.2
    clear hS E0
    have y6 := HB7.out.get 6 (v := .int .u8 s.h.k) rfl
    obtain ⟨hk, hhk⟩ : ∃ hk, s.h.k = hk := ⟨_, rfl⟩
    rw [hhk] at y6
    have HHK2 := Lib.hid hhk
    clear hhk
    by_cases q1 : hk = 0
    · have p1 : (hk == 0) = true := by simp [q1]
      by_cases q2 : hv = av
      · have p2 : (hv == av) = true := by simp [q2]
        have HQ2 := Lib.hid q2
        clear q2
        by_cases q3 : fl = 0
        · have p3 : (fl == 0) = true := by simp [q3]
          have HKE : Hid (k' = joinS (setSp k1 i fun p => { p with high := ro + hv + fl }) below) := Lib.hid (by have h := HKK.out; rw [if_pos ⟨HHK2.out.trans q1, HQ2.out, q3⟩] at h; exact (chk_p h).2)
          clear q1 q3
          go_upto_region 18 with (first | (refine wpList_load_midG (by rfl) 69 (.tmp 6) rfl g 0 rfl (styCells s) _ (sty_rngF HB7.out) Try.underlying69 rfl (by kernel_rfl) ?_) | (go_at_call 145; refine (HFL.out _).mono ?_; rintro e w3 ⟨rfl, hw3⟩; subst hw3))
          obtain ⟨w8, hww8⟩ : ∃ w8, w8 = w7.alloc (.cells (styCells s).toArray 69) := ⟨_, rfl⟩
          have HI8 : Hid (WkI C (setSp k1 i fun p => { p with high := ro + hv + fl }) Af cf Ao co w8) := Lib.hid (by rw [hww8]; exact HI7.out.below ((Below.refl _ _).alloc (Nat.le_refl _) _))
          rw [← hww8]
          clear hww8
          clear y6
          obtain ⟨c0, c1, c2, c3, c4, c5, c6, c7, c8, c9, c10, c11, c12⟩ := HI8.out.cs
          go_wp2_with (go_at_call 109; refine (HJO.out (setSp k1 i fun p => { p with high := ro + hv + fl }).st below _).mono ?_; rintro e w9 ⟨rfl, hw9⟩; have HI9 := Lib.hid (HI8.out.below (hw9 ▸ ((Below.refl _ _).alloc (Nat.le_refl _) _).alloc (by simp) _)); clear hw9; obtain ⟨c0, c1, c2, c3, c4, c5, c6, c7, c8, c9, c10, c11, c12⟩ := HI9.out.cs; have fw := (wk_fr HI9.out).1)
          have HI10 := Lib.hid (HI9.out.setSt HC.out (joinF (setSp k1 i fun p => { p with high := ro + hv + fl }).st below))
          exact bodyPost_ret (results_none rfl _ _ _) rfl ⟨⟨_, rfl⟩, _, _, _, _, by rw [HKE.out]; exact HI10.out⟩
        · have p3 : (fl == 0) = false := by simpa using q3
          have HQ3 := Lib.hid q3
          clear q1 q3
          go_upto_region 19 with (first | (refine wpList_load_midG (by rfl) 69 (.tmp 6) rfl g 0 rfl (styCells s) _ (sty_rngF HB7.out) Try.underlying69 rfl (by kernel_rfl) ?_) | (go_at_call 145; refine (HFL.out _).mono ?_; rintro e w3 ⟨rfl, hw3⟩; subst hw3))
          obtain ⟨w8, hww8⟩ : ∃ w8, w8 = w7.alloc (.cells (styCells s).toArray 69) := ⟨_, rfl⟩
          have HI8 : Hid (WkI C (setSp k1 i fun p => { p with high := ro + hv + fl }) Af cf Ao co w8) := Lib.hid (by rw [hww8]; exact HI7.out.below ((Below.refl _ _).alloc (Nat.le_refl _) _))
          rw [← hww8]
          clear hww8
          clear y6
          have HKE : Hid (k' = behindF (setSp k1 i fun p => { p with high := ro + hv + fl }) (ow.top + (ro + hv + fl)) below) := Lib.hid (by have h := HKK.out; rw [if_neg (fun h => HQ3.out h.2.2)] at h; exact (chk_p h).2)
          have HIL8 : Hid (i < (setSp k1 i fun p => { p with high := ro + hv + fl }).sp.length) := Lib.hid (by rw [HI8.out.len]; exact hi)
          obtain ⟨s0, s1, s2, s3, s4⟩ := HI8.out.sc HIL8.out
          rw [show ((setSp k1 i fun p => { p with high := ro + hv + fl }).sp[i]'HIL8.out).high = ro + hv + fl by unfold setSp; simp [List.getElem_modify]] at s2
          rw [show ((setSp k1 i fun p => { p with high := ro + hv + fl }).sp[i]'HIL8.out).top = ow.top by rw [HOW2.out]; unfold setSp; simp [List.getElem_modify]] at s1
          have HB9 := Lib.hid (fun W9 (h : WkI C (setSp k1 i fun p => { p with high := ro + hv + fl }) Af cf Ao co W9) => HBE.out _ _ _ _ _ _ h (ow.top + (ro + hv + fl)) below)
          go_upto_region 19 with (fail)
          go_still_tail 11, (by kernel_rfl)
          change wpList _ _ _ _ _ w8.drew
          have HI9 := Lib.hid (HB9.out _ (HI8.out.below (Below.refl _ _).drew))
          generalize w8.drew = w9 at HI9 ⊢
          clear s0 s1 s2 s3 s4
          go_wp2_with (go_at_call 110; refine HI9.out.mono ?_; rintro e w10 ⟨⟨_, rfl⟩, hi10⟩; have HI10 := Lib.hid hi10; clear hi10)
          go_end0
          exact ⟨⟨_, rfl⟩, _, _, _, _, by rw [HKE.out]; exact HI10.out⟩
      · have p2 : (hv == av) = false := by simpa using q2
        have HQ2 := Lib.hid q2
        clear q1 q2
        go_upto_region 19 with (fail)
        clear y6
        have HKE : Hid (k' = behindF (setSp k1 i fun p => { p with high := ro + hv + fl }) (ow.top + (ro + hv + fl)) below) := Lib.hid (by have h := HKK.out; rw [if_neg (fun h => HQ2.out h.2.1)] at h; exact (chk_p h).2)
        have HIL8 : Hid (i < (setSp k1 i fun p => { p with high := ro + hv + fl }).sp.length) := Lib.hid (by rw [HI7.out.len]; exact hi)
        obtain ⟨s0, s1, s2, s3, s4⟩ := HI7.out.sc HIL8.out
        rw [show ((setSp k1 i fun p => { p with high := ro + hv + fl }).sp[i]'HIL8.out).high = ro + hv + fl by unfold setSp; simp [List.getElem_modify]] at s2
        rw [show ((setSp k1 i fun p => { p with high := ro + hv + fl }).sp[i]'HIL8.out).top = ow.top by rw [HOW2.out]; unfold setSp; simp [List.getElem_modify]] at s1
        have HB9 := Lib.hid (fun W9 (h : WkI C (setSp k1 i fun p => { p with high := ro + hv + fl }) Af cf Ao co W9) => HBE.out _ _ _ _ _ _ h (ow.top + (ro + hv + fl)) below)
        go_upto_region 19 with (fail)
        go_still_tail 11, (by kernel_rfl)
        change wpList _ _ _ _ _ w7.drew
        have HI9 := Lib.hid (HB9.out _ (HI7.out.below (Below.refl _ _).drew))
        generalize w7.drew = w9 at HI9 ⊢
        clear s0 s1 s2 s3 s4
        go_wp2_with (go_at_call 110; refine HI9.out.mono ?_; rintro e w10 ⟨⟨_, rfl⟩, hi10⟩; have HI10 := Lib.hid hi10; clear hi10)
        go_end0
        exact ⟨⟨_, rfl⟩, _, _, _, _, by rw [HKE.out]; exact HI10.out⟩
    · have p1 : (hk == 0) = false := by simpa using q1
      have HQ1 := Lib.hid q1
      clear q1
      go_upto_region 19 with (fail)
      clear y6
      have HKE : Hid (k' = behindF (setSp k1 i fun p => { p with high := ro + hv + fl }) (ow.top + (ro + hv + fl)) below) := Lib.hid (by have h := HKK.out; rw [if_neg (fun h => HQ1.out (HHK2.out.symm.trans h.1))] at h; exact (chk_p h).2)
      have HIL8 : Hid (i < (setSp k1 i fun p => { p with high := ro + hv + fl }).sp.length) := Lib.hid (by rw [HI7.out.len]; exact hi)
      obtain ⟨s0, s1, s2, s3, s4⟩ := HI7.out.sc HIL8.out
      rw [show ((setSp k1 i fun p => { p with high := ro + hv + fl }).sp[i]'HIL8.out).high = ro + hv + fl by unfold setSp; simp [List.getElem_modify]] at s2
      rw [show ((setSp k1 i fun p => { p with high := ro + hv + fl }).sp[i]'HIL8.out).top = ow.top by rw [HOW2.out]; unfold setSp; simp [List.getElem_modify]] at s1
      have HB9 := Lib.hid (fun W9 (h : WkI C (setSp k1 i fun p => { p with high := ro + hv + fl }) Af cf Ao co W9) => HBE.out _ _ _ _ _ _ h (ow.top + (ro + hv + fl)) below)
      go_upto_region 19 with (fail)
      go_still_tail 11, (by kernel_rfl)
      change wpList _ _ _ _ _ w7.drew
      have HI9 := Lib.hid (HB9.out _ (HI7.out.below (Below.refl _ _).drew))
      generalize w7.drew = w9 at HI9 ⊢
      clear s0 s1 s2 s3 s4
      go_wp2_with (go_at_call 110; refine HI9.out.mono ?_; rintro e w10 ⟨⟨_, rfl⟩, hi10⟩; have HI10 := Lib.hid hi10; clear hi10)
      go_end0
      exact ⟨⟨_, rfl⟩, _, _, _, _, by rw [HKE.out]; exact HI10.out⟩
theorem leave_any (hC : CxOk C) (h : WkI C k Af cf Ao co W) (i : Nat) (hi : i < C.l.length) (below : Int) (hwb : wkB k = true) (k' : Wk) (hk' : leaveF C.l[i].s k i below = some k') :
    Calls Try.prog 111 #[.pointer (some ⟨C.bw, 0, none⟩), .int .i64 i, .int .i64 below] W fun e w' => (∃ v, e = .returned v) ∧ ∃ Af' cf' Ao' co', WkI C k' Af' cf' Ao' co' w' := by
  have hil : i < k.sp.length := by rw [h.len]; exact hi
  cases ho : k.sp[i].op
  · exact leave_a C k Af Ao cf co W hC h i hi below hwb k' hk' (fun own e => by rw [List.getElem?_eq_getElem hil] at e; cases e; exact ho)
  · by_cases hf : floorF C.l[i].s = 0 ∧ highF C.l[i].s 0 = 0
    · exact leave_d C k Af Ao cf co W hC h i hi below hwb k' hk' (fun own e => by rw [List.getElem?_eq_getElem hil] at e; cases e; exact ho) hf.1 hf.2
    · exact leave_b C k Af Ao cf co W hC h i hi below hwb k' hk' (fun own e => by rw [List.getElem?_eq_getElem hil] at e; cases e; exact ho) hf
end
end Go.Proofs.Ytlebbkhhhmempaa
