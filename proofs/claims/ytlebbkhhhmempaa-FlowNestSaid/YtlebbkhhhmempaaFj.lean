/- Contracts: kind, float, enter, leave of flow's walk. -/
import Derived.Test.YtlebbkhhhmempaaFi
set_option linter.unusedSimpArgs false
set_option linter.unusedVariables false
namespace Go.Proofs.Ytlebbkhhhmempaa
open Go.RowKit
attribute [local go_sem] block_of_add
section
variable (C : Cx) (k : Wk) (Af Ao : Option Addr) (cf co : Nat) (W : World)
attribute [local go_sem] fld_w fld_l
set_option maxRecDepth 100000 in
set_option maxHeartbeats 2000000 in
theorem kind_any (hC : CxOk C) (h : WkI C k Af cf Ao co W) (i : Nat) (hi : i < C.l.length) (h0 : 0 < i) :
    Calls Try.prog 73 #[.pointer (some ⟨C.bw, 0, none⟩), .int .i64 i] W fun e w' => e = .returned (if C.l[i].s.float = 0 then .iface 163 (.int .i64 i) else .iface 160 (.int .i64 i)) ∧ Below W.heap.size W w' := by
  obtain ⟨ad, hA, hb, hadw, hads, hnd⟩ := WkI.nd C k Af Ao cf co W hC h i hi
  have HST := Lib.hid (hC.sty _ (List.getElem_mem hi))
  obtain ⟨_, _, _, huv⟩ := hC.uv _ (List.getElem_mem hi)
  have HO := Lib.hid (Sty.one C.l[i].s huv)
  have HSF : Hid (styF C.l i = some C.l[i].s) := Lib.hid (by unfold styF; rw [List.getElem?_eq_getElem hi]; rfl)
  have HRNG := Lib.hid (nd_range hnd)
  have HMG := Lib.hid (fun k' Af' cf' Ao' co' W' (h : WkI C k' Af' cf' Ao' co' W') (h0 : 0 < i) => margins_any C k' Af' Ao' cf' co' W' hC h i hi h0)
  obtain ⟨s, hs⟩ : ∃ s, s = C.l[i].s := ⟨_, rfl⟩
  rw [← hs] at HST HO HSF HRNG HMG
  have HI := Lib.hid h
  have HC := Lib.hid hC
  obtain ⟨c0, c1, c2, c3, c4, c5, c6, c7, c8, c9, c10, c11, c12⟩ := h.cs
  rw [hA] at c0
  clear huv hnd hC h hadw hads
  have HRT := Lib.hid (fun W' (hb : Below W.heap.size W W') => rootT_any C.l C.A C.A2 C.c C.m C.c2 C.view W' i hi HC.out.n2 ((WkI.tr C k Af Ao cf co W' HC.out (HI.out.below hb))) (HC.out.par i hi) (fun x hx => (HC.out.sty x hx).1))
  have hrf : rootF C.l i = decide (s.float ≠ 0) := by unfold rootF; rw [HSF.out]; simp; omega
  rw [hrf, hA] at HRT
  rw [← hs]
  clear hs hrf
  obtain ⟨f, hf⟩ : ∃ f, s.float = f := ⟨_, rfl⟩
  rw [hf] at HRT ⊢
  have HF := Lib.hid hf
  by_cases hf0 : f = 0
  · rw [if_pos hf0]
    rw [show decide (f ≠ 0) = false by simp [hf0]] at HRT
    have d1 : (f != 0) = false := by simp [hf0]
    go_enter Try.func73, Try.ntmps73
    go_upto_region 2 with (first | refine wpList_load_mid rfl 69 (.tmp 13) rfl ad.block ((ad.add (i * 44)).off + 1) rfl (styCells s) _ HRNG.out Try.underlying69 rfl (by kernel_rfl) ?_ | refine wpList_store_new rfl 69 _ _ rfl _ rfl (styCells s).toArray rfl rfl 69 _ (by kernel_rfl) rfl HO.out ?_)
    obtain ⟨w1, hw1⟩ : ∃ w1, w1 = W.alloc (.cells (styCells s).toArray 69) := ⟨_, rfl⟩
    have HB1 : Hid (Blk w1 W.heap.size 69 (styCells s).toArray) := Lib.hid (by rw [hw1]; exact Blk.new _ _ _)
    have HI1 : Hid (WkI C k Af cf Ao co w1) := Lib.hid (by rw [hw1]; exact HI.out.below ((Below.refl _ _).alloc (Nat.le_refl _) _))
    have HL1 : Hid (Below W.heap.size W w1) := Lib.hid (by rw [hw1]; exact (Below.refl _ _).alloc (Nat.le_refl _) _)
    rw [← hw1]
    obtain ⟨g, hg⟩ : ∃ g, g = W.heap.size := ⟨_, rfl⟩
    rw [← hg] at HB1 ⊢
    have HG := Lib.hid hg
    clear hw1 hg c0 c1 c2 c3 c4 c5 c6 c7 c8 c9 c10 c11 c12 HRNG hb HI
    have y0 := HB1.out.get 0 (v := .int .u8 1) (by rw [← HST.out.1.kind]; rfl)
    have y2 := HB1.out.get 2 (v := .int .u8 f) (by rw [← HF.out]; rfl)
    obtain ⟨c0, c1, c2, c3, c4, c5, c6, c7, c8, c9, c10, c11, c12⟩ := HI1.out.cs
    have hz : C.bw < w1.heap.size := HI1.out.blk.lt
    have HRT1 := Lib.hid (HRT.out w1 HL1.out)
    clear HRT HG
    go_wp2_with (go_at_call 39; refine HRT1.out.mono ?_; rintro e w2 ⟨rfl, hb2⟩)
    go_ret
    exact ⟨rfl, HL1.out.trans (hb2.mono HL1.out.size)⟩
  · rw [if_neg hf0]
    have d1 : (f != 0) = true := by simp [hf0]
    go_enter Try.func73, Try.ntmps73
    go_upto_region 2 with (first | refine wpList_load_mid rfl 69 (.tmp 13) rfl ad.block ((ad.add (i * 44)).off + 1) rfl (styCells s) _ HRNG.out Try.underlying69 rfl (by kernel_rfl) ?_ | refine wpList_store_new rfl 69 _ _ rfl _ rfl (styCells s).toArray rfl rfl 69 _ (by kernel_rfl) rfl HO.out ?_)
    obtain ⟨w1, hw1⟩ : ∃ w1, w1 = W.alloc (.cells (styCells s).toArray 69) := ⟨_, rfl⟩
    have HB1 : Hid (Blk w1 W.heap.size 69 (styCells s).toArray) := Lib.hid (by rw [hw1]; exact Blk.new _ _ _)
    have HI1 : Hid (WkI C k Af cf Ao co w1) := Lib.hid (by rw [hw1]; exact HI.out.below ((Below.refl _ _).alloc (Nat.le_refl _) _))
    have HL1 : Hid (Below W.heap.size W w1) := Lib.hid (by rw [hw1]; exact (Below.refl _ _).alloc (Nat.le_refl _) _)
    rw [← hw1]
    obtain ⟨g, hg⟩ : ∃ g, g = W.heap.size := ⟨_, rfl⟩
    rw [← hg] at HB1 ⊢
    have HG := Lib.hid hg
    clear hw1 hg c0 c1 c2 c3 c4 c5 c6 c7 c8 c9 c10 c11 c12 HRNG hb HI
    have y0 := HB1.out.get 0 (v := .int .u8 1) (by rw [← HST.out.1.kind]; rfl)
    have y2 := HB1.out.get 2 (v := .int .u8 f) (by rw [← HF.out]; rfl)
    have hz : C.bw < w1.heap.size := HI1.out.blk.lt
    go_wp2_with fail
    go_ret
    exact ⟨rfl, HL1.out⟩
set_option maxRecDepth 100000 in
set_option maxHeartbeats 2000000 in
theorem float_any (hC : CxOk C) (h : WkI C k Af cf Ao co W) (i : Nat) (hi : i < C.l.length) (h0 : 0 < i) (x wide : Int) (hwb : wkB k = true) (hfl : C.l[i].s.float = 1 ∨ C.l[i].s.float = 2) (k' : Wk) (hk' : floatF C.us C.hs C.l[i].s k i x wide = some k') :
    Calls Try.prog 74 #[.pointer (some ⟨C.bw, 0, none⟩), .int .i64 i, .int .i64 x, .int .i64 wide] W fun e w' => (∃ v, e = .returned v) ∧ ∃ Af' cf' Ao' co', WkI C k' Af' cf' Ao' co' w' := by
  obtain ⟨ad, hA, hb, hadw, hads, hnd⟩ := WkI.nd C k Af Ao cf co W hC h i hi
  have HST := Lib.hid (hC.sty _ (List.getElem_mem hi))
  obtain ⟨_, _, _, huv⟩ := hC.uv _ (List.getElem_mem hi)
  have HO := Lib.hid (Sty.one C.l[i].s huv)
  have HSF : Hid (styF C.l i = some C.l[i].s) := Lib.hid (by unfold styF; rw [List.getElem?_eq_getElem hi]; rfl)
  have HRNG := Lib.hid (nd_range hnd)
  have HMG := Lib.hid (fun k' Af' cf' Ao' co' W' (h : WkI C k' Af' cf' Ao' co' W') (h0 : 0 < i) => margins_any C k' Af' Ao' cf' co' W' hC h i hi h0)
  obtain ⟨s, hs⟩ : ∃ s, s = C.l[i].s := ⟨_, rfl⟩
  rw [← hs] at HST HO HSF HRNG HMG
  have HI := Lib.hid h
  have HC := Lib.hid hC
  obtain ⟨c0, c1, c2, c3, c4, c5, c6, c7, c8, c9, c10, c11, c12⟩ := h.cs
  rw [hA] at c0
  clear huv hnd hC h hadw hads
  rw [← hs] at hfl hk'
  clear hs
  have HFL := Lib.hid hfl
  have HWB := Lib.hid hwb
  have HK := Lib.hid hk'
  have HH0 := Lib.hid h0
  clear hfl hwb hk'
  have HUS := Lib.hid (fun k' Af' cf' Ao' co' W' (h : WkI C k' Af' cf' Ao' co' W') => used_any C k' Af' Ao' cf' co' W' HC.out h i hi)
  have HWD := Lib.hid (fun k' Af' cf' Ao' co' W' (h : WkI C k' Af' cf' Ao' co' W') => wide_any C k' Af' Ao' cf' co' W' HC.out h i hi)
  have HHI := Lib.hid (fun k' Af' cf' Ao' co' W' (h : WkI C k' Af' cf' Ao' co' W') => hi_any C k' Af' Ao' cf' co' W' HC.out h i hi)
  have HSP := Lib.hid (fun k' Af' cf' Ao' co' W' (h : WkI C k' Af' cf' Ao' co' W') => spot_any C k' Af' Ao' cf' co' W' HC.out h i hi)
  have HMK := Lib.hid (fun W' (h : WkI C k Af cf Ao co W') => mark_any C k Af Ao cf co W' HC.out h HWB.out)
  obtain ⟨u, hu⟩ : ∃ u, u = usF C.us i := ⟨_, rfl⟩
  obtain ⟨hv, hhv⟩ : ∃ hv, hv = hiF C.hs i := ⟨_, rfl⟩
  obtain ⟨m0, hm0⟩ : ∃ m0, m0 = mgF s.m0 := ⟨_, rfl⟩
  obtain ⟨m2, hm2⟩ : ∃ m2, m2 = mgF s.m2 := ⟨_, rfl⟩
  obtain ⟨mk, hmk⟩ : ∃ mk, mk = markF k := ⟨_, rfl⟩
  obtain ⟨yc, hyc⟩ : ∃ yc, yc = clearF k.fl s.clear mk := ⟨_, rfl⟩
  obtain ⟨F, hF⟩ : ∃ F, F = placeF k.fl s.float (u.left + u.w + u.right) (m0 + hv + m2) x (x + wide) yc := ⟨_, rfl⟩
  have HKK : Hid ((0 ≤ u.left + u.w + u.right ∧ u.left + u.w + u.right ≤ lim ∧ 0 ≤ m0 + hv + m2 ∧ inL u.left = true ∧ inL u.w = true ∧ inL u.right = true ∧ inL hv = true ∧ inL yc = true ∧ inL x = true ∧ inL wide = true ∧ inL (x + wide) = true) ∧ chk (setSp { k with fl := k.fl ++ [F] } i fun p => { p with left := F.x + u.left, top := F.y + m0, high := hv }) = some k') := Lib.hid (by
    have h := HK.out
    unfold floatF at h
    simp only at h
    rw [← hu, ← hhv, ← hm0, ← hm2, ← hmk, ← hyc, ← hF] at h
    split at h
    · exact ⟨by assumption, h⟩
    · simp at h)
  rw [← hu] at HUS HWD
  rw [← hhv] at HHI
  rw [← hm0, ← hm2] at HMG
  rw [← hmk] at HMK
  obtain ⟨lw, lw1, lh, lu1, lu2, lu3, lhv, lyc, lx, lwi, lxw⟩ := HKK.out.1
  obtain ⟨hkb, hke⟩ := chk_p HKK.out.2
  have hm0b := mg_bd HST.out.1.m0
  have hm2b := mg_bd HST.out.1.m2
  rw [← hm0] at hm0b
  rw [← hm2] at hm2b
  have HN := Lib.hid (wkB_p HWB.out)
  have HFB : Hid (FlB lim k.fl) := Lib.hid (fun f hf => by
    have := HN.out.2.2.2.1 f hf
    unfold flB inL at this
    simp only [Bool.and_eq_true, decide_eq_true_eq] at this
    exact ⟨this.1.1.1.1.1, this.1.1.1.1.2, ⟨this.1.1.1.2, this.1.1.2⟩, ⟨this.1.2, this.2⟩⟩)
  have HCLR : Hid (∀ W', WkI C k Af cf Ao co W' → Calls Try.prog 106 #[.slice Af k.fl.length cf, .int .u8 s.clear, .int .i64 mk] W' fun e w' => e = .returned (.int .i64 yc) ∧ Below W'.heap.size W' w') := Lib.hid (fun W' h => by
    rw [hyc]
    exact clear_any k.fl Af cf W' s.clear mk lim HST.out.2.2 (by have := HN.out; omega) (by decide) HFB.out (Reads.of_own h.flo))
  unfold inL at lu1 lu2 lu3 lhv lyc lx lwi lxw
  simp only [Bool.and_eq_true, decide_eq_true_eq] at lu1 lu2 lu3 lhv lyc lx lwi lxw
  have HPL : Hid (∀ W', WkI C k Af cf Ao co W' → Calls Try.prog 107 #[.slice Af k.fl.length cf, .int .u8 s.float, .int .i64 (u.left + u.w + u.right), .int .i64 (m0 + hv + m2), .int .i64 x, .int .i64 (x + wide), .int .i64 yc] W' fun e w' => e = .returned (.agg #[.int .u8 F.side, .int .i64 F.x, .int .i64 F.y, .int .i64 F.w, .int .i64 F.h]) ∧ Below W'.heap.size W' w') := Lib.hid (fun W' h => by
    rw [hF]
    exact place_any k.fl Af cf s.float _ _ x (x + wide) yc lim W' (by have := HN.out; omega) (by decide) HFL.out HFB.out lyc ⟨lw, lw1⟩ lh ⟨lx, lxw⟩ (Reads.of_own h.flo))
  unfold lim at lu1 lu2 lu3 lhv lyc lx lwi lxw lw1
  have q1 : IntKind.i64.wrap (u.left + u.w) = u.left + u.w := IntWalk.i64_in _ ⟨by omega, by omega⟩
  have q2 : IntKind.i64.wrap (u.left + u.w + u.right) = u.left + u.w + u.right := IntWalk.i64_in _ ⟨by omega, by omega⟩
  have q3 : IntKind.i64.wrap (m0 + hv) = m0 + hv := IntWalk.i64_in _ ⟨by omega, by omega⟩
  have q4 : IntKind.i64.wrap (m0 + hv + m2) = m0 + hv + m2 := IntWalk.i64_in _ ⟨by omega, by omega⟩
  have q5 : IntKind.i64.wrap (x + wide) = x + wide := IntWalk.i64_in _ ⟨by omega, by omega⟩
  have HFS : Hid ((∀ s ∈ k'.sp, spB s = true) ∧ flB F = true) := Lib.hid (by
    have hp := wkB_p hkb
    rw [hke]
    exact ⟨hp.2.2.2.2.2.2, hp.2.2.2.1 F (by show F ∈ (k.fl ++ [F]); simp)⟩)
  have hfb := HFS.out.2
  unfold flB inL lim at hfb
  simp only [Bool.and_eq_true, decide_eq_true_eq] at hfb
  have q6 : IntKind.i64.wrap (F.x + u.left) = F.x + u.left := IntWalk.i64_in _ ⟨by omega, by omega⟩
  have q7 : IntKind.i64.wrap (F.y + m0) = F.y + m0 := IntWalk.i64_in _ ⟨by omega, by omega⟩
  have HKE := Lib.hid hke
  have HIL : Hid (i < k.sp.length) := Lib.hid (by rw [HI.out.len]; exact hi)
  have HKL : Hid (k.fl.length + 1 ≤ 4294967296) := Lib.hid (by have := HN.out; omega)
  clear hu hhv hm0 hm2 hmk hyc hF hkb hke lw lw1 lh lu1 lu2 lu3 lhv lyc lx lwi lxw hm0b hm2b hfb
  go_enter Try.func74, Try.ntmps74
  go_upto_region 1 with (first | refine wpList_load_mid rfl 69 (.tmp 22) rfl ad.block ((ad.add (i * 44)).off + 1) rfl (styCells s) _ HRNG.out Try.underlying69 rfl (by kernel_rfl) ?_ | refine wpList_store_new rfl 69 _ _ rfl _ rfl (styCells s).toArray rfl rfl 69 _ (by kernel_rfl) rfl HO.out ?_)
  obtain ⟨w1, hw1⟩ : ∃ w1, w1 = W.alloc (.cells (styCells s).toArray 69) := ⟨_, rfl⟩
  have HB1 : Hid (Blk w1 W.heap.size 69 (styCells s).toArray) := Lib.hid (by rw [hw1]; exact Blk.new _ _ _)
  have HI1 : Hid (WkI C k Af cf Ao co w1) := Lib.hid (by rw [hw1]; exact HI.out.below ((Below.refl _ _).alloc (Nat.le_refl _) _))
  have HL1 : Hid (Below W.heap.size W w1) := Lib.hid (by rw [hw1]; exact (Below.refl _ _).alloc (Nat.le_refl _) _)
  rw [← hw1]
  obtain ⟨g, hg⟩ : ∃ g, g = W.heap.size := ⟨_, rfl⟩
  rw [← hg] at HB1 ⊢
  have HG := Lib.hid hg
  clear hw1 hg c0 c1 c2 c3 c4 c5 c6 c7 c8 c9 c10 c11 c12 HRNG hb HI
  go_upto_region 2 with (go_at_call 69; refine (HUS.out _ _ _ _ _ _ HI1.out).mono ?_; rintro e w2 ⟨rfl, hb2⟩; have HB2 := Lib.hid (HB1.out.below hb2 HB1.out.lt); have HI2 := Lib.hid (HI1.out.below hb2); clear hb2)
  obtain ⟨w3, hw3⟩ : ∃ w3, w3 = w2.alloc (.cells #[.int .i64 u.w, .int .i64 u.left, .int .i64 u.right] 27) := ⟨_, rfl⟩
  have HB3 : Hid (Blk w3 g 69 (styCells s).toArray) := Lib.hid (by rw [hw3]; exact HB2.out.alloc _)
  have HU3 : Hid (Blk w3 w2.heap.size 27 #[.int .i64 u.w, .int .i64 u.left, .int .i64 u.right]) := Lib.hid (by rw [hw3]; exact Blk.new _ _ _)
  have HI3 : Hid (WkI C k Af cf Ao co w3) := Lib.hid (by rw [hw3]; exact HI2.out.below ((Below.refl _ _).alloc (Nat.le_refl _) _))
  rw [← hw3]
  obtain ⟨g2, hg2⟩ : ∃ g2, g2 = w2.heap.size := ⟨_, rfl⟩
  rw [← hg2] at HU3 ⊢
  clear hw3 hg2 HB2 HI2 HB1 HI1
  go_upto_region 3 with (go_at_call 105; refine (HMG.out _ _ _ _ _ _ HI3.out HH0.out).mono ?_; rintro e w4 ⟨rfl, hb4⟩; have HB4 := Lib.hid (HB3.out.below hb4 HB3.out.lt); have HU4 := Lib.hid (HU3.out.below hb4 HU3.out.lt); have HI4 := Lib.hid (HI3.out.below hb4); clear hb4)
  clear HB3 HU3 HI3
  refine wp_region_S (fun _ _ _ W' => Below w4.heap.size w4 W') 1000 1000 100000 true true (by kernel_rfl) (by kernel_rfl) (by kernel_rfl) ((Below.refl _ _).drew) ?_
  refine wpAnyS_take (i := 0) (v := ?_) rfl (by kernel_rfl) (by kernel_rfl) (by kernel_rfl) (fun _ _ _ h => h) (by rfl) (gives_pure (by rfl) ?_) ?_
  rotate_left
  · intro b' d' u' W' hS'
    obtain ⟨c0, c1, c2, c3, c4, c5, c6, c7, c8, c9, c10, c11, c12⟩ := (HI4.out.below hS').cs
    have y3 := (HB4.out.below hS' HB4.out.lt).get 3 (v := .int .u8 s.clear) rfl
    go_simp
    rfl
  try simp only [Act.put, List.setIfInBounds_toArray, List.set_cons_zero, List.set_cons_succ, List.getElem_toArray, List.getElem_cons_zero, List.getElem_cons_succ]
  refine wpAnyS_take (i := 1) (v := ?_) rfl (by kernel_rfl) (by kernel_rfl) (by kernel_rfl) (fun _ _ _ h => h) (by rfl) (gives_pure (by rfl) ?_) ?_
  rotate_left
  · intro b' d' u' W' hS'
    obtain ⟨c0, c1, c2, c3, c4, c5, c6, c7, c8, c9, c10, c11, c12⟩ := (HI4.out.below hS').cs
    have y3 := (HB4.out.below hS' HB4.out.lt).get 3 (v := .int .u8 s.clear) rfl
    go_simp
    rfl
  try simp only [Act.put, List.setIfInBounds_toArray, List.set_cons_zero, List.set_cons_succ, List.getElem_toArray, List.getElem_cons_zero, List.getElem_cons_succ]
  refine wpAnyS_take (i := 2) (v := ?_) rfl (by kernel_rfl) (by kernel_rfl) (by kernel_rfl) (fun _ _ _ h => h) (by rfl) (gives_pure (by rfl) ?_) ?_
  rotate_left
  · intro b' d' u' W' hS'
    obtain ⟨c0, c1, c2, c3, c4, c5, c6, c7, c8, c9, c10, c11, c12⟩ := (HI4.out.below hS').cs
    have y3 := (HB4.out.below hS' HB4.out.lt).get 3 (v := .int .u8 s.clear) rfl
    go_simp
    rfl
  try simp only [Act.put, List.setIfInBounds_toArray, List.set_cons_zero, List.set_cons_succ, List.getElem_toArray, List.getElem_cons_zero, List.getElem_cons_succ]
  refine wpAnyS_take (i := 3) (v := ?_) rfl (by kernel_rfl) (by kernel_rfl) (by kernel_rfl) (fun _ _ _ h => h) (by rfl) (gives_pure (by rfl) ?_) ?_
  rotate_left
  · intro b' d' u' W' hS'
    obtain ⟨c0, c1, c2, c3, c4, c5, c6, c7, c8, c9, c10, c11, c12⟩ := (HI4.out.below hS').cs
    have y3 := (HB4.out.below hS' HB4.out.lt).get 3 (v := .int .u8 s.clear) rfl
    go_simp
    rfl
  try simp only [Act.put, List.setIfInBounds_toArray, List.set_cons_zero, List.set_cons_succ, List.getElem_toArray, List.getElem_cons_zero, List.getElem_cons_succ]
  refine wpAnyS_take (i := 4) (v := ?_) rfl (by kernel_rfl) (by kernel_rfl) (by kernel_rfl) (fun _ _ _ h => h) (by rfl) (gives_pure (by rfl) ?_) ?_
  rotate_left
  · intro b' d' u' W' hS'
    obtain ⟨c0, c1, c2, c3, c4, c5, c6, c7, c8, c9, c10, c11, c12⟩ := (HI4.out.below hS').cs
    have y3 := (HB4.out.below hS' HB4.out.lt).get 3 (v := .int .u8 s.clear) rfl
    go_simp
    rfl
  try simp only [Act.put, List.setIfInBounds_toArray, List.set_cons_zero, List.set_cons_succ, List.getElem_toArray, List.getElem_cons_zero, List.getElem_cons_succ]
  refine wpAnyS_take (i := 5) (v := ?_) rfl (by kernel_rfl) (by kernel_rfl) (by kernel_rfl) (fun _ _ _ h => h) (by rfl) (gives_pure (by rfl) ?_) ?_
  rotate_left
  · intro b' d' u' W' hS'
    obtain ⟨c0, c1, c2, c3, c4, c5, c6, c7, c8, c9, c10, c11, c12⟩ := (HI4.out.below hS').cs
    have y3 := (HB4.out.below hS' HB4.out.lt).get 3 (v := .int .u8 s.clear) rfl
    go_simp
    rfl
  try simp only [Act.put, List.setIfInBounds_toArray, List.set_cons_zero, List.set_cons_succ, List.getElem_toArray, List.getElem_cons_zero, List.getElem_cons_succ]
  refine wpAnyS_take (i := 6) (v := ?_) rfl (by kernel_rfl) (by kernel_rfl) (by kernel_rfl) (fun _ _ _ h => h) (by rfl) (gives_pure (by rfl) ?_) ?_
  rotate_left
  · intro b' d' u' W' hS'
    obtain ⟨c0, c1, c2, c3, c4, c5, c6, c7, c8, c9, c10, c11, c12⟩ := (HI4.out.below hS').cs
    have y3 := (HB4.out.below hS' HB4.out.lt).get 3 (v := .int .u8 s.clear) rfl
    go_simp
    rfl
  try simp only [Act.put, List.setIfInBounds_toArray, List.set_cons_zero, List.set_cons_succ, List.getElem_toArray, List.getElem_cons_zero, List.getElem_cons_succ]
  refine wpAnyS_take (i := 7) (v := _) rfl (by kernel_rfl) (by kernel_rfl) (by kernel_rfl) (fun _ _ _ h => h) (by rfl) (gives_call (by rfl) _ _ ?_ (fun b' d' u' W' hS' => (HMK.out W' (HI4.out.below hS')).mono (fun _ _ h => ⟨h.1, hS'.trans (h.2.mono hS'.size)⟩))) ?_
  · intro W'
    first | rfl | kernel_rfl
  try simp only [Act.put, List.setIfInBounds_toArray, List.set_cons_zero, List.set_cons_succ, List.getElem_toArray, List.getElem_cons_zero, List.getElem_cons_succ]
  refine wpAnyS_take (i := 8) (v := _) rfl (by kernel_rfl) (by kernel_rfl) (by kernel_rfl) (fun _ _ _ h => h) (by rfl) (gives_call (by rfl) _ _ ?_ (fun b' d' u' W' hS' => (HCLR.out W' (HI4.out.below hS')).mono (fun _ _ h => ⟨h.1, hS'.trans (h.2.mono hS'.size)⟩))) ?_
  · intro W'
    first | rfl | kernel_rfl
  try simp only [Act.put, List.setIfInBounds_toArray, List.set_cons_zero, List.set_cons_succ, List.getElem_toArray, List.getElem_cons_zero, List.getElem_cons_succ]
  refine wpAnyS_take (i := 9) (v := ?_) rfl (by kernel_rfl) (by kernel_rfl) (by kernel_rfl) (fun _ _ _ h => h) (by rfl) (gives_pure (by rfl) ?_) ?_
  rotate_left
  · intro b' d' u' W' hS'
    obtain ⟨c0, c1, c2, c3, c4, c5, c6, c7, c8, c9, c10, c11, c12⟩ := (HI4.out.below hS').cs
    have y3 := (HB4.out.below hS' HB4.out.lt).get 3 (v := .int .u8 s.clear) rfl
    go_simp
    rfl
  try simp only [Act.put, List.setIfInBounds_toArray, List.set_cons_zero, List.set_cons_succ, List.getElem_toArray, List.getElem_cons_zero, List.getElem_cons_succ]
  refine wpAnyS_done (b := true) (d := true) (by kernel_rfl) (by kernel_rfl) (by kernel_rfl) rfl (fun w5 hS => ?_) _
  have HB5 := Lib.hid (HB4.out.below hS HB4.out.lt)
  have HU5 := Lib.hid (HU4.out.below hS HU4.out.lt)
  have HI5 := Lib.hid (HI4.out.below hS)
  clear hS HB4 HU4 HI4
  go_upto_region 4 with (fail)
  refine wp_region_S (fun b d u W' => Below w5.heap.size w5 W' ∧ (d = true → ∃ gA, u = .pointer (some ⟨gA, 0, none⟩) ∧ w5.heap.size ≤ gA ∧ Blk W' gA 165 (if b then #[.int .u8 F.side, .int .i64 F.x, .int .i64 F.y, .int .i64 F.w, .int .i64 F.h] else #[.int .u8 0, .int .i64 0, .int .i64 0, .int .i64 0, .int .i64 0]))) 29 28 13 false false (by kernel_rfl) (by kernel_rfl) (by kernel_rfl) (⟨(Below.refl _ _).drew, fun h => absurd h (by decide)⟩) ?_
  refine wpAnyS_take (i := 0) (v := ?_) rfl (by kernel_rfl) (by kernel_rfl) (by kernel_rfl) (fun _ _ _ h => h) (by rfl) (gives_pureF (by rfl) (by kernel_rfl) ?_) ?_
  rotate_left
  · intro d' u' W' hS'
    obtain ⟨c0, c1, c2, c3, c4, c5, c6, c7, c8, c9, c10, c11, c12⟩ := (HI5.out.below hS'.1).cs
    have y2 := (HB5.out.below hS'.1 HB5.out.lt).get 2 (v := .int .u8 s.float) rfl
    have z1 := (HU5.out.below hS'.1 HU5.out.lt).get 1 (v := .int .i64 u.left) rfl
    have z2 := (HU5.out.below hS'.1 HU5.out.lt).get 2 (v := .int .i64 u.right) rfl
    go_simp
    rfl
  try simp only [Act.put, List.setIfInBounds_toArray, List.set_cons_zero, List.set_cons_succ, List.getElem_toArray, List.getElem_cons_zero, List.getElem_cons_succ]
  refine wpAnyS_take (i := 1) (v := ?_) rfl (by kernel_rfl) (by kernel_rfl) (by kernel_rfl) (fun _ _ _ h => h) (by rfl) (gives_pureF (by rfl) (by kernel_rfl) ?_) ?_
  rotate_left
  · intro d' u' W' hS'
    obtain ⟨c0, c1, c2, c3, c4, c5, c6, c7, c8, c9, c10, c11, c12⟩ := (HI5.out.below hS'.1).cs
    have y2 := (HB5.out.below hS'.1 HB5.out.lt).get 2 (v := .int .u8 s.float) rfl
    have z1 := (HU5.out.below hS'.1 HU5.out.lt).get 1 (v := .int .i64 u.left) rfl
    have z2 := (HU5.out.below hS'.1 HU5.out.lt).get 2 (v := .int .i64 u.right) rfl
    go_simp
    rfl
  try simp only [Act.put, List.setIfInBounds_toArray, List.set_cons_zero, List.set_cons_succ, List.getElem_toArray, List.getElem_cons_zero, List.getElem_cons_succ]
  refine wpAnyS_take (i := 2) (v := ?_) rfl (by kernel_rfl) (by kernel_rfl) (by kernel_rfl) (fun _ _ _ h => h) (by rfl) (gives_pureF (by rfl) (by kernel_rfl) ?_) ?_
  rotate_left
  · intro d' u' W' hS'
    obtain ⟨c0, c1, c2, c3, c4, c5, c6, c7, c8, c9, c10, c11, c12⟩ := (HI5.out.below hS'.1).cs
    have y2 := (HB5.out.below hS'.1 HB5.out.lt).get 2 (v := .int .u8 s.float) rfl
    have z1 := (HU5.out.below hS'.1 HU5.out.lt).get 1 (v := .int .i64 u.left) rfl
    have z2 := (HU5.out.below hS'.1 HU5.out.lt).get 2 (v := .int .i64 u.right) rfl
    go_simp
    rfl
  try simp only [Act.put, List.setIfInBounds_toArray, List.set_cons_zero, List.set_cons_succ, List.getElem_toArray, List.getElem_cons_zero, List.getElem_cons_succ]
  refine wpAnyS_take (i := 3) (v := ?_) rfl (by kernel_rfl) (by kernel_rfl) (by kernel_rfl) (fun _ _ _ h => h) (by rfl) (gives_pureF (by rfl) (by kernel_rfl) ?_) ?_
  rotate_left
  · intro d' u' W' hS'
    obtain ⟨c0, c1, c2, c3, c4, c5, c6, c7, c8, c9, c10, c11, c12⟩ := (HI5.out.below hS'.1).cs
    have y2 := (HB5.out.below hS'.1 HB5.out.lt).get 2 (v := .int .u8 s.float) rfl
    have z1 := (HU5.out.below hS'.1 HU5.out.lt).get 1 (v := .int .i64 u.left) rfl
    have z2 := (HU5.out.below hS'.1 HU5.out.lt).get 2 (v := .int .i64 u.right) rfl
    go_simp
    rfl
  try simp only [Act.put, List.setIfInBounds_toArray, List.set_cons_zero, List.set_cons_succ, List.getElem_toArray, List.getElem_cons_zero, List.getElem_cons_succ]
  refine wpAnyS_take (i := 4) (v := ?_) rfl (by kernel_rfl) (by kernel_rfl) (by kernel_rfl) (fun _ _ _ h => h) (by rfl) (gives_pureF (by rfl) (by kernel_rfl) ?_) ?_
  rotate_left
  · intro d' u' W' hS'
    obtain ⟨c0, c1, c2, c3, c4, c5, c6, c7, c8, c9, c10, c11, c12⟩ := (HI5.out.below hS'.1).cs
    have y2 := (HB5.out.below hS'.1 HB5.out.lt).get 2 (v := .int .u8 s.float) rfl
    have z1 := (HU5.out.below hS'.1 HU5.out.lt).get 1 (v := .int .i64 u.left) rfl
    have z2 := (HU5.out.below hS'.1 HU5.out.lt).get 2 (v := .int .i64 u.right) rfl
    go_simp
    rfl
  try simp only [Act.put, List.setIfInBounds_toArray, List.set_cons_zero, List.set_cons_succ, List.getElem_toArray, List.getElem_cons_zero, List.getElem_cons_succ]
  refine wpAnyS_take (i := 5) (v := ?_) rfl (by kernel_rfl) (by kernel_rfl) (by kernel_rfl) (fun _ _ _ h => h) (by rfl) (gives_pureF (by rfl) (by kernel_rfl) ?_) ?_
  rotate_left
  · intro d' u' W' hS'
    obtain ⟨c0, c1, c2, c3, c4, c5, c6, c7, c8, c9, c10, c11, c12⟩ := (HI5.out.below hS'.1).cs
    have y2 := (HB5.out.below hS'.1 HB5.out.lt).get 2 (v := .int .u8 s.float) rfl
    have z1 := (HU5.out.below hS'.1 HU5.out.lt).get 1 (v := .int .i64 u.left) rfl
    have z2 := (HU5.out.below hS'.1 HU5.out.lt).get 2 (v := .int .i64 u.right) rfl
    go_simp
    rfl
  try simp only [Act.put, List.setIfInBounds_toArray, List.set_cons_zero, List.set_cons_succ, List.getElem_toArray, List.getElem_cons_zero, List.getElem_cons_succ]
  refine wpAnyS_take (i := 6) (v := ?_) rfl (by kernel_rfl) (by kernel_rfl) (by kernel_rfl) (fun _ _ _ h => h) (by rfl) (gives_pureF (by rfl) (by kernel_rfl) ?_) ?_
  rotate_left
  · intro d' u' W' hS'
    obtain ⟨c0, c1, c2, c3, c4, c5, c6, c7, c8, c9, c10, c11, c12⟩ := (HI5.out.below hS'.1).cs
    have y2 := (HB5.out.below hS'.1 HB5.out.lt).get 2 (v := .int .u8 s.float) rfl
    have z1 := (HU5.out.below hS'.1 HU5.out.lt).get 1 (v := .int .i64 u.left) rfl
    have z2 := (HU5.out.below hS'.1 HU5.out.lt).get 2 (v := .int .i64 u.right) rfl
    go_simp
    rfl
  try simp only [Act.put, List.setIfInBounds_toArray, List.set_cons_zero, List.set_cons_succ, List.getElem_toArray, List.getElem_cons_zero, List.getElem_cons_succ]
  refine wpAnyS_take (i := 7) (v := ?_) rfl (by kernel_rfl) (by kernel_rfl) (by kernel_rfl) (fun _ _ _ h => h) (by rfl) (gives_pureF (by rfl) (by kernel_rfl) ?_) ?_
  rotate_left
  · intro d' u' W' hS'
    obtain ⟨c0, c1, c2, c3, c4, c5, c6, c7, c8, c9, c10, c11, c12⟩ := (HI5.out.below hS'.1).cs
    have y2 := (HB5.out.below hS'.1 HB5.out.lt).get 2 (v := .int .u8 s.float) rfl
    have z1 := (HU5.out.below hS'.1 HU5.out.lt).get 1 (v := .int .i64 u.left) rfl
    have z2 := (HU5.out.below hS'.1 HU5.out.lt).get 2 (v := .int .i64 u.right) rfl
    go_simp
    rfl
  try simp only [Act.put, List.setIfInBounds_toArray, List.set_cons_zero, List.set_cons_succ, List.getElem_toArray, List.getElem_cons_zero, List.getElem_cons_succ]
  refine wpAnyS_take (i := 8) (v := ?_) rfl (by kernel_rfl) (by kernel_rfl) (by kernel_rfl) (fun _ _ _ h => h) (by rfl) (gives_pureF (by rfl) (by kernel_rfl) ?_) ?_
  rotate_left
  · intro d' u' W' hS'
    obtain ⟨c0, c1, c2, c3, c4, c5, c6, c7, c8, c9, c10, c11, c12⟩ := (HI5.out.below hS'.1).cs
    have y2 := (HB5.out.below hS'.1 HB5.out.lt).get 2 (v := .int .u8 s.float) rfl
    have z1 := (HU5.out.below hS'.1 HU5.out.lt).get 1 (v := .int .i64 u.left) rfl
    have z2 := (HU5.out.below hS'.1 HU5.out.lt).get 2 (v := .int .i64 u.right) rfl
    go_simp
    rfl
  try simp only [Act.put, List.setIfInBounds_toArray, List.set_cons_zero, List.set_cons_succ, List.getElem_toArray, List.getElem_cons_zero, List.getElem_cons_succ]
  refine wpAnyS_take (i := 9) (v := ?_) rfl (by kernel_rfl) (by kernel_rfl) (by kernel_rfl) (fun _ _ _ h => h) (by rfl) (gives_pureF (by rfl) (by kernel_rfl) ?_) ?_
  rotate_left
  · intro d' u' W' hS'
    obtain ⟨c0, c1, c2, c3, c4, c5, c6, c7, c8, c9, c10, c11, c12⟩ := (HI5.out.below hS'.1).cs
    have y2 := (HB5.out.below hS'.1 HB5.out.lt).get 2 (v := .int .u8 s.float) rfl
    have z1 := (HU5.out.below hS'.1 HU5.out.lt).get 1 (v := .int .i64 u.left) rfl
    have z2 := (HU5.out.below hS'.1 HU5.out.lt).get 2 (v := .int .i64 u.right) rfl
    go_simp
    rfl
  try simp only [Act.put, List.setIfInBounds_toArray, List.set_cons_zero, List.set_cons_succ, List.getElem_toArray, List.getElem_cons_zero, List.getElem_cons_succ]
  refine wpAnyS_take (i := 10) (v := _) rfl (by kernel_rfl) (by kernel_rfl) (by kernel_rfl) (fun _ _ _ h => h) (by rfl) (gives_callF (by rfl) (by kernel_rfl) _ _ ?_ (fun d' u' W' hS' => (HWD.out _ _ _ _ _ W' (HI5.out.below hS'.1)).mono (fun _ _ h => ⟨h.1, ⟨hS'.1.trans (h.2.mono hS'.1.size), fun hd => by obtain ⟨gA, e1, e2, e3⟩ := hS'.2 hd; exact ⟨gA, e1, e2, e3.below h.2 e3.lt⟩⟩⟩))) ?_
  · intro W'
    first | rfl | kernel_rfl
  try simp only [Act.put, List.setIfInBounds_toArray, List.set_cons_zero, List.set_cons_succ, List.getElem_toArray, List.getElem_cons_zero, List.getElem_cons_succ]
  refine wpAnyS_take (i := 11) (v := ?_) rfl (by kernel_rfl) (by kernel_rfl) (by kernel_rfl) (fun _ _ _ h => h) (by rfl) (gives_pureF (by rfl) (by kernel_rfl) ?_) ?_
  rotate_left
  · intro d' u' W' hS'
    obtain ⟨c0, c1, c2, c3, c4, c5, c6, c7, c8, c9, c10, c11, c12⟩ := (HI5.out.below hS'.1).cs
    have y2 := (HB5.out.below hS'.1 HB5.out.lt).get 2 (v := .int .u8 s.float) rfl
    have z1 := (HU5.out.below hS'.1 HU5.out.lt).get 1 (v := .int .i64 u.left) rfl
    have z2 := (HU5.out.below hS'.1 HU5.out.lt).get 2 (v := .int .i64 u.right) rfl
    go_simp
    rfl
  try simp only [Act.put, List.setIfInBounds_toArray, List.set_cons_zero, List.set_cons_succ, List.getElem_toArray, List.getElem_cons_zero, List.getElem_cons_succ]
  refine wpAnyS_take (i := 12) (v := ?_) rfl (by kernel_rfl) (by kernel_rfl) (by kernel_rfl) (fun _ _ _ h => h) (by rfl) (gives_pureF (by rfl) (by kernel_rfl) ?_) ?_
  rotate_left
  · intro d' u' W' hS'
    obtain ⟨c0, c1, c2, c3, c4, c5, c6, c7, c8, c9, c10, c11, c12⟩ := (HI5.out.below hS'.1).cs
    have y2 := (HB5.out.below hS'.1 HB5.out.lt).get 2 (v := .int .u8 s.float) rfl
    have z1 := (HU5.out.below hS'.1 HU5.out.lt).get 1 (v := .int .i64 u.left) rfl
    have z2 := (HU5.out.below hS'.1 HU5.out.lt).get 2 (v := .int .i64 u.right) rfl
    go_simp
    rfl
  try simp only [Act.put, List.setIfInBounds_toArray, List.set_cons_zero, List.set_cons_succ, List.getElem_toArray, List.getElem_cons_zero, List.getElem_cons_succ]
  refine wpAnyS_take (i := 13) (v := ?_) rfl (by kernel_rfl) (by kernel_rfl) (by kernel_rfl) (fun _ _ _ h => h) (by rfl) (gives_pureF (by rfl) (by kernel_rfl) ?_) ?_
  rotate_left
  · intro d' u' W' hS'
    obtain ⟨c0, c1, c2, c3, c4, c5, c6, c7, c8, c9, c10, c11, c12⟩ := (HI5.out.below hS'.1).cs
    have y2 := (HB5.out.below hS'.1 HB5.out.lt).get 2 (v := .int .u8 s.float) rfl
    have z1 := (HU5.out.below hS'.1 HU5.out.lt).get 1 (v := .int .i64 u.left) rfl
    have z2 := (HU5.out.below hS'.1 HU5.out.lt).get 2 (v := .int .i64 u.right) rfl
    go_simp
    rfl
  try simp only [Act.put, List.setIfInBounds_toArray, List.set_cons_zero, List.set_cons_succ, List.getElem_toArray, List.getElem_cons_zero, List.getElem_cons_succ]
  refine wpAnyS_take (i := 14) (v := ?_) rfl (by kernel_rfl) (by kernel_rfl) (by kernel_rfl) (fun _ _ _ h => h) (by rfl) (gives_pureF (by rfl) (by kernel_rfl) ?_) ?_
  rotate_left
  · intro d' u' W' hS'
    obtain ⟨c0, c1, c2, c3, c4, c5, c6, c7, c8, c9, c10, c11, c12⟩ := (HI5.out.below hS'.1).cs
    have y2 := (HB5.out.below hS'.1 HB5.out.lt).get 2 (v := .int .u8 s.float) rfl
    have z1 := (HU5.out.below hS'.1 HU5.out.lt).get 1 (v := .int .i64 u.left) rfl
    have z2 := (HU5.out.below hS'.1 HU5.out.lt).get 2 (v := .int .i64 u.right) rfl
    go_simp
    rfl
  try simp only [Act.put, List.setIfInBounds_toArray, List.set_cons_zero, List.set_cons_succ, List.getElem_toArray, List.getElem_cons_zero, List.getElem_cons_succ]
  refine wpAnyS_take (i := 15) (v := ?_) rfl (by kernel_rfl) (by kernel_rfl) (by kernel_rfl) (fun _ _ _ h => h) (by rfl) (gives_pureF (by rfl) (by kernel_rfl) ?_) ?_
  rotate_left
  · intro d' u' W' hS'
    obtain ⟨c0, c1, c2, c3, c4, c5, c6, c7, c8, c9, c10, c11, c12⟩ := (HI5.out.below hS'.1).cs
    have y2 := (HB5.out.below hS'.1 HB5.out.lt).get 2 (v := .int .u8 s.float) rfl
    have z1 := (HU5.out.below hS'.1 HU5.out.lt).get 1 (v := .int .i64 u.left) rfl
    have z2 := (HU5.out.below hS'.1 HU5.out.lt).get 2 (v := .int .i64 u.right) rfl
    go_simp
    rfl
  try simp only [Act.put, List.setIfInBounds_toArray, List.set_cons_zero, List.set_cons_succ, List.getElem_toArray, List.getElem_cons_zero, List.getElem_cons_succ]
  refine wpAnyS_take (i := 16) (v := ?_) rfl (by kernel_rfl) (by kernel_rfl) (by kernel_rfl) (fun _ _ _ h => h) (by rfl) (gives_pureF (by rfl) (by kernel_rfl) ?_) ?_
  rotate_left
  · intro d' u' W' hS'
    obtain ⟨c0, c1, c2, c3, c4, c5, c6, c7, c8, c9, c10, c11, c12⟩ := (HI5.out.below hS'.1).cs
    have y2 := (HB5.out.below hS'.1 HB5.out.lt).get 2 (v := .int .u8 s.float) rfl
    have z1 := (HU5.out.below hS'.1 HU5.out.lt).get 1 (v := .int .i64 u.left) rfl
    have z2 := (HU5.out.below hS'.1 HU5.out.lt).get 2 (v := .int .i64 u.right) rfl
    go_simp
    rfl
  try simp only [Act.put, List.setIfInBounds_toArray, List.set_cons_zero, List.set_cons_succ, List.getElem_toArray, List.getElem_cons_zero, List.getElem_cons_succ]
  refine wpAnyS_take (i := 17) (v := ?_) rfl (by kernel_rfl) (by kernel_rfl) (by kernel_rfl) (fun _ _ _ h => h) (by rfl) (gives_pureF (by rfl) (by kernel_rfl) ?_) ?_
  rotate_left
  · intro d' u' W' hS'
    obtain ⟨c0, c1, c2, c3, c4, c5, c6, c7, c8, c9, c10, c11, c12⟩ := (HI5.out.below hS'.1).cs
    have y2 := (HB5.out.below hS'.1 HB5.out.lt).get 2 (v := .int .u8 s.float) rfl
    have z1 := (HU5.out.below hS'.1 HU5.out.lt).get 1 (v := .int .i64 u.left) rfl
    have z2 := (HU5.out.below hS'.1 HU5.out.lt).get 2 (v := .int .i64 u.right) rfl
    go_simp
    rfl
  try simp only [Act.put, List.setIfInBounds_toArray, List.set_cons_zero, List.set_cons_succ, List.getElem_toArray, List.getElem_cons_zero, List.getElem_cons_succ]
  refine wpAnyS_take (i := 18) (v := _) rfl (by kernel_rfl) (by kernel_rfl) (by kernel_rfl) (fun _ _ _ h => h) (by rfl) (gives_callF (by rfl) (by kernel_rfl) _ _ ?_ (fun d' u' W' hS' => (HHI.out _ _ _ _ _ W' (HI5.out.below hS'.1)).mono (fun _ _ h => ⟨h.1, ⟨hS'.1.trans (h.2.mono hS'.1.size), fun hd => by obtain ⟨gA, e1, e2, e3⟩ := hS'.2 hd; exact ⟨gA, e1, e2, e3.below h.2 e3.lt⟩⟩⟩))) ?_
  · intro W'
    first | rfl | kernel_rfl
  try simp only [Act.put, List.setIfInBounds_toArray, List.set_cons_zero, List.set_cons_succ, List.getElem_toArray, List.getElem_cons_zero, List.getElem_cons_succ]
  refine wpAnyS_take (i := 19) (v := ?_) rfl (by kernel_rfl) (by kernel_rfl) (by kernel_rfl) (fun _ _ _ h => h) (by rfl) (gives_pureF (by rfl) (by kernel_rfl) ?_) ?_
  rotate_left
  · intro d' u' W' hS'
    obtain ⟨c0, c1, c2, c3, c4, c5, c6, c7, c8, c9, c10, c11, c12⟩ := (HI5.out.below hS'.1).cs
    have y2 := (HB5.out.below hS'.1 HB5.out.lt).get 2 (v := .int .u8 s.float) rfl
    have z1 := (HU5.out.below hS'.1 HU5.out.lt).get 1 (v := .int .i64 u.left) rfl
    have z2 := (HU5.out.below hS'.1 HU5.out.lt).get 2 (v := .int .i64 u.right) rfl
    go_simp
    rfl
  try simp only [Act.put, List.setIfInBounds_toArray, List.set_cons_zero, List.set_cons_succ, List.getElem_toArray, List.getElem_cons_zero, List.getElem_cons_succ]
  refine wpAnyS_take (i := 20) (v := ?_) rfl (by kernel_rfl) (by kernel_rfl) (by kernel_rfl) (fun _ _ _ h => h) (by rfl) (gives_pureF (by rfl) (by kernel_rfl) ?_) ?_
  rotate_left
  · intro d' u' W' hS'
    obtain ⟨c0, c1, c2, c3, c4, c5, c6, c7, c8, c9, c10, c11, c12⟩ := (HI5.out.below hS'.1).cs
    have y2 := (HB5.out.below hS'.1 HB5.out.lt).get 2 (v := .int .u8 s.float) rfl
    have z1 := (HU5.out.below hS'.1 HU5.out.lt).get 1 (v := .int .i64 u.left) rfl
    have z2 := (HU5.out.below hS'.1 HU5.out.lt).get 2 (v := .int .i64 u.right) rfl
    go_simp
    rfl
  try simp only [Act.put, List.setIfInBounds_toArray, List.set_cons_zero, List.set_cons_succ, List.getElem_toArray, List.getElem_cons_zero, List.getElem_cons_succ]
  refine wpAnyS_take (i := 21) (v := ?_) rfl (by kernel_rfl) (by kernel_rfl) (by kernel_rfl) (fun _ _ _ h => h) (by rfl) (gives_pureF (by rfl) (by kernel_rfl) ?_) ?_
  rotate_left
  · intro d' u' W' hS'
    obtain ⟨c0, c1, c2, c3, c4, c5, c6, c7, c8, c9, c10, c11, c12⟩ := (HI5.out.below hS'.1).cs
    have y2 := (HB5.out.below hS'.1 HB5.out.lt).get 2 (v := .int .u8 s.float) rfl
    have z1 := (HU5.out.below hS'.1 HU5.out.lt).get 1 (v := .int .i64 u.left) rfl
    have z2 := (HU5.out.below hS'.1 HU5.out.lt).get 2 (v := .int .i64 u.right) rfl
    go_simp
    rfl
  try simp only [Act.put, List.setIfInBounds_toArray, List.set_cons_zero, List.set_cons_succ, List.getElem_toArray, List.getElem_cons_zero, List.getElem_cons_succ]
  refine wpAnyS_take (i := 22) (v := ?_) rfl (by kernel_rfl) (by kernel_rfl) (by kernel_rfl) (fun _ _ _ h => h) (by rfl) (gives_pureF (by rfl) (by kernel_rfl) ?_) ?_
  rotate_left
  · intro d' u' W' hS'
    obtain ⟨c0, c1, c2, c3, c4, c5, c6, c7, c8, c9, c10, c11, c12⟩ := (HI5.out.below hS'.1).cs
    have y2 := (HB5.out.below hS'.1 HB5.out.lt).get 2 (v := .int .u8 s.float) rfl
    have z1 := (HU5.out.below hS'.1 HU5.out.lt).get 1 (v := .int .i64 u.left) rfl
    have z2 := (HU5.out.below hS'.1 HU5.out.lt).get 2 (v := .int .i64 u.right) rfl
    go_simp
    rfl
  try simp only [Act.put, List.setIfInBounds_toArray, List.set_cons_zero, List.set_cons_succ, List.getElem_toArray, List.getElem_cons_zero, List.getElem_cons_succ]
  refine wpAnyS_take (i := 23) (v := ?_) rfl (by kernel_rfl) (by kernel_rfl) (by kernel_rfl) (fun _ _ _ h => h) (by rfl) (gives_pureF (by rfl) (by kernel_rfl) ?_) ?_
  rotate_left
  · intro d' u' W' hS'
    obtain ⟨c0, c1, c2, c3, c4, c5, c6, c7, c8, c9, c10, c11, c12⟩ := (HI5.out.below hS'.1).cs
    have y2 := (HB5.out.below hS'.1 HB5.out.lt).get 2 (v := .int .u8 s.float) rfl
    have z1 := (HU5.out.below hS'.1 HU5.out.lt).get 1 (v := .int .i64 u.left) rfl
    have z2 := (HU5.out.below hS'.1 HU5.out.lt).get 2 (v := .int .i64 u.right) rfl
    go_simp
    rfl
  try simp only [Act.put, List.setIfInBounds_toArray, List.set_cons_zero, List.set_cons_succ, List.getElem_toArray, List.getElem_cons_zero, List.getElem_cons_succ]
  refine wpAnyS_take (i := 24) (v := ?_) rfl (by kernel_rfl) (by kernel_rfl) (by kernel_rfl) (fun _ _ _ h => h) (by rfl) (gives_pureF (by rfl) (by kernel_rfl) ?_) ?_
  rotate_left
  · intro d' u' W' hS'
    obtain ⟨c0, c1, c2, c3, c4, c5, c6, c7, c8, c9, c10, c11, c12⟩ := (HI5.out.below hS'.1).cs
    have y2 := (HB5.out.below hS'.1 HB5.out.lt).get 2 (v := .int .u8 s.float) rfl
    have z1 := (HU5.out.below hS'.1 HU5.out.lt).get 1 (v := .int .i64 u.left) rfl
    have z2 := (HU5.out.below hS'.1 HU5.out.lt).get 2 (v := .int .i64 u.right) rfl
    go_simp
    rfl
  try simp only [Act.put, List.setIfInBounds_toArray, List.set_cons_zero, List.set_cons_succ, List.getElem_toArray, List.getElem_cons_zero, List.getElem_cons_succ]
  refine wpAnyS_take (i := 25) (v := ?_) rfl (by kernel_rfl) (by kernel_rfl) (by kernel_rfl) (fun _ _ _ h => h) (by rfl) (gives_pureF (by rfl) (by kernel_rfl) ?_) ?_
  rotate_left
  · intro d' u' W' hS'
    obtain ⟨c0, c1, c2, c3, c4, c5, c6, c7, c8, c9, c10, c11, c12⟩ := (HI5.out.below hS'.1).cs
    have y2 := (HB5.out.below hS'.1 HB5.out.lt).get 2 (v := .int .u8 s.float) rfl
    have z1 := (HU5.out.below hS'.1 HU5.out.lt).get 1 (v := .int .i64 u.left) rfl
    have z2 := (HU5.out.below hS'.1 HU5.out.lt).get 2 (v := .int .i64 u.right) rfl
    go_simp
    rfl
  try simp only [Act.put, List.setIfInBounds_toArray, List.set_cons_zero, List.set_cons_succ, List.getElem_toArray, List.getElem_cons_zero, List.getElem_cons_succ]
  refine wpAnyS_take (i := 26) (v := ?_) rfl (by kernel_rfl) (by kernel_rfl) (by kernel_rfl) (fun _ _ _ h => h) (by rfl) (gives_pureF (by rfl) (by kernel_rfl) ?_) ?_
  rotate_left
  · intro d' u' W' hS'
    obtain ⟨c0, c1, c2, c3, c4, c5, c6, c7, c8, c9, c10, c11, c12⟩ := (HI5.out.below hS'.1).cs
    have y2 := (HB5.out.below hS'.1 HB5.out.lt).get 2 (v := .int .u8 s.float) rfl
    have z1 := (HU5.out.below hS'.1 HU5.out.lt).get 1 (v := .int .i64 u.left) rfl
    have z2 := (HU5.out.below hS'.1 HU5.out.lt).get 2 (v := .int .i64 u.right) rfl
    go_simp
    rfl
  try simp only [Act.put, List.setIfInBounds_toArray, List.set_cons_zero, List.set_cons_succ, List.getElem_toArray, List.getElem_cons_zero, List.getElem_cons_succ]
  refine wpAnyS_take (i := 27) (v := _) rfl (by kernel_rfl) (by kernel_rfl) (by kernel_rfl) (fun _ _ _ h => h) (by rfl) (gives_callF (by rfl) (by kernel_rfl) _ _ ?_ (fun d' u' W' hS' => (HPL.out W' (HI5.out.below hS'.1)).mono (fun _ _ h => ⟨h.1, ⟨hS'.1.trans (h.2.mono hS'.1.size), fun hd => by obtain ⟨gA, e1, e2, e3⟩ := hS'.2 hd; exact ⟨gA, e1, e2, e3.below h.2 e3.lt⟩⟩⟩))) ?_
  · intro W'
    first | rfl | kernel_rfl
  try simp only [Act.put, List.setIfInBounds_toArray, List.set_cons_zero, List.set_cons_succ, List.getElem_toArray, List.getElem_cons_zero, List.getElem_cons_succ]
  refine wpAnyS_alloc (i := 28) (b := false) (.cells #[.int .u8 0, .int .i64 0, .int .i64 0, .int .i64 0, .int .i64 0] 165) rfl (by kernel_rfl) (by rfl) (by rfl) (by kernel_rfl) ?_ (fun u' W' hS' => ⟨hS'.1.alloc hS'.1.size _, fun _ => ⟨_, rfl, hS'.1.size, Blk.new _ _ _⟩⟩) (fun gA => ?_)
  · intro W'
    first | rfl | kernel_rfl
  try simp only [Act.put, List.setIfInBounds_toArray, List.set_cons_zero, List.set_cons_succ, List.getElem_toArray, List.getElem_cons_zero, List.getElem_cons_succ]
  refine wpAnyS_store (i := 29) (d := true) (fun W' => ((((W'.setCell ⟨gA, 0, none⟩ (.int .u8 F.side)).setCell ⟨gA, 1, none⟩ (.int .i64 F.x)).setCell ⟨gA, 2, none⟩ (.int .i64 F.y)).setCell ⟨gA, 3, none⟩ (.int .i64 F.w)).setCell ⟨gA, 4, none⟩ (.int .i64 F.h)) rfl (by kernel_rfl) (by rfl) (by rfl) (by kernel_rfl) rfl ?_ (fun W' hS' => by
          obtain ⟨k1, k2⟩ := hS'
          obtain ⟨gA', e1, e2, e3⟩ := k2 rfl
          have e4 : gA = gA' := by injection e1 with e1; injection e1 with e1; injection e1
          subst e4
          have hl : ∀ (W' : World) (i : Nat) (v : Value), Below w5.heap.size w5 W' → Below w5.heap.size w5 (W'.setCell ⟨gA, i, none⟩ v) := fun W' i v h => h.setCell (p := ⟨gA, i, none⟩) e2 _
          exact ⟨hl _ _ _ (hl _ _ _ (hl _ _ _ (hl _ _ _ (hl _ _ _ k1)))), fun _ => ⟨gA, rfl, e2, ((((e3.set_ 0 _).set_ 1 _).set_ 2 _).set_ 3 _).set_ 4 _⟩⟩) ?_
  · intro W' hS'
    obtain ⟨gA', e1, e2, e3⟩ := hS'.2 rfl
    have e4 : gA = gA' := by injection e1 with e1; injection e1 with e1; injection e1
    subst e4
    obtain ⟨p0, p1, p2, p3, p4⟩ := Blk.c5 e3
    have pf := e3.frozen
    clear e3 e1
    go_simp
    try rfl
  try simp only [Act.put, List.setIfInBounds_toArray, List.set_cons_zero, List.set_cons_succ, List.getElem_toArray, List.getElem_cons_zero, List.getElem_cons_succ]
  refine wpAnyS_done (b := true) (d := true) (by kernel_rfl) (by kernel_rfl) (by kernel_rfl) rfl (fun w6 hS => ?_) _
  obtain ⟨gA', e1, e2, e3⟩ := hS.2 rfl
  have e4 : gA = gA' := by injection e1 with e1; injection e1 with e1; injection e1
  subst e4
  have HF6 : Hid (Blk w6 gA 165 #[.int .u8 F.side, .int .i64 F.x, .int .i64 F.y, .int .i64 F.w, .int .i64 F.h]) := Lib.hid e3
  have HU6 := Lib.hid (HU5.out.below hS.1 HU5.out.lt)
  have HI6 := Lib.hid (HI5.out.below hS.1)
  have HNU : Hid (g2 ≠ C.bw) := Lib.hid (HU5.out.ne_ HI5.out.blk (by decide))
  have HNW : Hid (gA ≠ C.bw) := Lib.hid (by have := HI5.out.blk.lt; omega)
  have HNB : Hid (some gA ≠ (Value.slice Af k.fl.length cf).ownBlock) := Lib.hid (fun e => by have := (HI5.out.flo.lt gA e.symm).2; omega)
  clear hS e1 e2 e3 HB5 HU5 HI5
  go_upto_region 5 with (fail)
  obtain ⟨c0, c1, c2, c3, c4, c5, c6, c7, c8, c9, c10, c11, c12⟩ := HI6.out.cs
  obtain ⟨p0, p1, p2, p3, p4⟩ := Blk.c5 HF6.out
  have HS5 : Hid (∀ W', WkI C k Af cf Ao co W' → Blk W' gA 165 #[.int .u8 F.side, .int .i64 F.x, .int .i64 F.y, .int .i64 F.w, .int .i64 F.h] → (fun W' => W'.cell? ⟨gA, 0, none⟩ = some (.int .u8 F.side) ∧ W'.cell? ⟨gA, 1, none⟩ = some (.int .i64 F.x) ∧ W'.cell? ⟨gA, 2, none⟩ = some (.int .i64 F.y) ∧ W'.cell? ⟨gA, 3, none⟩ = some (.int .i64 F.w) ∧ W'.cell? ⟨gA, 4, none⟩ = some (.int .i64 F.h)) W') := Lib.hid (fun W' h hb => hb.c5)
  obtain ⟨wd, hwd⟩ : ∃ wd, wd = w6.drew := ⟨_, rfl⟩
  have HId : Hid (WkI C k Af cf Ao co wd) := Lib.hid (by rw [hwd]; exact HI6.out.below (Below.refl _ _).drew)
  have HFd : Hid (Blk wd gA 165 #[.int .u8 F.side, .int .i64 F.x, .int .i64 F.y, .int .i64 F.w, .int .i64 F.h]) := Lib.hid (by rw [hwd]; exact HF6.out.drew)
  have HUd : Hid (Blk wd g2 27 #[.int .i64 u.w, .int .i64 u.left, .int .i64 u.right]) := Lib.hid (by rw [hwd]; exact HU6.out.drew)
  have hszd : C.w0.heap.size ≤ wd.heap.size := HId.out.size
  have E6 : Hid ((w6.alloc (.cells #[.int .u8 F.side, .int .i64 F.x, .int .i64 F.y, .int .i64 F.w, .int .i64 F.h] 165)).drew = wd.alloc (.cells #[.int .u8 F.side, .int .i64 F.x, .int .i64 F.y, .int .i64 F.w, .int .i64 F.h] 165)) := Lib.hid (by rw [hwd]; rfl)
  have HGZ : Hid (w6.heap.size = wd.heap.size) := Lib.hid (by rw [hwd]; rfl)
  have HE0 := Lib.hid (HS5.out _ (HI6.out.below (Below.refl _ _).drew) HF6.out.drew)
  clear hwd
  refine wp_region_held_drew (S := fun W' => W'.cell? ⟨gA, 0, none⟩ = some (.int .u8 F.side) ∧ W'.cell? ⟨gA, 1, none⟩ = some (.int .i64 F.x) ∧ W'.cell? ⟨gA, 2, none⟩ = some (.int .i64 F.y) ∧ W'.cell? ⟨gA, 3, none⟩ = some (.int .i64 F.w) ∧ W'.cell? ⟨gA, 4, none⟩ = some (.int .i64 F.h)) (by kernel_rfl) HE0.out (fun hS => ?_)
  refine wpAnyH_take (i := 0) (v := ?_) rfl (by kernel_rfl) (by kernel_rfl) (by kernel_rfl) (fun _ _ _ h => h) (Or.inl ⟨by rfl, ?_⟩) hS ?_
  rotate_left
  · intro W' hS'
    go_simp
    rfl
  try simp only [Act.put, List.setIfInBounds_toArray, List.set_cons_zero, List.set_cons_succ, List.getElem_toArray, List.getElem_cons_zero, List.getElem_cons_succ]
  refine wpAnyH_take (i := 1) (v := ?_) rfl (by kernel_rfl) (by kernel_rfl) (by kernel_rfl) (fun _ _ _ h => h) (Or.inl ⟨by rfl, ?_⟩) hS ?_
  rotate_left
  · intro W' hS'
    go_simp
    rfl
  try simp only [Act.put, List.setIfInBounds_toArray, List.set_cons_zero, List.set_cons_succ, List.getElem_toArray, List.getElem_cons_zero, List.getElem_cons_succ]
  refine wpAnyH_take (i := 2) (v := ?_) rfl (by kernel_rfl) (by kernel_rfl) (by kernel_rfl) (fun _ _ _ h => h) (Or.inl ⟨by rfl, ?_⟩) hS ?_
  rotate_left
  · intro W' hS'
    go_simp
    rfl
  try simp only [Act.put, List.setIfInBounds_toArray, List.set_cons_zero, List.set_cons_succ, List.getElem_toArray, List.getElem_cons_zero, List.getElem_cons_succ]
  refine wpAnyH_take (i := 3) (v := ?_) rfl (by kernel_rfl) (by kernel_rfl) (by kernel_rfl) (fun _ _ _ h => h) (Or.inl ⟨by rfl, ?_⟩) hS ?_
  rotate_left
  · intro W' hS'
    go_simp
    rfl
  try simp only [Act.put, List.setIfInBounds_toArray, List.set_cons_zero, List.set_cons_succ, List.getElem_toArray, List.getElem_cons_zero, List.getElem_cons_succ]
  refine wpAnyH_take (i := 5) (v := ?_) rfl (by kernel_rfl) (by kernel_rfl) (by kernel_rfl) (fun _ _ _ h => h) (Or.inl ⟨by rfl, ?_⟩) hS ?_
  rotate_left
  · intro W' hS'
    go_simp
    rfl
  try simp only [Act.put, List.setIfInBounds_toArray, List.set_cons_zero, List.set_cons_succ, List.getElem_toArray, List.getElem_cons_zero, List.getElem_cons_succ]
  refine wpAnyH_ready (rs := [4, 6]) (by kernel_rfl) (by simp) (AllReadyH.cons rfl (fun K hK => ?_) (AllReadyH.cons rfl (fun K hK => ?_) AllReadyH.nil))
  · go_simp
    refine hK.out _ _ HE0.out (fun hS => ?_)
    try simp only [Act.put, List.setIfInBounds_toArray, List.set_cons_zero, List.set_cons_succ, List.getElem_toArray, List.getElem_cons_zero, List.getElem_cons_succ]
    clear hK
    refine wpAnyH_ready (rs := [6]) (by kernel_rfl) (by simp) (AllReadyH.cons rfl (fun K hK => ?_) AllReadyH.nil)
    go_simp
    rw [E6.out]
    refine hK.out _ _ (HS5.out _ (HId.out.below ((Below.refl _ _).alloc (Nat.le_refl _) _)) (HFd.out.alloc _)) (fun hS => ?_)
    try simp only [Act.put, List.setIfInBounds_toArray, List.set_cons_zero, List.set_cons_succ, List.getElem_toArray, List.getElem_cons_zero, List.getElem_cons_succ]
    clear hK
    refine wpAnyH_ready (rs := [7]) (by kernel_rfl) (by simp) (AllReadyH.cons rfl (fun K hK => ?_) AllReadyH.nil)
    refine step_appG (m := 1) rfl _ _ rfl el_fl HId.out.flo hszd rfl [.int .u8 F.side, .int .i64 F.x, .int .i64 F.y, .int .i64 F.w, .int .i64 F.h] rfl HGZ.out rfl (by simp [Value.oneCell']) HKL.out (by omega) ?_
    intro A' c' w7 hown hB hg hob
    have HI7 := Lib.hid (HId.out.appF HC.out F hown hg)
    have HF7 : Hid (Blk w7 gA 165 #[.int .u8 F.side, .int .i64 F.x, .int .i64 F.y, .int .i64 F.w, .int .i64 F.h]) := Lib.hid (HFd.out.grown hg (HNB.out))
    have HU7 : Hid (Blk w7 g2 27 #[.int .i64 u.w, .int .i64 u.left, .int .i64 u.right]) := Lib.hid (HUd.out.grown hg (fun e => own_blk_ne HId.out.flo HUd.out (by decide) e.symm))
    have HW7 := Lib.hid (HId.out.blk.grown hg (own_far HId.out.flo HC.out.bw))
    clear hown hB hg hob
    have c11' := HW7.out.get 11 (v := .slice Af k.fl.length cf) rfl
    have f11' := HW7.out.frozen 11
    refine hK.out _ _ HF7.out.c5 (fun hS => ?_)
    try simp only [Act.put, List.setIfInBounds_toArray, List.set_cons_zero, List.set_cons_succ, List.getElem_toArray, List.getElem_cons_zero, List.getElem_cons_succ]
    clear hK
    refine wpAnyH_take (i := 8) (v := ?_) rfl (by kernel_rfl) (by kernel_rfl) (by kernel_rfl) (fun _ _ _ h => h) (Or.inl ⟨by rfl, ?_⟩) hS ?_
    rotate_left
    · intro W' hS'
      go_simp
      rfl
    try simp only [Act.put, List.setIfInBounds_toArray, List.set_cons_zero, List.set_cons_succ, List.getElem_toArray, List.getElem_cons_zero, List.getElem_cons_succ]
    refine wpAnyH_take (i := 9) (v := ?_) rfl (by kernel_rfl) (by kernel_rfl) (by kernel_rfl) (fun _ _ _ h => h) (Or.inl ⟨by rfl, ?_⟩) hS ?_
    rotate_left
    · intro W' hS'
      go_simp
      rfl
    try simp only [Act.put, List.setIfInBounds_toArray, List.set_cons_zero, List.set_cons_succ, List.getElem_toArray, List.getElem_cons_zero, List.getElem_cons_succ]
    refine wpAnyH_ready (rs := [10]) (by kernel_rfl) (by simp) (AllReadyH.cons rfl (fun K hK => ?_) AllReadyH.nil)
    go_simp
    refine hK.out _ _ (HF7.out.far HNW.out _).c5 (fun hS => ?_)
    try simp only [Act.put, List.setIfInBounds_toArray, List.set_cons_zero, List.set_cons_succ, List.getElem_toArray, List.getElem_cons_zero, List.getElem_cons_succ]
    clear hK
    refine wpAnyH_done (by kernel_rfl) ?_ _
    have HI8 : Hid (WkI C { k with fl := k.fl ++ [F] } A' c' Ao co (w7.setCell ⟨C.bw, 11, none⟩ (.slice A' (k.fl.length + 1) c'))) := HI7
    have HF8 : Hid (Blk (w7.setCell ⟨C.bw, 11, none⟩ (.slice A' (k.fl.length + 1) c')) gA 165 #[.int .u8 F.side, .int .i64 F.x, .int .i64 F.y, .int .i64 F.w, .int .i64 F.h]) := Lib.hid (HF7.out.far HNW.out _)
    have HU8 : Hid (Blk (w7.setCell ⟨C.bw, 11, none⟩ (.slice A' (k.fl.length + 1) c')) g2 27 #[.int .i64 u.w, .int .i64 u.left, .int .i64 u.right]) := Lib.hid (HU7.out.far HNU.out _)
    obtain ⟨w8, hw8⟩ : ∃ w8, w8 = w7.setCell ⟨C.bw, 11, none⟩ (.slice A' (k.fl.length + 1) c') := ⟨_, rfl⟩
    rw [← hw8] at HI8 HF8 HU8 ⊢
    clear hw8 hS c11' f11' HI7 HF7 HU7 HW7
    have HI8s := Lib.hid (HSP.out _ _ _ _ _ _ HI8.out)
    go_upto_region 7 with (go_at_call 42; refine HI8s.out.mono ?_; rintro e w9 ⟨rfl, hb9⟩; have HI9 := Lib.hid (HI8.out.below (hb9.trans (Below.refl _ _).drew)); have HF9 := Lib.hid (HF8.out.below (hb9.trans (Below.refl _ _).drew) HF8.out.lt); have HU9 := Lib.hid (HU8.out.below (hb9.trans (Below.refl _ _).drew) HU8.out.lt); clear hb9)
    have HNS : Hid (gA ≠ C.bs ∧ g2 ≠ C.bs) := Lib.hid ⟨HF8.out.ne_ HI8.out.spt (by decide), HU8.out.ne_ HI8.out.spt (by decide)⟩
    have HS7 : Hid (∀ W', Blk W' gA 165 #[.int .u8 F.side, .int .i64 F.x, .int .i64 F.y, .int .i64 F.w, .int .i64 F.h] → Blk W' g2 27 #[.int .i64 u.w, .int .i64 u.left, .int .i64 u.right] → (fun W' => W'.cell? ⟨gA, 1, none⟩ = some (.int .i64 F.x) ∧ W'.cell? ⟨gA, 2, none⟩ = some (.int .i64 F.y) ∧ W'.cell? ⟨g2, 1, none⟩ = some (.int .i64 u.left)) W') := Lib.hid (fun W' h1 h2 => ⟨h1.get 1 rfl, h1.get 2 rfl, h2.get 1 rfl⟩)
    have HI9h := Lib.hid (HHI.out _ _ _ _ _ _ HI9.out)
    clear HI8s
    refine wp_region_held_drew (S := fun W' => W'.cell? ⟨gA, 1, none⟩ = some (.int .i64 F.x) ∧ W'.cell? ⟨gA, 2, none⟩ = some (.int .i64 F.y) ∧ W'.cell? ⟨g2, 1, none⟩ = some (.int .i64 u.left)) (by kernel_rfl) (HS7.out _ HF9.out HU9.out) (fun hS => ?_)
    refine wpAnyH_take (i := 0) (v := ?_) rfl (by kernel_rfl) (by kernel_rfl) (by kernel_rfl) (fun _ _ _ h => h) (Or.inl ⟨by rfl, ?_⟩) hS ?_
    rotate_left
    · intro W' hS'
      go_simp
      rfl
    try simp only [Act.put, List.setIfInBounds_toArray, List.set_cons_zero, List.set_cons_succ, List.getElem_toArray, List.getElem_cons_zero, List.getElem_cons_succ]
    refine wpAnyH_take (i := 1) (v := ?_) rfl (by kernel_rfl) (by kernel_rfl) (by kernel_rfl) (fun _ _ _ h => h) (Or.inl ⟨by rfl, ?_⟩) hS ?_
    rotate_left
    · intro W' hS'
      go_simp
      rfl
    try simp only [Act.put, List.setIfInBounds_toArray, List.set_cons_zero, List.set_cons_succ, List.getElem_toArray, List.getElem_cons_zero, List.getElem_cons_succ]
    refine wpAnyH_take (i := 2) (v := ?_) rfl (by kernel_rfl) (by kernel_rfl) (by kernel_rfl) (fun _ _ _ h => h) (Or.inl ⟨by rfl, ?_⟩) hS ?_
    rotate_left
    · intro W' hS'
      go_simp
      rfl
    try simp only [Act.put, List.setIfInBounds_toArray, List.set_cons_zero, List.set_cons_succ, List.getElem_toArray, List.getElem_cons_zero, List.getElem_cons_succ]
    refine wpAnyH_take (i := 3) (v := ?_) rfl (by kernel_rfl) (by kernel_rfl) (by kernel_rfl) (fun _ _ _ h => h) (Or.inl ⟨by rfl, ?_⟩) hS ?_
    rotate_left
    · intro W' hS'
      go_simp
      rfl
    try simp only [Act.put, List.setIfInBounds_toArray, List.set_cons_zero, List.set_cons_succ, List.getElem_toArray, List.getElem_cons_zero, List.getElem_cons_succ]
    refine wpAnyH_take (i := 4) (v := ?_) rfl (by kernel_rfl) (by kernel_rfl) (by kernel_rfl) (fun _ _ _ h => h) (Or.inl ⟨by rfl, ?_⟩) hS ?_
    rotate_left
    · intro W' hS'
      go_simp
      rfl
    try simp only [Act.put, List.setIfInBounds_toArray, List.set_cons_zero, List.set_cons_succ, List.getElem_toArray, List.getElem_cons_zero, List.getElem_cons_succ]
    refine wpAnyH_take (i := 5) (v := ?_) rfl (by kernel_rfl) (by kernel_rfl) (by kernel_rfl) (fun _ _ _ h => h) (Or.inl ⟨by rfl, ?_⟩) hS ?_
    rotate_left
    · intro W' hS'
      go_simp
      rfl
    try simp only [Act.put, List.setIfInBounds_toArray, List.set_cons_zero, List.set_cons_succ, List.getElem_toArray, List.getElem_cons_zero, List.getElem_cons_succ]
    refine wpAnyH_take (i := 6) (v := ?_) rfl (by kernel_rfl) (by kernel_rfl) (by kernel_rfl) (fun _ _ _ h => h) (Or.inl ⟨by rfl, ?_⟩) hS ?_
    rotate_left
    · intro W' hS'
      go_simp
      rfl
    try simp only [Act.put, List.setIfInBounds_toArray, List.set_cons_zero, List.set_cons_succ, List.getElem_toArray, List.getElem_cons_zero, List.getElem_cons_succ]
    refine wpAnyH_take (i := 7) (v := ?_) rfl (by kernel_rfl) (by kernel_rfl) (by kernel_rfl) (fun _ _ _ h => h) (Or.inl ⟨by rfl, ?_⟩) hS ?_
    rotate_left
    · intro W' hS'
      go_simp
      rfl
    try simp only [Act.put, List.setIfInBounds_toArray, List.set_cons_zero, List.set_cons_succ, List.getElem_toArray, List.getElem_cons_zero, List.getElem_cons_succ]
    refine wpAnyH_take (i := 8) (v := ?_) rfl (by kernel_rfl) (by kernel_rfl) (by kernel_rfl) (fun _ _ _ h => h) (Or.inl ⟨by rfl, ?_⟩) hS ?_
    rotate_left
    · intro W' hS'
      go_simp
      rfl
    try simp only [Act.put, List.setIfInBounds_toArray, List.set_cons_zero, List.set_cons_succ, List.getElem_toArray, List.getElem_cons_zero, List.getElem_cons_succ]
    refine wpAnyH_take (i := 9) (v := ?_) rfl (by kernel_rfl) (by kernel_rfl) (by kernel_rfl) (fun _ _ _ h => h) (Or.inl ⟨by rfl, ?_⟩) hS ?_
    rotate_left
    · intro W' hS'
      go_simp
      rfl
    try simp only [Act.put, List.setIfInBounds_toArray, List.set_cons_zero, List.set_cons_succ, List.getElem_toArray, List.getElem_cons_zero, List.getElem_cons_succ]
    refine wpAnyH_take (i := 10) (v := ?_) rfl (by kernel_rfl) (by kernel_rfl) (by kernel_rfl) (fun _ _ _ h => h) (Or.inl ⟨by rfl, ?_⟩) hS ?_
    rotate_left
    · intro W' hS'
      go_simp
      rfl
    try simp only [Act.put, List.setIfInBounds_toArray, List.set_cons_zero, List.set_cons_succ, List.getElem_toArray, List.getElem_cons_zero, List.getElem_cons_succ]
    refine wpAnyH_take (i := 11) (v := ?_) rfl (by kernel_rfl) (by kernel_rfl) (by kernel_rfl) (fun _ _ _ h => h) (Or.inl ⟨by rfl, ?_⟩) hS ?_
    rotate_left
    · intro W' hS'
      go_simp
      rfl
    try simp only [Act.put, List.setIfInBounds_toArray, List.set_cons_zero, List.set_cons_succ, List.getElem_toArray, List.getElem_cons_zero, List.getElem_cons_succ]
    refine wpAnyH_take (i := 12) (v := ?_) rfl (by kernel_rfl) (by kernel_rfl) (by kernel_rfl) (fun _ _ _ h => h) (Or.inl ⟨by rfl, ?_⟩) hS ?_
    rotate_left
    · intro W' hS'
      go_simp
      rfl
    try simp only [Act.put, List.setIfInBounds_toArray, List.set_cons_zero, List.set_cons_succ, List.getElem_toArray, List.getElem_cons_zero, List.getElem_cons_succ]
    refine wpAnyH_take (i := 13) (v := ?_) rfl (by kernel_rfl) (by kernel_rfl) (by kernel_rfl) (fun _ _ _ h => h) (Or.inl ⟨by rfl, ?_⟩) hS ?_
    rotate_left
    · intro W' hS'
      go_simp
      rfl
    try simp only [Act.put, List.setIfInBounds_toArray, List.set_cons_zero, List.set_cons_succ, List.getElem_toArray, List.getElem_cons_zero, List.getElem_cons_succ]
    refine wpAnyH_ready (rs := [14]) (by kernel_rfl) (by simp) (AllReadyH.cons rfl (fun K hK => ?_) AllReadyH.nil)
    go_simp
    go_at_call 108
    refine HI9h.out.mono ?_
    rintro e w10 ⟨rfl, hb10⟩
    have HI10 := Lib.hid (HI9.out.below hb10)
    have HF10 := Lib.hid (HF9.out.below hb10 HF9.out.lt)
    have HU10 := Lib.hid (HU9.out.below hb10 HU9.out.lt)
    clear hb10
    obtain ⟨s0, s1, s2, s3, s4⟩ := HI10.out.sc (show i < ({ k with fl := k.fl ++ [F] } : Wk).sp.length from HIL.out)
    have f9 := (wk_fr HI10.out).2
    refine hK.out _ _ (HS7.out _ HF10.out HU10.out) (fun hS => ?_)
    try simp only [Act.put, List.setIfInBounds_toArray, List.set_cons_zero, List.set_cons_succ, List.getElem_toArray, List.getElem_cons_zero, List.getElem_cons_succ]
    clear hK
    refine wpAnyH_take (i := 15) (v := ?_) rfl (by kernel_rfl) (by kernel_rfl) (by kernel_rfl) (fun _ _ _ h => h) (Or.inl ⟨by rfl, ?_⟩) hS ?_
    rotate_left
    · intro W' hS'
      go_simp
      rfl
    try simp only [Act.put, List.setIfInBounds_toArray, List.set_cons_zero, List.set_cons_succ, List.getElem_toArray, List.getElem_cons_zero, List.getElem_cons_succ]
    refine wpAnyH_take (i := 16) (v := ?_) rfl (by kernel_rfl) (by kernel_rfl) (by kernel_rfl) (fun _ _ _ h => h) (Or.inl ⟨by rfl, ?_⟩) hS ?_
    rotate_left
    · intro W' hS'
      go_simp
      rfl
    try simp only [Act.put, List.setIfInBounds_toArray, List.set_cons_zero, List.set_cons_succ, List.getElem_toArray, List.getElem_cons_zero, List.getElem_cons_succ]
    refine wpAnyH_ready (rs := [17]) (by kernel_rfl) (by simp) (AllReadyH.cons rfl (fun K hK => ?_) AllReadyH.nil)
    go_simp
    refine hK.out _ _ (HS7.out _ (HF10.out.far HNS.out.1 _) (HU10.out.far HNS.out.2 _)) (fun hS => ?_)
    try simp only [Act.put, List.setIfInBounds_toArray, List.set_cons_zero, List.set_cons_succ, List.getElem_toArray, List.getElem_cons_zero, List.getElem_cons_succ]
    clear hK
    refine wpAnyH_take (i := 18) (v := ?_) rfl (by kernel_rfl) (by kernel_rfl) (by kernel_rfl) (fun _ _ _ h => h) (Or.inl ⟨by rfl, ?_⟩) hS ?_
    rotate_left
    · intro W' hS'
      go_simp
      rfl
    try simp only [Act.put, List.setIfInBounds_toArray, List.set_cons_zero, List.set_cons_succ, List.getElem_toArray, List.getElem_cons_zero, List.getElem_cons_succ]
    refine wpAnyH_take (i := 19) (v := ?_) rfl (by kernel_rfl) (by kernel_rfl) (by kernel_rfl) (fun _ _ _ h => h) (Or.inl ⟨by rfl, ?_⟩) hS ?_
    rotate_left
    · intro W' hS'
      go_simp
      rfl
    try simp only [Act.put, List.setIfInBounds_toArray, List.set_cons_zero, List.set_cons_succ, List.getElem_toArray, List.getElem_cons_zero, List.getElem_cons_succ]
    refine wpAnyH_ready (rs := [20]) (by kernel_rfl) (by simp) (AllReadyH.cons rfl (fun K hK => ?_) AllReadyH.nil)
    go_simp
    refine hK.out _ _ (HS7.out _ ((HF10.out.far HNS.out.1 _).far HNS.out.1 _) ((HU10.out.far HNS.out.2 _).far HNS.out.2 _)) (fun hS => ?_)
    try simp only [Act.put, List.setIfInBounds_toArray, List.set_cons_zero, List.set_cons_succ, List.getElem_toArray, List.getElem_cons_zero, List.getElem_cons_succ]
    clear hK
    refine wpAnyH_take (i := 21) (v := ?_) rfl (by kernel_rfl) (by kernel_rfl) (by kernel_rfl) (fun _ _ _ h => h) (Or.inl ⟨by rfl, ?_⟩) hS ?_
    rotate_left
    · intro W' hS'
      go_simp
      rfl
    try simp only [Act.put, List.setIfInBounds_toArray, List.set_cons_zero, List.set_cons_succ, List.getElem_toArray, List.getElem_cons_zero, List.getElem_cons_succ]
    refine wpAnyH_take (i := 22) (v := ?_) rfl (by kernel_rfl) (by kernel_rfl) (by kernel_rfl) (fun _ _ _ h => h) (Or.inl ⟨by rfl, ?_⟩) hS ?_
    rotate_left
    · intro W' hS'
      go_simp
      rfl
    try simp only [Act.put, List.setIfInBounds_toArray, List.set_cons_zero, List.set_cons_succ, List.getElem_toArray, List.getElem_cons_zero, List.getElem_cons_succ]
    refine wpAnyH_ready (rs := [23]) (by kernel_rfl) (by simp) (AllReadyH.cons rfl (fun K hK => ?_) AllReadyH.nil)
    go_simp
    refine hK.out _ _ (HS7.out _ (((HF10.out.far HNS.out.1 _).far HNS.out.1 _).far HNS.out.1 _) (((HU10.out.far HNS.out.2 _).far HNS.out.2 _).far HNS.out.2 _)) (fun hS => ?_)
    try simp only [Act.put, List.setIfInBounds_toArray, List.set_cons_zero, List.set_cons_succ, List.getElem_toArray, List.getElem_cons_zero, List.getElem_cons_succ]
    clear hK
    refine wpAnyH_done (by kernel_rfl) ?_ _
    have HI13 := Lib.hid (((HI10.out.setS HC.out (show i < ({ k with fl := k.fl ++ [F] } : Wk).sp.length from HIL.out) 0 (by omega) (.int .i64 (F.x + u.left)) (fun p => { p with left := F.x + u.left }) (fun _ => rfl)).setS HC.out (by show i < (List.modify _ _ _).length; rw [List.length_modify]; exact HIL.out) 1 (by omega) (.int .i64 (F.y + m0)) (fun p => { p with top := F.y + m0 }) (fun _ => rfl)).setS HC.out (by show i < (List.modify (List.modify _ _ _) _ _).length; rw [List.length_modify, List.length_modify]; exact HIL.out) 2 (by omega) (.int .i64 hv) (fun p => { p with high := hv }) (fun _ => rfl))
    clear hS s0 s1 s2 s3 s4 f9
    have e13 : setSp (setSp (setSp { k with fl := k.fl ++ [F] } i fun p => { p with left := F.x + u.left }) i fun p => { p with top := F.y + m0 }) i (fun p => { p with high := hv }) = k' := by
      rw [HKE.out]
      unfold setSp
      simp only [List.modify_modify_eq]
      rfl
    rw [e13] at HI13
    go_wp2_with fail
    go_end0
    exact ⟨⟨_, rfl⟩, _, _, _, _, HI13.out⟩
  · go_simp
    rw [E6.out]
    refine hK.out _ _ (HS5.out _ (HId.out.below ((Below.refl _ _).alloc (Nat.le_refl _) _)) (HFd.out.alloc _)) (fun hS => ?_)
    try simp only [Act.put, List.setIfInBounds_toArray, List.set_cons_zero, List.set_cons_succ, List.getElem_toArray, List.getElem_cons_zero, List.getElem_cons_succ]
    clear hK
    have c11q := (World.cell?_alloc_lt wd (.cells #[.int .u8 F.side, .int .i64 F.x, .int .i64 F.y, .int .i64 F.w, .int .i64 F.h] 165) ⟨C.bw, 11, none⟩ (HId.out.blk.lt)).trans (HId.out.c 11 (v := .slice Af k.fl.length cf) rfl)
    refine wpAnyH_ready (rs := [4]) (by kernel_rfl) (by simp) (AllReadyH.cons rfl (fun K hK => ?_) AllReadyH.nil)
    go_simp
    refine hK.out _ _ (HS5.out _ (HId.out.below ((Below.refl _ _).alloc (Nat.le_refl _) _)) (HFd.out.alloc _)) (fun hS => ?_)
    try simp only [Act.put, List.setIfInBounds_toArray, List.set_cons_zero, List.set_cons_succ, List.getElem_toArray, List.getElem_cons_zero, List.getElem_cons_succ]
    clear hK
    refine wpAnyH_ready (rs := [7]) (by kernel_rfl) (by simp) (AllReadyH.cons rfl (fun K hK => ?_) AllReadyH.nil)
    refine step_appG (m := 1) rfl _ _ rfl el_fl HId.out.flo hszd rfl [.int .u8 F.side, .int .i64 F.x, .int .i64 F.y, .int .i64 F.w, .int .i64 F.h] rfl HGZ.out rfl (by simp [Value.oneCell']) HKL.out (by omega) ?_
    intro A' c' w7 hown hB hg hob
    have HI7 := Lib.hid (HId.out.appF HC.out F hown hg)
    have HF7 : Hid (Blk w7 gA 165 #[.int .u8 F.side, .int .i64 F.x, .int .i64 F.y, .int .i64 F.w, .int .i64 F.h]) := Lib.hid (HFd.out.grown hg (HNB.out))
    have HU7 : Hid (Blk w7 g2 27 #[.int .i64 u.w, .int .i64 u.left, .int .i64 u.right]) := Lib.hid (HUd.out.grown hg (fun e => own_blk_ne HId.out.flo HUd.out (by decide) e.symm))
    have HW7 := Lib.hid (HId.out.blk.grown hg (own_far HId.out.flo HC.out.bw))
    clear hown hB hg hob
    have c11' := HW7.out.get 11 (v := .slice Af k.fl.length cf) rfl
    have f11' := HW7.out.frozen 11
    refine hK.out _ _ HF7.out.c5 (fun hS => ?_)
    try simp only [Act.put, List.setIfInBounds_toArray, List.set_cons_zero, List.set_cons_succ, List.getElem_toArray, List.getElem_cons_zero, List.getElem_cons_succ]
    clear hK
    refine wpAnyH_take (i := 8) (v := ?_) rfl (by kernel_rfl) (by kernel_rfl) (by kernel_rfl) (fun _ _ _ h => h) (Or.inl ⟨by rfl, ?_⟩) hS ?_
    rotate_left
    · intro W' hS'
      go_simp
      rfl
    try simp only [Act.put, List.setIfInBounds_toArray, List.set_cons_zero, List.set_cons_succ, List.getElem_toArray, List.getElem_cons_zero, List.getElem_cons_succ]
    refine wpAnyH_take (i := 9) (v := ?_) rfl (by kernel_rfl) (by kernel_rfl) (by kernel_rfl) (fun _ _ _ h => h) (Or.inl ⟨by rfl, ?_⟩) hS ?_
    rotate_left
    · intro W' hS'
      go_simp
      rfl
    try simp only [Act.put, List.setIfInBounds_toArray, List.set_cons_zero, List.set_cons_succ, List.getElem_toArray, List.getElem_cons_zero, List.getElem_cons_succ]
    refine wpAnyH_ready (rs := [10]) (by kernel_rfl) (by simp) (AllReadyH.cons rfl (fun K hK => ?_) AllReadyH.nil)
    go_simp
    refine hK.out _ _ (HF7.out.far HNW.out _).c5 (fun hS => ?_)
    try simp only [Act.put, List.setIfInBounds_toArray, List.set_cons_zero, List.set_cons_succ, List.getElem_toArray, List.getElem_cons_zero, List.getElem_cons_succ]
    clear hK
    refine wpAnyH_done (by kernel_rfl) ?_ _
    have HI8 : Hid (WkI C { k with fl := k.fl ++ [F] } A' c' Ao co (w7.setCell ⟨C.bw, 11, none⟩ (.slice A' (k.fl.length + 1) c'))) := HI7
    have HF8 : Hid (Blk (w7.setCell ⟨C.bw, 11, none⟩ (.slice A' (k.fl.length + 1) c')) gA 165 #[.int .u8 F.side, .int .i64 F.x, .int .i64 F.y, .int .i64 F.w, .int .i64 F.h]) := Lib.hid (HF7.out.far HNW.out _)
    have HU8 : Hid (Blk (w7.setCell ⟨C.bw, 11, none⟩ (.slice A' (k.fl.length + 1) c')) g2 27 #[.int .i64 u.w, .int .i64 u.left, .int .i64 u.right]) := Lib.hid (HU7.out.far HNU.out _)
    obtain ⟨w8, hw8⟩ : ∃ w8, w8 = w7.setCell ⟨C.bw, 11, none⟩ (.slice A' (k.fl.length + 1) c') := ⟨_, rfl⟩
    rw [← hw8] at HI8 HF8 HU8 ⊢
    clear hw8 hS c11' f11' HI7 HF7 HU7 HW7
    have HI8s := Lib.hid (HSP.out _ _ _ _ _ _ HI8.out)
    go_upto_region 7 with (go_at_call 42; refine HI8s.out.mono ?_; rintro e w9 ⟨rfl, hb9⟩; have HI9 := Lib.hid (HI8.out.below (hb9.trans (Below.refl _ _).drew)); have HF9 := Lib.hid (HF8.out.below (hb9.trans (Below.refl _ _).drew) HF8.out.lt); have HU9 := Lib.hid (HU8.out.below (hb9.trans (Below.refl _ _).drew) HU8.out.lt); clear hb9)
    have HNS : Hid (gA ≠ C.bs ∧ g2 ≠ C.bs) := Lib.hid ⟨HF8.out.ne_ HI8.out.spt (by decide), HU8.out.ne_ HI8.out.spt (by decide)⟩
    have HS7 : Hid (∀ W', Blk W' gA 165 #[.int .u8 F.side, .int .i64 F.x, .int .i64 F.y, .int .i64 F.w, .int .i64 F.h] → Blk W' g2 27 #[.int .i64 u.w, .int .i64 u.left, .int .i64 u.right] → (fun W' => W'.cell? ⟨gA, 1, none⟩ = some (.int .i64 F.x) ∧ W'.cell? ⟨gA, 2, none⟩ = some (.int .i64 F.y) ∧ W'.cell? ⟨g2, 1, none⟩ = some (.int .i64 u.left)) W') := Lib.hid (fun W' h1 h2 => ⟨h1.get 1 rfl, h1.get 2 rfl, h2.get 1 rfl⟩)
    have HI9h := Lib.hid (HHI.out _ _ _ _ _ _ HI9.out)
    clear HI8s
    refine wp_region_held_drew (S := fun W' => W'.cell? ⟨gA, 1, none⟩ = some (.int .i64 F.x) ∧ W'.cell? ⟨gA, 2, none⟩ = some (.int .i64 F.y) ∧ W'.cell? ⟨g2, 1, none⟩ = some (.int .i64 u.left)) (by kernel_rfl) (HS7.out _ HF9.out HU9.out) (fun hS => ?_)
    refine wpAnyH_take (i := 0) (v := ?_) rfl (by kernel_rfl) (by kernel_rfl) (by kernel_rfl) (fun _ _ _ h => h) (Or.inl ⟨by rfl, ?_⟩) hS ?_
    rotate_left
    · intro W' hS'
      go_simp
      rfl
    try simp only [Act.put, List.setIfInBounds_toArray, List.set_cons_zero, List.set_cons_succ, List.getElem_toArray, List.getElem_cons_zero, List.getElem_cons_succ]
    refine wpAnyH_take (i := 1) (v := ?_) rfl (by kernel_rfl) (by kernel_rfl) (by kernel_rfl) (fun _ _ _ h => h) (Or.inl ⟨by rfl, ?_⟩) hS ?_
    rotate_left
    · intro W' hS'
      go_simp
      rfl
    try simp only [Act.put, List.setIfInBounds_toArray, List.set_cons_zero, List.set_cons_succ, List.getElem_toArray, List.getElem_cons_zero, List.getElem_cons_succ]
    refine wpAnyH_take (i := 2) (v := ?_) rfl (by kernel_rfl) (by kernel_rfl) (by kernel_rfl) (fun _ _ _ h => h) (Or.inl ⟨by rfl, ?_⟩) hS ?_
    rotate_left
    · intro W' hS'
      go_simp
      rfl
    try simp only [Act.put, List.setIfInBounds_toArray, List.set_cons_zero, List.set_cons_succ, List.getElem_toArray, List.getElem_cons_zero, List.getElem_cons_succ]
    refine wpAnyH_take (i := 3) (v := ?_) rfl (by kernel_rfl) (by kernel_rfl) (by kernel_rfl) (fun _ _ _ h => h) (Or.inl ⟨by rfl, ?_⟩) hS ?_
    rotate_left
    · intro W' hS'
      go_simp
      rfl
    try simp only [Act.put, List.setIfInBounds_toArray, List.set_cons_zero, List.set_cons_succ, List.getElem_toArray, List.getElem_cons_zero, List.getElem_cons_succ]
    refine wpAnyH_take (i := 4) (v := ?_) rfl (by kernel_rfl) (by kernel_rfl) (by kernel_rfl) (fun _ _ _ h => h) (Or.inl ⟨by rfl, ?_⟩) hS ?_
    rotate_left
    · intro W' hS'
      go_simp
      rfl
    try simp only [Act.put, List.setIfInBounds_toArray, List.set_cons_zero, List.set_cons_succ, List.getElem_toArray, List.getElem_cons_zero, List.getElem_cons_succ]
    refine wpAnyH_take (i := 5) (v := ?_) rfl (by kernel_rfl) (by kernel_rfl) (by kernel_rfl) (fun _ _ _ h => h) (Or.inl ⟨by rfl, ?_⟩) hS ?_
    rotate_left
    · intro W' hS'
      go_simp
      rfl
    try simp only [Act.put, List.setIfInBounds_toArray, List.set_cons_zero, List.set_cons_succ, List.getElem_toArray, List.getElem_cons_zero, List.getElem_cons_succ]
    refine wpAnyH_take (i := 6) (v := ?_) rfl (by kernel_rfl) (by kernel_rfl) (by kernel_rfl) (fun _ _ _ h => h) (Or.inl ⟨by rfl, ?_⟩) hS ?_
    rotate_left
    · intro W' hS'
      go_simp
      rfl
    try simp only [Act.put, List.setIfInBounds_toArray, List.set_cons_zero, List.set_cons_succ, List.getElem_toArray, List.getElem_cons_zero, List.getElem_cons_succ]
    refine wpAnyH_take (i := 7) (v := ?_) rfl (by kernel_rfl) (by kernel_rfl) (by kernel_rfl) (fun _ _ _ h => h) (Or.inl ⟨by rfl, ?_⟩) hS ?_
    rotate_left
    · intro W' hS'
      go_simp
      rfl
    try simp only [Act.put, List.setIfInBounds_toArray, List.set_cons_zero, List.set_cons_succ, List.getElem_toArray, List.getElem_cons_zero, List.getElem_cons_succ]
    refine wpAnyH_take (i := 8) (v := ?_) rfl (by kernel_rfl) (by kernel_rfl) (by kernel_rfl) (fun _ _ _ h => h) (Or.inl ⟨by rfl, ?_⟩) hS ?_
    rotate_left
    · intro W' hS'
      go_simp
      rfl
    try simp only [Act.put, List.setIfInBounds_toArray, List.set_cons_zero, List.set_cons_succ, List.getElem_toArray, List.getElem_cons_zero, List.getElem_cons_succ]
    refine wpAnyH_take (i := 9) (v := ?_) rfl (by kernel_rfl) (by kernel_rfl) (by kernel_rfl) (fun _ _ _ h => h) (Or.inl ⟨by rfl, ?_⟩) hS ?_
    rotate_left
    · intro W' hS'
      go_simp
      rfl
    try simp only [Act.put, List.setIfInBounds_toArray, List.set_cons_zero, List.set_cons_succ, List.getElem_toArray, List.getElem_cons_zero, List.getElem_cons_succ]
    refine wpAnyH_take (i := 10) (v := ?_) rfl (by kernel_rfl) (by kernel_rfl) (by kernel_rfl) (fun _ _ _ h => h) (Or.inl ⟨by rfl, ?_⟩) hS ?_
    rotate_left
    · intro W' hS'
      go_simp
      rfl
    try simp only [Act.put, List.setIfInBounds_toArray, List.set_cons_zero, List.set_cons_succ, List.getElem_toArray, List.getElem_cons_zero, List.getElem_cons_succ]
    refine wpAnyH_take (i := 11) (v := ?_) rfl (by kernel_rfl) (by kernel_rfl) (by kernel_rfl) (fun _ _ _ h => h) (Or.inl ⟨by rfl, ?_⟩) hS ?_
    rotate_left
    · intro W' hS'
      go_simp
      rfl
    try simp only [Act.put, List.setIfInBounds_toArray, List.set_cons_zero, List.set_cons_succ, List.getElem_toArray, List.getElem_cons_zero, List.getElem_cons_succ]
    refine wpAnyH_take (i := 12) (v := ?_) rfl (by kernel_rfl) (by kernel_rfl) (by kernel_rfl) (fun _ _ _ h => h) (Or.inl ⟨by rfl, ?_⟩) hS ?_
    rotate_left
    · intro W' hS'
      go_simp
      rfl
    try simp only [Act.put, List.setIfInBounds_toArray, List.set_cons_zero, List.set_cons_succ, List.getElem_toArray, List.getElem_cons_zero, List.getElem_cons_succ]
    refine wpAnyH_take (i := 13) (v := ?_) rfl (by kernel_rfl) (by kernel_rfl) (by kernel_rfl) (fun _ _ _ h => h) (Or.inl ⟨by rfl, ?_⟩) hS ?_
    rotate_left
    · intro W' hS'
      go_simp
      rfl
    try simp only [Act.put, List.setIfInBounds_toArray, List.set_cons_zero, List.set_cons_succ, List.getElem_toArray, List.getElem_cons_zero, List.getElem_cons_succ]
    refine wpAnyH_ready (rs := [14]) (by kernel_rfl) (by simp) (AllReadyH.cons rfl (fun K hK => ?_) AllReadyH.nil)
    go_simp
    go_at_call 108
    refine HI9h.out.mono ?_
    rintro e w10 ⟨rfl, hb10⟩
    have HI10 := Lib.hid (HI9.out.below hb10)
    have HF10 := Lib.hid (HF9.out.below hb10 HF9.out.lt)
    have HU10 := Lib.hid (HU9.out.below hb10 HU9.out.lt)
    clear hb10
    obtain ⟨s0, s1, s2, s3, s4⟩ := HI10.out.sc (show i < ({ k with fl := k.fl ++ [F] } : Wk).sp.length from HIL.out)
    have f9 := (wk_fr HI10.out).2
    refine hK.out _ _ (HS7.out _ HF10.out HU10.out) (fun hS => ?_)
    try simp only [Act.put, List.setIfInBounds_toArray, List.set_cons_zero, List.set_cons_succ, List.getElem_toArray, List.getElem_cons_zero, List.getElem_cons_succ]
    clear hK
    refine wpAnyH_take (i := 15) (v := ?_) rfl (by kernel_rfl) (by kernel_rfl) (by kernel_rfl) (fun _ _ _ h => h) (Or.inl ⟨by rfl, ?_⟩) hS ?_
    rotate_left
    · intro W' hS'
      go_simp
      rfl
    try simp only [Act.put, List.setIfInBounds_toArray, List.set_cons_zero, List.set_cons_succ, List.getElem_toArray, List.getElem_cons_zero, List.getElem_cons_succ]
    refine wpAnyH_take (i := 16) (v := ?_) rfl (by kernel_rfl) (by kernel_rfl) (by kernel_rfl) (fun _ _ _ h => h) (Or.inl ⟨by rfl, ?_⟩) hS ?_
    rotate_left
    · intro W' hS'
      go_simp
      rfl
    try simp only [Act.put, List.setIfInBounds_toArray, List.set_cons_zero, List.set_cons_succ, List.getElem_toArray, List.getElem_cons_zero, List.getElem_cons_succ]
    refine wpAnyH_ready (rs := [17]) (by kernel_rfl) (by simp) (AllReadyH.cons rfl (fun K hK => ?_) AllReadyH.nil)
    go_simp
    refine hK.out _ _ (HS7.out _ (HF10.out.far HNS.out.1 _) (HU10.out.far HNS.out.2 _)) (fun hS => ?_)
    try simp only [Act.put, List.setIfInBounds_toArray, List.set_cons_zero, List.set_cons_succ, List.getElem_toArray, List.getElem_cons_zero, List.getElem_cons_succ]
    clear hK
    refine wpAnyH_take (i := 18) (v := ?_) rfl (by kernel_rfl) (by kernel_rfl) (by kernel_rfl) (fun _ _ _ h => h) (Or.inl ⟨by rfl, ?_⟩) hS ?_
    rotate_left
    · intro W' hS'
      go_simp
      rfl
    try simp only [Act.put, List.setIfInBounds_toArray, List.set_cons_zero, List.set_cons_succ, List.getElem_toArray, List.getElem_cons_zero, List.getElem_cons_succ]
    refine wpAnyH_take (i := 19) (v := ?_) rfl (by kernel_rfl) (by kernel_rfl) (by kernel_rfl) (fun _ _ _ h => h) (Or.inl ⟨by rfl, ?_⟩) hS ?_
    rotate_left
    · intro W' hS'
      go_simp
      rfl
    try simp only [Act.put, List.setIfInBounds_toArray, List.set_cons_zero, List.set_cons_succ, List.getElem_toArray, List.getElem_cons_zero, List.getElem_cons_succ]
    refine wpAnyH_ready (rs := [20]) (by kernel_rfl) (by simp) (AllReadyH.cons rfl (fun K hK => ?_) AllReadyH.nil)
    go_simp
    refine hK.out _ _ (HS7.out _ ((HF10.out.far HNS.out.1 _).far HNS.out.1 _) ((HU10.out.far HNS.out.2 _).far HNS.out.2 _)) (fun hS => ?_)
    try simp only [Act.put, List.setIfInBounds_toArray, List.set_cons_zero, List.set_cons_succ, List.getElem_toArray, List.getElem_cons_zero, List.getElem_cons_succ]
    clear hK
    refine wpAnyH_take (i := 21) (v := ?_) rfl (by kernel_rfl) (by kernel_rfl) (by kernel_rfl) (fun _ _ _ h => h) (Or.inl ⟨by rfl, ?_⟩) hS ?_
    rotate_left
    · intro W' hS'
      go_simp
      rfl
    try simp only [Act.put, List.setIfInBounds_toArray, List.set_cons_zero, List.set_cons_succ, List.getElem_toArray, List.getElem_cons_zero, List.getElem_cons_succ]
    refine wpAnyH_take (i := 22) (v := ?_) rfl (by kernel_rfl) (by kernel_rfl) (by kernel_rfl) (fun _ _ _ h => h) (Or.inl ⟨by rfl, ?_⟩) hS ?_
    rotate_left
    · intro W' hS'
      go_simp
      rfl
    try simp only [Act.put, List.setIfInBounds_toArray, List.set_cons_zero, List.set_cons_succ, List.getElem_toArray, List.getElem_cons_zero, List.getElem_cons_succ]
    refine wpAnyH_ready (rs := [23]) (by kernel_rfl) (by simp) (AllReadyH.cons rfl (fun K hK => ?_) AllReadyH.nil)
    go_simp
    refine hK.out _ _ (HS7.out _ (((HF10.out.far HNS.out.1 _).far HNS.out.1 _).far HNS.out.1 _) (((HU10.out.far HNS.out.2 _).far HNS.out.2 _).far HNS.out.2 _)) (fun hS => ?_)
    try simp only [Act.put, List.setIfInBounds_toArray, List.set_cons_zero, List.set_cons_succ, List.getElem_toArray, List.getElem_cons_zero, List.getElem_cons_succ]
    clear hK
    refine wpAnyH_done (by kernel_rfl) ?_ _
    have HI13 := Lib.hid (((HI10.out.setS HC.out (show i < ({ k with fl := k.fl ++ [F] } : Wk).sp.length from HIL.out) 0 (by omega) (.int .i64 (F.x + u.left)) (fun p => { p with left := F.x + u.left }) (fun _ => rfl)).setS HC.out (by show i < (List.modify _ _ _).length; rw [List.length_modify]; exact HIL.out) 1 (by omega) (.int .i64 (F.y + m0)) (fun p => { p with top := F.y + m0 }) (fun _ => rfl)).setS HC.out (by show i < (List.modify (List.modify _ _ _) _ _).length; rw [List.length_modify, List.length_modify]; exact HIL.out) 2 (by omega) (.int .i64 hv) (fun p => { p with high := hv }) (fun _ => rfl))
    clear hS s0 s1 s2 s3 s4 f9
    have e13 : setSp (setSp (setSp { k with fl := k.fl ++ [F] } i fun p => { p with left := F.x + u.left }) i fun p => { p with top := F.y + m0 }) i (fun p => { p with high := hv }) = k' := by
      rw [HKE.out]
      unfold setSp
      simp only [List.modify_modify_eq]
      rfl
    rw [e13] at HI13
    go_wp2_with fail
    go_end0
    exact ⟨⟨_, rfl⟩, _, _, _, _, HI13.out⟩
end
end Go.Proofs.Ytlebbkhhhmempaa
