/- Contracts: enter of flow's walk. -/
import Derived.Test.YtlebbkhhhmempaaFl
set_option linter.unusedSimpArgs false
set_option linter.unusedVariables false
namespace Go.Proofs.Ytlebbkhhhmempaa
open Go.RowKit
attribute [local go_sem] block_of_add
theorem shutAll_left (m : Int) (l : List Nat) (i : Nat) : ∀ sp : List Sp, ((shutAll m sp l)[i]?).map (·.left) = (sp[i]?).map (·.left) := by
  induction l with
  | nil => intro sp; rfl
  | cons a t ih =>
    intro sp
    show ((shutAll m (sp.modify a (shut m)) t)[i]?).map _ = _
    rw [ih, List.getElem?_modify]
    cases sp[i]? with
    | none => rfl
    | some v => simp; split <;> rfl
theorem modify_left (sp : List Sp) (a i : Nat) (f : Sp → Sp) (hf : ∀ p, (f p).left = p.left) : ((sp.modify a f)[i]?).map (·.left) = (sp[i]?).map (·.left) := by
  rw [List.getElem?_modify]
  cases sp[i]? with
  | none => rfl
  | some v => simp; split <;> simp [hf]
section
variable (C : Cx) (k : Wk) (Af Ao : Option Addr) (cf co : Nat) (W : World)
attribute [local go_sem] fld_w fld_l
set_option maxRecDepth 100000 in
set_option maxHeartbeats 2000000 in
theorem enter_any (hC : CxOk C) (h : WkI C k Af cf Ao co W) (i : Nat) (hi : i < C.l.length) (h0 : 0 < i) (x : Int) (hwb : wkB k = true) (k3 k4 k' : Wk) (h1 : openF C.us C.l[i].s k i x = some k3)
    (hct : ∀ Af cf Ao co W', WkI C k3 Af cf Ao co W' → Calls Try.prog 44 #[.pointer (some ⟨C.bw, 0, none⟩), .int .i64 i, .int .i64 (x + (usF C.us i).left)] W' fun e w' => (∃ v, e = .returned v) ∧ ∃ Af' cf' Ao' co', WkI C k4 Af' cf' Ao' co' w') (hb4 : wkB k4 = true) (h2 : leaveF C.l[i].s k4 i (mgF C.l[i].s.m2) = some k') :
    Calls Try.prog 76 #[.pointer (some ⟨C.bw, 0, none⟩), .int .i64 i, .int .i64 x] W fun e w' => (∃ v, e = .returned v) ∧ ∃ Af' cf' Ao' co', WkI C k' Af' cf' Ao' co' w' := by
  have HLV := Lib.hid (fun Af' cf' Ao' co' W' (h : WkI C k4 Af' cf' Ao' co' W') => leave_any C k4 Af' Ao' cf' co' W' hC h i hi (mgF C.l[i].s.m2) hb4 k' h2)
  have HCT := Lib.hid hct
  have HUS := Lib.hid (fun k' Af' cf' Ao' co' W' (h : WkI C k' Af' cf' Ao' co' W') => used_any C k' Af' Ao' cf' co' W' hC h i hi)
  have H00 := Lib.hid h0
  clear hct h2
  obtain ⟨ad, hA, hb, hadw, hads, hnd⟩ := WkI.nd C k Af Ao cf co W hC h i hi
  have HST := Lib.hid (hC.sty _ (List.getElem_mem hi))
  obtain ⟨_, _, _, huv⟩ := hC.uv _ (List.getElem_mem hi)
  have HO := Lib.hid (Sty.one C.l[i].s huv)
  have HSF : Hid (styF C.l i = some C.l[i].s) := Lib.hid (by unfold styF; rw [List.getElem?_eq_getElem hi]; rfl)
  have HRNG := Lib.hid (nd_range hnd)
  have HMG := Lib.hid (fun k' Af' cf' Ao' co' W' (h : WkI C k' Af' cf' Ao' co' W') (h0 : 0 < i) => margins_any C k' Af' Ao' cf' co' W' hC h i hi h0)
  obtain ⟨s, hs⟩ : ∃ s, s = C.l[i].s := ⟨_, rfl⟩
  rw [← hs] at HST HO HSF HRNG HMG
  have HI := Lib.hid h
  have HC := Lib.hid hC
  obtain ⟨c0, c1, c2, c3, c4, c5, c6, c7, c8, c9, c10, c11, c12⟩ := h.cs
  rw [hA] at c0
  clear huv hnd hC h hadw hads
  rw [← hs] at h1 HLV
  clear hs
  have HSP := Lib.hid (fun k' Af' cf' Ao' co' W' (h : WkI C k' Af' cf' Ao' co' W') => spot_any C k' Af' Ao' cf' co' W' HC.out h i hi)
  have HMK := Lib.hid (fun k' Af' cf' Ao' co' W' (h : WkI C k' Af' cf' Ao' co' W') (hb : wkB k' = true) => mark_any C k' Af' Ao' cf' co' W' HC.out h hb)
  have HSE := Lib.hid (fun k' Af' cf' Ao' co' W' (h : WkI C k' Af' cf' Ao' co' W') (hb : wkB k' = true) => settle_any C k' Af' Ao' cf' co' W' HC.out h hb)
  have HJO := Lib.hid (fun (st : Stt) (m : Int) W' => join_any st m W')
  have HRO := Lib.hid (fun W' => roof_any s W' HST.out.1)
  have HIL : Hid (i < k.sp.length) := Lib.hid (by rw [HI.out.len]; exact hi)
  obtain ⟨m0, hm0⟩ : ∃ m0, m0 = mgF s.m0 := ⟨_, rfl⟩
  obtain ⟨m2, hm2⟩ : ∃ m2, m2 = mgF s.m2 := ⟨_, rfl⟩
  obtain ⟨u, hu⟩ : ∃ u, u = usF C.us i := ⟨_, rfl⟩
  rw [← hu] at HUS HCT
  obtain ⟨ul, hul⟩ : ∃ ul, ul = u.left := ⟨_, rfl⟩
  rw [← hul] at HUS HCT
  rw [← hm0, ← hm2] at HMG
  rw [← hm2] at HLV
  obtain ⟨ro, hro⟩ : ∃ ro, ro = roofF s := ⟨_, rfl⟩
  rw [← hro] at HRO
  obtain ⟨ka, hka⟩ : ∃ ka, ka = (setSp (joinS k m0) i fun p => { p with left := x + ul }) := ⟨_, rfl⟩
  obtain ⟨mk, hmk⟩ : ∃ mk, mk = markF ka := ⟨_, rfl⟩
  obtain ⟨cl, hcl⟩ : ∃ cl, cl = clearF ka.fl s.clear mk := ⟨_, rfl⟩
  have HKK : Hid (wkB ka = true ∧ (if mk < cl then chk { setSp (settleF ka) i (fun p => { p with top := cl }) with y := cl + ro } else if 0 < ro then chk { setSp (settleF ka) i (fun p => { p with top := mk }) with y := mk + ro } else chk { setSp ka i (fun p => { p with op := true }) with op := ka.op ++ [i] }) = some k3) := Lib.hid (by
    have h := h1
    unfold openF at h
    rw [← hm0, ← hu, ← hul, ← hka] at h
    cases hc : chk ka with
    | none => rw [hc] at h; simp at h
    | some kb =>
      rw [hc] at h
      obtain ⟨hb, he⟩ := chk_p hc
      subst he
      simp only at h
      rw [← hmk, ← hcl, ← hro] at h
      exact ⟨hb, h⟩)
  have HW3 : Hid (wkB k3 = true) := Lib.hid (by
    have h := HKK.out.2
    split at h
    · obtain ⟨a, b⟩ := chk_p h; rw [b]; exact a
    · split at h
      · obtain ⟨a, b⟩ := chk_p h; rw [b]; exact a
      · obtain ⟨a, b⟩ := chk_p h; rw [b]; exact a)
  have HAL : Hid (i < ka.sp.length) := Lib.hid (by rw [hka]; show i < (List.modify _ _ _).length; rw [List.length_modify]; exact HIL.out)
  have HAF : Hid ((ka.sp[i]?).map (·.left) = some (x + ul)) := Lib.hid (by rw [hka]; unfold setSp joinS; rw [List.getElem?_modify, List.getElem?_eq_getElem HIL.out]; simp)
  have hxb : -1125899906842624 ≤ x + ul ∧ x + ul ≤ 1125899906842624 := by
    have h1 := (spB_at HKK.out.1 HAL.out).1
    have h2 := HAF.out
    rw [List.getElem?_eq_getElem HAL.out] at h2
    simp at h2
    rw [h2] at h1
    exact h1
  have u1 : IntKind.i64.wrap (x + ul) = x + ul := IntWalk.i64_in _ ⟨by omega, by omega⟩
  have HN := Lib.hid (wkB_p HKK.out.1)
  have HFB : Hid (FlB lim ka.fl) := Lib.hid (fun f hf => by
    have := HN.out.2.2.2.1 f hf
    unfold flB inL at this
    simp only [Bool.and_eq_true, decide_eq_true_eq] at this
    exact ⟨this.1.1.1.1.1, this.1.1.1.1.2, ⟨this.1.1.1.2, this.1.1.2⟩, ⟨this.1.2, this.2⟩⟩)
  have HCLR : Hid (∀ W', WkI C ka Af cf Ao co W' → Calls Try.prog 106 #[.slice Af ka.fl.length cf, .int .u8 s.clear, .int .i64 mk] W' fun e w' => e = .returned (.int .i64 cl) ∧ Below W'.heap.size W' w') := Lib.hid (fun W' h => by
    rw [hcl]
    exact clear_any ka.fl Af cf W' s.clear mk lim HST.out.2.2 (by have := HN.out; omega) (by decide) HFB.out (Reads.of_own h.flo))
  have HMKA := Lib.hid (fun W' (h : WkI C ka Af cf Ao co W') => HMK.out _ _ _ _ _ W' h HKK.out.1)
  rw [← hmk] at HMKA
  have HKA := Lib.hid hka
  have HMM := Lib.hid hmk
  have HRB : Hid (0 ≤ ro ∧ ro ≤ 2097152) := Lib.hid (by rw [hro]; exact roof_bd HST.out.1)
  have HO60 : Hid (ka.op.length ≤ 60000) := Lib.hid HN.out.2.2.2.2.2.1
  clear h1 hm0 hm2 hu hul hro hka hmk hcl hxb h0 HMK
  go_enter Try.func76, Try.ntmps76
  go_upto_region 1 with (first | refine wpList_load_mid rfl 69 (.tmp 18) rfl ad.block ((ad.add (i * 44)).off + 1) rfl (styCells s) _ HRNG.out Try.underlying69 rfl (by kernel_rfl) ?_ | refine wpList_store_new rfl 69 _ _ rfl _ rfl (styCells s).toArray rfl rfl 69 _ (by kernel_rfl) rfl HO.out ?_)
  obtain ⟨w1, hw1⟩ : ∃ w1, w1 = W.alloc (.cells (styCells s).toArray 69) := ⟨_, rfl⟩
  have HB1 : Hid (Blk w1 W.heap.size 69 (styCells s).toArray) := Lib.hid (by rw [hw1]; exact Blk.new _ _ _)
  have HI1 : Hid (WkI C k Af cf Ao co w1) := Lib.hid (by rw [hw1]; exact HI.out.below ((Below.refl _ _).alloc (Nat.le_refl _) _))
  have HL1 : Hid (Below W.heap.size W w1) := Lib.hid (by rw [hw1]; exact (Below.refl _ _).alloc (Nat.le_refl _) _)
  rw [← hw1]
  obtain ⟨g, hg⟩ : ∃ g, g = W.heap.size := ⟨_, rfl⟩
  rw [← hg] at HB1 ⊢
  have HG := Lib.hid hg
  clear hw1 hg c0 c1 c2 c3 c4 c5 c6 c7 c8 c9 c10 c11 c12 HRNG hb HI
  have q1 := Lib.hid (HSP.out _ _ _ _ _ _ HI1.out)
  go_upto_region 2 with (go_at_call 42; refine q1.out.mono ?_; rintro e w2 ⟨rfl, hb2⟩; have HI2 := Lib.hid (HI1.out.below hb2); have HB2 := Lib.hid (HB1.out.below hb2 HB1.out.lt); clear hb2)
  have q2 := Lib.hid (HMG.out _ _ _ _ _ _ HI2.out H00.out)
  go_upto_region 3 with (go_at_call 105; refine q2.out.mono ?_; rintro e w3 ⟨rfl, hb3⟩; have HI3 := Lib.hid (HI2.out.below hb3); have HB3 := Lib.hid (HB2.out.below hb3 HB2.out.lt); clear hb3)
  obtain ⟨c0, c1, c2, c3, c4, c5, c6, c7, c8, c9, c10, c11, c12⟩ := HI3.out.cs
  obtain ⟨J, hJ⟩ : ∃ J, J = joinF k.st m0 := ⟨_, rfl⟩
  have q3 := Lib.hid (HJO.out k.st m0 w3)
  rw [← hJ] at q3
  have HJJ := Lib.hid hJ
  clear hJ q1 q2
  have HNG : Hid (¬ cxBad C g) := Lib.hid (fun h => by rcases h with h | h; exact HB3.out.ne_ HI3.out.blk (by decide) h; exact HB3.out.ne_ HI3.out.spt (by decide) h)
  go_upto_region 4 with (go_at_call 109; refine q3.out.mono ?_; rintro e w4 ⟨rfl, hw4⟩; have HI4 := Lib.hid (HI3.out.below (hw4 ▸ ((Below.refl _ _).alloc (Nat.le_refl _) _).alloc (by simp) _)); have HB4 : Hid (Blk w4 g 69 (styCells s).toArray) := Lib.hid (hw4 ▸ (HB3.out.alloc _).alloc _); clear hw4; obtain ⟨c0, c1, c2, c3, c4, c5, c6, c7, c8, c9, c10, c11, c12⟩ := HI4.out.cs; have fw := (wk_fr HI4.out).1)
  have HI5 := Lib.hid (HI4.out.setSt HC.out J)
  have HB5 := Lib.hid ((HB4.out.far (p := ⟨C.bw, 9, none⟩) (fun e => HNG.out (.inl e)) (.int .i64 J.most)).far (p := ⟨C.bw, 10, none⟩) (fun e => HNG.out (.inl e)) (.int .i64 J.least))
  clear c0 c1 c2 c3 c4 c5 c6 c7 c8 c9 c10 c11 c12 fw q3
  generalize World.setCell (World.setCell w4 _ _) _ _ = w5 at HI5 HB5 ⊢
  rw [HJJ.out] at HI5
  have q5 := Lib.hid (HUS.out _ _ _ _ _ _ HI5.out)
  go_upto_region 5 with (go_at_call 69; refine q5.out.mono ?_; rintro e w6 ⟨rfl, hb6⟩; have HI6 := Lib.hid (HI5.out.below hb6); have HB6 := Lib.hid (HB5.out.below hb6 HB5.out.lt); clear hb6; obtain ⟨s0, s1, s2, s3, s4⟩ := HI6.out.sc (i := i) HIL.out; have fs := (wk_fr HI6.out).2)
  have HI7' := Lib.hid (HI6.out.setS HC.out (i := i) HIL.out 0 (by omega) (.int .i64 (x + ul)) (fun p => { p with left := x + ul }) (fun _ => rfl))
  have HB7 := Lib.hid (HB6.out.far (p := ⟨C.bs, i * 7 + 0, none⟩) (fun e => HNG.out (.inr e)) (.int .i64 (x + ul)))
  clear s0 s1 s2 s3 s4 fs q5
  rw [Nat.add_zero] at HI7' HB7
  generalize World.setCell w6 _ _ = w7 at HI7' HB7 ⊢
  have HI7 : Hid (WkI C ka Af cf Ao co w7) := Lib.hid (by rw [HKA.out]; exact HI7'.out)
  clear HI7'
  refine wp_region_S (fun _ _ _ W' => Below w7.heap.size w7 W') 1000 1000 100000 true true (by kernel_rfl) (by kernel_rfl) (by kernel_rfl) ((Below.refl _ _).drew) ?_
  refine wpAnyS_take (i := 0) (v := ?_) rfl (by kernel_rfl) (by kernel_rfl) (by kernel_rfl) (fun _ _ _ h => h) (by rfl) (gives_pure (by rfl) ?_) ?_
  rotate_left
  · intro b' d' u' W' hS'
    obtain ⟨c0, c1, c2, c3, c4, c5, c6, c7, c8, c9, c10, c11, c12⟩ := (HI7.out.below hS').cs
    have y3 := (HB7.out.below hS' HB7.out.lt).get 3 (v := .int .u8 s.clear) rfl
    go_simp
    rfl
  try simp only [Act.put, List.setIfInBounds_toArray, List.set_cons_zero, List.set_cons_succ, List.getElem_toArray, List.getElem_cons_zero, List.getElem_cons_succ]
  refine wpAnyS_take (i := 1) (v := ?_) rfl (by kernel_rfl) (by kernel_rfl) (by kernel_rfl) (fun _ _ _ h => h) (by rfl) (gives_pure (by rfl) ?_) ?_
  rotate_left
  · intro b' d' u' W' hS'
    obtain ⟨c0, c1, c2, c3, c4, c5, c6, c7, c8, c9, c10, c11, c12⟩ := (HI7.out.below hS').cs
    have y3 := (HB7.out.below hS' HB7.out.lt).get 3 (v := .int .u8 s.clear) rfl
    go_simp
    rfl
  try simp only [Act.put, List.setIfInBounds_toArray, List.set_cons_zero, List.set_cons_succ, List.getElem_toArray, List.getElem_cons_zero, List.getElem_cons_succ]
  refine wpAnyS_take (i := 2) (v := ?_) rfl (by kernel_rfl) (by kernel_rfl) (by kernel_rfl) (fun _ _ _ h => h) (by rfl) (gives_pure (by rfl) ?_) ?_
  rotate_left
  · intro b' d' u' W' hS'
    obtain ⟨c0, c1, c2, c3, c4, c5, c6, c7, c8, c9, c10, c11, c12⟩ := (HI7.out.below hS').cs
    have y3 := (HB7.out.below hS' HB7.out.lt).get 3 (v := .int .u8 s.clear) rfl
    go_simp
    rfl
  try simp only [Act.put, List.setIfInBounds_toArray, List.set_cons_zero, List.set_cons_succ, List.getElem_toArray, List.getElem_cons_zero, List.getElem_cons_succ]
  refine wpAnyS_take (i := 3) (v := ?_) rfl (by kernel_rfl) (by kernel_rfl) (by kernel_rfl) (fun _ _ _ h => h) (by rfl) (gives_pure (by rfl) ?_) ?_
  rotate_left
  · intro b' d' u' W' hS'
    obtain ⟨c0, c1, c2, c3, c4, c5, c6, c7, c8, c9, c10, c11, c12⟩ := (HI7.out.below hS').cs
    have y3 := (HB7.out.below hS' HB7.out.lt).get 3 (v := .int .u8 s.clear) rfl
    go_simp
    rfl
  try simp only [Act.put, List.setIfInBounds_toArray, List.set_cons_zero, List.set_cons_succ, List.getElem_toArray, List.getElem_cons_zero, List.getElem_cons_succ]
  refine wpAnyS_take (i := 4) (v := ?_) rfl (by kernel_rfl) (by kernel_rfl) (by kernel_rfl) (fun _ _ _ h => h) (by rfl) (gives_pure (by rfl) ?_) ?_
  rotate_left
  · intro b' d' u' W' hS'
    obtain ⟨c0, c1, c2, c3, c4, c5, c6, c7, c8, c9, c10, c11, c12⟩ := (HI7.out.below hS').cs
    have y3 := (HB7.out.below hS' HB7.out.lt).get 3 (v := .int .u8 s.clear) rfl
    go_simp
    rfl
  try simp only [Act.put, List.setIfInBounds_toArray, List.set_cons_zero, List.set_cons_succ, List.getElem_toArray, List.getElem_cons_zero, List.getElem_cons_succ]
  refine wpAnyS_take (i := 5) (v := ?_) rfl (by kernel_rfl) (by kernel_rfl) (by kernel_rfl) (fun _ _ _ h => h) (by rfl) (gives_pure (by rfl) ?_) ?_
  rotate_left
  · intro b' d' u' W' hS'
    obtain ⟨c0, c1, c2, c3, c4, c5, c6, c7, c8, c9, c10, c11, c12⟩ := (HI7.out.below hS').cs
    have y3 := (HB7.out.below hS' HB7.out.lt).get 3 (v := .int .u8 s.clear) rfl
    go_simp
    rfl
  try simp only [Act.put, List.setIfInBounds_toArray, List.set_cons_zero, List.set_cons_succ, List.getElem_toArray, List.getElem_cons_zero, List.getElem_cons_succ]
  refine wpAnyS_take (i := 6) (v := ?_) rfl (by kernel_rfl) (by kernel_rfl) (by kernel_rfl) (fun _ _ _ h => h) (by rfl) (gives_pure (by rfl) ?_) ?_
  rotate_left
  · intro b' d' u' W' hS'
    obtain ⟨c0, c1, c2, c3, c4, c5, c6, c7, c8, c9, c10, c11, c12⟩ := (HI7.out.below hS').cs
    have y3 := (HB7.out.below hS' HB7.out.lt).get 3 (v := .int .u8 s.clear) rfl
    go_simp
    rfl
  try simp only [Act.put, List.setIfInBounds_toArray, List.set_cons_zero, List.set_cons_succ, List.getElem_toArray, List.getElem_cons_zero, List.getElem_cons_succ]
  refine wpAnyS_take (i := 7) (v := _) rfl (by kernel_rfl) (by kernel_rfl) (by kernel_rfl) (fun _ _ _ h => h) (by rfl) (gives_call (by rfl) _ _ ?_ (fun b' d' u' W' hS' => (HMKA.out W' (HI7.out.below hS')).mono (fun _ _ h => ⟨h.1, hS'.trans (h.2.mono hS'.size)⟩))) ?_
  · intro W'
    first | rfl | kernel_rfl
  try simp only [Act.put, List.setIfInBounds_toArray, List.set_cons_zero, List.set_cons_succ, List.getElem_toArray, List.getElem_cons_zero, List.getElem_cons_succ]
  refine wpAnyS_take (i := 8) (v := _) rfl (by kernel_rfl) (by kernel_rfl) (by kernel_rfl) (fun _ _ _ h => h) (by rfl) (gives_call (by rfl) _ _ ?_ (fun b' d' u' W' hS' => (HCLR.out W' (HI7.out.below hS')).mono (fun _ _ h => ⟨h.1, hS'.trans (h.2.mono hS'.size)⟩))) ?_
  · intro W'
    first | rfl | kernel_rfl
  try simp only [Act.put, List.setIfInBounds_toArray, List.set_cons_zero, List.set_cons_succ, List.getElem_toArray, List.getElem_cons_zero, List.getElem_cons_succ]
  refine wpAnyS_take (i := 9) (v := ?_) rfl (by kernel_rfl) (by kernel_rfl) (by kernel_rfl) (fun _ _ _ h => h) (by rfl) (gives_pure (by rfl) ?_) ?_
  rotate_left
  · intro b' d' u' W' hS'
    obtain ⟨c0, c1, c2, c3, c4, c5, c6, c7, c8, c9, c10, c11, c12⟩ := (HI7.out.below hS').cs
    have y3 := (HB7.out.below hS' HB7.out.lt).get 3 (v := .int .u8 s.clear) rfl
    go_simp
    rfl
  try simp only [Act.put, List.setIfInBounds_toArray, List.set_cons_zero, List.set_cons_succ, List.getElem_toArray, List.getElem_cons_zero, List.getElem_cons_succ]
  refine wpAnyS_done (b := true) (d := true) (by kernel_rfl) (by kernel_rfl) (by kernel_rfl) rfl (fun w8 hS => ?_) _
  have HI8 := Lib.hid (HI7.out.below hS)
  have HB8 := Lib.hid (HB7.out.below hS HB7.out.lt)
  clear hS
  have q8 := Lib.hid (HMKA.out _ HI8.out)
  have HTL : Hid (∀ sp : List Sp, sp.length = C.l.length → (sp[i]?).map (·.left) = some (x + ul) → ∀ hh : i < sp.length, sp[i].left = x + ul) := Lib.hid (fun sp _ h1 hh => by rw [List.getElem?_eq_getElem hh] at h1; simpa using h1)
  have hb27 := HST.out.1.b3
  have hb31 := HST.out.1.p3
  have HZ : Hid (s.b3 = 0 ∧ s.p3 = 0) := Lib.hid ⟨hb27, hb31⟩
  clear hb27 hb31
  by_cases hlt : mk < cl
  · have e1 : decide (mk < cl) = true := decide_eq_true hlt
    have HK3 : Hid (k3 = { (setSp (settleF ka) i fun p => { p with top := cl }) with y := cl + ro }) := Lib.hid (by have h := HKK.out.2; rw [if_pos hlt] at h; exact (chk_p h).2)
    have u2 : IntKind.i64.wrap (cl + ro) = cl + ro := IntWalk.i64_in _ (by have h := (wkB_p HW3.out).1; rw [HK3.out] at h; unfold lim at h; have h2 : -1125899906842624 ≤ cl + ro ∧ cl + ro ≤ 1125899906842624 := h; omega)
    go_upto_region 9 with (go_at_call 77; refine q8.out.mono ?_; rintro e w9 ⟨rfl, hb9⟩; have HI9 := Lib.hid (HI8.out.below hb9); have HB9 := Lib.hid (HB8.out.below hb9 HB8.out.lt); clear hb9)
    have q9 := Lib.hid (HSE.out _ _ _ _ _ _ HI9.out HKK.out.1)
    go_upto_region 10 with (go_at_call 71; refine q9.out.mono ?_; rintro e w10 ⟨⟨_, rfl⟩, ⟨Ao4, co4, hi9⟩, k9⟩; have HI10 := Lib.hid hi9; have HB10 := Lib.hid (HB9.out.kp k9 HNG.out); clear hi9 k9)
    have HSL : Hid (i < (settleF ka).sp.length) := Lib.hid (by show i < (shutAll _ _ _).length; rw [shutAll_len]; exact HAL.out)
    obtain ⟨c0, c1, c2, c3, c4, c5, c6, c7, c8, c9, c10, c11, c12⟩ := HI10.out.cs
    have fw := (wk_fr HI10.out).1
    obtain ⟨s0, s1, s2, s3, s4⟩ := HI10.out.sc HSL.out
    have fs := (wk_fr HI10.out).2
    have hne := HC.out.ne
    have hne2 := Ne.symm hne
    go_upto_region 12 with (fail)
    have HI11 := Lib.hid ((HI10.out.setY HC.out cl).setS HC.out (i := i) HSL.out 1 (by omega) (.int .i64 cl) (fun p => { p with top := cl }) (fun _ => rfl))
    have HB11 := Lib.hid ((HB10.out.far (p := ⟨C.bw, 8, none⟩) (fun e => HNG.out (.inl e)) (.int .i64 cl)).far (p := ⟨C.bs, i * 7 + 1, none⟩) (fun e => HNG.out (.inr e)) (.int .i64 cl))
    clear c0 c1 c2 c3 c4 c5 c6 c7 c8 c9 c10 c11 c12 fw s0 s1 s2 s3 s4 fs hne hne2
    generalize World.setCell (World.setCell w10 _ _) _ _ = w11 at HI11 HB11 ⊢
    have E0 : WkI C (setSp { settleF ka with y := cl } i fun p => { p with top := cl }) Af cf Ao4 co4 w11.drew ∧ Blk w11.drew g 69 (styCells s).toArray := ⟨HI11.out.below (Below.refl _ _).drew, HB11.out.drew⟩
    refine wp_region_S (fun b _ _ W' => (if b then WkI C { setSp { settleF ka with y := cl } i (fun p => { p with top := cl }) with y := cl + ro } Af cf Ao4 co4 W' else WkI C (setSp { settleF ka with y := cl } i fun p => { p with top := cl }) Af cf Ao4 co4 W') ∧ Blk W' g 69 (styCells s).toArray) 9 1000 100000 false true (by kernel_rfl) (by kernel_rfl) (by kernel_rfl) (E0) ?_
    refine wpAnyS_take (i := 0) (v := ?_) rfl (by kernel_rfl) (by kernel_rfl) (by kernel_rfl) (fun _ _ _ h => h) (by rfl) (gives_pureF (by rfl) (by kernel_rfl) ?_) ?_
    rotate_left
    · intro d' u' W' hS'
      have hh : WkI C (setSp { settleF ka with y := cl } i fun p => { p with top := cl }) Af cf Ao4 co4 W' := hS'.1
      have c8 := hh.c 8 (v := .int .i64 cl) (by first | rfl | (rw [HMM.out]; rfl))
      have fw := (wk_fr hh).1
      clear hh
      go_simp
      rfl
    try simp only [Act.put, List.setIfInBounds_toArray, List.set_cons_zero, List.set_cons_succ, List.getElem_toArray, List.getElem_cons_zero, List.getElem_cons_succ]
    refine wpAnyS_take (i := 1) (v := ?_) rfl (by kernel_rfl) (by kernel_rfl) (by kernel_rfl) (fun _ _ _ h => h) (by rfl) (gives_pureF (by rfl) (by kernel_rfl) ?_) ?_
    rotate_left
    · intro d' u' W' hS'
      have hh : WkI C (setSp { settleF ka with y := cl } i fun p => { p with top := cl }) Af cf Ao4 co4 W' := hS'.1
      have c8 := hh.c 8 (v := .int .i64 cl) (by first | rfl | (rw [HMM.out]; rfl))
      have fw := (wk_fr hh).1
      clear hh
      go_simp
      rfl
    try simp only [Act.put, List.setIfInBounds_toArray, List.set_cons_zero, List.set_cons_succ, List.getElem_toArray, List.getElem_cons_zero, List.getElem_cons_succ]
    refine wpAnyS_take (i := 2) (v := ?_) rfl (by kernel_rfl) (by kernel_rfl) (by kernel_rfl) (fun _ _ _ h => h) (by rfl) (gives_pureF (by rfl) (by kernel_rfl) ?_) ?_
    rotate_left
    · intro d' u' W' hS'
      have hh : WkI C (setSp { settleF ka with y := cl } i fun p => { p with top := cl }) Af cf Ao4 co4 W' := hS'.1
      have c8 := hh.c 8 (v := .int .i64 cl) (by first | rfl | (rw [HMM.out]; rfl))
      have fw := (wk_fr hh).1
      clear hh
      go_simp
      rfl
    try simp only [Act.put, List.setIfInBounds_toArray, List.set_cons_zero, List.set_cons_succ, List.getElem_toArray, List.getElem_cons_zero, List.getElem_cons_succ]
    refine wpAnyS_take (i := 3) (v := ?_) rfl (by kernel_rfl) (by kernel_rfl) (by kernel_rfl) (fun _ _ _ h => h) (by rfl) (gives_pureF (by rfl) (by kernel_rfl) ?_) ?_
    rotate_left
    · intro d' u' W' hS'
      have hh : WkI C (setSp { settleF ka with y := cl } i fun p => { p with top := cl }) Af cf Ao4 co4 W' := hS'.1
      have c8 := hh.c 8 (v := .int .i64 cl) (by first | rfl | (rw [HMM.out]; rfl))
      have fw := (wk_fr hh).1
      clear hh
      go_simp
      rfl
    try simp only [Act.put, List.setIfInBounds_toArray, List.set_cons_zero, List.set_cons_succ, List.getElem_toArray, List.getElem_cons_zero, List.getElem_cons_succ]
    refine wpAnyS_take (i := 4) (v := .agg (styCells s).toArray) rfl (by kernel_rfl) (by kernel_rfl) (by kernel_rfl) (fun _ _ _ h => h) (by rfl) (gives_yields ?_) ?_
    · refine yieldsIf_load_mid (by rfl) 69 (.tmp 6) rfl (g) 0 rfl (styCells s) _ ?_ Try.underlying69 rfl (by kernel_rfl)
      rintro W' ⟨b', d', u', hS'⟩
      exact (sty_rngF hS'.2)
    try simp only [Act.put, List.setIfInBounds_toArray, List.set_cons_zero, List.set_cons_succ, List.getElem_toArray, List.getElem_cons_zero, List.getElem_cons_succ]
    refine wpAnyS_take (i := 5) (v := _) rfl (by kernel_rfl) (by kernel_rfl) (by kernel_rfl) (fun _ _ _ h => h) (by rfl) (gives_callF (by rfl) (by kernel_rfl) _ _ ?_ (fun d' u' W' hS' => (HRO.out W').mono (fun _ _ h => ⟨h.1, h.2 ▸ ⟨(show WkI C (setSp { settleF ka with y := cl } i fun p => { p with top := cl }) Af cf Ao4 co4 W' from hS'.1).below ((Below.refl _ _).alloc (Nat.le_refl _) _), hS'.2.alloc _⟩⟩))) ?_
    · intro W'
      first | rfl | kernel_rfl
    try simp only [Act.put, List.setIfInBounds_toArray, List.set_cons_zero, List.set_cons_succ, List.getElem_toArray, List.getElem_cons_zero, List.getElem_cons_succ]
    refine wpAnyS_take (i := 6) (v := ?_) rfl (by kernel_rfl) (by kernel_rfl) (by kernel_rfl) (fun _ _ _ h => h) (by rfl) (gives_pureF (by rfl) (by kernel_rfl) ?_) ?_
    rotate_left
    · intro d' u' W' hS'
      have hh : WkI C (setSp { settleF ka with y := cl } i fun p => { p with top := cl }) Af cf Ao4 co4 W' := hS'.1
      have c8 := hh.c 8 (v := .int .i64 cl) (by first | rfl | (rw [HMM.out]; rfl))
      have fw := (wk_fr hh).1
      clear hh
      go_simp
      rfl
    try simp only [Act.put, List.setIfInBounds_toArray, List.set_cons_zero, List.set_cons_succ, List.getElem_toArray, List.getElem_cons_zero, List.getElem_cons_succ]
    refine wpAnyS_take (i := 7) (v := ?_) rfl (by kernel_rfl) (by kernel_rfl) (by kernel_rfl) (fun _ _ _ h => h) (by rfl) (gives_pureF (by rfl) (by kernel_rfl) ?_) ?_
    rotate_left
    · intro d' u' W' hS'
      have hh : WkI C (setSp { settleF ka with y := cl } i fun p => { p with top := cl }) Af cf Ao4 co4 W' := hS'.1
      have c8 := hh.c 8 (v := .int .i64 cl) (by first | rfl | (rw [HMM.out]; rfl))
      have fw := (wk_fr hh).1
      clear hh
      go_simp
      rfl
    try simp only [Act.put, List.setIfInBounds_toArray, List.set_cons_zero, List.set_cons_succ, List.getElem_toArray, List.getElem_cons_zero, List.getElem_cons_succ]
    refine wpAnyS_take (i := 8) (v := ?_) rfl (by kernel_rfl) (by kernel_rfl) (by kernel_rfl) (fun _ _ _ h => h) (by rfl) (gives_pureF (by rfl) (by kernel_rfl) ?_) ?_
    rotate_left
    · intro d' u' W' hS'
      have hh : WkI C (setSp { settleF ka with y := cl } i fun p => { p with top := cl }) Af cf Ao4 co4 W' := hS'.1
      have c8 := hh.c 8 (v := .int .i64 cl) (by first | rfl | (rw [HMM.out]; rfl))
      have fw := (wk_fr hh).1
      clear hh
      go_simp
      rfl
    try simp only [Act.put, List.setIfInBounds_toArray, List.set_cons_zero, List.set_cons_succ, List.getElem_toArray, List.getElem_cons_zero, List.getElem_cons_succ]
    refine wpAnyS_store (i := 9) (d := true) (fun W' => W'.setCell ⟨C.bw, 8, none⟩ (.int .i64 (cl + ro))) rfl (by kernel_rfl) (by rfl) (by rfl) (by kernel_rfl) rfl ?_ (fun W' hS' => ⟨(show WkI C (setSp { settleF ka with y := cl } i fun p => { p with top := cl }) Af cf Ao4 co4 W' from hS'.1).setY HC.out (cl + ro), hS'.2.far (fun e => HNG.out (.inl e)) _⟩) ?_
    · intro W' hS'
      have hh : WkI C (setSp { settleF ka with y := cl } i fun p => { p with top := cl }) Af cf Ao4 co4 W' := hS'.1
      have c8 := hh.c 8 (v := .int .i64 cl) (by first | rfl | (rw [HMM.out]; rfl))
      have fw := (wk_fr hh).1
      clear hh
      go_simp
      try rfl
    try simp only [Act.put, List.setIfInBounds_toArray, List.set_cons_zero, List.set_cons_succ, List.getElem_toArray, List.getElem_cons_zero, List.getElem_cons_succ]
    refine wpAnyS_done (b := true) (d := true) (by kernel_rfl) (by kernel_rfl) (by kernel_rfl) rfl (fun w12 hS => ?_) _
    have HI12 : Hid (WkI C k3 Af cf Ao4 co4 w12) := Lib.hid (by rw [HK3.out]; exact hS.1)
    have HB12 := Lib.hid hS.2
    clear hS E0
    have HLF : Hid ((k3.sp[i]?).map (·.left) = some (x + ul)) := Lib.hid (by rw [HK3.out]; refine (modify_left (shutAll _ ka.sp ka.op) i i (fun p => { p with top := cl }) (fun _ => rfl)).trans ?_; rw [shutAll_left]; exact HAF.out)
    have HS3L : Hid (i < k3.sp.length) := Lib.hid (by rw [HI12.out.len]; exact hi)
    obtain ⟨s0, s1, s2, s3, s4⟩ := HI12.out.sc HS3L.out
    rw [HTL.out _ HI12.out.len HLF.out HS3L.out] at s0
    have y27 := HB12.out.get 27 (v := .int .i64 0) (by rw [← HZ.out.1]; rfl)
    have y31 := HB12.out.get 31 (v := .int .i64 0) (by rw [← HZ.out.2]; rfl)
    go_upto_region 17 with (fail)
    go_still_tail 14, (by kernel_rfl)
    change wpList _ _ _ _ _ w12.drew
    have q20 := Lib.hid (HCT.out _ _ _ _ _ (HI12.out.below (Below.refl _ _).drew))
    generalize w12.drew = w20 at q20 ⊢
    clear s0 s1 s2 s3 s4 y27 y31
    go_upto_region 18 with (go_at_call 44; refine q20.out.mono ?_; rintro e w21 ⟨⟨_, rfl⟩, Af5, cf5, Ao5, co5, hi21⟩; have q21 := Lib.hid (HLV.out _ _ _ _ _ hi21); clear hi21)
    go_wp2_with (go_at_call 111; refine q21.out.mono ?_; rintro e w22 ⟨⟨_, rfl⟩, hi22⟩; have HI22 := Lib.hid hi22; clear hi22)
    go_end0
    exact ⟨⟨_, rfl⟩, HI22.out⟩
  · have e1 : decide (mk < cl) = false := decide_eq_false hlt
    by_cases hro : 0 < ro
    · have e2 : decide (0 < ro) = true := decide_eq_true hro
      have HK3 : Hid (k3 = { (setSp (settleF ka) i fun p => { p with top := mk }) with y := mk + ro }) := Lib.hid (by have h := HKK.out.2; rw [if_neg hlt, if_pos hro] at h; exact (chk_p h).2)
      have u2 : IntKind.i64.wrap (mk + ro) = mk + ro := IntWalk.i64_in _ (by have h := (wkB_p HW3.out).1; rw [HK3.out] at h; unfold lim at h; have h2 : -1125899906842624 ≤ mk + ro ∧ mk + ro ≤ 1125899906842624 := h; omega)
      go_upto_region 14 with (first | (go_at_call 77; refine q8.out.mono ?_; rintro e w9 ⟨rfl, hb9⟩; have HI9 := Lib.hid (HI8.out.below hb9); have HB9 := Lib.hid (HB8.out.below hb9 HB8.out.lt); clear hb9) | (refine wpList_load_midG (by rfl) 69 (.tmp 6) rfl g 0 rfl (styCells s) _ (sty_rngF HB9.out) Try.underlying69 rfl (by kernel_rfl) ?_) | (go_at_call 43; refine (HRO.out _).mono ?_; rintro e w10 ⟨rfl, hw10⟩; subst hw10))
      obtain ⟨w10, hww10⟩ : ∃ w10, w10 = w9.alloc (.cells (styCells s).toArray 69) := ⟨_, rfl⟩
      have HI10 : Hid (WkI C ka Af cf Ao co w10) := Lib.hid (by rw [hww10]; exact HI9.out.below ((Below.refl _ _).alloc (Nat.le_refl _) _))
      have HB10 : Hid (Blk w10 g 69 (styCells s).toArray) := Lib.hid (by rw [hww10]; exact HB9.out.alloc _)
      rw [← hww10]
      clear hww10
      have q9 := Lib.hid (HSE.out _ _ _ _ _ _ HI10.out HKK.out.1)
      go_upto_region 15 with (go_at_call 71; refine q9.out.mono ?_; rintro e w11 ⟨⟨_, rfl⟩, ⟨Ao4, co4, hi9⟩, k9⟩; have HI11 := Lib.hid hi9; have HB11 := Lib.hid (HB10.out.kp k9 HNG.out); clear hi9 k9)
      have HSL : Hid (i < (settleF ka).sp.length) := Lib.hid (by show i < (shutAll _ _ _).length; rw [shutAll_len]; exact HAL.out)
      obtain ⟨c0, c1, c2, c3, c4, c5, c6, c7, c8, c9, c10, c11, c12⟩ := HI11.out.cs
      rw [show (settleF ka).y = mk from HMM.out.symm] at c8
      obtain ⟨s0, s1, s2, s3, s4⟩ := HI11.out.sc HSL.out
      have fs := (wk_fr HI11.out).2
      go_upto_region 16 with (fail)
      have HI12 := Lib.hid (HI11.out.setS HC.out (i := i) HSL.out 1 (by omega) (.int .i64 mk) (fun p => { p with top := mk }) (fun _ => rfl))
      have HB12 := Lib.hid (HB11.out.far (p := ⟨C.bs, i * 7 + 1, none⟩) (fun e => HNG.out (.inr e)) (.int .i64 mk))
      clear c0 c1 c2 c3 c4 c5 c6 c7 c8 c9 c10 c11 c12 s0 s1 s2 s3 s4 fs
      generalize World.setCell w11 _ _ = w12 at HI12 HB12 ⊢
      have E0 : WkI C (setSp (settleF ka) i fun p => { p with top := mk }) Af cf Ao4 co4 w12.drew ∧ Blk w12.drew g 69 (styCells s).toArray := ⟨HI12.out.below (Below.refl _ _).drew, HB12.out.drew⟩
      refine wp_region_S (fun b _ _ W' => (if b then WkI C { (setSp (settleF ka) i fun p => { p with top := mk }) with y := mk + ro } Af cf Ao4 co4 W' else WkI C (setSp (settleF ka) i fun p => { p with top := mk }) Af cf Ao4 co4 W') ∧ Blk W' g 69 (styCells s).toArray) 9 1000 100000 false true (by kernel_rfl) (by kernel_rfl) (by kernel_rfl) (E0) ?_
      refine wpAnyS_take (i := 0) (v := ?_) rfl (by kernel_rfl) (by kernel_rfl) (by kernel_rfl) (fun _ _ _ h => h) (by rfl) (gives_pureF (by rfl) (by kernel_rfl) ?_) ?_
      rotate_left
      · intro d' u' W' hS'
        have hh : WkI C (setSp (settleF ka) i fun p => { p with top := mk }) Af cf Ao4 co4 W' := hS'.1
        have c8 := hh.c 8 (v := .int .i64 mk) (by first | rfl | (rw [HMM.out]; rfl))
        have fw := (wk_fr hh).1
        clear hh
        go_simp
        rfl
      try simp only [Act.put, List.setIfInBounds_toArray, List.set_cons_zero, List.set_cons_succ, List.getElem_toArray, List.getElem_cons_zero, List.getElem_cons_succ]
      refine wpAnyS_take (i := 1) (v := ?_) rfl (by kernel_rfl) (by kernel_rfl) (by kernel_rfl) (fun _ _ _ h => h) (by rfl) (gives_pureF (by rfl) (by kernel_rfl) ?_) ?_
      rotate_left
      · intro d' u' W' hS'
        have hh : WkI C (setSp (settleF ka) i fun p => { p with top := mk }) Af cf Ao4 co4 W' := hS'.1
        have c8 := hh.c 8 (v := .int .i64 mk) (by first | rfl | (rw [HMM.out]; rfl))
        have fw := (wk_fr hh).1
        clear hh
        go_simp
        rfl
      try simp only [Act.put, List.setIfInBounds_toArray, List.set_cons_zero, List.set_cons_succ, List.getElem_toArray, List.getElem_cons_zero, List.getElem_cons_succ]
      refine wpAnyS_take (i := 2) (v := ?_) rfl (by kernel_rfl) (by kernel_rfl) (by kernel_rfl) (fun _ _ _ h => h) (by rfl) (gives_pureF (by rfl) (by kernel_rfl) ?_) ?_
      rotate_left
      · intro d' u' W' hS'
        have hh : WkI C (setSp (settleF ka) i fun p => { p with top := mk }) Af cf Ao4 co4 W' := hS'.1
        have c8 := hh.c 8 (v := .int .i64 mk) (by first | rfl | (rw [HMM.out]; rfl))
        have fw := (wk_fr hh).1
        clear hh
        go_simp
        rfl
      try simp only [Act.put, List.setIfInBounds_toArray, List.set_cons_zero, List.set_cons_succ, List.getElem_toArray, List.getElem_cons_zero, List.getElem_cons_succ]
      refine wpAnyS_take (i := 3) (v := ?_) rfl (by kernel_rfl) (by kernel_rfl) (by kernel_rfl) (fun _ _ _ h => h) (by rfl) (gives_pureF (by rfl) (by kernel_rfl) ?_) ?_
      rotate_left
      · intro d' u' W' hS'
        have hh : WkI C (setSp (settleF ka) i fun p => { p with top := mk }) Af cf Ao4 co4 W' := hS'.1
        have c8 := hh.c 8 (v := .int .i64 mk) (by first | rfl | (rw [HMM.out]; rfl))
        have fw := (wk_fr hh).1
        clear hh
        go_simp
        rfl
      try simp only [Act.put, List.setIfInBounds_toArray, List.set_cons_zero, List.set_cons_succ, List.getElem_toArray, List.getElem_cons_zero, List.getElem_cons_succ]
      refine wpAnyS_take (i := 4) (v := .agg (styCells s).toArray) rfl (by kernel_rfl) (by kernel_rfl) (by kernel_rfl) (fun _ _ _ h => h) (by rfl) (gives_yields ?_) ?_
      · refine yieldsIf_load_mid (by rfl) 69 (.tmp 6) rfl (g) 0 rfl (styCells s) _ ?_ Try.underlying69 rfl (by kernel_rfl)
        rintro W' ⟨b', d', u', hS'⟩
        exact (sty_rngF hS'.2)
      try simp only [Act.put, List.setIfInBounds_toArray, List.set_cons_zero, List.set_cons_succ, List.getElem_toArray, List.getElem_cons_zero, List.getElem_cons_succ]
      refine wpAnyS_take (i := 5) (v := _) rfl (by kernel_rfl) (by kernel_rfl) (by kernel_rfl) (fun _ _ _ h => h) (by rfl) (gives_callF (by rfl) (by kernel_rfl) _ _ ?_ (fun d' u' W' hS' => (HRO.out W').mono (fun _ _ h => ⟨h.1, h.2 ▸ ⟨(show WkI C (setSp (settleF ka) i fun p => { p with top := mk }) Af cf Ao4 co4 W' from hS'.1).below ((Below.refl _ _).alloc (Nat.le_refl _) _), hS'.2.alloc _⟩⟩))) ?_
      · intro W'
        first | rfl | kernel_rfl
      try simp only [Act.put, List.setIfInBounds_toArray, List.set_cons_zero, List.set_cons_succ, List.getElem_toArray, List.getElem_cons_zero, List.getElem_cons_succ]
      refine wpAnyS_take (i := 6) (v := ?_) rfl (by kernel_rfl) (by kernel_rfl) (by kernel_rfl) (fun _ _ _ h => h) (by rfl) (gives_pureF (by rfl) (by kernel_rfl) ?_) ?_
      rotate_left
      · intro d' u' W' hS'
        have hh : WkI C (setSp (settleF ka) i fun p => { p with top := mk }) Af cf Ao4 co4 W' := hS'.1
        have c8 := hh.c 8 (v := .int .i64 mk) (by first | rfl | (rw [HMM.out]; rfl))
        have fw := (wk_fr hh).1
        clear hh
        go_simp
        rfl
      try simp only [Act.put, List.setIfInBounds_toArray, List.set_cons_zero, List.set_cons_succ, List.getElem_toArray, List.getElem_cons_zero, List.getElem_cons_succ]
      refine wpAnyS_take (i := 7) (v := ?_) rfl (by kernel_rfl) (by kernel_rfl) (by kernel_rfl) (fun _ _ _ h => h) (by rfl) (gives_pureF (by rfl) (by kernel_rfl) ?_) ?_
      rotate_left
      · intro d' u' W' hS'
        have hh : WkI C (setSp (settleF ka) i fun p => { p with top := mk }) Af cf Ao4 co4 W' := hS'.1
        have c8 := hh.c 8 (v := .int .i64 mk) (by first | rfl | (rw [HMM.out]; rfl))
        have fw := (wk_fr hh).1
        clear hh
        go_simp
        rfl
      try simp only [Act.put, List.setIfInBounds_toArray, List.set_cons_zero, List.set_cons_succ, List.getElem_toArray, List.getElem_cons_zero, List.getElem_cons_succ]
      refine wpAnyS_take (i := 8) (v := ?_) rfl (by kernel_rfl) (by kernel_rfl) (by kernel_rfl) (fun _ _ _ h => h) (by rfl) (gives_pureF (by rfl) (by kernel_rfl) ?_) ?_
      rotate_left
      · intro d' u' W' hS'
        have hh : WkI C (setSp (settleF ka) i fun p => { p with top := mk }) Af cf Ao4 co4 W' := hS'.1
        have c8 := hh.c 8 (v := .int .i64 mk) (by first | rfl | (rw [HMM.out]; rfl))
        have fw := (wk_fr hh).1
        clear hh
        go_simp
        rfl
      try simp only [Act.put, List.setIfInBounds_toArray, List.set_cons_zero, List.set_cons_succ, List.getElem_toArray, List.getElem_cons_zero, List.getElem_cons_succ]
      refine wpAnyS_store (i := 9) (d := true) (fun W' => W'.setCell ⟨C.bw, 8, none⟩ (.int .i64 (mk + ro))) rfl (by kernel_rfl) (by rfl) (by rfl) (by kernel_rfl) rfl ?_ (fun W' hS' => ⟨(show WkI C (setSp (settleF ka) i fun p => { p with top := mk }) Af cf Ao4 co4 W' from hS'.1).setY HC.out (mk + ro), hS'.2.far (fun e => HNG.out (.inl e)) _⟩) ?_
      · intro W' hS'
        have hh : WkI C (setSp (settleF ka) i fun p => { p with top := mk }) Af cf Ao4 co4 W' := hS'.1
        have c8 := hh.c 8 (v := .int .i64 mk) (by first | rfl | (rw [HMM.out]; rfl))
        have fw := (wk_fr hh).1
        clear hh
        go_simp
        try rfl
      try simp only [Act.put, List.setIfInBounds_toArray, List.set_cons_zero, List.set_cons_succ, List.getElem_toArray, List.getElem_cons_zero, List.getElem_cons_succ]
      refine wpAnyS_done (b := true) (d := true) (by kernel_rfl) (by kernel_rfl) (by kernel_rfl) rfl (fun w13 hS => ?_) _
      have HI13 : Hid (WkI C k3 Af cf Ao4 co4 w13) := Lib.hid (by rw [HK3.out]; exact hS.1)
      have HB13 := Lib.hid hS.2
      clear hS E0
      have HLF : Hid ((k3.sp[i]?).map (·.left) = some (x + ul)) := Lib.hid (by rw [HK3.out]; refine (modify_left (shutAll _ ka.sp ka.op) i i (fun p => { p with top := mk }) (fun _ => rfl)).trans ?_; rw [shutAll_left]; exact HAF.out)
      have HS3L : Hid (i < k3.sp.length) := Lib.hid (by rw [HI13.out.len]; exact hi)
      obtain ⟨s0, s1, s2, s3, s4⟩ := HI13.out.sc HS3L.out
      rw [HTL.out _ HI13.out.len HLF.out HS3L.out] at s0
      have y27 := HB13.out.get 27 (v := .int .i64 0) (by rw [← HZ.out.1]; rfl)
      have y31 := HB13.out.get 31 (v := .int .i64 0) (by rw [← HZ.out.2]; rfl)
      go_upto_region 17 with (fail)
      go_still_tail 14, (by kernel_rfl)
      change wpList _ _ _ _ _ w13.drew
      have q20 := Lib.hid (HCT.out _ _ _ _ _ (HI13.out.below (Below.refl _ _).drew))
      generalize w13.drew = w20 at q20 ⊢
      clear s0 s1 s2 s3 s4 y27 y31
      go_upto_region 18 with (go_at_call 44; refine q20.out.mono ?_; rintro e w21 ⟨⟨_, rfl⟩, Af5, cf5, Ao5, co5, hi21⟩; have q21 := Lib.hid (HLV.out _ _ _ _ _ hi21); clear hi21)
      go_wp2_with (go_at_call 111; refine q21.out.mono ?_; rintro e w22 ⟨⟨_, rfl⟩, hi22⟩; have HI22 := Lib.hid hi22; clear hi22)
      go_end0
      exact ⟨⟨_, rfl⟩, HI22.out⟩
    · have e2 : decide (0 < ro) = false := decide_eq_false hro
      have HK3 : Hid (k3 = { setSp ka i (fun p => { p with op := true }) with op := ka.op ++ [i] }) := Lib.hid (by have h := HKK.out.2; rw [if_neg hlt, if_neg hro] at h; exact (chk_p h).2)
      go_upto_region 6 with (first | (go_at_call 77; refine q8.out.mono ?_; rintro e w9 ⟨rfl, hb9⟩; have HI9 := Lib.hid (HI8.out.below hb9); have HB9 := Lib.hid (HB8.out.below hb9 HB8.out.lt); clear hb9) | (refine wpList_load_midG (by rfl) 69 (.tmp 6) rfl g 0 rfl (styCells s) _ (sty_rngF HB9.out) Try.underlying69 rfl (by kernel_rfl) ?_) | (go_at_call 43; refine (HRO.out _).mono ?_; rintro e w10 ⟨rfl, hw10⟩; subst hw10))
      obtain ⟨w10, hww10⟩ : ∃ w10, w10 = w9.alloc (.cells (styCells s).toArray 69) := ⟨_, rfl⟩
      have HI10 : Hid (WkI C ka Af cf Ao co w10) := Lib.hid (by rw [hww10]; exact HI9.out.below ((Below.refl _ _).alloc (Nat.le_refl _) _))
      have HB10 : Hid (Blk w10 g 69 (styCells s).toArray) := Lib.hid (by rw [hww10]; exact HB9.out.alloc _)
      rw [← hww10]
      clear hww10
      obtain ⟨s0, s1, s2, s3, s4⟩ := HI10.out.sc HAL.out
      have fs := (wk_fr HI10.out).2
      go_upto_region 7 with (fail)
      have HI11 := Lib.hid (HI10.out.setS HC.out (i := i) HAL.out 3 (by omega) (.bool true) (fun p => { p with op := true }) (fun _ => rfl))
      have HB11 := Lib.hid (HB10.out.far (p := ⟨C.bs, i * 7 + 3, none⟩) (fun e => HNG.out (.inr e)) (.bool true))
      clear s0 s1 s2 s3 s4 fs
      generalize World.setCell w10 _ _ = w11 at HI11 HB11 ⊢
      obtain ⟨c0, c1, c2, c3, c4, c5, c6, c7, c8, c9, c10, c11, c12⟩ := HI11.out.cs
      have HO11 : Hid (w11.ownsRow C.w0.heap.size 3 1 (.slice Ao ka.op.length co) ka.op.length (ka.op.map fun (i : Nat) => Value.int .i64 i)) := Lib.hid HI11.out.opn
      have HSZ := Lib.hid HI11.out.size
      have ho60 : ka.op.length + 1 ≤ 4294967296 := by have := HO60.out; omega
      go_upto_region 17 with (at_builtin; refine wpList_appG (m := 1) rfl _ _ rfl el_int2 HO11.out HSZ.out rfl [.int .i64 (i : Int)] rfl rfl rfl (by simp [Value.oneCell']) ho60 (by omega) ?_; intro A' c' w12 hown hB hg hob; have HIo := Lib.hid (HI11.out.appO HC.out i hi hown hg); have HBo := Lib.hid (HB11.out.grown hg (fun e => own_blk_ne HO11.out HB11.out (by decide) e.symm)); have HBW := HI11.out.blk.grown hg (own_far HO11.out HC.out.bw); have c12' := HBW.get 12 (v := .slice Ao ka.op.length co) rfl; have f12 := HBW.frozen 12; clear hown hB hg hob HBW)
      clear c0 c1 c2 c3 c4 c5 c6 c7 c8 c9 c10 c11 c12 c12' f12
      obtain ⟨w13, hww13⟩ : ∃ w13, w13 = w12.setCell ⟨C.bw, 12, none⟩ (.slice A' (ka.op.length + 1) c') := ⟨_, rfl⟩
      have HI13 : Hid (WkI C k3 Af cf A' c' w13) := Lib.hid (by rw [hww13]; exact (by rw [HK3.out]; exact HIo.out))
      have HBp : Hid (Blk w13 g 69 (styCells s).toArray) := Lib.hid (by rw [hww13]; exact HBo.out.far (p := ⟨C.bw, 12, none⟩) (fun e => HNG.out (.inl e)) (.slice A' (ka.op.length + 1) c'))
      rw [← hww13]
      clear hww13
      have HLF : Hid ((k3.sp[i]?).map (·.left) = some (x + ul)) := Lib.hid (by rw [HK3.out]; refine (modify_left ka.sp i i (fun p => { p with op := true }) (fun _ => rfl)).trans ?_; exact HAF.out)
      have HS3L : Hid (i < k3.sp.length) := Lib.hid (by rw [HI13.out.len]; exact hi)
      obtain ⟨s0, s1, s2, s3, s4⟩ := HI13.out.sc HS3L.out
      rw [HTL.out _ HI13.out.len HLF.out HS3L.out] at s0
      have y27 := HBp.out.get 27 (v := .int .i64 0) (by rw [← HZ.out.1]; rfl)
      have y31 := HBp.out.get 31 (v := .int .i64 0) (by rw [← HZ.out.2]; rfl)
      go_upto_region 17 with (fail)
      go_still_tail 14, (by kernel_rfl)
      change wpList _ _ _ _ _ w13.drew
      have q20 := Lib.hid (HCT.out _ _ _ _ _ (HI13.out.below (Below.refl _ _).drew))
      generalize w13.drew = w20 at q20 ⊢
      clear s0 s1 s2 s3 s4 y27 y31
      go_upto_region 18 with (go_at_call 44; refine q20.out.mono ?_; rintro e w21 ⟨⟨_, rfl⟩, Af5, cf5, Ao5, co5, hi21⟩; have q21 := Lib.hid (HLV.out _ _ _ _ _ hi21); clear hi21)
      go_wp2_with (go_at_call 111; refine q21.out.mono ?_; rintro e w22 ⟨⟨_, rfl⟩, hi22⟩; have HI22 := Lib.hid hi22; clear hi22)
      go_end0
      exact ⟨⟨_, rfl⟩, HI22.out⟩
end
end Go.Proofs.Ytlebbkhhhmempaa
