/- Boxes one in the other, plain: what the walk comes to. -/
import Derived.Test.YtlebbkhhhmempaaTxn
set_option linter.unusedSimpArgs false
set_option linter.unusedVariables false
namespace Go.Proofs.Ytlebbkhhhmempaa
open Go.RowKit
theorem shutAll_at (m : Int) (j : Nat) : ∀ (l : List Nat) (sp : List Sp), (shutAll m sp l)[j]? = if j ∈ l then (sp[j]?).map (shut m) else sp[j]?
  | [], sp => by simp [shutAll]
  | i :: l, sp => by
    show (shutAll m (sp.modify i (shut m)) l)[j]? = _
    rw [shutAll_at m j l, List.getElem?_modify]
    by_cases h1 : i = j
    · subst h1
      simp only [List.mem_cons, true_or, if_true]
      cases sp[i]? with
      | none => simp
      | some s => by_cases h2 : i ∈ l <;> simp [h2, shut]
    · have h3 : ¬ j = i := fun e => h1 e.symm
      simp only [h1, if_false, List.mem_cons, h3, false_or]
      cases sp[j]? <;> simp
structure NsI (k : Wk) : Prop where
  y : -16777216 ≤ k.y ∧ k.y ≤ 16777216
  m : 0 ≤ k.st.most ∧ k.st.most ≤ 1048576
  l : -1048576 ≤ k.st.least ∧ k.st.least ≤ 0
  fl : k.fl = []
  op : k.op.length ≤ 1000
  sp : ∀ s ∈ k.sp, spB s = true
theorem NsI.wk {k : Wk} (h : NsI k) : wkB k = true := by
  have h1 := h.y; have h2 := h.m; have h3 := h.l; have h4 := h.op
  exact wkB_of (by omega) (by omega) (by omega) (by rw [h.fl]; simp) (by rw [h.fl]; simp) (by omega) h.sp
theorem spB_iff {s : Sp} : spB s = true ↔ inL s.left = true ∧ inL s.top = true ∧ inL s.high = true := by
  unfold spB; simp only [Bool.and_eq_true, and_assoc]
theorem ns_open (us : List Ud) (k : Wk) (i : Nat) (r : Rw) (hu : (usF us i).left = 0) (hI : NsI k) (hop : k.op.length ≤ 900) (hr : RwOk r) (hc : r.cl = 0) : openF us (twS r) k i 0 = some { y := k.y, st := joinF k.st r.a, fl := k.fl, op := k.op ++ [i], sp := k.sp.modify i fun p => { p with left := 0, op := true } } ∧ NsI { y := k.y, st := joinF k.st r.a, fl := k.fl, op := k.op ++ [i], sp := k.sp.modify i fun p => { p with left := 0, op := true } } := by
  have h1 := hI.y; have h2 := hI.m; have h3 := hI.l
  have ha := hr.a
  have hm0 : mgF (twS r).m0 = r.a := rfl
  have hJ : (0 ≤ (joinF k.st r.a).most ∧ (joinF k.st r.a).most ≤ 1048576) ∧ -1048576 ≤ (joinF k.st r.a).least ∧ (joinF k.st r.a).least ≤ 0 := by unfold joinF; dsimp only; omega
  have hz : inL 0 = true := by decide
  have hI1 : NsI (setSp (joinS k r.a) i fun p => { p with left := 0 }) := by
    refine ⟨h1, hJ.1, hJ.2, hI.fl, hI.op, fun s hs => ?_⟩
    rcases mem_modify hs with h | ⟨y, h, rfl⟩
    · exact hI.sp s h
    · have := spB_iff.1 (hI.sp y h); exact spB_iff.2 ⟨hz, this.2⟩
  have hI2 : NsI { y := k.y, st := joinF k.st r.a, fl := k.fl, op := k.op ++ [i], sp := k.sp.modify i fun p => { p with left := 0, op := true } } := by
    refine ⟨h1, hJ.1, hJ.2, hI.fl, by simp; omega, fun s hs => ?_⟩
    rcases mem_modify hs with h | ⟨y, h, rfl⟩
    · exact hI.sp s h
    · have := spB_iff.1 (hI.sp y h); exact spB_iff.2 ⟨hz, this.2⟩
  refine ⟨?_, hI2⟩
  unfold openF
  rw [hm0, hu, Int.add_zero]
  unfold chk
  rw [if_pos hI1.wk]
  simp only
  have hcl : clearF (setSp (joinS k r.a) i fun p => { p with left := 0 }).fl (twS r).clear (markF (setSp (joinS k r.a) i fun p => { p with left := 0 })) = markF (setSp (joinS k r.a) i fun p => { p with left := 0 }) := by
    show clearF k.fl r.cl _ = _
    rw [hc, clear_0]
  rw [hcl, if_neg (by omega), show roofF (twS r) = 0 from rfl, if_neg (by omega)]
  have e : { setSp (setSp (joinS k r.a) i fun p => { p with left := 0 }) i (fun p => { p with op := true }) with op := (setSp (joinS k r.a) i fun p => { p with left := 0 }).op ++ [i] } = ({ y := k.y, st := joinF k.st r.a, fl := k.fl, op := k.op ++ [i], sp := k.sp.modify i fun p => { p with left := 0, op := true } } : Wk) := by
    unfold setSp joinS
    show Wk.mk _ _ _ _ _ = _
    congr 1
    rw [List.modify_modify_eq]; rfl
  rw [e, if_pos hI2.wk]
structure NsO (k : Wk) (i n : Nat) (S H : Int) (st : Stt) (k' : Wk) : Prop where
  y : k'.y = S + H
  st : k'.st = st
  fl : k'.fl = []
  op : k'.op = []
  len : k'.sp.length = k.sp.length
  sp : ∀ j, k'.sp[j]? = if i < j ∧ j ≤ n then some ⟨0, S, H, false⟩ else if j ∈ k.op then (k.sp[j]?).map (shut S) else k.sp[j]?
def jaF (s : Stt) (t : List Rw) : Stt := t.foldl (fun s r => joinF s r.a) s
def jbF (t : List Rw) : Stt := t.foldr (fun r s => joinF s r.b) ⟨0, 0⟩
theorem jaF_B : ∀ (t : List Rw) (s : Stt), (∀ r ∈ t, RwOk r) → (0 ≤ s.most ∧ s.most ≤ 1048576) ∧ (-1048576 ≤ s.least ∧ s.least ≤ 0) → (0 ≤ (jaF s t).most ∧ (jaF s t).most ≤ 1048576) ∧ (-1048576 ≤ (jaF s t).least ∧ (jaF s t).least ≤ 0)
  | [], s, _, h => h
  | r :: t, s, hr, h => by
    refine jaF_B t (joinF s r.a) (fun x hx => hr x (List.mem_cons_of_mem _ hx)) ?_
    have := (hr r List.mem_cons_self).a
    unfold joinF; dsimp only; omega
theorem jbF_B : ∀ (t : List Rw), (∀ r ∈ t, RwOk r) → (0 ≤ (jbF t).most ∧ (jbF t).most ≤ 1048576) ∧ (-1048576 ≤ (jbF t).least ∧ (jbF t).least ≤ 0)
  | [], _ => by unfold jbF; simp
  | r :: t, hr => by
    have h := jbF_B t (fun x hx => hr x (List.mem_cons_of_mem _ hx))
    have := (hr r List.mem_cons_self).b
    have e : jbF (r :: t) = joinF (jbF t) r.b := rfl
    rw [e]
    unfold joinF; dsimp only; omega
theorem nest_go (bo : Int) (rs : List Rw) (us : List Ud) (H : Int) (hH : 0 < H ∧ H ≤ 1048576) (hu : ∀ i, (usF us i).left = 0) (hr : ∀ r ∈ rs, RwOk r ∧ r.fl = 0 ∧ r.cl = 0) (hlast : ∀ i (h : i < rs.length), (rs[i]).h = if i + 1 = rs.length then H else -1) :
    ∀ (d i g : Nat) (k : Wk), i + (d + 1) = rs.length → (0 < i ∨ bo = 0) → d + 2 ≤ g → NsI k → -8388608 ≤ k.y ∧ k.y ≤ 8388608 → k.op.length + d ≤ 800 → k.sp.length = rs.length + 1 → (∀ j ∈ k.op, j ≤ i) →
    ∃ k', contF g (nsL bo rs) us [] k i 0 = some k' ∧ NsO k i rs.length (k.y + sumF (jaF k.st (rs.drop i))) H (jbF (rs.drop i)) k' := by
  intro d
  induction d with
  | zero =>
    intro i g k hi hbo hg hI hy hop hsl hj
    obtain ⟨g, rfl⟩ : ∃ g', g = g' + 2 := ⟨g - 2, by omega⟩
    have hil : i < rs.length := by omega
    obtain ⟨h1, h2, h3⟩ := hr _ (List.getElem_mem hil)
    have hdr : rs.drop i = [rs[i]] := by rw [List.drop_eq_getElem_cons hil, List.drop_eq_nil_of_le (by omega)]
    have hh : (rs[i]).h = H := by rw [hlast i hil, if_pos (by omega)]
    obtain ⟨r, hre⟩ : ∃ r, r = rs[i] := ⟨_, rfl⟩
    rw [← hre] at h1 h2 h3 hdr hh
    have hst : styF (nsL bo rs) (i + 1) = some (twS r) := by
      rw [ns_sty bo rs i hil, ← hre]
      have : (if i = 0 then bo else 0) = 0 := by split <;> omega
      rw [this]; rfl
    obtain ⟨ho, hI2⟩ := ns_open us k (i + 1) r (hu _) hI (by omega) h1 h3
    obtain ⟨k2, hk2⟩ : ∃ k2 : Wk, k2 = { y := k.y, st := joinF k.st r.a, fl := k.fl, op := k.op ++ [i + 1], sp := k.sp.modify (i + 1) fun p => { p with left := 0, op := true } } := ⟨_, rfl⟩
    rw [← hk2] at ho hI2
    rw [contF_succ, ns_kids, if_pos hil]
    simp only [List.foldlM_cons, List.foldlM_nil]
    unfold stepC
    rw [Int.toNat_natCast, hst]
    simp only
    rw [if_neg (by show ¬ r.fl ≠ 0; rw [h2]; simp), ho]
    simp only
    rw [contF_succ, ns_kids, if_neg (by omega)]
    simp only [List.foldlM_nil]
    have hspi : i + 1 < k.sp.length := by omega
    have hown : k2.sp[i + 1]? = some { k.sp[i + 1] with left := 0, op := true } := by
      rw [hk2]
      show (k.sp.modify (i + 1) _)[i + 1]? = _
      rw [List.getElem?_modify, List.getElem?_eq_getElem hspi]; simp
    obtain ⟨S, hS⟩ : ∃ S, S = k.y + sumF (joinF k.st r.a) := ⟨_, rfl⟩
    have hmk : markF k2 = S := by rw [hk2, hS]; rfl
    have hj1 := hI2.m; have hj2 := hI2.l
    have hst2 : k2.st = joinF k.st r.a := by rw [hk2]
    rw [hst2] at hj1 hj2
    have hSb : -16777216 ≤ S + H ∧ S + H ≤ 16777216 := by rw [hS]; unfold sumF; omega
    have hSc : -16777216 ≤ S ∧ S ≤ 16777216 := by rw [hS]; unfold sumF; omega
    have hb := h1.b
    obtain ⟨k3, hk3⟩ : ∃ k3, k3 = behindF (setSp (settleF k2) (i + 1) fun p => { p with high := H + 0 }) (S + (H + 0)) r.b := ⟨_, rfl⟩
    have hsp3 : k3.sp = (shutAll S k2.sp k2.op).modify (i + 1) fun p => { p with high := H + 0 } := by
      rw [hk3]
      show (shutAll (markF k2) k2.sp k2.op).modify (i + 1) _ = _
      rw [hmk]
    have hI3 : wkB k3 = true := by
      refine wkB_of (by rw [hk3]; show _ ≤ S + (H + 0) ∧ S + (H + 0) ≤ _; omega) (by rw [hk3]; show _ ≤ (joinF ⟨0, 0⟩ r.b).most ∧ (joinF ⟨0, 0⟩ r.b).most ≤ _; unfold joinF; dsimp only; omega) (by rw [hk3]; show _ ≤ (joinF ⟨0, 0⟩ r.b).least ∧ (joinF ⟨0, 0⟩ r.b).least ≤ _; unfold joinF; dsimp only; omega) (by rw [hk3]; show ∀ f ∈ k2.fl, _; rw [hI2.fl]; simp) (by rw [hk3]; show k2.fl.length ≤ _; rw [hI2.fl]; simp) (by rw [hk3]; show ([] : List Nat).length ≤ _; simp) (fun s hs => ?_)
      rw [hsp3] at hs
      have hsh : ∀ s ∈ shutAll S k2.sp k2.op, spB s = true := fun s hs => by
        obtain ⟨j, hj⟩ := List.mem_iff_getElem?.1 hs
        rw [shutAll_at] at hj
        split at hj
        · cases hx : k2.sp[j]? with
          | none => rw [hx] at hj; cases hj
          | some x =>
            rw [hx] at hj
            injection hj with hj
            have := spB_iff.1 (hI2.sp x (List.mem_of_getElem? hx))
            rw [← hj]
            exact spB_iff.2 ⟨this.1, inL_far (by show _ ≤ S ∧ S ≤ _; omega), this.2.2⟩
        · exact hI2.sp s (List.mem_of_getElem? hj)
      rcases mem_modify hs with h | ⟨y, h, rfl⟩
      · exact hsh s h
      · have := spB_iff.1 (hsh y h); exact spB_iff.2 ⟨this.1, this.2.1, inL_far (by dsimp only; omega)⟩
    have hle : leaveF (twS r) k2 (i + 1) (mgF (twS r).m2) = some k3 := by
      rw [show mgF (twS r).m2 = r.b from rfl]
      unfold leaveF
      rw [hown]
      simp only
      have hhi : ∀ a : Int, highF (twS r) a = H := fun a => by rw [high_tw, if_pos (by omega)]; omega
      rw [show floorF (twS r) = 0 from rfl, hhi, if_neg (by simp; omega), if_pos (by simp), hmk]
      unfold chk
      rw [← hk3, if_pos hI3]
    refine ⟨k3, ?_, ?_⟩
    · show Option.bind (leaveF (twS r) k2 (i + 1) (mgF (twS r).m2)) pure = some k3
      rw [hle]; rfl
    have hja : jaF k.st (rs.drop i) = joinF k.st r.a := by rw [hdr]; rfl
    have hjb : jbF (rs.drop i) = joinF ⟨0, 0⟩ r.b := by rw [hdr]; rfl
    rw [hja, hjb, ← hS]
    refine ⟨by rw [hk3]; show S + (H + 0) = S + H; omega, by rw [hk3]; rfl, by rw [hk3]; exact hI2.fl, by rw [hk3]; rfl, by rw [hsp3, List.length_modify, shutAll_len, hk2]; simp, fun j => ?_⟩
    rw [hsp3, List.getElem?_modify, shutAll_at]
    have hk2o : k2.op = k.op ++ [i + 1] := by rw [hk2]
    have hk2s : k2.sp = k.sp.modify (i + 1) fun p => { p with left := 0, op := true } := by rw [hk2]
    rw [hk2o, hk2s, List.getElem?_modify]
    by_cases hji : i + 1 = j
    · subst hji
      have c1 : i + 1 ∈ k.op ++ [i + 1] := by simp
      have c2 : i < i + 1 ∧ i + 1 ≤ rs.length := by omega
      rw [List.getElem?_eq_getElem hspi, if_pos c1, if_pos c2]
      simp [shut]
    · have hn : ¬ (i < j ∧ j ≤ rs.length) := by omega
      have hj3 : ¬ j = i + 1 := fun e => hji e.symm
      rw [if_neg hn]
      simp only [List.mem_append, List.mem_singleton, hj3, or_false, hji, if_false]
      by_cases hjo : j ∈ k.op
      · first | (simp [hjo]; done) | (simp [hjo]; cases k.sp[j]? <;> simp)
      · simp [hjo]
  | succ d ih =>
    intro i g k hi hbo hg hI hy hop hsl hj
    obtain ⟨g, rfl⟩ : ∃ g', g = g' + 1 := ⟨g - 1, by omega⟩
    have hil : i < rs.length := by omega
    obtain ⟨h1, h2, h3⟩ := hr _ (List.getElem_mem hil)
    have hdr : rs.drop i = rs[i] :: rs.drop (i + 1) := List.drop_eq_getElem_cons hil
    have hh : (rs[i]).h = -1 := by rw [hlast i hil, if_neg (by omega)]
    obtain ⟨r, hre⟩ : ∃ r, r = rs[i] := ⟨_, rfl⟩
    rw [← hre] at h1 h2 h3 hdr hh
    have hst : styF (nsL bo rs) (i + 1) = some (twS r) := by
      rw [ns_sty bo rs i hil, ← hre]
      have : (if i = 0 then bo else 0) = 0 := by split <;> omega
      rw [this]; rfl
    obtain ⟨ho, hI2⟩ := ns_open us k (i + 1) r (hu _) hI (by omega) h1 h3
    obtain ⟨k2, hk2⟩ : ∃ k2 : Wk, k2 = { y := k.y, st := joinF k.st r.a, fl := k.fl, op := k.op ++ [i + 1], sp := k.sp.modify (i + 1) fun p => { p with left := 0, op := true } } := ⟨_, rfl⟩
    rw [← hk2] at ho hI2
    obtain ⟨k3, hc, hO⟩ := ih (i + 1) g k2 (by omega) (.inl (by omega)) (by omega) hI2 (by rw [hk2]; exact hy) (by rw [hk2]; simp; omega) (by rw [hk2]; simpa using hsl) (by
      intro j hj2
      rw [hk2] at hj2
      rcases List.mem_append.1 hj2 with h | h
      · have := hj j h; omega
      · rw [List.mem_singleton.1 h]; exact Nat.le_refl _)
    obtain ⟨S, hS⟩ : ∃ S, S = k.y + sumF (jaF k.st (rs.drop i)) := ⟨_, rfl⟩
    have hS2 : k2.y + sumF (jaF k2.st (rs.drop (i + 1))) = S := by rw [hS, hk2, hdr]; rfl
    rw [hS2] at hO
    have hJa := jaF_B (rs.drop i) k.st (fun x hx => (hr x (List.mem_of_mem_drop hx)).1) ⟨hI.m, hI.l⟩
    have hJb := jbF_B (rs.drop i) (fun x hx => (hr x (List.mem_of_mem_drop hx)).1)
    have hSc : -16777216 ≤ S ∧ S ≤ 16777216 := by rw [hS]; unfold sumF; omega
    have hSb : -16777216 ≤ S + H ∧ S + H ≤ 16777216 := by rw [hS]; unfold sumF; omega
    have hspi : i + 1 < k.sp.length := by omega
    have hk2o : k2.op = k.op ++ [i + 1] := by rw [hk2]
    have hk2s : k2.sp = k.sp.modify (i + 1) fun p => { p with left := 0, op := true } := by rw [hk2]
    have hown : ∃ hg, k3.sp[i + 1]? = some ⟨0, S, hg, false⟩ := by
      rw [hO.sp (i + 1), if_neg (by omega), if_pos (by rw [hk2o]; simp), hk2s, List.getElem?_modify, List.getElem?_eq_getElem hspi]
      exact ⟨k.sp[i + 1].high, by simp [shut]⟩
    obtain ⟨hg, hown⟩ := hown
    obtain ⟨k4, hk4⟩ : ∃ k4, k4 = joinS (setSp k3 (i + 1) fun p => { p with high := 0 + H + 0 }) r.b := ⟨_, rfl⟩
    have hjb : jbF (rs.drop i) = joinF (jbF (rs.drop (i + 1))) r.b := by rw [hdr]; rfl
    have hsp3 : ∀ s ∈ k3.sp, spB s = true := fun s hs => by
      obtain ⟨j, hj4⟩ := List.mem_iff_getElem?.1 hs
      rw [hO.sp] at hj4
      split at hj4
      · injection hj4 with hj4
        rw [← hj4]
        exact spB_iff.2 ⟨by show inL 0 = true; decide, inL_far (by dsimp only; omega), inL_far (by dsimp only; omega)⟩
      · split at hj4
        · cases hx : k2.sp[j]? with
          | none => rw [hx] at hj4; cases hj4
          | some x =>
            rw [hx] at hj4
            injection hj4 with hj4
            have := spB_iff.1 (hI2.sp x (List.mem_of_getElem? hx))
            rw [← hj4]
            exact spB_iff.2 ⟨this.1, inL_far (by show _ ≤ S ∧ S ≤ _; omega), this.2.2⟩
        · exact hI2.sp s (List.mem_of_getElem? hj4)
    have hst4 : k4.st = jbF (rs.drop i) := by rw [hk4]; show joinF k3.st r.b = _; rw [hO.st, hjb]
    have hI4 : wkB k4 = true := by
      refine wkB_of (by rw [hk4]; show _ ≤ k3.y ∧ k3.y ≤ _; rw [hO.y]; omega) (by rw [hst4]; omega) (by rw [hst4]; omega) (by rw [hk4]; show ∀ f ∈ k3.fl, _; rw [hO.fl]; simp) (by rw [hk4]; show k3.fl.length ≤ _; rw [hO.fl]; simp) (by rw [hk4]; show k3.op.length ≤ _; rw [hO.op]; simp) (fun s hs => ?_)
      rw [hk4] at hs
      rcases mem_modify hs with h | ⟨y, h, rfl⟩
      · exact hsp3 s h
      · have := spB_iff.1 (hsp3 y h); exact spB_iff.2 ⟨this.1, this.2.1, inL_far (by dsimp only; omega)⟩
    have hle : leaveF (twS r) k3 (i + 1) (mgF (twS r).m2) = some k4 := by
      rw [show mgF (twS r).m2 = r.b from rfl]
      unfold leaveF
      rw [hown]
      simp only
      have hhi : highF (twS r) H = H := by rw [high_tw, if_neg (by omega)]; omega
      have hhk : (twS r).h.k = 0 := by unfold twS; rw [if_neg (by omega)]
      rw [if_neg (by simp), if_neg (by simp), show floorF (twS r) = 0 from rfl, if_neg (by omega), hown]
      simp only
      rw [hO.y, show roofF (twS r) = 0 from rfl, show S + H - S - 0 = H by omega, hhi, if_pos (by simp [hhk])]
      unfold chk
      rw [← hk4, if_pos hI4]
    refine ⟨k4, ?_, ?_⟩
    · rw [contF_succ, ns_kids, if_pos hil]
      simp only [List.foldlM_cons, List.foldlM_nil]
      unfold stepC
      rw [Int.toNat_natCast, hst]
      simp only
      rw [if_neg (by show ¬ r.fl ≠ 0; rw [h2]; simp), ho]
      simp only
      rw [hu, Int.add_zero, hc]
      show Option.bind (leaveF (twS r) k3 (i + 1) (mgF (twS r).m2)) pure = some k4
      rw [hle]; rfl
    rw [← hS]
    refine ⟨by rw [hk4]; exact hO.y, hst4, by rw [hk4]; exact hO.fl, by rw [hk4]; exact hO.op, by rw [hk4]; show (k3.sp.modify _ _).length = _; rw [List.length_modify, hO.len, hk2s, List.length_modify], fun j => ?_⟩
    have hsp4 : k4.sp = k3.sp.modify (i + 1) fun p => { p with high := 0 + H + 0 } := by rw [hk4]; rfl
    rw [hsp4, List.getElem?_modify]
    by_cases hji : i + 1 = j
    · subst hji
      rw [if_pos (by omega), hown]
      simp
    · have hj3 : ¬ j = i + 1 := fun e => hji e.symm
      simp only [hji, if_false]
      rw [hO.sp j, hk2o, hk2s, List.getElem?_modify]
      by_cases hn : i < j ∧ j ≤ rs.length
      · rw [if_pos hn, if_pos (by omega)]; rfl
      · rw [if_neg hn, if_neg (by omega)]
        simp only [List.mem_append, List.mem_singleton, hj3, or_false, hji, if_false]
        by_cases hjo : j ∈ k.op
        · first | (simp [hjo]; done) | (simp [hjo]; cases k.sp[j]? <;> simp)
        · simp [hjo]
end Go.Proofs.Ytlebbkhhhmempaa
