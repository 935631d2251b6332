/- Towers with floats, plain: the box that clears, and all together. -/
import Derived.Test.YtlebbkhhhmempaaTxc
set_option linter.unusedSimpArgs false
set_option linter.unusedVariables false
namespace Go.Proofs.Ytlebbkhhhmempaa
open Go.RowKit
def rowC (k : Wk) (i : Nat) (r : Rw) (c : Int) : Wk := { y := c + r.h, st := joinF ⟨0, 0⟩ r.b, fl := k.fl, op := [], sp := k.sp.modify i fun _ => ⟨0, c, r.h, false⟩ }
theorem modify_at {α : Type} (l : List α) (i : Nat) (f g : α → α) (h : ∀ x, l[i]? = some x → f x = g x) : l.modify i f = l.modify i g := by
  apply List.ext_getElem?
  intro j
  rw [List.getElem?_modify, List.getElem?_modify]
  by_cases e : i = j
  · subst e
    cases hx : l[i]? with
    | none => rfl
    | some x => simp [h x hx]
  · simp [e]
theorem clear_step (n : Nat) (l : List Nd) (us : List Ud) (hs : List Int) (k : Wk) (i : Nat) (r : Rw) (hl : styF l i = some (twS r)) (hk : kidsF l i = []) (hu : (usF us i).left = 0) (hop : k.op = []) (hi : i < k.sp.length) (hF : FarK k) (hr : RwOk r) (hf : r.fl = 0) (hh1 : 0 < r.h) (hown : ∀ s ∈ k.sp, s.op = false) (hcb0 : clearF k.fl r.cl (k.y + sumF (joinF k.st r.a)) ≤ 1099511627776) :
    stepC (n + 1) l us hs 0 0 k (i : Int) = some (rowC k i r (clearF k.fl r.cl (k.y + sumF (joinF k.st r.a)))) := by
  have hy := hF.y
  have hm := hF.m
  have hle := hF.l
  have ha := hr.a
  have hb := hr.b
  have hh := hr.h
  unfold far at hy hm hle
  have hfl : (twS r).float = 0 := hf
  have hsp : ∀ s ∈ k.sp, spB s = true := fun s hs => spB_far (hF.sp s hs)
  unfold stepC
  rw [Int.toNat_natCast, hl]
  simp only
  rw [if_neg (by rw [hfl]; simp)]
  obtain ⟨s1, hs1⟩ : ∃ s1, s1 = joinF k.st r.a := ⟨_, rfl⟩
  have hs1m : -1099511627776 ≤ s1.most ∧ s1.most ≤ 1099511627776 := by rw [hs1]; unfold joinF; simp only; omega
  have hs1l : -1099511627776 ≤ s1.least ∧ s1.least ≤ 1099511627776 := by rw [hs1]; unfold joinF; simp only; omega
  have hmg0 : mgF (twS r).m0 = r.a := rfl
  have hmg2 : mgF (twS r).m2 = r.b := rfl
  have hro : roofF (twS r) = 0 := rfl
  have hflo : floorF (twS r) = 0 := rfl
  -- what stands ahead of the contents
  obtain ⟨k1, hk1⟩ : ∃ k1, k1 = setSp (joinS k r.a) i (fun p => { p with left := 0 }) := ⟨_, rfl⟩
  obtain ⟨m, hm1⟩ : ∃ m, m = k.y + sumF s1 := ⟨_, rfl⟩
  have hmk : markF k1 = m := by rw [hk1, hm1, hs1]; rfl
  have hmb : -4398046511104 ≤ m ∧ m ≤ 4398046511104 := by rw [hm1]; unfold sumF; omega
  have hw1 : wkB k1 = true := by
    rw [hk1]
    refine wkB_of (by show _ ≤ k.y ∧ k.y ≤ _; omega) (by show -562949953421312 ≤ (joinF k.st r.a).most ∧ (joinF k.st r.a).most ≤ 562949953421312; rw [← hs1]; omega) (by show -562949953421312 ≤ (joinF k.st r.a).least ∧ (joinF k.st r.a).least ≤ 562949953421312; rw [← hs1]; omega) hF.fl hF.fn (by show k.op.length ≤ _; rw [hop]; simp) (fun s hs => ?_)
    rcases mem_modify hs with h | ⟨y, h, rfl⟩
    · exact hsp s h
    · have := hF.sp y h; exact spB_far ⟨by unfold far; simp, this.2.1, this.2.2⟩
  obtain ⟨c, hce⟩ : ∃ c, c = clearF k.fl r.cl m := ⟨_, rfl⟩
  have hcm : m ≤ c := by rw [hce]; exact clear_ge _ _ _
  have hcb : c ≤ 1099511627776 := by rw [hce, hm1, hs1]; exact hcb0
  rw [← hs1, ← hm1, ← hce]
  have hc1 : clearF k1.fl (twS r).clear (markF k1) = c := by rw [hmk, hce, hk1]; rfl
  have hwC : ∀ d : Int, -4398046511104 ≤ d ∧ d ≤ 4398046511104 → wkB (rowC k i r d) = true := fun d hd => by
    unfold rowC
    refine wkB_of (by dsimp only; omega) (by unfold joinF; dsimp only; omega) (by unfold joinF; dsimp only; omega) hF.fl hF.fn (by simp) (fun s hs => ?_)
    rcases mem_modify hs with h | ⟨y, h, rfl⟩
    · exact hsp s h
    · unfold spB; dsimp only; rw [inL_far (by omega), inL_far (by omega), inL_far (by omega)]; rfl
  by_cases hlt : m < c
  · obtain ⟨k2, hk2⟩ : ∃ k2 : Wk, k2 = { setSp (settleF k1) i (fun p => { p with top := c }) with y := c + 0 } := ⟨_, rfl⟩
    have hop1 : k1.op = [] := by rw [hk1]; exact hop
    have hsp2 : k2.sp = k.sp.modify i fun p => { p with left := 0, top := c } := by
      rw [hk2]
      show (shutAll (markF k1) k1.sp k1.op).modify i _ = _
      rw [hop1, hk1]
      show (k.sp.modify i _).modify i _ = _
      rw [List.modify_modify_eq]; rfl
    have hw2 : wkB k2 = true := by
      refine wkB_of (by rw [hk2]; dsimp only; omega) (by rw [hk2]; show -562949953421312 ≤ (0 : Int) ∧ (0 : Int) ≤ 562949953421312; omega) (by rw [hk2]; show -562949953421312 ≤ (0 : Int) ∧ (0 : Int) ≤ 562949953421312; omega) (by rw [hk2, hk1]; exact hF.fl) (by rw [hk2, hk1]; exact hF.fn) (by rw [hk2]; simp [setSp, settleF]) (fun s hs => ?_)
      rw [hsp2] at hs
      rcases mem_modify hs with h | ⟨y, h, rfl⟩
      · exact hsp s h
      · have := hF.sp y h; unfold far at this; unfold spB; dsimp only; rw [inL_far (by omega), inL_far (by omega), inL_far (by omega)]; rfl
    have ho : openF us (twS r) k i 0 = some k2 := by
      unfold openF
      rw [hmg0, hu, Int.add_zero, ← hk1]
      unfold chk
      rw [if_pos hw1]
      simp only
      rw [hc1, hmk, if_pos hlt, hro, ← hk2, if_pos hw2]
    rw [ho]
    simp only
    rw [contF_succ, hk]
    simp only [List.foldlM_nil]
    show leaveF (twS r) k2 i (mgF (twS r).m2) = _
    rw [hmg2]
    have hown2 : k2.sp[i]? = some { k.sp[i] with left := 0, top := c } := by
      rw [hsp2, List.getElem?_modify, List.getElem?_eq_getElem hi]; simp
    have ho3 : (k.sp[i]).op = false := hown _ (List.getElem_mem hi)
    unfold leaveF
    rw [hown2]
    simp only
    rw [hflo, if_neg (by rw [ho3]; simp), if_neg (by rw [ho3]; simp), if_neg (by omega)]
    rw [hown2]
    simp only
    have hk2y : k2.y = c + 0 := by rw [hk2]
    have hhk : (twS r).h.k = 1 := by unfold twS; rw [if_pos (by omega)]
    have hh7 : ∀ a : Int, highF (twS r) a = r.h := fun a => by rw [high_tw, if_pos (by omega)]; omega
    rw [hro, hk2y, hh7, if_neg (fun h => by rw [hhk] at h; exact absurd h.1 (by decide))]
    unfold chk
    have e2 : behindF (setSp k2 i fun p => { p with high := 0 + r.h + 0 }) (c + (0 + r.h + 0)) r.b = rowC k i r c := by
      unfold rowC behindF setSp
      rw [hsp2]
      show Wk.mk _ _ _ _ _ = _
      congr 1
      · omega
      · rw [hk2, hk1]; rfl
      · rw [hk2]; rfl
      · rw [List.modify_modify_eq]
        refine modify_at _ _ _ _ (fun x hx => ?_)
        have : x.op = false := hown x (List.mem_of_getElem? hx)
        show Sp.mk 0 c (0 + r.h + 0) x.op = _
        rw [this, Int.zero_add, Int.add_zero]
    rw [e2, if_pos (hwC c ⟨by omega, by omega⟩)]
  have hcm2 : c = m := by omega
  rw [hcm2]
  have hcb : -4398046511104 ≤ m ∧ m ≤ 4398046511104 := hmb
  rw [hcm2] at hc1
  obtain ⟨k2, hk2⟩ : ∃ k2 : Wk, k2 = { setSp k1 i (fun p => { p with op := true }) with op := k1.op ++ [i] } := ⟨_, rfl⟩
  have hsp2 : k2.sp = k.sp.modify i fun p => { p with left := 0, op := true } := by
    rw [hk2, hk1]; show (k.sp.modify i _).modify i _ = _; rw [List.modify_modify_eq]; rfl
  have hop2 : k2.op = [i] := by rw [hk2, hk1]; show k.op ++ [i] = [i]; rw [hop]; rfl
  have hw2 : wkB k2 = true := by
    refine wkB_of (by rw [hk2, hk1]; show _ ≤ k.y ∧ k.y ≤ _; omega) (by rw [hk2, hk1]; show -562949953421312 ≤ (joinF k.st r.a).most ∧ (joinF k.st r.a).most ≤ 562949953421312; rw [← hs1]; omega) (by rw [hk2, hk1]; show -562949953421312 ≤ (joinF k.st r.a).least ∧ (joinF k.st r.a).least ≤ 562949953421312; rw [← hs1]; omega) (by rw [hk2, hk1]; exact hF.fl) (by rw [hk2, hk1]; exact hF.fn) (by rw [hop2]; simp) (fun s hs => ?_)
    rw [hsp2] at hs
    rcases mem_modify hs with h | ⟨y, h, rfl⟩
    · exact hsp s h
    · have := hF.sp y h; exact spB_far ⟨by unfold far; simp, this.2.1, this.2.2⟩
  have ho : openF us (twS r) k i 0 = some k2 := by
    unfold openF
    rw [hmg0, hu, Int.add_zero, ← hk1]
    unfold chk
    rw [if_pos hw1]
    simp only
    rw [hc1, hmk, if_neg (by omega), hro, if_neg (by omega), ← hk2, if_pos hw2]
  rw [ho]
  simp only
  rw [contF_succ, hk]
  simp only [List.foldlM_nil]
  show leaveF (twS r) k2 i (mgF (twS r).m2) = _
  rw [hmg2]
  have hi2 : i < k2.sp.length := by rw [hsp2, List.length_modify]; exact hi
  have hown : k2.sp[i]? = some { k.sp[i] with left := 0, op := true } := by
    rw [hsp2, List.getElem?_modify, List.getElem?_eq_getElem hi]; simp
  have hmk2 : markF k2 = m := by rw [hk2, hk1, hm1, hs1]; rfl
  unfold leaveF
  rw [hown]
  simp only
  rw [hflo, high_tw]
  have hsum : sumF s1 = s1.most + s1.least := rfl
  have h0 : 0 < r.h := by omega
  have e1 : (if 0 ≤ r.h then max r.h 0 else max 0 0) = r.h := by rw [if_pos (by omega)]; omega
  rw [e1, if_neg (by simp; omega), if_pos (by simp)]
  rw [hmk2]
  unfold chk
  have e2 : behindF (setSp (settleF k2) i fun p => { p with high := r.h + 0 }) (m + (r.h + 0)) r.b = rowC k i r m := by
    unfold rowC behindF setSp settleF
    rw [hop2, hsp2, hmk2, Int.add_zero]
    show Wk.mk _ _ _ _ _ = _
    congr 1
    · rw [hk2, hk1]; rfl
    · show List.modify (List.modify (List.modify k.sp i _) i _) i _ = _
      rw [List.modify_modify_eq, List.modify_modify_eq]
      rfl
  rw [e2, if_pos (hwC m hcb)]
def flP (f : Fl) : Int × Int := (f.side, f.y + f.h)
def fbs (t : List Rw) (bs : List Int) : List (Int × Int) := ((t.zip bs).filter fun p => decide (p.1.fl ≠ 0)).map fun p => (p.1.fl, p.2)
def endR (e : Int) (r : Rw) : Int := if r.fl = 0 then e + r.a + r.h else e
theorem fbs_cons (r : Rw) (b : Int) (t : List Rw) (bs : List Int) : fbs (r :: t) (b :: bs) = fbs [r] [b] ++ fbs t bs := by
  unfold fbs
  simp only [List.zip_cons_cons, List.filter_cons, List.zip_nil_left, List.filter_nil]
  split <;> simp
structure RcAt (l : List Nd) (us : List Ud) (hs : List Int) (i : Nat) (r : Rw) : Prop where
  s : styF l i = some (twS r)
  k : kidsF l i = []
  ok : RcOk r
  cl : r.cl = 0
  fl : r.fl = 0 ∧ (usF us i).left = 0 ∨ (r.fl = 1 ∨ r.fl = 2) ∧ (∃ W, usF us i = ⟨W, 0, 0⟩ ∧ 0 ≤ W ∧ W ≤ 100) ∧ hiF hs i = r.h
structure ClS (k : Wk) (i : Nat) (r : Rw) (k1 : Wk) (b : Int) : Prop where
  y : k1.y = endR k.y r
  fl : k1.fl.map flP = k.fl.map flP ++ fbs [r] [b]
  len : k1.sp.length = k.sp.length
  ne : ∀ j, j ≠ i → k1.sp[j]? = k.sp[j]?
  sp : ∃ s, k1.sp[i]? = some s ∧ s.top + s.high = b ∧ s.high = r.h ∧ (r.fl = 0 → b = endR k.y r)
theorem cl_step (n : Nat) (l : List Nd) (us : List Ud) (hs : List Int) (k : Wk) (i : Nat) (r : Rw) (B : Int) (hr : RcAt l us hs i r) (h0 : (usF us 0).w = 100) (hI : ClI B k) (hB : 100 ≤ B ∧ B + 300 ≤ 60000) (hi : i < k.sp.length) :
    ∃ k1 b, stepC (n + 1) l us hs 0 0 k (i : Int) = some k1 ∧ ClI (B + 300) k1 ∧ ClS k i r k1 b := by
  rcases hr.fl with ⟨hf, hu⟩ | ⟨hf, ⟨W, hu, hW⟩, hh⟩
  · refine ⟨rowF k i r, k.y + r.a + r.h, row_step n l us hs k i r hr.s hr.k hu hI.op hi (hI.far (by omega)) hr.ok.ok hf hr.cl, hI.row i hr.ok, ?_⟩
    have he : endR k.y r = k.y + r.a + r.h := by unfold endR; rw [if_pos hf]
    rw [row_cl k i r hI.st hr.ok]
    refine ⟨he.symm, ?_, by simp, fun j hj => ?_, ⟨0, k.y + r.a, r.h, false⟩, ?_, rfl, rfl, fun _ => he.symm⟩
    · have : fbs [r] [k.y + r.a + r.h] = [] := by unfold fbs; simp [hf]
      rw [this, List.append_nil]
    · rw [List.getElem?_modify]; have : ¬ i = j := fun e => hj e.symm
      simp [this]
    · rw [List.getElem?_modify, List.getElem?_eq_getElem hi]; simp
  · obtain ⟨f, h1, h2, h3, h4⟩ := float_step n l us hs k i r B W hr.s hu hW h0 hh hI hB hr.ok hf hr.cl
    have hf0 : r.fl ≠ 0 := by omega
    refine ⟨flK k i r f, f.y + f.h, h1, hI.flK i hr.ok h2 h4, ?_⟩
    have he : endR k.y r = k.y := by unfold endR; rw [if_neg hf0]
    refine ⟨he.symm, ?_, by simp [flK, setSp], fun j hj => ?_, { k.sp[i] with left := f.x + 0, top := f.y + r.a, high := r.h }, ?_, ?_, rfl, fun h => absurd h hf0⟩
    · have : fbs [r] [f.y + f.h] = [(r.fl, f.y + f.h)] := by unfold fbs; simp [hf0]
      rw [this, ← h3]
      show (k.fl ++ [f]).map flP = _
      rw [List.map_append]; rfl
    · show (k.sp.modify i _)[j]? = _
      rw [List.getElem?_modify]; have : ¬ i = j := fun e => hj e.symm
      simp [this]
    · show (k.sp.modify i _)[i]? = _
      rw [List.getElem?_modify, List.getElem?_eq_getElem hi]; simp
    · show f.y + r.a + r.h = f.y + f.h; omega
structure ClF (k : Wk) (i : Nat) (t : List Rw) (k' : Wk) (bs : List Int) : Prop where
  len : bs.length = t.length
  sp : ∀ j r, t[j]? = some r → ∃ s, k'.sp[i + j]? = some s ∧ bs[j]? = some (s.top + s.high) ∧ s.high = r.h ∧ (r.fl = 0 → s.top + s.high = (t.take (j + 1)).foldl endR k.y)
  ne : ∀ j, j < i ∨ i + t.length ≤ j → k'.sp[j]? = k.sp[j]?
  spl : k'.sp.length = k.sp.length
  y : k'.y = t.foldl endR k.y
  fl : k'.fl.map flP = k.fl.map flP ++ fbs t bs
theorem cl_fold (n : Nat) (l : List Nd) (us : List Ud) (hs : List Int) (h0 : (usF us 0).w = 100) : ∀ (t : List Rw) (i : Nat) (k : Wk) (B : Int), (∀ j r, t[j]? = some r → RcAt l us hs (i + j) r) → ClI B k → 100 ≤ B → B + 300 * t.length ≤ 60000 → i + t.length ≤ k.sp.length →
    ∃ k' bs, ((List.range' i t.length).map Int.ofNat).foldlM (stepC (n + 1) l us hs 0 0) k = some k' ∧ ClI (B + 300 * t.length) k' ∧ ClF k i t k' bs := by
  intro t
  induction t with
  | nil =>
    intro i k B _ hI _ _ _
    refine ⟨k, [], rfl, by simpa using hI, rfl, fun j r h => by simp at h, fun _ _ => rfl, rfl, rfl, by simp [fbs]⟩
  | cons r t ih =>
    intro i k B hall hI hB hB2 hl
    rw [List.length_cons] at hB2 hl ⊢
    obtain ⟨k1, b, h1, h2, h3⟩ := cl_step n l us hs k i r B (by have := hall 0 r rfl; simpa using this) h0 hI ⟨hB, by omega⟩ (by omega)
    obtain ⟨k', bs, h4, h5, h6⟩ := ih (i + 1) k1 (B + 300) (fun j x hx => by
      have := hall (j + 1) x (by simpa using hx)
      rw [show i + 1 + j = i + (j + 1) by omega]; exact this) h2 (by omega) (by omega) (by rw [h3.len]; omega)
    refine ⟨k', b :: bs, ?_, by rw [show B + 300 * ((t.length + 1 : Nat) : Int) = B + 300 + 300 * (t.length : Int) by omega]; exact h5, ?_⟩
    · rw [List.range'_succ, List.map_cons, List.foldlM_cons]
      rw [show Int.ofNat i = (i : Int) from rfl, h1]
      exact h4
    · refine ⟨by simp [h6.len], fun j x hx => ?_, fun j hj => ?_, by rw [h6.spl, h3.len], by rw [List.foldl_cons, ← h3.y]; exact h6.y, by rw [h6.fl, h3.fl, List.append_assoc]; congr 1; exact (fbs_cons r b t bs).symm⟩
      · cases j with
        | zero =>
          simp at hx; subst hx
          obtain ⟨s, s1, s2, s3, s4⟩ := h3.sp
          refine ⟨s, ?_, by simp [s2], s3, fun h => ?_⟩
          · rw [Nat.add_zero, h6.ne i (.inl (by omega))]; exact s1
          · rw [s2, s4 h]; simp
        | succ j =>
          obtain ⟨s, s1, s2, s3, s4⟩ := h6.sp j x (by simpa using hx)
          refine ⟨s, by rw [show i + (j + 1) = i + 1 + j by omega]; exact s1, by simpa using s2, s3, fun h => ?_⟩
          rw [s4 h, h3.y]; simp
      · rw [h6.ne j (by rw [List.length_cons] at hj; omega), h3.ne j (by rw [List.length_cons] at hj; omega)]
theorem fbs_max : ∀ (t : List Rw) (bs : List Int) (acc : Int), bs.length = t.length → (∀ (j : Nat) (r : Rw) (b : Int), t[j]? = some r → bs[j]? = some b → r.fl = 0 → b ≤ acc) → (fbs t bs).foldl (fun a p => max a p.2) acc = bs.foldl max acc
  | [], [], _, _, _ => rfl
  | [], _ :: _, _, h, _ => by simp at h
  | _ :: _, [], _, h, _ => by simp at h
  | r :: t, b :: bs, acc, h, hn => by
    rw [fbs_cons, List.foldl_append, List.foldl_cons]
    have h1 : (fbs [r] [b]).foldl (fun a p => max a p.2) acc = max acc b := by
      by_cases hf : r.fl = 0
      · have := hn 0 r b rfl rfl hf
        have e : fbs [r] [b] = [] := by unfold fbs; simp [hf]
        rw [e]; show acc = _; omega
      · have e : fbs [r] [b] = [(r.fl, b)] := by unfold fbs; simp [hf]
        rw [e]; rfl
    rw [h1]
    refine fbs_max t bs (max acc b) (by simpa using h) (fun j x y hx hy hf => ?_)
    have := hn (j + 1) x y (by simpa using hx) (by simpa using hy) hf
    omega
theorem endR_ge : ∀ (t : List Rw) (e : Int), (∀ r ∈ t, RcOk r) → e ≤ t.foldl endR e ∧ t.foldl endR e ≤ e + 300 * t.length
  | [], e, _ => by simp
  | r :: t, e, h => by
    have h1 := endR_ge t (endR e r) (fun x hx => h x (List.mem_cons_of_mem _ hx))
    have h2 := h r List.mem_cons_self
    have h3 := h2.h; have h4 := h2.a
    have h5 : e ≤ endR e r ∧ endR e r ≤ e + 290 := by unfold endR; split <;> omega
    rw [List.foldl_cons, List.length_cons]
    omega
structure ClO (rs : List Rw) (side : Int) (l : List Nd) (us : List Ud) (k : Wk) (bs : List Int) (C : Int) : Prop where
  len : bs.length = rs.length
  fr : ∀ j r, rs[j]? = some r → bs[j]? = some ((frF l us k (j + 1)).y + (frF l us k (j + 1)).h) ∧ (r.fl = 0 → (frF l us k (j + 1)).y + (frF l us k (j + 1)).h = (rs.take (j + 1)).foldl endR 0) ∧ (r.fl ≠ 0 → side = 3 ∨ side = r.fl → (frF l us k (j + 1)).y + (frF l us k (j + 1)).h ≤ C)
  bd : ∀ j, (-60000 ≤ (frF l us k j).x ∧ (frF l us k j).x ≤ 60000) ∧ (-60000 ≤ (frF l us k j).y ∧ (frF l us k j).y ≤ 60000) ∧ (-60000 ≤ (frF l us k j).h ∧ (frF l us k j).h ≤ 60000)
  last : (frF l us k (rs.length + 1)).y = C ∧ (frF l us k (rs.length + 1)).h = 7
  c : rs.foldl endR 0 + 5 ≤ C ∧ C ≤ 60000 ∧ (side = 0 → C = rs.foldl endR 0 + 5)
  e : 0 ≤ rs.foldl endR 0 ∧ rs.foldl endR 0 ≤ 60000
  low : lowF k = bs.foldl max (C + 7)
theorem clear_tow (rs : List Rw) (side : Int) (us : List Ud) (hs : List Int) (hn : rs.length ≤ 90) (hr : ∀ j r, rs[j]? = some r → RcOk r ∧ r.cl = 0 ∧ (r.fl = 0 ∧ (usF us (j + 1)).left = 0 ∨ (r.fl = 1 ∨ r.fl = 2) ∧ (∃ W, usF us (j + 1) = ⟨W, 0, 0⟩ ∧ 0 ≤ W ∧ W ≤ 100) ∧ hiF hs (j + 1) = r.h)) (h0 : (usF us 0).w = 100) (hl : (usF us (rs.length + 1)).left = 0) :
    ∃ k bs C, contF 2 (twL 0 0 (rs ++ [⟨7, 5, 0, 0, side⟩])) us hs (k0F (rs.length + 1) 0) 0 0 = some k ∧ ClO rs side (twL 0 0 (rs ++ [⟨7, 5, 0, 0, side⟩])) us k bs C := by
  obtain ⟨rl, hrl⟩ : ∃ rl, rl = rs ++ [(⟨7, 5, 0, 0, side⟩ : Rw)] := ⟨_, rfl⟩
  have hll : rl.length = rs.length + 1 := by rw [hrl]; simp
  have hat : ∀ j r, rs[j]? = some r → rl[j]? = some r := fun j r h => by
    have := (List.getElem?_eq_some_iff.1 h).1
    rw [hrl, List.getElem?_append_left this]; exact h
  have hlast : rl[rs.length]? = some ⟨7, 5, 0, 0, side⟩ := by rw [hrl, List.getElem?_append_right (Nat.le_refl _)]; simp
  have hsty : ∀ j r, rl[j]? = some r → styF (twL 0 0 rl) (j + 1) = some (twS r) := fun j r h => by unfold styF; rw [twL_succ, h]; rfl
  have hI0 : ClI 100 (k0F (rs.length + 1) 0) := by
    unfold k0F
    refine ⟨rfl, rfl, by simp, by simp, by simp, fun s hs => ?_⟩
    rcases List.mem_or_eq_of_mem_set hs with h1 | h1
    · rw [List.mem_replicate] at h1; rw [h1.2]; unfold sp0; simp
    · rw [h1]; simp
  obtain ⟨k1, bs, f1, f2, f3⟩ := cl_fold 0 (twL 0 0 rl) us hs h0 rs 1 (k0F (rs.length + 1) 0) 100 (fun j r h => by
    have q := hr j r h
    rw [Nat.add_comm 1 j]
    exact ⟨hsty j r (hat j r h), tw_kids 0 0 rl (j + 1) (by omega), q.1, q.2.1, q.2.2⟩) hI0 (by omega) (by omega) (by rw [k0_len]; omega)
  have hy0 : (k0F (rs.length + 1) 0).y = 0 := rfl
  have hsp : k1.sp.length = rs.length + 2 := by rw [f3.spl, k0_len]
  have hEge := endR_ge rs 0 (fun r h => by
    obtain ⟨j, hj, rfl⟩ := List.getElem_of_mem h
    exact (hr j _ (List.getElem?_eq_getElem hj)).1)
  have hy := f3.y
  rw [hy0] at hy
  have hmk : k1.y + sumF (joinF k1.st 5) = k1.y + 5 := by rw [f2.st]; unfold sumF joinF; dsimp only; omega
  obtain ⟨C, hC⟩ : ∃ C, C = clearF k1.fl side (k1.y + 5) := ⟨_, rfl⟩
  have hB : (100 : Int) + 300 * (rs.length : Int) ≤ 27100 := by omega
  have hfl : ∀ f ∈ k1.fl, FlI 27105 f := fun f hf => (f2.fl f hf).more (by omega)
  have hCle : C ≤ 27105 := by rw [hC]; exact clear_le side k1.fl _ hfl (by have := f2.y; omega)
  have hCge : k1.y + 5 ≤ C := by rw [hC]; exact clear_ge _ _ _
  have hstep := clear_step 0 (twL 0 0 rl) us hs k1 (rs.length + 1) ⟨7, 5, 0, 0, side⟩ (hsty _ _ hlast) (tw_kids 0 0 rl _ (by omega)) hl f2.op (by omega) (f2.far (by omega)) ⟨by dsimp only; omega, by dsimp only; omega, by dsimp only; omega⟩ rfl (by dsimp only; omega) (fun s h => (f2.sp s h).2) (by
    show clearF k1.fl side (k1.y + sumF (joinF k1.st 5)) ≤ _
    rw [hmk, ← hC]; omega)
  have e1 : clearF k1.fl (⟨7, 5, 0, 0, side⟩ : Rw).cl (k1.y + sumF (joinF k1.st (⟨7, 5, 0, 0, side⟩ : Rw).a)) = C := by
    show clearF k1.fl side (k1.y + sumF (joinF k1.st 5)) = C
    rw [hmk, hC]
  rw [e1] at hstep
  obtain ⟨k, hk⟩ : ∃ k, k = rowC k1 (rs.length + 1) ⟨7, 5, 0, 0, side⟩ C := ⟨_, rfl⟩
  rw [← hk] at hstep
  have hspk : k.sp = k1.sp.modify (rs.length + 1) fun _ => ⟨0, C, 7, false⟩ := by rw [hk]; rfl
  have hat1 : ∀ j, j ≠ rs.length + 1 → k.sp[j]? = k1.sp[j]? := fun j hj => by
    rw [hspk, List.getElem?_modify]; have : ¬ rs.length + 1 = j := fun e => hj e.symm
    simp [this]
  have hsp0 : spF k 0 = ⟨0, 0, 0, false⟩ := by
    unfold spF
    rw [hat1 0 (by omega), f3.ne 0 (.inl (by omega))]
    unfold k0F; simp
  have hspl : spF k (rs.length + 1) = ⟨0, C, 7, false⟩ := by
    unfold spF
    rw [hspk, List.getElem?_modify, List.getElem?_eq_getElem (by omega)]; simp
  have hpar : ∀ j, parI (twL 0 0 rl) j = 0 := fun j => by
    cases j with
    | zero => rfl
    | succ j => exact tw_parI 0 0 rl j
  have hfy : ∀ j, (frF (twL 0 0 rl) us k j).y = (spF k j).top ∧ (frF (twL 0 0 rl) us k j).h = (spF k j).high ∧ (frF (twL 0 0 rl) us k j).x = (spF k j).left := fun j => by
    unfold frF
    rw [hpar, hsp0]
    dsimp only
    omega
  have hspb : ∀ j, (-60000 ≤ (spF k j).left ∧ (spF k j).left ≤ 60000) ∧ (-60000 ≤ (spF k j).top ∧ (spF k j).top ≤ 60000) ∧ (-60000 ≤ (spF k j).high ∧ (spF k j).high ≤ 60000) := fun j => by
    by_cases hj : j = rs.length + 1
    · subst hj
      rw [hspl]; have := f2.y; dsimp only; omega
    · unfold spF
      rw [hat1 j hj]
      cases hx : k1.sp[j]? with
      | none => unfold sp0; simp
      | some s =>
        have := (f2.sp s (List.mem_of_getElem? hx)).1
        simp only [Option.getD_some]; omega
  refine ⟨k, bs, C, ?_, ?_⟩
  · rw [← hrl]
    rw [contF_succ, tw_kids0, hll, List.range'_concat, List.map_append, List.foldlM_append, f1]
    show List.foldlM _ k1 [Int.ofNat (1 + 1 * rs.length)] = some k
    rw [List.foldlM_cons, show Int.ofNat (1 + 1 * rs.length) = ((rs.length + 1 : Nat) : Int) by rw [Nat.one_mul, Nat.add_comm]; rfl, hstep]
    rfl
  rw [← hrl]
  refine ⟨f3.len, fun j r hj => ?_, fun j => ?_, ?_, ⟨by omega, by omega, fun hs0 => ?_⟩, ⟨by omega, by omega⟩, ?_⟩
  · obtain ⟨s, s1, s2, s3, s4⟩ := f3.sp j r hj
    have hjl := (List.getElem?_eq_some_iff.1 hj).1
    have hsj : spF k (j + 1) = s := by
      unfold spF
      rw [hat1 (j + 1) (by omega), Nat.add_comm j 1, s1]; rfl
    obtain ⟨y1, y2, _⟩ := hfy (j + 1)
    rw [hsj] at y1 y2
    rw [y1, y2]
    refine ⟨s2, fun h => s4 h, fun hf hside => ?_⟩
    have hmem : (r.fl, s.top + s.high) ∈ fbs rs bs := by
      unfold fbs
      rw [List.mem_map]
      refine ⟨(r, s.top + s.high), List.mem_filter.2 ⟨?_, by simpa using hf⟩, rfl⟩
      refine List.mem_of_getElem? (i := j) ?_
      rw [List.getElem?_zip_eq_some]
      exact ⟨hj, s2⟩
    have hfl0 : (k0F (rs.length + 1) 0).fl = [] := rfl
    have hm := f3.fl
    rw [hfl0, List.map_nil, List.nil_append] at hm
    rw [← hm] at hmem
    obtain ⟨f, hf1, hf2⟩ := List.mem_map.1 hmem
    unfold flP at hf2
    injection hf2 with e2 e3
    rw [← e3, hC]
    refine clear_all side k1.fl _ f hf1 ?_
    have := (f2.fl f hf1).s
    rcases hside with h | h
    · exact .inl h
    · refine .inr ⟨?_, by omega⟩; omega
  · obtain ⟨y1, y2, y3⟩ := hfy j
    rw [y1, y2, y3]; exact hspb j
  · obtain ⟨y1, y2, _⟩ := hfy (rs.length + 1)
    rw [hspl] at y1 y2; exact ⟨y1, y2⟩
  · rw [hC, hs0, clear_0]; omega
  · have hkfl : k.fl = k1.fl := by rw [hk]; rfl
    have hmk2 : markF k = C + 7 := by
      rw [hk]
      show C + 7 + sumF (joinF ⟨0, 0⟩ 0) = C + 7
      have : sumF (joinF ⟨0, 0⟩ 0) = 0 := by decide
      omega
    have hm := f3.fl
    have hfl0 : (k0F (rs.length + 1) 0).fl = [] := rfl
    rw [hfl0, List.map_nil, List.nil_append] at hm
    have hfold : ∀ (l : List Fl) (a : Int), l.foldl (fun a f => max a (f.y + f.h)) a = (l.map flP).foldl (fun a p => max a p.2) a := by
      intro l
      induction l with
      | nil => intro a; rfl
      | cons f l ih => intro a; exact ih _
    unfold lowF
    rw [hkfl, hmk2, hfold, hm, show max 0 (C + 7) = C + 7 by have := f2.y; omega]
    refine fbs_max rs bs (C + 7) f3.len (fun j r b hj hb hf => ?_)
    obtain ⟨s, s1, s2, s3, s4⟩ := f3.sp j r hj
    rw [s2] at hb
    injection hb with hb
    have h1 := endR_ge (rs.drop (j + 1)) ((rs.take (j + 1)).foldl endR 0) (fun r h => by
      obtain ⟨i, hi, rfl⟩ := List.getElem_of_mem (List.mem_of_mem_drop h)
      exact (hr i _ (List.getElem?_eq_getElem hi)).1)
    rw [← List.foldl_append, List.take_append_drop] at h1
    have := s4 hf
    rw [hy0] at this
    omega
end Go.Proofs.Ytlebbkhhhmempaa
