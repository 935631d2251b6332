/- Towers, plain: what the walk comes to. -/
import Derived.Test.YtlebbkhhhmempaaFp
import Derived.Test.YtlebbkhhhmempaaFn
import Derived.Test.YtlebbkhhhmempaaFt
set_option linter.unusedSimpArgs false
set_option linter.unusedVariables false
namespace Go.Proofs.Ytlebbkhhhmempaa
open Go.RowKit
/-- A box of a tower: its height (below 0: auto), its margins; on which side it floats, what it clears. -/
structure Rw where
  h : Int
  a : Int
  b : Int
  fl : Int
  cl : Int
def twS (r : Rw) : Sty := { styZF with kind := 1, float := r.fl, clear := r.cl, h := if 0 ≤ r.h then ⟨1, r.h⟩ else ⟨0, 0⟩, m0 := ⟨1, r.a⟩, m2 := ⟨1, r.b⟩ }
def rootS (roof floor : Int) : Sty := { styZF with kind := 1, b0 := roof, p2 := floor }
def twL (roof floor : Int) (rs : List Rw) : List Nd := ⟨-1, rootS roof floor⟩ :: rs.map fun r => ⟨0, twS r⟩
theorem twL_len (p q : Int) (rs : List Rw) : (twL p q rs).length = rs.length + 1 := by simp [twL]
theorem twL_succ (p q : Int) (rs : List Rw) (i : Nat) : (twL p q rs)[i + 1]? = (rs[i]?).map fun r => ⟨0, twS r⟩ := by simp [twL]
theorem tw_par (p q : Int) (rs : List Rw) (i : Nat) : parF (twL p q rs) i = if 0 < i ∧ i ≤ rs.length then 0 else -1 := by
  unfold parF
  cases i with
  | zero => simp [twL]
  | succ i =>
    rw [twL_succ]
    by_cases h : i < rs.length
    · rw [List.getElem?_eq_getElem h, if_pos (by omega)]; simp
    · rw [List.getElem?_eq_none (by omega), if_neg (by omega)]; rfl
theorem tw_kids0 (p q : Int) (rs : List Rw) : kidsF (twL p q rs) 0 = (List.range' 1 rs.length).map Int.ofNat := by
  unfold kidsF
  congr 1
  rw [twL_len, List.range_eq_range', List.range'_succ, List.filter_cons_of_neg (by rw [tw_par]; simp)]
  rw [List.filter_eq_self]
  intro k hk
  rw [List.mem_range'] at hk
  obtain ⟨j, hj, rfl⟩ := hk
  rw [tw_par, if_pos (by omega)]
  rfl
theorem tw_kids (p q : Int) (rs : List Rw) (i : Nat) (hi : 0 < i) : kidsF (twL p q rs) i = [] := by
  unfold kidsF
  rw [List.filter_eq_nil_iff.2]
  · rfl
  · intro k _
    rw [tw_par]
    split
    · simp; omega
    · simp
/-- What a row that does not float and clears nothing makes of the walk. -/
def rowF (k : Wk) (i : Nat) (r : Rw) : Wk :=
  let s := joinF k.st r.a
  let m := k.y + sumF s
  if 0 < r.h then { y := m + r.h, st := joinF ⟨0, 0⟩ r.b, fl := k.fl, op := [], sp := k.sp.modify i fun _ => ⟨0, m, r.h, false⟩ }
  else { y := k.y, st := joinF s r.b, fl := k.fl, op := [], sp := k.sp.modify i fun _ => ⟨0, m, 0, false⟩ }
/-- Numbers far from the bounds. -/
def far (x : Int) : Prop := -1099511627776 ≤ x ∧ x ≤ 1099511627776
structure FarK (k : Wk) : Prop where
  y : far k.y
  m : far k.st.most
  l : far k.st.least
  fl : ∀ f ∈ k.fl, flB f = true
  fn : k.fl.length ≤ 60000
  sp : ∀ s ∈ k.sp, far s.left ∧ far s.top ∧ far s.high
theorem inL_far {x : Int} (h : -562949953421312 ≤ x ∧ x ≤ 562949953421312) : inL x = true := by unfold inL lim; simp only [Bool.and_eq_true, decide_eq_true_eq]; omega
theorem spB_far {s : Sp} (h : far s.left ∧ far s.top ∧ far s.high) : spB s = true := by
  unfold far at h
  unfold spB
  rw [inL_far (by omega), inL_far (by omega), inL_far (by omega)]; rfl
theorem mem_modify {α : Type} {l : List α} {i : Nat} {f : α → α} {x : α} (h : x ∈ l.modify i f) : x ∈ l ∨ ∃ y ∈ l, x = f y := by
  obtain ⟨j, hj, rfl⟩ := List.getElem_of_mem h
  rw [List.length_modify] at hj
  rw [List.getElem_modify]
  split
  · exact .inr ⟨_, List.getElem_mem hj, rfl⟩
  · exact .inl (List.getElem_mem hj)
theorem wkB_of {k : Wk} (hy : -562949953421312 ≤ k.y ∧ k.y ≤ 562949953421312) (hm : -562949953421312 ≤ k.st.most ∧ k.st.most ≤ 562949953421312) (hl : -562949953421312 ≤ k.st.least ∧ k.st.least ≤ 562949953421312) (hf : ∀ f ∈ k.fl, flB f = true) (hn : k.fl.length ≤ 60000) (ho : k.op.length ≤ 60000) (hs : ∀ s ∈ k.sp, spB s = true) : wkB k = true := by
  unfold wkB
  rw [inL_far hy, inL_far hm, inL_far hl]
  simp only [Bool.true_and, Bool.and_eq_true, decide_eq_true_eq, List.all_eq_true]
  exact ⟨⟨⟨hf, hn⟩, ho⟩, hs⟩
theorem clear_0 (l : List Fl) (y : Int) : clearF l 0 y = y := by
  unfold clearF
  induction l with
  | nil => rfl
  | cons a t ih => rw [List.foldl_cons, show clearS 0 y a = y by unfold clearS; rw [if_neg (by omega)]]; exact ih
structure RwOk (r : Rw) : Prop where
  h : -1048576 ≤ r.h ∧ r.h ≤ 1048576
  a : -1048576 ≤ r.a ∧ r.a ≤ 1048576
  b : -1048576 ≤ r.b ∧ r.b ≤ 1048576
theorem high_tw (r : Rw) (a : Int) : highF (twS r) a = if 0 ≤ r.h then max r.h 0 else max a 0 := by
  unfold highF twS
  by_cases h : 0 ≤ r.h
  · simp [h]
  · simp [h]
theorem row_wkB (k : Wk) (i : Nat) (r : Rw) (hF : FarK k) (hr : RwOk r) : wkB (rowF k i r) = true := by
  have hy := hF.y
  have hm := hF.m
  have hle := hF.l
  have ha := hr.a
  have hb := hr.b
  have hh := hr.h
  unfold far at hy hm hle
  have hs : ∀ (v : Sp), spB v = true → ∀ s ∈ k.sp.modify i (fun _ => v), spB s = true := fun v hv s h => by
    rcases mem_modify h with h | ⟨y, _, rfl⟩
    · exact spB_far (hF.sp s h)
    · exact hv
  unfold rowF
  simp only
  split
  · refine wkB_of ?_ ?_ ?_ hF.fl hF.fn (by simp) (hs _ ?_)
    · show _ ≤ k.y + sumF (joinF k.st r.a) + r.h ∧ k.y + sumF (joinF k.st r.a) + r.h ≤ _; unfold sumF joinF; simp only; omega
    · unfold joinF; simp only; omega
    · unfold joinF; simp only; omega
    · unfold spB; simp only; rw [inL_far (by omega), inL_far (by unfold sumF joinF; simp only; omega), inL_far (by omega)]; rfl
  · refine wkB_of ?_ ?_ ?_ hF.fl hF.fn (by simp) (hs _ ?_)
    · show _ ≤ k.y ∧ k.y ≤ _; omega
    · unfold joinF; simp only; omega
    · unfold joinF; simp only; omega
    · unfold spB; simp only; rw [inL_far (x := 0) (by omega), inL_far (x := k.y + sumF (joinF k.st r.a)) (by unfold sumF joinF; simp only; omega)]; rfl
theorem row_step (n : Nat) (l : List Nd) (us : List Ud) (hs : List Int) (k : Wk) (i : Nat) (r : Rw) (hl : styF l i = some (twS r)) (hk : kidsF l i = []) (hu : (usF us i).left = 0) (hop : k.op = []) (hi : i < k.sp.length) (hF : FarK k) (hr : RwOk r) (hf : r.fl = 0) (hc : r.cl = 0) :
    stepC (n + 1) l us hs 0 0 k (i : Int) = some (rowF k i r) := by
  have hy := hF.y
  have hm := hF.m
  have hle := hF.l
  have ha := hr.a
  have hb := hr.b
  have hh := hr.h
  unfold far at hy hm hle
  have hfl : (twS r).float = 0 := hf
  have hcl : (twS r).clear = 0 := hc
  have hsp : ∀ s ∈ k.sp, spB s = true := fun s hs => spB_far (hF.sp s hs)
  unfold stepC
  rw [Int.toNat_natCast, hl]
  simp only
  rw [if_neg (by rw [hfl]; simp)]
  obtain ⟨s1, hs1⟩ : ∃ s1, s1 = joinF k.st r.a := ⟨_, rfl⟩
  have hs1m : -1099511627776 ≤ s1.most ∧ s1.most ≤ 1099511627776 := by rw [hs1]; unfold joinF; simp only; omega
  have hs1l : -1099511627776 ≤ s1.least ∧ s1.least ≤ 1099511627776 := by rw [hs1]; unfold joinF; simp only; omega
  have hmg0 : mgF (twS r).m0 = r.a := rfl
  have hmg2 : mgF (twS r).m2 = r.b := rfl
  have hro : roofF (twS r) = 0 := rfl
  have hflo : floorF (twS r) = 0 := rfl
  -- what stands ahead of the contents
  obtain ⟨k1, hk1⟩ : ∃ k1, k1 = setSp (joinS k r.a) i (fun p => { p with left := 0 }) := ⟨_, rfl⟩
  obtain ⟨m, hm1⟩ : ∃ m, m = k.y + sumF s1 := ⟨_, rfl⟩
  have hmk : markF k1 = m := by rw [hk1, hm1, hs1]; rfl
  have hmb : -4398046511104 ≤ m ∧ m ≤ 4398046511104 := by rw [hm1]; unfold sumF; omega
  have hw1 : wkB k1 = true := by
    rw [hk1]
    refine wkB_of (by show _ ≤ k.y ∧ k.y ≤ _; omega) (by show -562949953421312 ≤ (joinF k.st r.a).most ∧ (joinF k.st r.a).most ≤ 562949953421312; rw [← hs1]; omega) (by show -562949953421312 ≤ (joinF k.st r.a).least ∧ (joinF k.st r.a).least ≤ 562949953421312; rw [← hs1]; omega) hF.fl hF.fn (by show k.op.length ≤ _; rw [hop]; simp) (fun s hs => ?_)
    rcases mem_modify hs with h | ⟨y, h, rfl⟩
    · exact hsp s h
    · have := hF.sp y h; exact spB_far ⟨by unfold far; simp, this.2.1, this.2.2⟩
  obtain ⟨k2, hk2⟩ : ∃ k2 : Wk, k2 = { setSp k1 i (fun p => { p with op := true }) with op := k1.op ++ [i] } := ⟨_, rfl⟩
  have hsp2 : k2.sp = k.sp.modify i fun p => { p with left := 0, op := true } := by
    rw [hk2, hk1]; show (k.sp.modify i _).modify i _ = _; rw [List.modify_modify_eq]; rfl
  have hop2 : k2.op = [i] := by rw [hk2, hk1]; show k.op ++ [i] = [i]; rw [hop]; rfl
  have hw2 : wkB k2 = true := by
    refine wkB_of (by rw [hk2, hk1]; show _ ≤ k.y ∧ k.y ≤ _; omega) (by rw [hk2, hk1]; show -562949953421312 ≤ (joinF k.st r.a).most ∧ (joinF k.st r.a).most ≤ 562949953421312; rw [← hs1]; omega) (by rw [hk2, hk1]; show -562949953421312 ≤ (joinF k.st r.a).least ∧ (joinF k.st r.a).least ≤ 562949953421312; rw [← hs1]; omega) (by rw [hk2, hk1]; exact hF.fl) (by rw [hk2, hk1]; exact hF.fn) (by rw [hop2]; simp) (fun s hs => ?_)
    rw [hsp2] at hs
    rcases mem_modify hs with h | ⟨y, h, rfl⟩
    · exact hsp s h
    · have := hF.sp y h; exact spB_far ⟨by unfold far; simp, this.2.1, this.2.2⟩
  have ho : openF us (twS r) k i 0 = some k2 := by
    unfold openF
    rw [hmg0, hu, Int.add_zero, ← hk1]
    unfold chk
    rw [if_pos hw1]
    simp only
    rw [hcl, clear_0, hmk, if_neg (by omega), hro, if_neg (by omega), ← hk2, if_pos hw2]
  rw [ho]
  simp only
  rw [contF_succ, hk]
  simp only [List.foldlM_nil]
  show leaveF (twS r) k2 i (mgF (twS r).m2) = _
  rw [hmg2]
  have hi2 : i < k2.sp.length := by rw [hsp2, List.length_modify]; exact hi
  have hown : k2.sp[i]? = some { k.sp[i] with left := 0, op := true } := by
    rw [hsp2, List.getElem?_modify, List.getElem?_eq_getElem hi]; simp
  have hmk2 : markF k2 = m := by rw [hk2, hk1, hm1, hs1]; rfl
  unfold leaveF
  rw [hown]
  simp only
  rw [hflo, high_tw]
  have hsum : sumF s1 = s1.most + s1.least := rfl
  by_cases h0 : 0 < r.h
  · have e1 : (if 0 ≤ r.h then max r.h 0 else max 0 0) = r.h := by rw [if_pos (by omega)]; omega
    rw [e1, if_neg (by simp; omega), if_pos (by simp)]
    rw [hmk2]
    unfold chk
    have e2 : behindF (setSp (settleF k2) i fun p => { p with high := r.h + 0 }) (m + (r.h + 0)) r.b = rowF k i r := by
      unfold rowF behindF setSp settleF
      rw [if_pos h0, hop2, hsp2, hmk2, Int.add_zero, ← hs1, ← hm1]
      show Wk.mk _ _ _ _ _ = _
      congr 1
      · rw [hk2, hk1]; rfl
      · show List.modify (List.modify (List.modify k.sp i _) i _) i _ = _
        rw [List.modify_modify_eq, List.modify_modify_eq]
        rfl
    rw [e2, if_pos (row_wkB k i r hF hr)]
  · have e1 : (if 0 ≤ r.h then max r.h 0 else max 0 0) = 0 := by split <;> omega
    rw [e1, if_pos ⟨by simp, rfl, rfl⟩, if_neg (by rw [hop2]; simp)]
    unfold chk
    have e2 : joinS { setSp k2 i (fun p => { p with top := markF k2, high := 0, op := false }) with op := k2.op.dropLast } r.b = rowF k i r := by
      unfold rowF joinS setSp
      rw [if_neg h0, hop2, hsp2, hmk2, ← hs1, ← hm1]
      show Wk.mk _ _ _ _ _ = _
      have e3 : k2.st = s1 := by rw [hk2, hk1, hs1]; rfl
      have e4 : k2.y = k.y := by rw [hk2, hk1]; rfl
      have e5 : k2.fl = k.fl := by rw [hk2, hk1]; rfl
      rw [e3, e4, e5]
      congr 1
      show List.modify (List.modify k.sp i _) i _ = _
      rw [List.modify_modify_eq]
      rfl
    rw [e2, if_pos (row_wkB k i r hF hr)]
/-- Numbers that have not gone beyond B. -/
structure TowB (B : Int) (k : Wk) : Prop where
  y : -B ≤ k.y ∧ k.y ≤ B
  m : 0 ≤ k.st.most ∧ k.st.most ≤ 1048576
  l : -1048576 ≤ k.st.least ∧ k.st.least ≤ 0
  fl : ∀ f ∈ k.fl, flB f = true
  fn : k.fl.length ≤ 60000
  op : k.op = []
  sp : ∀ s ∈ k.sp, (-B ≤ s.left ∧ s.left ≤ B) ∧ (-B ≤ s.top ∧ s.top ≤ B) ∧ (-B ≤ s.high ∧ s.high ≤ B)
theorem TowB.far {B : Int} {k : Wk} (h : TowB B k) (hB : B ≤ 1099511627776) (h0 : 1048576 ≤ B) : FarK k := by
  have := h.y
  have := h.m
  have := h.l
  refine ⟨by unfold Go.Proofs.Ytlebbkhhhmempaa.far; omega, by unfold Go.Proofs.Ytlebbkhhhmempaa.far; omega, by unfold Go.Proofs.Ytlebbkhhhmempaa.far; omega, h.fl, h.fn, fun s hs => ?_⟩
  have := h.sp s hs
  unfold Go.Proofs.Ytlebbkhhhmempaa.far
  omega
theorem TowB.row {B : Int} {k : Wk} (h : TowB B k) (h0 : 0 ≤ B) (i : Nat) {r : Rw} (hr : RwOk r) : TowB (B + 4194304) (rowF k i r) := by
  have hy := h.y
  have hm := h.m
  have hl := h.l
  have ha := hr.a
  have hb := hr.b
  have hh := hr.h
  have hs : ∀ (v : Sp), ((-(B + 4194304) ≤ v.left ∧ v.left ≤ B + 4194304) ∧ (-(B + 4194304) ≤ v.top ∧ v.top ≤ B + 4194304) ∧ (-(B + 4194304) ≤ v.high ∧ v.high ≤ B + 4194304)) → ∀ s ∈ k.sp.modify i (fun _ => v), (-(B + 4194304) ≤ s.left ∧ s.left ≤ B + 4194304) ∧ (-(B + 4194304) ≤ s.top ∧ s.top ≤ B + 4194304) ∧ (-(B + 4194304) ≤ s.high ∧ s.high ≤ B + 4194304) := fun v hv s hs => by
    rcases mem_modify hs with h1 | ⟨y, _, rfl⟩
    · have := h.sp s h1; omega
    · exact hv
  unfold rowF
  simp only
  split
  · refine ⟨?_, ?_, ?_, h.fl, h.fn, rfl, hs _ ?_⟩
    · show -(B + 4194304) ≤ k.y + sumF (joinF k.st r.a) + r.h ∧ k.y + sumF (joinF k.st r.a) + r.h ≤ B + 4194304; unfold sumF joinF; simp only; omega
    · unfold joinF; simp only; omega
    · unfold joinF; simp only; omega
    · unfold sumF joinF; simp only; omega
  · refine ⟨?_, ?_, ?_, h.fl, h.fn, rfl, hs _ ?_⟩
    · show -(B + 4194304) ≤ k.y ∧ k.y ≤ B + 4194304; omega
    · unfold joinF; simp only; omega
    · unfold joinF; simp only; omega
    · unfold sumF joinF; simp only; omega
def towF : Wk → Nat → List Rw → Wk
  | k, _, [] => k
  | k, i, r :: t => towF (rowF k i r) (i + 1) t
theorem rowF_len (k : Wk) (i : Nat) (r : Rw) : (rowF k i r).sp.length = k.sp.length := by
  unfold rowF; simp only; split <;> simp
theorem tow_fold (n : Nat) (l : List Nd) (us : List Ud) (hs : List Int) (hu : ∀ i, (usF us i).left = 0) : ∀ (t : List Rw) (i : Nat) (k : Wk) (B : Int), (∀ j (h : j < t.length), styF l (i + j) = some (twS t[j]) ∧ kidsF l (i + j) = [] ∧ RwOk t[j] ∧ t[j].fl = 0 ∧ t[j].cl = 0) → TowB B k → 1048576 ≤ B → B + 4194304 * t.length ≤ 1099511627776 → i + t.length ≤ k.sp.length →
    ((List.range' i t.length).map Int.ofNat).foldlM (stepC (n + 1) l us hs 0 0) k = some (towF k i t) := by
  intro t
  induction t with
  | nil => intro i k B _ _ _ _ _; rfl
  | cons r t ih =>
    intro i k B hall hT hB1 hB2 hlen
    rw [List.length_cons] at hB2 hlen ⊢
    rw [List.range'_succ, List.map_cons, List.foldlM_cons]
    obtain ⟨h1, h2, h3, h4, h5⟩ := hall 0 (by simp)
    rw [Nat.add_zero] at h1 h2
    rw [show Int.ofNat i = (i : Int) from rfl, row_step n l us hs k i r h1 h2 (hu i) hT.op (by omega) (hT.far (by omega) hB1) h3 h4 h5]
    show List.foldlM _ (rowF k i r) _ = _
    refine ih (i + 1) (rowF k i r) (B + 4194304) (fun j hj => ?_) (hT.row (by omega) i h3) (by omega) (by omega) (by rw [rowF_len]; omega)
    have := hall (j + 1) (by simp; omega)
    rw [show i + 1 + j = i + (j + 1) by omega]
    simpa using this
theorem k0_tow (n : Nat) (ro : Int) (h : 0 ≤ ro ∧ ro ≤ 2097152) : TowB 4194304 (k0F n ro) := by
  unfold k0F
  refine ⟨by simp, by simp, by simp, by simp, by simp, rfl, fun s hs => ?_⟩
  rcases List.mem_or_eq_of_mem_set hs with h1 | h1
  · rw [List.mem_replicate] at h1; rw [h1.2]; unfold sp0; simp
  · rw [h1]; simp only; omega
theorem tw_sty (p q : Int) (rs : List Rw) (i : Nat) (h : i < rs.length) : styF (twL p q rs) (i + 1) = some (twS rs[i]) := by
  unfold styF; rw [twL_succ, List.getElem?_eq_getElem h]; rfl
theorem tw_cont (g : Nat) (p q : Int) (rs : List Rw) (us : List Ud) (hs : List Int) (ro : Int) (hro : 0 ≤ ro ∧ ro ≤ 2097152) (hu : ∀ i, (usF us i).left = 0) (hn : rs.length ≤ 200000) (hr : ∀ r ∈ rs, RwOk r ∧ r.fl = 0 ∧ r.cl = 0) :
    contF (g + 2) (twL p q rs) us hs (k0F rs.length ro) 0 0 = some (towF (k0F rs.length ro) 1 rs) := by
  rw [contF_succ, tw_kids0]
  refine tow_fold g (twL p q rs) us hs hu rs 1 _ 4194304 (fun j hj => ?_) (k0_tow _ _ hro) (by omega) (by omega) (by unfold k0F; simp; omega)
  have := hr rs[j] (List.getElem_mem hj)
  rw [Nat.add_comm 1 j]
  exact ⟨tw_sty p q rs j hj, tw_kids p q rs (j + 1) (by omega), this.1, this.2.1, this.2.2⟩
theorem tw_parN (p q : Int) (rs : List Rw) (i : Nat) : parN (twL p q rs) (i + 1) = if i < rs.length then some 0 else none := by
  unfold parN
  rw [twL_succ]
  split
  · rename_i h; rw [List.getElem?_eq_getElem h]; rfl
  · rename_i h; rw [List.getElem?_eq_none (by omega)]; rfl
theorem tw_dn (p q : Int) (rs : List Rw) : ∀ (d i f : Nat), i + d = rs.length → d + 2 ≤ f → dnF f (twL p q rs) 0 (i + 1) = some (rs.length + 1) := by
  intro d
  induction d with
  | zero =>
    intro i f hi hf
    obtain ⟨f, rfl⟩ : ∃ f', f = f' + 1 := ⟨f - 1, by omega⟩
    have e : parN (twL p q rs) (i + 1) = none := by rw [tw_parN, if_neg (by omega)]
    unfold dnF
    rw [e, if_neg (by simp)]
    congr 1; omega
  | succ d ih =>
    intro i f hi hf
    obtain ⟨f, rfl⟩ : ∃ f', f = f' + 1 := ⟨f - 1, by omega⟩
    have hk : ∀ f', 0 < f' → dnF f' (twL p q rs) (i + 1) (i + 1 + 1) = some (i + 2) := by
      intro f' h
      obtain ⟨f', rfl⟩ : ∃ f2, f' = f2 + 1 := ⟨f' - 1, by omega⟩
      unfold dnF
      rw [tw_parN]
      rw [if_neg]
      split
      · simp; omega
      · simp
    have hnp : ¬ parN (twL p q rs) (i + 1 + 1) = some ((i + 1 : Nat) : Int) := by
      rw [tw_parN]
      split
      · simp; omega
      · simp
    have e : parN (twL p q rs) (i + 1) = some ((0 : Nat) : Int) := by rw [tw_parN, if_pos (by omega)]; rfl
    unfold dnF
    rw [if_pos e]
    rw [if_neg hnp]
    split
    · exact ih (i + 1) f (by omega) (by omega)
    · rw [hk f (by omega)]; exact ih (i + 1) f (by omega) (by omega)
end Go.Proofs.Ytlebbkhhhmempaa
