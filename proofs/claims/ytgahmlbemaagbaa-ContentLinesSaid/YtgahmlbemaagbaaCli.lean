/- ContentLines: one word, two words: plain. -/
import Derived.Test.YtgahmlbemaagbaaWks
set_option linter.unusedSimpArgs false
set_option linter.unusedVariables false
namespace Go.Proofs.Ytgahmlbemaagbaa
open Go.RowKit

def unitI (x : Nat) : Int := ((x % 200 + 40 : Nat) : Int)
def wdI (x : Nat) : Int := (((x % 200 + 40) * 7 % 1000 : Nat) : Int)
def advI (sp k : Nat) : List Int := (List.range 300).map fun j => if j = 32 then (sp : Int) else if 33 ≤ j ∧ j < k then ((j * 7 % 1000 : Nat) : Int) else 0
def unitsI (a : List Nat) : List Int := a.map unitI
def sumI (a : List Nat) : Int := (a.map wdI).sum
def styT (u : List Int) (uv : Value) : Sty := ⟨3, false, 0, 0, ln0, ln0, ln0, ln0, ln0, ln0, ln0, ln0, ln0, ln0, 0, 0, 0, 0, 0, 0, 0, 0, 0, 0, false, 0, 0, 0, 0, 0, ln0, u, uv⟩
def treeI (u : List Int) (uv : Value) : List Nd := [⟨-1, styK 1 0⟩, ⟨0, styT u uv⟩]
theorem advI_len (sp k : Nat) : (advI sp k).length = 300 := by simp [advI]
theorem advI_at (sp k j : Nat) (h : j < 300) : (advI sp k)[j]? = some (if j = 32 then (sp : Int) else if 33 ≤ j ∧ j < k then ((j * 7 % 1000 : Nat) : Int) else 0) := by
  simp [advI, h]
theorem adv_at (sp k j : Nat) (h : j < 300) : adv (advI sp k) (j : Int) = (if j = 32 then (sp : Int) else if 33 ≤ j ∧ j < k then ((j * 7 % 1000 : Nat) : Int) else 0) := by
  unfold adv; rw [Int.toNat_natCast, advI_at sp k j h]; rfl
theorem adv_unit (sp x : Nat) : adv (advI sp 300) (unitI x) = wdI x := by
  unfold unitI wdI
  have h : x % 200 < 200 := Nat.mod_lt _ (by omega)
  rw [adv_at sp 300 _ (by omega), if_neg (by omega), if_pos ⟨by omega, by omega⟩]
theorem advs_sum (sp : Nat) (a : List Nat) : (advs (advI sp 300) (unitsI a)).sum = sumI a := by
  induction a with
  | nil => rfl
  | cons x t ih =>
    have e : advs (advI sp 300) (unitsI (x :: t)) = adv (advI sp 300) (unitI x) :: advs (advI sp 300) (unitsI t) := rfl
    rw [e, List.sum_cons, ih, adv_unit]; rfl
theorem wdI_bd (x : Nat) : 0 ≤ wdI x ∧ wdI x < 1000 := by unfold wdI; have := Nat.mod_lt ((x % 200 + 40) * 7) (show 0 < 1000 by omega); omega
theorem sumI_bd (a : List Nat) : 0 ≤ sumI a ∧ sumI a ≤ 1000 * a.length := by
  induction a with
  | nil => exact ⟨by decide, by decide⟩
  | cons x t ih =>
    have := wdI_bd x
    have e : sumI (x :: t) = wdI x + sumI t := rfl
    rw [e, List.length_cons]; omega
theorem sumI_snoc (a : List Nat) (x : Nat) : sumI (a ++ [x]) = sumI a + wdI x := by simp [sumI]
theorem unitI_let (x : Nat) : unitI x ≠ 32 ∧ unitI x ≠ 10 := by unfold unitI; omega
theorem run_let (l : List Int) (h : ∀ u ∈ l, u ≠ 32 ∧ u ≠ 10) : ∀ c : St, l.foldl stp c = ⟨c.cur ++ l, c.ends, c.sp, c.out⟩ := by
  induction l with
  | nil => intro c; simp
  | cons u t ih =>
    intro c
    have hu := h u (by simp)
    rw [List.foldl_cons, ih (fun v hv => h v (by simp [hv])), stp, if_neg hu.1, if_neg hu.2]
    simp
theorem abs_one (l : List Int) (h : ∀ u ∈ l, u ≠ 32 ∧ u ≠ 10) (hn : l ≠ []) : absF l = [⟨l, 0, false⟩] := by
  unfold absF runA
  rw [run_let l h]
  simp [finA, St.nil, St.pend, hn]
theorem abs_two (l m : List Int) (h : ∀ u ∈ l, u ≠ 32 ∧ u ≠ 10) (h2 : ∀ u ∈ m, u ≠ 32 ∧ u ≠ 10) (hn : l ≠ []) (hm : m ≠ []) : absF (l ++ 32 :: m) = [⟨l, 0, false⟩, ⟨m, 0, true⟩] := by
  unfold absF runA
  rw [List.foldl_append, run_let l h, List.foldl_cons, stp, if_pos rfl, if_neg (by simp [St.nil, hn]), run_let m h2]
  simp [finA, St.nil, St.pend, hn, hm]
theorem words_one (sp : Nat) (a : List Nat) (hn : a ≠ []) (hb : a.length ≤ 60) : ∃ x : Wd, wordsF (advI sp 300) (unitsI a) = ([x], false) ∧ x.w = sumI a ∧ x.forced = 0 := by
  have hs := sumI_bd a
  have h := words_abs (advI sp 300) (unitsI a)
  rw [abs_one _ (fun u hu => by obtain ⟨x, _, rfl⟩ := List.mem_map.1 hu; exact unitI_let x) (by simpa [unitsI] using hn)] at h
  obtain ⟨h1, h2⟩ := h
  have hc : cutB (sumI a) = false := by unfold cutB; simp; omega
  have hc2 : cutF (sumI a) = sumI a := cutF_in (by omega) (by omega)
  simp only [List.map_cons, List.map_nil, va, advs_sum, hc2] at h1
  simp only [List.any_cons, List.any_nil, oa, advs_sum, hc] at h2
  match hw : (wordsF (advI sp 300) (unitsI a)).1 with
  | [] => rw [hw] at h1; simp at h1
  | x :: y :: t => rw [hw] at h1; simp at h1
  | [x] =>
    rw [hw] at h1
    simp only [List.map_cons, List.map_nil, List.cons.injEq, vw, Prod.mk.injEq, and_true] at h1
    refine ⟨x, ?_, h1.1, by simpa using h1.2.2.1⟩
    have h2' : (wordsF (advI sp 300) (unitsI a)).2 = false := by rw [h2]; rfl
    rw [← hw, ← h2']
theorem words_two (sp : Nat) (hsp : sp < 65536) (a b : List Nat) (hn : a ≠ []) (hm : b ≠ []) (ha : a.length ≤ 60) (hb : b.length ≤ 60) :
    ∃ x y : Wd, wordsF (advI sp 300) (unitsI a ++ 32 :: unitsI b) = ([x, y], false) ∧ x.w = sumI a ∧ x.forced = 0 ∧ y.w = sumI b ∧ y.gap = sp ∧ y.forced = 0 := by
  have hs := sumI_bd a
  have hs2 := sumI_bd b
  have h := words_abs (advI sp 300) (unitsI a ++ 32 :: unitsI b)
  rw [abs_two _ _ (fun u hu => by obtain ⟨x, _, rfl⟩ := List.mem_map.1 hu; exact unitI_let x) (fun u hu => by obtain ⟨x, _, rfl⟩ := List.mem_map.1 hu; exact unitI_let x) (by simpa [unitsI] using hn) (by simpa [unitsI] using hm)] at h
  obtain ⟨h1, h2⟩ := h
  have hc : cutB (sumI a) = false := by unfold cutB; simp; omega
  have hc2 : cutF (sumI a) = sumI a := cutF_in (by omega) (by omega)
  have hd : cutB (sumI b) = false := by unfold cutB; simp; omega
  have hd2 : cutF (sumI b) = sumI b := cutF_in (by omega) (by omega)
  have h32 : adv (advI sp 300) 32 = sp := by have := adv_at sp 300 32 (by omega); rw [if_pos rfl] at this; exact this
  have he : cutB (sp : Int) = false := by unfold cutB; simp; omega
  have he2 : cutF (sp : Int) = sp := cutF_in (by omega) (by omega)
  simp only [List.map_cons, List.map_nil, va, advs_sum, hc2, hd2, h32, he2, if_true] at h1
  simp only [List.any_cons, List.any_nil, oa, advs_sum, hc, hd, h32, he] at h2
  match hw : (wordsF (advI sp 300) (unitsI a ++ 32 :: unitsI b)).1 with
  | [] => rw [hw] at h1; simp at h1
  | [x] => rw [hw] at h1; simp at h1
  | x :: y :: z :: t => rw [hw] at h1; simp at h1
  | [x, y] =>
    rw [hw] at h1
    simp only [List.map_cons, List.map_nil, List.cons.injEq, vw, Prod.mk.injEq, and_true] at h1
    refine ⟨x, y, ?_, h1.1.1, by simpa using h1.1.2.2.1, h1.2.1, h1.2.2.1, by simpa using h1.2.2.2.1⟩
    have h2' : (wordsF (advI sp 300) (unitsI a ++ 32 :: unitsI b)).2 = false := by rw [h2]; rfl
    rw [← hw, ← h2']
theorem ext_one (x : Wd) (h0 : 0 ≤ x.w) (hw : x.w ≤ 1099511627776) : extF [x] = (x.w, x.w, false) := by
  have h1 : cutF x.w = x.w := cutF_in (by omega) hw
  have h2 : cutB x.w = false := by unfold cutB; simp; omega
  have h3 : cutF 0 = 0 := by decide
  have h4 : cutB 0 = false := by decide
  simp [extF, exAt, exStep, exShut, starts, exLeast, h1, h2, h3, h4]
  omega
theorem ext_two (x y : Wd) (h0 : 0 ≤ x.w) (hy : 0 ≤ y.w) (hg : 0 ≤ y.gap) (hw : x.w + (y.gap + y.w) ≤ 1099511627776) (hf : y.forced = 0) : extF [x, y] = (max x.w y.w, x.w + (y.gap + y.w), false) := by
  have h1 : cutF (x.w + (y.gap + y.w)) = x.w + (y.gap + y.w) := cutF_in (by omega) hw
  have h2 : cutB (x.w + (y.gap + y.w)) = false := by unfold cutB; simp; omega
  have h3 : cutF 0 = 0 := by decide
  have h4 : cutB 0 = false := by decide
  simp only [extF, exAt, List.length_cons, List.length_nil, Nat.zero_add, List.getElem?_cons_zero, List.getElem?_cons_succ]
  simp [exStep, exShut, starts, exLeast, h1, h2, h3, h4, hf]
  refine ⟨?_, by omega⟩
  split <;> omega
theorem con_plain (a b : Int) (h0 : 0 ≤ a) (h1 : a ≤ 1099511627776) (h2 : 0 ≤ b) (h3 : b ≤ 1099511627776) : conP (styK 1 0) (a, b, false) = (⟨a, b, a, b⟩, false) := by
  have e : ∀ v, 0 ≤ v → outP (styK 1 0) v = v := fun v hv => by simp [outP, o3P, o2P, out1, frameF, bareF, styK, ln0]; omega
  have c : ∀ v, 0 ≤ v → v ≤ 1099511627776 → cutF v = v ∧ cutB v = false := fun v h h' => ⟨cutF_in (by omega) h', by unfold cutB; simp; omega⟩
  simp [conP, e a h0, e b h2, (c a h0 h1).1, (c a h0 h1).2, (c b h2 h3).1, (c b h2 h3).2]
theorem node_lines (u : List Int) (uv : Value) (adv : List Int) (got : List Cn) (L : List Wd) (a b : Int) (hw : wordsF adv u = (L, false)) (he : extF L = (a, b, false)) (h0 : 0 ≤ a) (h1 : a ≤ 1099511627776) (h2 : 0 ≤ b) (h3 : b ≤ 1099511627776) :
    nodeP (treeI u uv) adv (0 : Nat) [1] got = (⟨a, b, a, b⟩, false) := by
  have e0 : styAt (treeI u uv) ((0 : Nat) : Int) = some (styK 1 0) := rfl
  have e1 : linesK (treeI u uv) [1] = true := rfl
  have e2 : gatherF (treeI u uv) adv [1] = (L, List.replicate L.length 1, false) := by
    have h := gatherF_one (treeI u uv) adv (k := 1) (by show 1 < 2; omega)
    have e3 : (treeI u uv)[1]'(by show 1 < 2; omega) = ⟨0, styT u uv⟩ := rfl
    have e4 : (styT u uv).units = u := rfl
    simp only [e3, e4, hw] at h
    exact h
  have e4 : wantF (treeI u uv) adv (styK 1 0) [1] got = (a, b, false) := by
    unfold wantF
    rw [if_neg (by decide), e1, if_pos rfl]
    simp [e2, he]
  unfold nodeP
  rw [e0]
  show (if (styK 1 0).kind = 3 then _ else _) = _
  rw [if_neg (by decide), e4, con_plain a b h0 h1 h2 h3]
theorem node_one (sp : Nat) (a : List Nat) (uv : Value) (got : List Cn) (hn : a ≠ []) (hb : a.length ≤ 60) : nodeP (treeI (unitsI a) uv) (advI sp 300) (0 : Nat) [1] got = (⟨sumI a, sumI a, sumI a, sumI a⟩, false) := by
  obtain ⟨x, h1, h2, h3⟩ := words_one sp a hn hb
  have := sumI_bd a
  refine node_lines _ _ _ _ [x] _ _ h1 ?_ (by omega) (by omega) (by omega) (by omega)
  rw [ext_one x (by omega) (by omega), h2]
theorem node_two2 (sp : Nat) (hsp : sp < 65536) (a b : List Nat) (uv : Value) (got : List Cn) (hn : a ≠ []) (hm : b ≠ []) (ha : a.length ≤ 60) (hb : b.length ≤ 60) :
    nodeP (treeI (unitsI a ++ 32 :: unitsI b) uv) (advI sp 300) (0 : Nat) [1] got = (⟨max (sumI a) (sumI b), sumI a + sp + sumI b, max (sumI a) (sumI b), sumI a + sp + sumI b⟩, false) := by
  obtain ⟨x, y, h1, h2, h3, h4, h5, h6⟩ := words_two sp hsp a b hn hm ha hb
  have := sumI_bd a
  have := sumI_bd b
  refine node_lines _ _ _ _ [x, y] _ _ h1 ?_ (by omega) (by omega) (by omega) (by omega)
  rw [ext_two x y (by omega) (by omega) (by omega) (by omega) h6, h2, h4, h5, show sumI a + ((sp : Int) + sumI b) = sumI a + sp + sumI b by omega]
end Go.Proofs.Ytgahmlbemaagbaa
