/- Words of texts, node by node: plain. -/
import Derived.Test.YtbopeofglhkffaaAbs
import Derived.Test.YtbopeofglhkffaaApp
set_option linter.unusedSimpArgs false
set_option linter.unusedVariables false
namespace Go.Proofs.Ytbopeofglhkffaa
open Go.RowKit
/-- What is known of words whose advances are at least 0. -/
def Nn (x : Wd) : Prop := 0 ≤ x.w ∧ 0 ≤ x.gap ∧ cutF x.w = x.w
def tot (l : List Wd) : Int := (l.map fun x => x.w + x.gap).sum
theorem tot_take (l : List Wd) {k : Nat} (h : k < l.length) : tot (l.take (k + 1)) = tot (l.take k) + (l[k].w + l[k].gap) := by
  rw [List.take_succ_eq_append_getElem h]; unfold tot; rw [List.map_append, List.sum_append]; simp only [List.map_cons, List.map_nil, List.sum_cons, List.sum_nil]; omega
theorem ex_order (l : List Wd) (hn : ∀ x ∈ l, Nn x) (T : Int) : ∀ k, k ≤ l.length → tot (l.take k) ≤ T → 0 ≤ T →
    0 ≤ (exAt l k).row ∧ (exAt l k).row ≤ tot (l.take k) ∧ 0 ≤ (exAt l k).great ∧ (exAt l k).great ≤ cutF T ∧ (exAt l k).least ≤ (exShut (exAt l k)).great := by
  intro k
  induction k with
  | zero =>
    intro _ _ h0
    have := cut_le h0
    simp only [exAt, exShut, List.take_zero, tot, List.map_nil, List.sum_nil, cutF]
    omega
  | succ k ih =>
    intro hk hT h0
    have hlt : k < l.length := by omega
    obtain ⟨x1, x2, x3⟩ := hn l[k] (List.getElem_mem hlt)
    rw [tot_take l hlt] at hT ⊢
    obtain ⟨h1, h2, h3, h4, h5⟩ := ih (by omega) (by omega) h0
    rw [exAt_succ l hlt]
    have hm : cutF (exAt l k).row ≤ cutF T := cut_mono (by omega)
    have hl : exLeast k (exAt l k).least l[k] ≤ max (exAt l k).least l[k].w ∨ k = 0 := by
      unfold exLeast
      by_cases h0 : k = 0
      · exact .inr h0
      · left; split <;> omega
    unfold exStep
    rcases hs : starts k l[k] with _ | _
    · simp only [Bool.false_eq_true, if_false, exShut] at h5 ⊢
      have m1 : cutF (exAt l k).row ≤ cutF ((exAt l k).row + (l[k].gap + l[k].w)) := cut_mono (by omega)
      have m2 : cutF l[k].w ≤ cutF ((exAt l k).row + (l[k].gap + l[k].w)) := cut_mono (by omega)
      rw [x3] at m2
      rcases hl with hl | hl
      · refine ⟨by omega, by omega, by omega, by omega, by omega⟩
      · subst hl; simp [starts] at hs
    · simp only [if_true, exShut] at h5 ⊢
      refine ⟨x1, by omega, by omega, by omega, ?_⟩
      rw [x3]
      rcases hl with hl | hl
      · omega
      · unfold exLeast; rw [if_pos (.inl hl)]; omega
theorem ext_order (l : List Wd) (hn : ∀ x ∈ l, Nn x) (T : Int) (hT : tot l ≤ T) (h0 : 0 ≤ T) : (extF l).1 ≤ (extF l).2.1 ∧ (extF l).2.1 ≤ cutF T := by
  obtain ⟨h1, h2, h3, h4, h5⟩ := ex_order l hn T l.length (Nat.le_refl _) (by rw [List.take_of_length_le (Nat.le_refl _)]; exact hT) h0
  rw [List.take_of_length_le (Nat.le_refl _)] at h2
  refine ⟨h5, ?_⟩
  have : cutF (exAt l l.length).row ≤ cutF T := cut_mono (by omega)
  simp only [extF, exShut]
  omega
theorem nn_vw {t : List Int} (ht : ∀ x ∈ t, 0 ≤ x) {L : List Wd} {A : List Ab} (h : L.map vw = A.map (va t)) : (∀ x ∈ L, Nn x) ∧ tot L ≤ wts t A := by
  induction L generalizing A with
  | nil =>
    cases A with
    | nil => exact ⟨by simp, by simp [tot, wts]⟩
    | cons a A => simp at h
  | cons x L ih =>
    cases A with
    | nil => simp at h
    | cons a A =>
      simp only [List.map_cons, List.cons.injEq] at h
      obtain ⟨h1, h2⟩ := ih h.2
      have hx := h.1
      simp only [vw, va, Prod.mk.injEq] at hx
      obtain ⟨e1, e2, -, -⟩ := hx
      have a1 := cut_le (advs_nn ht a.us)
      have a2 := cut_le (adv_nn ht 32)
      have g1 : 0 ≤ x.gap ∧ x.gap ≤ if a.sp = true then adv t 32 else 0 := by rw [e2]; split <;> omega
      refine ⟨fun y hy => ?_, ?_⟩
      · rcases List.mem_cons.1 hy with rfl | hy
        · exact ⟨by omega, g1.1, by rw [e1]; exact a1.2.2⟩
        · exact h1 y hy
      · have e : tot (x :: L) = (x.w + x.gap) + tot L := by simp [tot]
        have e' : wts t (a :: A) = wt t a + wts t A := by simp [wts]
        rw [e, e', wt]
        omega
theorem order (t l : List Int) (ht : ∀ x ∈ t, 0 ≤ x) : (extF (wordsF t l).1).1 ≤ (extF (wordsF t l).1).2.1 ∧ (extF (wordsF t l).1).2.1 ≤ cutF (advs t l).sum := by
  obtain ⟨h1, h2⟩ := nn_vw ht (words_abs t l).1
  exact ext_order _ h1 _ (Int.le_trans h2 (abs_wt ht l)) (advs_nn ht l)
end Go.Proofs.Ytbopeofglhkffaa
namespace Go.Proofs.Ytbopeofglhkffaa
open Go.RowKit
/-- A number that is at most M, whatever its sign. -/
def Bd (M x : Int) : Prop := -M ≤ x ∧ x ≤ M
section
variable {t : List Int} {M : Int} (ht : ∀ x ∈ t, Bd M x) (hM : 0 ≤ M)
include ht hM
end
/-- Widths and gaps of so many units in all. -/
def Small (M : Int) (x : Wd) : Prop := Bd (M * (x.up - x.fr)) x.w ∧ Bd M x.gap ∧ x.fr ≤ x.up
theorem words_at (t l : List Int) {k : Nat} (h : k < (wordsF t l).1.length) : ∃ s, (spansF l)[k]? = some s ∧ (wordsF t l).1[k] = mkW t l (decide (k = 0)) s := by
  have hl : (wordsF t l).1.length = (spansF l).length := by rw [wordsF, wordsOf_len]
  have hk : k < (spansF l).length := by omega
  refine ⟨_, List.getElem?_eq_getElem hk, ?_⟩
  have e := List.getElem?_eq_getElem h
  have e2 : (wordsF t l).1[k]? = some (mkW t l (decide (k = 0)) (spansF l)[k]) := by
    unfold wordsF
    rw [wordsOf_mapIdx]
    simp only [List.getElem?_mapIdx, List.getElem?_eq_getElem hk, Option.map_some]
  exact Option.some.inj (e.symm.trans e2)
end Go.Proofs.Ytbopeofglhkffaa
namespace Go.Proofs.Ytbopeofglhkffaa
open Go.RowKit
theorem gatherF_app (l : List Nd) (adv : List Int) (a b : List Int) : gatherF l adv (a ++ b) = ((gatherF l adv a).1 ++ (gatherF l adv b).1, (gatherF l adv a).2.1 ++ (gatherF l adv b).2.1, (gatherF l adv a).2.2 || (gatherF l adv b).2.2) := by
  induction a with
  | nil => simp [gatherF]
  | cons k t ih =>
    simp only [List.cons_append, gatherF]
    cases styAt l k with
    | none => exact ih
    | some s => simp [ih, List.append_assoc, Bool.or_assoc]
theorem styAt_nat {l : List Nd} {k : Nat} (h : k < l.length) : styAt l (k : Int) = some l[k].s := by
  unfold styAt; rw [if_pos (by omega), Int.toNat_natCast, List.getElem?_eq_getElem h]; rfl
theorem gatherF_one (l : List Nd) (adv : List Int) {k : Nat} (h : k < l.length) : gatherF l adv [(k : Int)] = ((wordsF adv l[k].s.units).1, List.replicate (wordsF adv l[k].s.units).1.length (k : Int), (wordsF adv l[k].s.units).2) := by
  simp only [gatherF, styAt_nat h, List.append_nil, Bool.or_false]
theorem gatherF_succ (l : List Nd) (adv ks : List Int) {j k : Nat} (hj : j < ks.length) (hk : ks[j] = (k : Int)) (h : k < l.length) :
    gatherF l adv (ks.take (j + 1)) = ((gatherF l adv (ks.take j)).1 ++ (wordsF adv l[k].s.units).1, (gatherF l adv (ks.take j)).2.1 ++ List.replicate (wordsF adv l[k].s.units).1.length (k : Int), (gatherF l adv (ks.take j)).2.2 || (wordsF adv l[k].s.units).2) := by
  rw [List.take_add_one, List.getElem?_eq_getElem hj, hk, Option.toList_some, gatherF_app, gatherF_one l adv h]
theorem wordsF_bd (t l : List Int) : (wordsF t l).1.length ≤ l.length := by rw [wordsF, wordsOf_len]; exact spansF_len l
def unK (l : List Nd) (ks : List Int) : Nat := (ks.map fun k => ((styAt l k).map fun s => s.units.length).getD 0).sum
theorem gat_bd (l : List Nd) (adv ks : List Int) : (gatherF l adv ks).1.length ≤ unK l ks := by
  induction ks with
  | nil => simp [gatherF, unK]
  | cons k t ih =>
    unfold unK at ih ⊢
    simp only [gatherF, List.map_cons, List.sum_cons]
    cases styAt l k with
    | none => simpa using ih
    | some s => have := wordsF_bd adv s.units; simp; omega
theorem unK_take (l : List Nd) (ks : List Int) (j : Nat) : unK l (ks.take j) ≤ unK l ks := by
  induction ks generalizing j with
  | nil => simp
  | cons k t ih =>
    cases j with
    | zero => simp [unK]
    | succ j =>
      have := ih j
      unfold unK at this ⊢
      simp only [List.take_succ_cons, List.map_cons, List.sum_cons]; omega
theorem cutF_bd (x : Int) : -1099511627776 ≤ cutF x ∧ cutF x ≤ 1099511627776 := by have := cutF_cases x; omega
theorem words_cutc (t l : List Int) : ∀ x ∈ (wordsF t l).1, (-1099511627776 ≤ x.w ∧ x.w ≤ 1099511627776) ∧ (-1099511627776 ≤ x.gap ∧ x.gap ≤ 1099511627776) := by
  intro x hx
  obtain ⟨k, hk, rfl⟩ := List.mem_iff_getElem.1 hx
  obtain ⟨s, hs, e⟩ := words_at t l hk
  rw [e]
  refine ⟨cutF_bd _, ?_⟩
  show -1099511627776 ≤ (if gapIs _ s = true then cutF _ else 0) ∧ (if gapIs _ s = true then cutF _ else 0) ≤ 1099511627776
  split
  · exact cutF_bd _
  · omega
theorem gat_mem {l : List Nd} {adv ks : List Int} {x : Wd} (h : x ∈ (gatherF l adv ks).1) : ∃ u, x ∈ (wordsF adv u).1 := by
  induction ks with
  | nil => simp [gatherF] at h
  | cons k t ih =>
    simp only [gatherF] at h
    cases hs : styAt l k with
    | none => rw [hs] at h; exact ih h
    | some s =>
      rw [hs] at h
      rcases List.mem_append.1 h with h | h
      · exact ⟨_, h⟩
      · exact ih h
theorem gat_cut (l : List Nd) (adv ks : List Int) : ∀ x ∈ (gatherF l adv ks).1, (-1099511627776 ≤ x.w ∧ x.w ≤ 1099511627776) ∧ (-1099511627776 ≤ x.gap ∧ x.gap ≤ 1099511627776) := fun x hx => by
  obtain ⟨u, h⟩ := gat_mem hx
  exact words_cutc adv u x h
theorem gat_ws (l : List Nd) (adv ks : List Int) : Ws64 (gatherF l adv ks).1 := fun x hx => by
  obtain ⟨h1, h2⟩ := gat_cut l adv ks x hx
  exact ⟨by omega, by omega⟩
end Go.Proofs.Ytbopeofglhkffaa
