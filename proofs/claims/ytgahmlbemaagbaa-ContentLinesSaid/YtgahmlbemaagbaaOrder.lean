/- Of advances that are at least 0 the least width is not above the greatest, and that not above all units' width. Plain. -/
import Derived.Test.YtgahmlbemaagbaaAbs
import Derived.Test.YtgahmlbemaagbaaExt
set_option linter.unusedSimpArgs false
set_option linter.unusedVariables false
namespace Go.Proofs.Ytgahmlbemaagbaa
open Go.RowKit

/-- What is known of words whose advances are at least 0. -/
def Nn (x : Wd) : Prop := 0 ≤ x.w ∧ 0 ≤ x.gap ∧ cutF x.w = x.w
def tot (l : List Wd) : Int := (l.map fun x => x.w + x.gap).sum
theorem tot_take (l : List Wd) {k : Nat} (h : k < l.length) : tot (l.take (k + 1)) = tot (l.take k) + (l[k].w + l[k].gap) := by
  rw [List.take_succ_eq_append_getElem h]; unfold tot; rw [List.map_append, List.sum_append]; simp only [List.map_cons, List.map_nil, List.sum_cons, List.sum_nil]; omega
theorem ex_order (l : List Wd) (hn : ∀ x ∈ l, Nn x) (T : Int) : ∀ k, k ≤ l.length → tot (l.take k) ≤ T → 0 ≤ T →
    0 ≤ (exAt l k).row ∧ (exAt l k).row ≤ tot (l.take k) ∧ 0 ≤ (exAt l k).great ∧ (exAt l k).great ≤ cutF T ∧ (exAt l k).least ≤ (exShut (exAt l k)).great := by
  intro k
  induction k with
  | zero =>
    intro _ _ h0
    have := cut_le h0
    simp only [exAt, exShut, List.take_zero, tot, List.map_nil, List.sum_nil, cutF]
    omega
  | succ k ih =>
    intro hk hT h0
    have hlt : k < l.length := by omega
    obtain ⟨x1, x2, x3⟩ := hn l[k] (List.getElem_mem hlt)
    rw [tot_take l hlt] at hT ⊢
    obtain ⟨h1, h2, h3, h4, h5⟩ := ih (by omega) (by omega) h0
    rw [exAt_succ l hlt]
    have hm : cutF (exAt l k).row ≤ cutF T := cut_mono (by omega)
    have hl : exLeast k (exAt l k).least l[k] ≤ max (exAt l k).least l[k].w ∨ k = 0 := by
      unfold exLeast
      by_cases h0 : k = 0
      · exact .inr h0
      · left; split <;> omega
    unfold exStep
    rcases hs : starts k l[k] with _ | _
    · simp only [Bool.false_eq_true, if_false, exShut] at h5 ⊢
      have m1 : cutF (exAt l k).row ≤ cutF ((exAt l k).row + (l[k].gap + l[k].w)) := cut_mono (by omega)
      have m2 : cutF l[k].w ≤ cutF ((exAt l k).row + (l[k].gap + l[k].w)) := cut_mono (by omega)
      rw [x3] at m2
      rcases hl with hl | hl
      · refine ⟨by omega, by omega, by omega, by omega, by omega⟩
      · subst hl; simp [starts] at hs
    · simp only [if_true, exShut] at h5 ⊢
      refine ⟨x1, by omega, by omega, by omega, ?_⟩
      rw [x3]
      rcases hl with hl | hl
      · omega
      · unfold exLeast; rw [if_pos (.inl hl)]; omega
theorem ext_order (l : List Wd) (hn : ∀ x ∈ l, Nn x) (T : Int) (hT : tot l ≤ T) (h0 : 0 ≤ T) : (extF l).1 ≤ (extF l).2.1 ∧ (extF l).2.1 ≤ cutF T := by
  obtain ⟨h1, h2, h3, h4, h5⟩ := ex_order l hn T l.length (Nat.le_refl _) (by rw [List.take_of_length_le (Nat.le_refl _)]; exact hT) h0
  rw [List.take_of_length_le (Nat.le_refl _)] at h2
  refine ⟨h5, ?_⟩
  have : cutF (exAt l l.length).row ≤ cutF T := cut_mono (by omega)
  simp only [extF, exShut]
  omega

theorem nn_vw {t : List Int} (ht : ∀ x ∈ t, 0 ≤ x) {L : List Wd} {A : List Ab} (h : L.map vw = A.map (va t)) : (∀ x ∈ L, Nn x) ∧ tot L ≤ wts t A := by
  induction L generalizing A with
  | nil =>
    cases A with
    | nil => exact ⟨by simp, by simp [tot, wts]⟩
    | cons a A => simp at h
  | cons x L ih =>
    cases A with
    | nil => simp at h
    | cons a A =>
      simp only [List.map_cons, List.cons.injEq] at h
      obtain ⟨h1, h2⟩ := ih h.2
      have hx := h.1
      simp only [vw, va, Prod.mk.injEq] at hx
      obtain ⟨e1, e2, -, -⟩ := hx
      have a1 := cut_le (advs_nn ht a.us)
      have a2 := cut_le (adv_nn ht 32)
      have g1 : 0 ≤ x.gap ∧ x.gap ≤ if a.sp = true then adv t 32 else 0 := by rw [e2]; split <;> omega
      refine ⟨fun y hy => ?_, ?_⟩
      · rcases List.mem_cons.1 hy with rfl | hy
        · exact ⟨by omega, g1.1, by rw [e1]; exact a1.2.2⟩
        · exact h1 y hy
      · have e : tot (x :: L) = (x.w + x.gap) + tot L := by simp [tot]
        have e' : wts t (a :: A) = wt t a + wts t A := by simp [wts]
        rw [e, e', wt]
        omega
theorem order (t l : List Int) (ht : ∀ x ∈ t, 0 ≤ x) : (extF (wordsF t l).1).1 ≤ (extF (wordsF t l).1).2.1 ∧ (extF (wordsF t l).1).2.1 ≤ cutF (advs t l).sum := by
  obtain ⟨h1, h2⟩ := nn_vw ht (words_abs t l).1
  exact ext_order _ h1 _ (Int.le_trans h2 (abs_wt ht l)) (advs_nn ht l)
end Go.Proofs.Ytgahmlbemaagbaa
