/- Words of texts, node by node: plain. -/
import Derived.Test.YtgahmlbemaagbaaCop
import Derived.Test.YtgahmlbemaagbaaScale
import Derived.Test.YtgahmlbemaagbaaOrder
set_option linter.unusedSimpArgs false
set_option linter.unusedVariables false
namespace Go.Proofs.Ytgahmlbemaagbaa
open Go.RowKit

theorem gatherF_app (l : List Nd) (adv : List Int) (a b : List Int) : gatherF l adv (a ++ b) = ((gatherF l adv a).1 ++ (gatherF l adv b).1, (gatherF l adv a).2.1 ++ (gatherF l adv b).2.1, (gatherF l adv a).2.2 || (gatherF l adv b).2.2) := by
  induction a with
  | nil => simp [gatherF]
  | cons k t ih =>
    simp only [List.cons_append, gatherF]
    cases styAt l k with
    | none => exact ih
    | some s => simp [ih, List.append_assoc, Bool.or_assoc]
theorem styAt_nat {l : List Nd} {k : Nat} (h : k < l.length) : styAt l (k : Int) = some l[k].s := by
  unfold styAt; rw [if_pos (by omega), Int.toNat_natCast, List.getElem?_eq_getElem h]; rfl
theorem gatherF_one (l : List Nd) (adv : List Int) {k : Nat} (h : k < l.length) : gatherF l adv [(k : Int)] = ((wordsF adv l[k].s.units).1, List.replicate (wordsF adv l[k].s.units).1.length (k : Int), (wordsF adv l[k].s.units).2) := by
  simp only [gatherF, styAt_nat h, List.append_nil, Bool.or_false]
theorem gatherF_succ (l : List Nd) (adv ks : List Int) {j k : Nat} (hj : j < ks.length) (hk : ks[j] = (k : Int)) (h : k < l.length) :
    gatherF l adv (ks.take (j + 1)) = ((gatherF l adv (ks.take j)).1 ++ (wordsF adv l[k].s.units).1, (gatherF l adv (ks.take j)).2.1 ++ List.replicate (wordsF adv l[k].s.units).1.length (k : Int), (gatherF l adv (ks.take j)).2.2 || (wordsF adv l[k].s.units).2) := by
  rw [List.take_add_one, List.getElem?_eq_getElem hj, hk, Option.toList_some, gatherF_app, gatherF_one l adv h]
theorem gat_lens (l : List Nd) (adv ks : List Int) : (gatherF l adv ks).1.length = (gatherF l adv ks).2.1.length := by
  induction ks with
  | nil => rfl
  | cons k t ih =>
    simp only [gatherF]
    cases styAt l k with
    | none => exact ih
    | some s => simp [ih]
theorem wordsF_bd (t l : List Int) : (wordsF t l).1.length ≤ l.length := by rw [wordsF, wordsOf_len]; exact spansF_len l
def unK (l : List Nd) (ks : List Int) : Nat := (ks.map fun k => ((styAt l k).map fun s => s.units.length).getD 0).sum
theorem gat_bd (l : List Nd) (adv ks : List Int) : (gatherF l adv ks).1.length ≤ unK l ks := by
  induction ks with
  | nil => simp [gatherF, unK]
  | cons k t ih =>
    unfold unK at ih ⊢
    simp only [gatherF, List.map_cons, List.sum_cons]
    cases styAt l k with
    | none => simpa using ih
    | some s => have := wordsF_bd adv s.units; simp; omega
theorem unK_take (l : List Nd) (ks : List Int) (j : Nat) : unK l (ks.take j) ≤ unK l ks := by
  induction ks generalizing j with
  | nil => simp
  | cons k t ih =>
    cases j with
    | zero => simp [unK]
    | succ j =>
      have := ih j
      unfold unK at this ⊢
      simp only [List.take_succ_cons, List.map_cons, List.sum_cons]; omega
theorem cutF_bd (x : Int) : -1099511627776 ≤ cutF x ∧ cutF x ≤ 1099511627776 := by have := cutF_cases x; omega
theorem words_cutc (t l : List Int) : ∀ x ∈ (wordsF t l).1, (-1099511627776 ≤ x.w ∧ x.w ≤ 1099511627776) ∧ (-1099511627776 ≤ x.gap ∧ x.gap ≤ 1099511627776) := by
  intro x hx
  obtain ⟨k, hk, rfl⟩ := List.mem_iff_getElem.1 hx
  obtain ⟨s, hs, e⟩ := words_at t l hk
  rw [e]
  refine ⟨cutF_bd _, ?_⟩
  show -1099511627776 ≤ (if gapIs _ s = true then cutF _ else 0) ∧ (if gapIs _ s = true then cutF _ else 0) ≤ 1099511627776
  split
  · exact cutF_bd _
  · omega
theorem gat_mem {l : List Nd} {adv ks : List Int} {x : Wd} (h : x ∈ (gatherF l adv ks).1) : ∃ u, x ∈ (wordsF adv u).1 := by
  induction ks with
  | nil => simp [gatherF] at h
  | cons k t ih =>
    simp only [gatherF] at h
    cases hs : styAt l k with
    | none => rw [hs] at h; exact ih h
    | some s =>
      rw [hs] at h
      rcases List.mem_append.1 h with h | h
      · exact ⟨_, h⟩
      · exact ih h
theorem gat_cut (l : List Nd) (adv ks : List Int) : ∀ x ∈ (gatherF l adv ks).1, (-1099511627776 ≤ x.w ∧ x.w ≤ 1099511627776) ∧ (-1099511627776 ≤ x.gap ∧ x.gap ≤ 1099511627776) := fun x hx => by
  obtain ⟨u, h⟩ := gat_mem hx
  exact words_cutc adv u x h
theorem gat_ws (l : List Nd) (adv ks : List Int) : Ws64 (gatherF l adv ks).1 := fun x hx => by
  obtain ⟨h1, h2⟩ := gat_cut l adv ks x hx
  exact ⟨by omega, by omega⟩
end Go.Proofs.Ytgahmlbemaagbaa
