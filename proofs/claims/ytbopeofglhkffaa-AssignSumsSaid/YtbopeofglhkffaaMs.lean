/- Mains: rows, and rows that are filled: plain. -/
import Derived.Test.YtbopeofglhkffaaMr
set_option linter.unusedSimpArgs false
set_option linter.unusedVariables false
namespace Go.Proofs.Ytbopeofglhkffaa
theorem last_split (l : List (List Nat)) (h : l ≠ []) : l.dropLast ++ [l.getLast?.getD []] = l := by
  rw [List.getLast?_eq_some_getLast h]
  exact List.dropLast_concat_getLast h
structure RowS (wrap : Bool) (c : Int) (own : Nat → Int) (l : List Nat) (p : List (List Nat) × Int) : Prop where
  flat : p.1.flatten = l
  ne : ∀ r ∈ p.1, r ≠ []
  one : wrap = false → p.1.length ≤ 1
  none : p.1 = [] → l = []
  long : p.1 ≠ [] → p.2 = ((p.1.getLast?.getD []).map own).sum
  room : wrap = true → ∀ r ∈ p.1, ∀ i, 0 < i → i < r.length → ((r.take (i + 1)).map own).sum ≤ c
  wraps : wrap = true → ∀ (i : Nat) (r s : List Nat), p.1[i]? = some r → p.1[i + 1]? = some s → ∃ k t, s = k :: t ∧ c < (r.map own).sum + own k
theorem rows_step (wrap : Bool) (c : Int) (own : Nat → Int) (l : List Nat) (p : List (List Nat) × Int) (k : Nat) (h : RowS wrap c own l p) : RowS wrap c own (l ++ [k]) (rowStep wrap c own p k) := by
  unfold rowStep
  by_cases hc : p.1.length = 0 ∨ (wrap = true ∧ c < p.2 + own k)
  · rw [if_pos hc]
    refine ⟨by rw [List.flatten_append, h.flat]; simp, fun r hr => ?_, fun hw => ?_, fun he => by simp at he, fun _ => by simp, fun hw r hr i h0 h1 => ?_, fun hw i r s h1 h2 => ?_⟩
    · rcases List.mem_append.1 hr with h1 | h1
      · exact h.ne r h1
      · simp at h1; rw [h1]; simp
    · rcases hc with hc | hc
      · simp [hc]
      · rw [hw] at hc; exact absurd hc.1 (by simp)
    · rcases List.mem_append.1 hr with h2 | h2
      · exact h.room hw r h2 i h0 h1
      · simp at h2; rw [h2] at h1; simp at h1; omega
    · by_cases hi : i + 1 < p.1.length
      · rw [List.getElem?_append_left (by omega)] at h1
        rw [List.getElem?_append_left hi] at h2
        exact h.wraps hw i r s h1 h2
      · have hl : i + 1 = p.1.length := by
          have := (List.getElem?_eq_some_iff.1 h2).1
          simp at this; omega
        rw [List.getElem?_append_left (by omega)] at h1
        rw [List.getElem?_append_right (by omega), show i + 1 - p.1.length = 0 by omega] at h2
        have hs : s = [k] := by simpa using h2.symm
        refine ⟨k, [], hs, ?_⟩
        have hne : p.1 ≠ [] := by intro e; rw [e] at hl; simp at hl
        have hr : p.1.getLast?.getD [] = r := by rw [List.getLast?_eq_getElem?, ← hl, Nat.add_sub_cancel, h1]; rfl
        rcases hc with hc | hc
        · omega
        · have := h.long hne; rw [hr] at this; rw [← this]; exact hc.2
  · rw [if_neg hc]
    have hne : p.1 ≠ [] := by intro e; apply hc; left; rw [e]; rfl
    have hsp := last_split p.1 hne
    obtain ⟨b, hb⟩ : ∃ b, b = p.1.getLast?.getD [] := ⟨_, rfl⟩
    rw [← hb] at hsp ⊢
    have hbm : b ∈ p.1 := by rw [← hsp]; simp
    have hlen : p.1.dropLast.length + 1 = p.1.length := by rw [← congrArg List.length hsp]; simp
    have hlong := h.long hne
    rw [← hb] at hlong
    refine ⟨?_, fun r hr => ?_, fun hw => ?_, fun he => by simp at he, fun _ => ?_, fun hw r hr i h0 h1 => ?_, fun hw i r s h1 h2 => ?_⟩
    · have := h.flat
      rw [← hsp] at this
      simp only [List.flatten_append, List.flatten_cons, List.flatten_nil, List.append_nil] at this ⊢
      rw [← List.append_assoc, this]
    · rcases List.mem_append.1 hr with h1 | h1
      · exact h.ne r (List.dropLast_subset _ h1)
      · simp at h1; rw [h1]; simp
    · have := h.one hw; simp; omega
    · simp [hlong]
    · rcases List.mem_append.1 hr with h2 | h2
      · exact h.room hw r (List.dropLast_subset _ h2) i h0 h1
      · simp at h2
        rw [h2] at h1 ⊢
        simp at h1
        by_cases hi : i + 1 ≤ b.length
        · rw [List.take_append_of_le_length hi]; exact h.room hw b hbm i h0 (by omega)
        · rw [List.take_of_length_le (by simp; omega)]
          have : ¬ c < p.2 + own k := fun h3 => hc (.inr ⟨hw, h3⟩)
          rw [hlong] at this
          simp; omega
    · by_cases hi : i + 1 < p.1.dropLast.length
      · rw [List.getElem?_append_left (by omega)] at h1
        rw [List.getElem?_append_left hi] at h2
        rw [List.getElem?_dropLast, if_pos (by omega)] at h1
        rw [List.getElem?_dropLast, if_pos (by omega)] at h2
        exact h.wraps hw i r s h1 h2
      · have hl : i + 1 = p.1.dropLast.length := by
          have := (List.getElem?_eq_some_iff.1 h2).1
          simp at this; simp at hi ⊢; omega
        rw [List.getElem?_append_left (by omega)] at h1
        rw [List.getElem?_append_right (by omega), show i + 1 - p.1.dropLast.length = 0 by omega] at h2
        have hs : s = b ++ [k] := by simpa using h2.symm
        rw [List.getElem?_dropLast, if_pos (by omega)] at h1
        have hb2 : p.1[i + 1]? = some b := by
          rw [← hsp, List.getElem?_append_right (by omega), show i + 1 - p.1.dropLast.length = 0 by omega]; rfl
        obtain ⟨j, t, e, hcj⟩ := h.wraps hw i r b h1 hb2
        exact ⟨j, t ++ [k], by rw [hs, e]; rfl, hcj⟩
theorem rows_all (wrap : Bool) (c : Int) (own : Nat → Int) (l : List Nat) : RowS wrap c own l (l.foldl (rowStep wrap c own) ([], 0)) := by
  have : ∀ (m l : List Nat) (p : List (List Nat) × Int), RowS wrap c own l p → RowS wrap c own (l ++ m) (m.foldl (rowStep wrap c own) p) := fun m => by
    induction m with
    | nil => intro l p h; rw [List.append_nil]; exact h
    | cons a t ih =>
      intro l p h
      have := ih (l ++ [a]) _ (rows_step wrap c own l p a h)
      rw [List.append_assoc] at this
      exact this
  have h0 : RowS wrap c own [] ([], 0) := ⟨rfl, by simp, by simp, by simp, by simp, by simp, by simp⟩
  exact this l [] _ h0
/-! Widths within their bounds. -/
/-! A row is filled. -/
end Go.Proofs.Ytbopeofglhkffaa
