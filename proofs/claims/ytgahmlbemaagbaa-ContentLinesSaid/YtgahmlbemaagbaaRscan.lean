/- The reference's words, as a plain function: the places at which a word begins. They are the iterator's. -/
import Derived.Test.YtgahmlbemaagbaaWords
set_option linter.unusedSimpArgs false
set_option linter.unusedVariables false
namespace Go.Proofs.Ytgahmlbemaagbaa

def isLet (u : Int) : Bool := !decide (u = 32) && !decide (u = 10)
def letN (l : List Int) (k : Nat) : Bool := decide (k < l.length) && isLet (l[k]?.getD 0)
def runLen : List Int → Nat
  | [] => 0
  | u :: t => if isLet u then runLen t + 1 else 0
def runEnd (l : List Int) (k : Nat) : Nat := k + runLen (l.drop k)
def cnt (l : List Int) (a : Nat) : Nat → Nat
  | 0 => 0
  | b + 1 => if a ≤ b ∧ l[b]?.getD 0 = 10 then cnt l a b + 1 else cnt l a b
def anyS (l : List Int) (a : Nat) : Nat → Bool
  | 0 => false
  | b + 1 => if a ≤ b ∧ l[b]?.getD 0 = 32 then true else anyS l a b
def begins (l : List Int) (k : Nat) : Bool := letN l k && !(decide (0 < k) && letN l (k - 1))
def refR (l : List Int) : Nat → List Sp × Nat
  | 0 => ([], 0)
  | k + 1 => if begins l k then ((refR l k).1 ++ [⟨k, runEnd l k, cnt l (refR l k).2 k, anyS l (refR l k).2 k⟩], runEnd l k) else refR l k

theorem runLen_le (l : List Int) : runLen l ≤ l.length := by
  induction l with
  | nil => simp [runLen]
  | cons u t ih => simp only [runLen]; split <;> simp <;> omega
theorem runEnd_le (l : List Int) (k : Nat) (h : k ≤ l.length) : runEnd l k ≤ l.length := by
  have := runLen_le (l.drop k)
  simp at this
  unfold runEnd; omega
theorem runEnd_ge (l : List Int) (k : Nat) : k ≤ runEnd l k := by unfold runEnd; omega
theorem runEnd_let {l : List Int} {k : Nat} (h : letN l k = true) : runEnd l (k + 1) = runEnd l k := by
  simp only [letN, Bool.and_eq_true, decide_eq_true_eq] at h
  obtain ⟨h1, h2⟩ := h
  rw [List.getElem?_eq_getElem h1] at h2
  simp only [Option.getD_some] at h2
  unfold runEnd
  rw [List.drop_eq_getElem_cons h1]
  simp only [runLen, h2, if_true]
  omega
theorem runEnd_no {l : List Int} {k : Nat} (h : letN l k = false) : runEnd l k = k := by
  unfold runEnd
  by_cases h1 : k < l.length
  · simp only [letN, h1, decide_true, Bool.true_and] at h
    rw [List.getElem?_eq_getElem h1] at h
    simp only [Option.getD_some] at h
    rw [List.drop_eq_getElem_cons h1]
    simp [runLen, h]
  · rw [List.drop_eq_nil_of_le (by omega)]
    simp [runLen]
theorem cnt_same (l : List Int) (a : Nat) : ∀ b, b ≤ a → cnt l a b = 0
  | 0, _ => rfl
  | b + 1, h => by simp only [cnt]; rw [if_neg (by omega)]; exact cnt_same l a b (by omega)
theorem any_same (l : List Int) (a : Nat) : ∀ b, b ≤ a → anyS l a b = false
  | 0, _ => rfl
  | b + 1, h => by simp only [anyS]; rw [if_neg (by omega)]; exact any_same l a b (by omega)
theorem cnt_le (l : List Int) (a : Nat) : ∀ b, cnt l a b ≤ b
  | 0 => by simp [cnt]
  | b + 1 => by have := cnt_le l a b; simp only [cnt]; split <;> omega
theorem begins_i {l : List Int} {k : Nat} (h : begins l k = true) : letN l k = true ∧ (0 < k → letN l (k - 1) = false) := by
  simp only [begins, Bool.and_eq_true, Bool.not_eq_true', Bool.and_eq_false_iff, decide_eq_false_iff_not] at h
  refine ⟨h.1, fun hk => ?_⟩
  rcases h.2 with h | h
  · omega
  · exact h
theorem letN_lt {l : List Int} {k : Nat} (h : letN l k = true) : k < l.length := by
  simp only [letN, Bool.and_eq_true, decide_eq_true_eq] at h; exact h.1

/-- The reference and the reader. -/
def Agree (l : List Int) (k : Nat) : Prop :=
  (sc l k).ins = (decide (0 < k) && letN l (k - 1)) ∧
  ((sc l k).ins = true → refR l k = ((sc l k).out ++ [⟨(sc l k).s.fr, runEnd l k, (sc l k).s.ends, (sc l k).s.sp⟩], runEnd l k)) ∧
  ((sc l k).ins = false → (refR l k).1 = (sc l k).out ∧ (refR l k).2 ≤ k ∧ (sc l k).s.ends = cnt l (refR l k).2 k ∧ (sc l k).s.sp = anyS l (refR l k).2 k)

theorem agree (l : List Int) : ∀ k, k ≤ l.length → Agree l k
  | 0, _ => ⟨by simp [sc], by simp [sc], by simp [sc, refR, Sp.nil, cnt, anyS]⟩
  | k + 1, hk => by
    obtain ⟨h1, h2, h3⟩ := agree l k (by omega)
    have hlt : k < l.length := by omega
    unfold Agree
    simp only [refR, sc, scStep, Nat.add_sub_cancel, Nat.zero_lt_succ, decide_true, Bool.true_and]
    by_cases hu : l[k]?.getD 0 = 32
    · have hL : letN l k = false := by simp [letN, isLet, hu]
      have hB : begins l k = false := by simp [begins, hL]
      simp only [hu, if_true, hL, hB]
      cases hi : (sc l k).ins
      · obtain ⟨e1, e2, e3, e4⟩ := h3 hi
        simp only [cnt, anyS, hu]
        refine ⟨by simp, by simp, fun _ => ⟨by simpa using e1, ?_, ?_, ?_⟩⟩
        · simp; omega
        · simpa using e3
        · simp; exact .inl e2
      · have e1 := h2 hi
        have hr := runEnd_no hL
        rw [e1, hr]
        refine ⟨by simp, by simp, fun _ => ?_⟩
        simp [cnt, anyS, hu, cnt_same]
    · by_cases hv : l[k]?.getD 0 = 10
      · have hL : letN l k = false := by simp [letN, isLet, hv]
        have hB : begins l k = false := by simp [begins, hL]
        simp only [hv, if_true, hL, hB]
        cases hi : (sc l k).ins
        · obtain ⟨e1, e2, e3, e4⟩ := h3 hi
          simp only [cnt, anyS, hv]
          refine ⟨by simp, by simp, fun _ => ⟨by simpa using e1, ?_, ?_, ?_⟩⟩
          · simp; omega
          · simp [e2, e3]
          · simpa using e4
        · have e1 := h2 hi
          have hr := runEnd_no hL
          rw [e1, hr]
          refine ⟨by simp, by simp, fun _ => ?_⟩
          simp [cnt, anyS, hv, cnt_same, any_same]
      · have hL : letN l k = true := by rw [letN, isLet, decide_eq_true hlt, decide_eq_false hu, decide_eq_false hv]; rfl
        have hr := runEnd_let hL
        simp only [hu, hv, if_false, hL]
        cases hi : (sc l k).ins
        · obtain ⟨e1, e2, e3, e4⟩ := h3 hi
          have hB : begins l k = true := by simp [begins, hL, ← h1, hi]
          simp only [hB, if_true]
          refine ⟨by simp, fun _ => ?_, by simp⟩
          simp [e1, e3, e4, hr]
        · have e1 := h2 hi
          have hB : begins l k = false := by simp [begins, hL, ← h1, hi]
          simp only [hB]
          refine ⟨by simp [hi], fun _ => ?_, by simp [hi]⟩
          simp [e1, hr]

theorem ref_spans (l : List Int) : (refR l l.length).1 = spansF l := by
  obtain ⟨_, h2, h3⟩ := agree l l.length (Nat.le_refl _)
  unfold spansF
  cases hi : (sc l l.length).ins
  · simpa using (h3 hi).1
  · rw [h2 hi, runEnd_no (by simp [letN])]; simp
theorem ref_last {l : List Int} {k : Nat} (hk : k ≤ l.length) (h : begins l k = true) : (refR l k).2 ≤ k := by
  obtain ⟨h1, _, h3⟩ := agree l k hk
  refine (h3 ?_).2.1
  rw [h1]
  by_cases h0 : 0 < k
  · simp [(begins_i h).2 h0]
  · simp [h0]
theorem ref_len (l : List Int) : ∀ k, (refR l k).1.length ≤ k
  | 0 => by simp [refR]
  | k + 1 => by
    have := ref_len l k
    simp only [refR]
    split
    · simp; omega
    · omega
end Go.Proofs.Ytgahmlbemaagbaa
