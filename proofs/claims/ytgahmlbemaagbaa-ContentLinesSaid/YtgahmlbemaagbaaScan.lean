/- Words of a text, read from left to right: the plain function that package text's iterator computes. -/
set_option linter.unusedSimpArgs false
set_option linter.unusedVariables false
namespace Go.Proofs.Ytgahmlbemaagbaa

/-- A word's place, and what stands between it and the word ahead. -/
structure Sp where
  fr : Nat
  up : Nat
  ends : Nat
  sp : Bool
/-- Where the reader stands: the word at hand, whether it is inside of it, the words behind. -/
structure Sc where
  s : Sp
  ins : Bool
  out : List Sp
def Sp.nil : Sp := ⟨0, 0, 0, false⟩
def gap (u : Int) : Bool := decide (u = 32) || decide (u = 10)
def scStep (c : Sc) (i : Nat) (u : Int) : Sc :=
  if u = 32 then
    if c.ins then ⟨⟨0, 0, 0, true⟩, false, c.out ++ [⟨c.s.fr, i, c.s.ends, c.s.sp⟩]⟩ else ⟨⟨c.s.fr, c.s.up, c.s.ends, true⟩, false, c.out⟩
  else if u = 10 then
    if c.ins then ⟨⟨0, 0, 1, false⟩, false, c.out ++ [⟨c.s.fr, i, c.s.ends, c.s.sp⟩]⟩ else ⟨⟨c.s.fr, c.s.up, c.s.ends + 1, c.s.sp⟩, false, c.out⟩
  else if c.ins then c else ⟨⟨i, c.s.up, c.s.ends, c.s.sp⟩, true, c.out⟩
def sc (l : List Int) : Nat → Sc
  | 0 => ⟨Sp.nil, false, []⟩
  | k + 1 => scStep (sc l k) k (l[k]?.getD 0)
def spansF (l : List Int) : List Sp :=
  if (sc l l.length).ins then (sc l l.length).out ++ [⟨(sc l l.length).s.fr, l.length, (sc l l.length).s.ends, (sc l l.length).s.sp⟩] else (sc l l.length).out

theorem sc_ends (l : List Int) (k : Nat) : (sc l k).s.ends ≤ k := by
  induction k with
  | zero => simp [sc, Sp.nil]
  | succ k ih =>
    simp only [sc, scStep]
    repeat' split
    all_goals try dsimp only
    all_goals omega
theorem out_prefix (l : List Int) {k m : Nat} (h : k ≤ m) : (sc l k).out <+: (sc l m).out := by
  induction m with
  | zero => obtain rfl : k = 0 := by omega
            exact List.prefix_refl _
  | succ m ih =>
    rcases Nat.eq_or_lt_of_le h with rfl | h
    · exact List.prefix_refl _
    · refine (ih (by omega)).trans ?_
      simp only [sc, scStep]
      split
      · split
        · exact List.prefix_append _ _
        · exact List.prefix_refl _
      · split
        · split
          · exact List.prefix_append _ _
          · exact List.prefix_refl _
        · split
          · exact List.prefix_refl _
          · exact List.prefix_refl _
theorem spans_prefix (l : List Int) {k : Nat} (h : k ≤ l.length) : (sc l k).out <+: spansF l := by
  refine (out_prefix l h).trans ?_
  unfold spansF
  split
  · exact List.prefix_append _ _
  · exact List.prefix_refl _

/-- What the reader holds true: its word begins ahead of where it stands; the words behind have ended. -/
theorem sc_bounds (l : List Int) (k : Nat) : ((sc l k).ins = true → (sc l k).s.fr < k) ∧ (∀ s ∈ (sc l k).out, s.fr < s.up ∧ s.up ≤ k ∧ s.ends ≤ k) := by
  induction k with
  | zero => simp [sc, Sp.nil]
  | succ k ih =>
    obtain ⟨h1, h2⟩ := ih
    have he := sc_ends l k
    simp only [sc, scStep]
    repeat' split
    all_goals refine ⟨?_, fun s hs => ?_⟩
    all_goals first
      | (intro hi; first | (simp at hi; done) | (have := h1 hi; omega) | (dsimp only; omega))
      | (dsimp only at hs
         rcases List.mem_append.1 hs with hs | hs
         · have := h2 s hs; omega
         · rw [List.mem_singleton] at hs; subst hs; have := h1 ‹_›; dsimp only; omega)
      | (have := h2 s hs; omega)
theorem spans_bounds (l : List Int) : ∀ s ∈ spansF l, s.fr < s.up ∧ s.up ≤ l.length ∧ s.ends ≤ l.length := by
  intro s hs
  obtain ⟨h1, h2⟩ := sc_bounds l l.length
  have he := sc_ends l l.length
  unfold spansF at hs
  split at hs
  · rcases List.mem_append.1 hs with hs | hs
    · exact h2 s hs
    · rw [List.mem_singleton] at hs; subst hs; have := h1 ‹_›; dsimp only; omega
  · exact h2 s hs
theorem spans_len (l : List Int) (k : Nat) : (sc l k).out.length + (if (sc l k).ins then 1 else 0) ≤ k := by
  induction k with
  | zero => simp [sc]
  | succ k ih =>
    simp only [sc, scStep]
    repeat' split
    all_goals simp_all
    all_goals omega
theorem spansF_len (l : List Int) : (spansF l).length ≤ l.length := by
  have := spans_len l l.length
  unfold spansF
  split
  · simp_all
  · simp_all
end Go.Proofs.Ytgahmlbemaagbaa
