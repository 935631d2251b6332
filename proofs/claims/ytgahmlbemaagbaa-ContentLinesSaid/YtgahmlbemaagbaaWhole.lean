/- What the words of units leave out: spaces and ends alone, each end counted. Plain. -/
import Derived.Test.YtgahmlbemaagbaaRscan
set_option linter.unusedSimpArgs false
set_option linter.unusedVariables false
namespace Go.Proofs.Ytgahmlbemaagbaa

def endsF (l : List Int) : Int := if l.any isLet then -1 else l.count 10
theorem endsF_nil : endsF [] = 0 := rfl
theorem endsF_of {l : List Int} {n : Nat} (h : endsF l = n) : l.any isLet = false ∧ l.count 10 = n := by
  unfold endsF at h
  split at h
  · omega
  · rename_i h'; exact ⟨by simpa using h', by omega⟩
theorem endsF_mk {l : List Int} {n : Nat} (h : l.any isLet = false) (h' : l.count 10 = n) : endsF l = n := by unfold endsF; rw [h]; simp [h']
theorem endsF_32 {l : List Int} {n : Nat} (h : endsF l = n) : endsF (l ++ [32]) = n := by
  obtain ⟨h1, h2⟩ := endsF_of h
  exact endsF_mk (by rw [List.any_append, h1]; rfl) (by rw [List.count_append, h2]; rfl)
theorem endsF_10 {l : List Int} {n : Nat} (h : endsF l = n) : endsF (l ++ [10]) = (n + 1 : Nat) := by
  obtain ⟨h1, h2⟩ := endsF_of h
  exact endsF_mk (by rw [List.any_append, h1]; rfl) (by rw [List.count_append, h2]; rfl)

def seg (l : List Int) (a b : Nat) : List Int := (l.drop a).take (b - a)
theorem seg_nil (l : List Int) (a : Nat) : seg l a a = [] := by simp [seg]
theorem seg_snoc (l : List Int) {a k : Nat} (ha : a ≤ k) (hk : k < l.length) : seg l a (k + 1) = seg l a k ++ [l[k]] := by
  unfold seg
  rw [show k + 1 - a = (k - a) + 1 by omega, List.take_succ_eq_append_getElem (by simp; omega)]
  congr 2
  simp [show a + (k - a) = k by omega]
theorem seg_end (l : List Int) (a : Nat) : seg l a l.length = l.drop a := by
  unfold seg; exact List.take_of_length_le (by simp)

def upAt (o : List Sp) (i : Nat) : Nat := if i = 0 then 0 else ((o[i - 1]?).map Sp.up).getD 0
theorem upAt_old (o : List Sp) (x : Sp) {i : Nat} (h : i ≤ o.length) : upAt (o ++ [x]) i = upAt o i := by
  unfold upAt
  by_cases hi : i = 0
  · simp [hi]
  · rw [if_neg hi, if_neg hi, List.getElem?_append_left (by omega)]
theorem upAt_new (o : List Sp) (x : Sp) : upAt (o ++ [x]) (o.length + 1) = x.up := by simp [upAt]
structure GoodSp (l : List Int) (o : List Sp) (i : Nat) (s : Sp) : Prop where
  a : upAt o i ≤ s.fr
  b : 0 < i → s.fr ≠ upAt o i
  c : s.fr < s.up
  d : s.up ≤ l.length
  e : endsF (seg l (upAt o i) s.fr) = s.ends
  f : ∀ k, s.fr ≤ k → k < s.up → letN l k = true
theorem GoodSp.old {l : List Int} {o : List Sp} {x s : Sp} {i : Nat} (h : GoodSp l o i s) (hi : i ≤ o.length) : GoodSp l (o ++ [x]) i s := by
  obtain ⟨a, b, c, d, e, f⟩ := h
  refine ⟨?_, ?_, c, d, ?_, f⟩ <;> rw [upAt_old o x hi] <;> assumption

structure Inv (l : List Int) (k : Nat) (c : Sc) : Prop where
  good : ∀ i s, c.out[i]? = some s → GoodSp l c.out i s
  up : upAt c.out c.out.length ≤ k
  out : c.ins = false → endsF (seg l (upAt c.out c.out.length) k) = c.s.ends ∧ (0 < c.out.length → upAt c.out c.out.length < k)
  ins : c.ins = true → upAt c.out c.out.length ≤ c.s.fr ∧ (0 < c.out.length → c.s.fr ≠ upAt c.out c.out.length) ∧ c.s.fr < k ∧ endsF (seg l (upAt c.out c.out.length) c.s.fr) = c.s.ends ∧ ∀ j, c.s.fr ≤ j → j < k → letN l j = true

theorem inv_close {l : List Int} {k : Nat} {c : Sc} (h : Inv l k c) (hk : k ≤ l.length) (hi : c.ins = true) : (∀ i s, (c.out ++ [⟨c.s.fr, k, c.s.ends, c.s.sp⟩])[i]? = some s → GoodSp l (c.out ++ [⟨c.s.fr, k, c.s.ends, c.s.sp⟩]) i s) := by
  obtain ⟨h1, h2, h3, h4, h5⟩ := h.ins hi
  intro i s hs
  rcases Nat.lt_or_ge i c.out.length with hlt | hge
  · rw [List.getElem?_append_left hlt] at hs
    exact (h.good i s hs).old (by omega)
  · rw [List.getElem?_append_right hge] at hs
    have hi0 : i = c.out.length := by
      have := (List.getElem?_eq_some_iff.1 hs).1
      simp at this; omega
    subst hi0
    simp at hs
    subst hs
    refine ⟨?_, ?_, h3, hk, ?_, h5⟩
    · rw [upAt_old _ _ (Nat.le_refl _)]; exact h1
    · rw [upAt_old _ _ (Nat.le_refl _)]; exact h2
    · rw [upAt_old _ _ (Nat.le_refl _)]; exact h4
theorem inv_all (l : List Int) : ∀ k, k ≤ l.length → Inv l k (sc l k) := by
  intro k
  induction k with
  | zero => intro _; exact ⟨by simp [sc], by simp [sc, upAt], fun _ => by simp [sc, upAt, seg, endsF, Sp.nil], by simp [sc]⟩
  | succ k ih =>
    intro hk
    have h := ih (by omega)
    have hlt : k < l.length := by omega
    have hu : l[k]?.getD 0 = l[k] := by simp [hlt]
    have hcl := fun hi => inv_close h (by omega) hi
    simp only [sc, scStep]
    rw [hu]
    by_cases h32 : l[k] = 32
    · rw [if_pos h32]
      rcases hi : (sc l k).ins with _ | _
      · obtain ⟨e1, e2⟩ := h.out hi
        refine ⟨h.good, Nat.le_succ_of_le h.up, fun _ => ⟨?_, fun hp => Nat.lt_succ_of_lt (e2 hp)⟩, fun hi => by cases hi⟩
        show endsF (seg l (upAt (sc l k).out (sc l k).out.length) (k + 1)) = _
        rw [seg_snoc l h.up hlt, h32]; exact endsF_32 e1
      · refine ⟨hcl hi, ?_, fun _ => ⟨?_, fun _ => ?_⟩, fun hi => by cases hi⟩
        · simp [upAt]
        · show endsF (seg l (upAt ((sc l k).out ++ [_]) ((sc l k).out ++ [_]).length) (k + 1)) = _
          rw [List.length_append, List.length_singleton, upAt_new, seg_snoc l (Nat.le_refl _) hlt, seg_nil, h32]; rfl
        · simp [upAt]
    · rw [if_neg h32]
      by_cases h10 : l[k] = 10
      · rw [if_pos h10]
        rcases hi : (sc l k).ins with _ | _
        · obtain ⟨e1, e2⟩ := h.out hi
          refine ⟨h.good, Nat.le_succ_of_le h.up, fun _ => ⟨?_, fun hp => Nat.lt_succ_of_lt (e2 hp)⟩, fun hi => by cases hi⟩
          show endsF (seg l (upAt (sc l k).out (sc l k).out.length) (k + 1)) = _
          rw [seg_snoc l h.up hlt, h10]; exact endsF_10 e1
        · refine ⟨hcl hi, ?_, fun _ => ⟨?_, fun _ => ?_⟩, fun hi => by cases hi⟩
          · simp [upAt]
          · show endsF (seg l (upAt ((sc l k).out ++ [_]) ((sc l k).out ++ [_]).length) (k + 1)) = _
            rw [List.length_append, List.length_singleton, upAt_new, seg_snoc l (Nat.le_refl _) hlt, seg_nil, h10]; rfl
          · simp [upAt]
      · rw [if_neg h10]
        have hL : letN l k = true := by simp [letN, isLet, hlt, h32, h10]
        rcases hi : (sc l k).ins with _ | _
        · obtain ⟨e1, e2⟩ := h.out hi
          refine ⟨h.good, Nat.le_succ_of_le h.up, fun hi => by simp at hi, fun _ => ⟨h.up, fun hp => Nat.ne_of_gt (e2 hp), Nat.lt_succ_self k, e1, fun j h1 h2 => ?_⟩⟩
          have : j = k := by simp at h1; omega
          rw [this]; exact hL
        · obtain ⟨e1, e2, e3, e4, e5⟩ := h.ins hi
          refine ⟨h.good, Nat.le_succ_of_le h.up, fun hi' => by simp [hi] at hi', fun _ => ⟨e1, e2, Nat.lt_succ_of_lt e3, e4, fun j h1 h2 => ?_⟩⟩
          rcases Nat.lt_succ_iff_lt_or_eq.1 h2 with h2 | rfl
          · exact e5 j h1 h2
          · exact hL
theorem whole (l : List Int) : (∀ i s, (spansF l)[i]? = some s → GoodSp l (spansF l) i s) ∧ 0 ≤ endsF (l.drop (upAt (spansF l) (spansF l).length)) ∧ upAt (spansF l) (spansF l).length ≤ l.length := by
  have h := inv_all l l.length (Nat.le_refl _)
  unfold spansF
  rcases hi : (sc l l.length).ins with _ | _
  · rw [if_neg (by simp)]
    obtain ⟨e1, _⟩ := h.out hi
    rw [seg_end] at e1
    exact ⟨h.good, by rw [e1]; omega, h.up⟩
  · rw [if_pos rfl]
    refine ⟨inv_close h (Nat.le_refl _) hi, ?_, ?_⟩
    · rw [List.length_append, List.length_singleton, upAt_new]
      simp [endsF]
    · rw [List.length_append, List.length_singleton, upAt_new]; exact Nat.le_refl _
theorem endsF_nn {l : List Int} (h : endsF l < 0) : l.any isLet = true := by
  unfold endsF at h
  split at h
  · assumption
  · omega
end Go.Proofs.Ytgahmlbemaagbaa
