/- Trees: parents, ancestors, children: plain. -/
import Derived.Test.YtlebbkhhhmempaaSty
set_option linter.unusedSimpArgs false
set_option linter.unusedVariables false
namespace Go.Proofs.Ytlebbkhhhmempaa

def parF (l : List Nd) (i : Nat) : Int := match l[i]? with
  | some x => if 0 ≤ x.parent ∧ x.parent < i then x.parent else -1
  | none => -1
theorem parF_lt (l : List Nd) (i : Nat) : -1 ≤ parF l i ∧ (parF l i < i) := by
  unfold parF
  split
  · split <;> omega
  · omega
def chain (l : List Nd) : Nat → Nat → List Int
  | 0, _ => []
  | n + 1, i => if parF l i < 0 then [] else parF l i :: chain l n (parF l i).toNat
theorem chain_fuel (l : List Nd) : ∀ (n m i : Nat), i < n → i < m → chain l n i = chain l m i := by
  intro n
  induction n with
  | zero => intro m i h; omega
  | succ n ih =>
    intro m i h1 h2
    cases m with
    | zero => omega
    | succ m =>
      have := parF_lt l i
      simp only [chain]
      split
      · rfl
      · rw [ih m (parF l i).toNat (by omega) (by omega)]
/-- The ancestors of a node, the nearest first. -/
def anc (l : List Nd) (i : Nat) : List Int := chain l (i + 1) i
theorem anc_none {l : List Nd} {i : Nat} (h : parF l i < 0) : anc l i = [] := by unfold anc chain; rw [if_pos h]
theorem anc_some {l : List Nd} {i p : Nat} (h : parF l i = p) : anc l i = (p : Int) :: anc l p := by
  have := parF_lt l i
  unfold anc
  rw [chain, if_neg (by omega), h, Int.toNat_natCast, chain_fuel l i (p + 1) p (by omega) (by omega)]
/-- The first child of p ahead of i. -/
def firstF (l : List Nd) (p i : Nat) : Option Nat := ((List.range i).filter fun k => decide (p < k) && (parF l k == (p : Int))).head?
/-- The children of p. -/
def kidsF (l : List Nd) (p : Nat) : List Int := ((List.range l.length).filter fun k => parF l k == (p : Int)).map Int.ofNat
theorem kids_mem {l : List Nd} {p : Nat} {k : Int} (h : k ∈ kidsF l p) : ∃ n : Nat, k = n ∧ n < l.length ∧ parF l n = p ∧ p < n := by
  unfold kidsF at h
  rw [List.mem_map] at h
  obtain ⟨n, h1, rfl⟩ := h
  rw [List.mem_filter, List.mem_range] at h1
  have h2 : parF l n = p := by simpa using h1.2
  have := parF_lt l n
  exact ⟨n, rfl, h1.1, h2, by omega⟩
end Go.Proofs.Ytlebbkhhhmempaa
