/- Boxes one in the other, plain (FlowNest). -/
import Derived.Test.YtlebbkhhhmempaaTx
set_option linter.unusedSimpArgs false
set_option linter.unusedVariables false
namespace Go.Proofs.Ytlebbkhhhmempaa
open Go.RowKit
def nsS (bo : Int) (r : Rw) : Sty := { twS r with b0 := bo }
def nsN (bo : Int) (i : Nat) (r : Rw) : Nd := ⟨(i : Int), nsS (if i = 0 then bo else 0) r⟩
def nsT (bo : Int) : Nat → List Rw → List Nd
  | _, [] => []
  | i, r :: t => nsN bo i r :: nsT bo (i + 1) t
def nsL (bo : Int) (rs : List Rw) : List Nd := ⟨-1, rootS 0 0⟩ :: nsT bo 0 rs
theorem nsT_len (bo : Int) : ∀ (t : List Rw) (i : Nat), (nsT bo i t).length = t.length
  | [], _ => rfl
  | r :: t, i => by simp [nsT, nsT_len bo t (i + 1)]
theorem nsT_at (bo : Int) : ∀ (t : List Rw) (i j : Nat), (nsT bo i t)[j]? = (t[j]?).map (nsN bo (i + j))
  | [], _, _ => by simp [nsT]
  | r :: t, i, 0 => by simp [nsT]
  | r :: t, i, j + 1 => by
    show (nsT bo (i + 1) t)[j]? = _
    rw [nsT_at bo t (i + 1) j, show i + 1 + j = i + (j + 1) by omega]; rfl
theorem nsT_app (bo : Int) (x : Rw) : ∀ (t : List Rw) (i : Nat), nsT bo i (t ++ [x]) = nsT bo i t ++ [nsN bo (i + t.length) x]
  | [], _ => rfl
  | r :: t, i => by
    show nsN bo i r :: nsT bo (i + 1) (t ++ [x]) = nsN bo i r :: (nsT bo (i + 1) t ++ _)
    rw [nsT_app bo x t (i + 1), List.length_cons, show i + 1 + t.length = i + (t.length + 1) by omega]
theorem ns_len (bo : Int) (rs : List Rw) : (nsL bo rs).length = rs.length + 1 := by unfold nsL; rw [List.length_cons, nsT_len]
theorem ns_at (bo : Int) (rs : List Rw) (i : Nat) : (nsL bo rs)[i + 1]? = (rs[i]?).map (nsN bo i) := by
  unfold nsL
  rw [List.getElem?_cons_succ, nsT_at, Nat.zero_add]
theorem ns_app (bo : Int) (rs : List Rw) (x : Rw) : nsL bo (rs ++ [x]) = nsL bo rs ++ [nsN bo rs.length x] := by
  unfold nsL
  rw [nsT_app, Nat.zero_add]; rfl
theorem ns_sty (bo : Int) (rs : List Rw) (i : Nat) (h : i < rs.length) : styF (nsL bo rs) (i + 1) = some (nsS (if i = 0 then bo else 0) rs[i]) := by
  unfold styF; rw [ns_at, List.getElem?_eq_getElem h]; rfl
theorem ns_par (bo : Int) (rs : List Rw) (i : Nat) : parF (nsL bo rs) i = if 0 < i ∧ i ≤ rs.length then (i : Int) - 1 else -1 := by
  unfold parF
  cases i with
  | zero => simp [nsL]
  | succ i =>
    rw [ns_at]
    by_cases h : i < rs.length
    · rw [List.getElem?_eq_getElem h, if_pos (by omega)]
      show (if 0 ≤ (i : Int) ∧ (i : Int) < ((i + 1 : Nat) : Int) then (i : Int) else -1) = _
      rw [if_pos (by omega)]; omega
    · rw [List.getElem?_eq_none (by omega), if_neg (by omega)]; rfl
theorem range_one (c : Nat) : ∀ m, (List.range m).filter (fun k => decide (k = c)) = if c < m then [c] else []
  | 0 => by simp
  | m + 1 => by
    rw [List.range_succ, List.filter_append, range_one c m]
    by_cases h1 : c < m
    · rw [if_pos h1, if_pos (by omega)]
      have : ¬ m = c := by omega
      simp [this]
    · by_cases h2 : m = c
      · subst h2; simp
      · rw [if_neg h1, if_neg (by omega)]; simp [h2]
theorem ns_kids (bo : Int) (rs : List Rw) (i : Nat) : kidsF (nsL bo rs) i = if i < rs.length then [((i + 1 : Nat) : Int)] else [] := by
  unfold kidsF
  have e : (List.range (nsL bo rs).length).filter (fun k => parF (nsL bo rs) k == (i : Int)) = (List.range (nsL bo rs).length).filter (fun k => decide (k = i + 1)) := by
    apply List.filter_congr
    intro k hk
    rw [List.mem_range, ns_len] at hk
    rw [ns_par]
    by_cases h : k = i + 1
    · subst h; rw [if_pos (by omega)]; simp
    · rw [decide_eq_false h, beq_eq_false_iff_ne]
      split <;> omega
  rw [e, range_one, ns_len]
  by_cases h : i < rs.length
  · rw [if_pos (by omega), if_pos h]; rfl
  · rw [if_neg (by omega), if_neg h]; rfl
theorem ns_parN (bo : Int) (rs : List Rw) (i : Nat) : parN (nsL bo rs) (i + 1) = if i < rs.length then some (i : Int) else none := by
  unfold parN
  rw [ns_at]
  split
  · rename_i h; rw [List.getElem?_eq_getElem h]; rfl
  · rename_i h; rw [List.getElem?_eq_none (by omega)]; rfl
theorem ns_flt (bo : Int) (rs : List Rw) (hf : ∀ r ∈ rs, r.fl = 0) (i : Nat) : fltN (nsL bo rs) (i + 1) = 0 := by
  unfold fltN
  rw [ns_at]
  cases h : rs[i]? with
  | none => rfl
  | some r => exact hf r (List.mem_of_getElem? h)
theorem ns_dn (bo : Int) (rs : List Rw) (hf : ∀ r ∈ rs, r.fl = 0) : ∀ (d i f : Nat), i + d = rs.length → d + 2 ≤ f → dnF f (nsL bo rs) i (i + 1) = some (rs.length + 1) := by
  intro d
  induction d with
  | zero =>
    intro i f hi hf2
    obtain ⟨f, rfl⟩ : ∃ f', f = f' + 1 := ⟨f - 1, by omega⟩
    have h0 : parN (nsL bo rs) (i + 1) = none := by rw [ns_parN, if_neg (by omega)]
    unfold dnF
    rw [h0, if_neg (by simp)]
    congr 1; omega
  | succ d ih =>
    intro i f hi hf2
    obtain ⟨f, rfl⟩ : ∃ f', f = f' + 1 := ⟨f - 1, by omega⟩
    have h1 : parN (nsL bo rs) (i + 1) = some ((i : Nat) : Int) := by rw [ns_parN, if_pos (by omega)]
    have h2 : dnF f (nsL bo rs) i (rs.length + 1) = some (rs.length + 1) := by
      obtain ⟨f, rfl⟩ : ∃ f', f = f' + 1 := ⟨f - 1, by omega⟩
      have h0 : parN (nsL bo rs) (rs.length + 1) = none := by rw [ns_parN, if_neg (by omega)]
      unfold dnF
      rw [h0, if_neg (by simp)]
    unfold dnF
    rw [if_pos h1, if_neg (by rw [ns_flt bo rs hf]; simp), ih (i + 1) f (by omega) (by omega)]
    exact h2
end Go.Proofs.Ytlebbkhhhmempaa
