/- What the laws of two towers share. -/
import Derived.Test.YtlebbkhhhmempaaLth
set_option linter.unusedSimpArgs false
set_option linter.unusedVariables false
namespace Go.Proofs.Ytlebbkhhhmempaa
open Go.RowKit
theorem reads_takeR {w : World} {B n k : Nat} {A : Option Addr} {R : List (Int × Int × Int)} (h : Reads w B 3 A n (R.flatMap r3C)) (hn : R.length = n) (hk : k ≤ n) : Reads w B 3 A k ((R.take k).flatMap r3C) := by
  have hl : ∀ l : List (Int × Int × Int), (l.flatMap r3C).length = l.length * 3 := fun l => flat_len r3C 3 (fun _ => rfl) l
  refine ⟨by rw [hl, List.length_take, Nat.min_eq_left (by omega)], fun h0 => ?_⟩
  obtain ⟨ad, e, hb, hc⟩ := h.2 (by omega)
  refine ⟨ad, e, hb, fun j u hu => hc j u ?_⟩
  have e2 : R.flatMap r3C = (R.take k).flatMap r3C ++ (R.drop k).flatMap r3C := by rw [← List.flatMap_append, List.take_append_drop]
  rw [e2, List.getElem?_append_left (List.getElem?_eq_some_iff.1 hu).1]
  exact hu
theorem tF_take (p : Int) (R : List (Int × Int × Int)) (k i : Nat) (h : i < k) : tF p (R.take k) i = tF p R i := by
  unfold tF ysL rAt
  rw [List.take_take, Nat.min_eq_left (by omega), List.getElem?_take, if_pos h]
theorem frag_rng {W : World} {g n : Nat} {f : Nat → Fr} (h : Blk W g 58 (frsCells ((List.range n).map f)).toArray) (j : Nat) (hj : j < n) : W.rangeAt g (j * 5) (frCells (f j)) := fun i v hv => h.get _ (by
  have hi : i < 5 := (List.getElem?_eq_some_iff.1 hv).1
  rw [List.getElem?_toArray, frsCells_at _ _ _ (by simpa using hj) hi, List.getElem_map, List.getElem_range]; exact hv)
end Go.Proofs.Ytlebbkhhhmempaa
