/- Rows that are read; the document's items in memory. -/
import Derived.Test.YtbopeofglhkffaaRit
set_option linter.unusedSimpArgs false
set_option linter.unusedVariables false
namespace Go.Proofs.Ytbopeofglhkffaa
open Go.RowKit
attribute [local go_sem] block_of_add
/-- Rows that are read. -/
structure RowsX (w : World) (B : Nat) (A : Option Addr) (rows : List (List Nat)) : Prop where
  at_ : ∀ r, r < rows.length → ∃ g Ar cr, A = some ⟨g, 0, none⟩ ∧ g < B ∧ w.cell? ⟨g, r, none⟩ = some (.slice Ar (rowAt rows r).length cr) ∧ Reads w B 1 Ar (rowAt rows r).length (nCells (rowAt rows r))
theorem RowsAt.x {w : World} {lo B n c : Nat} {A : Option Addr} {rows : List (List Nat)} (h : RowsAt w lo B (.slice A n c) rows) : RowsX w B A rows := by
  obtain ⟨A', c', e, _, hx⟩ := h.ex
  injection e with e1 e2 e3
  subst e1
  refine ⟨fun r hr => ?_⟩
  obtain ⟨g, hA, _, hB, hp⟩ := hx (by omega)
  obtain ⟨Ar, cr, h1, _, h2, _⟩ := hp r hr
  exact ⟨g, Ar, cr, hA, hB, h1, h2⟩
theorem RowsX.below {w w' : World} {B : Nat} {A : Option Addr} {rows : List (List Nat)} (h : RowsX w B A rows) (hb : Below B w w') : RowsX w' B A rows := ⟨fun r hr => by
  obtain ⟨g, Ar, cr, h1, h2, h3, h4⟩ := h.at_ r hr
  exact ⟨g, Ar, cr, h1, h2, (hb.cell (p := ⟨g, r, none⟩) h2).trans h3, h4.below hb⟩⟩
theorem rows_count {rows : List (List Nat)} (h : ∀ r ∈ rows, r ≠ []) : rows.length ≤ rows.flatten.length := by
  induction rows with
  | nil => simp
  | cons a t ih =>
    have h1 := ih fun r hr => h r (by simp [hr])
    have h3 := List.length_pos_iff.2 (h a (by simp))
    rw [List.flatten_cons, List.length_append, List.length_cons]; omega
theorem risC_at (M : Nat → It) : ∀ (n k j : Nat), k < n → j < 51 → (risC M n)[k * 51 + j]? = (riC (M k))[j]?
  | 0, k, j, h, _ => by omega
  | n + 1, k, j, h, hj => by
    have hl : ∀ n, (risC M n).length = n * 51 := fun n => by
      induction n with
      | zero => rfl
      | succ n ih => rw [risC_succ, List.length_append, ih]; show n * 51 + 51 = _; omega
    rw [risC_succ]
    by_cases e : k = n
    · subst e; rw [List.getElem?_append_right (by rw [hl]; omega), hl, show k * 51 + j - k * 51 = j by omega]
    · rw [List.getElem?_append_left (by rw [hl]; omega)]; exact risC_at M n k j (by omega) hj
/-- The sides and the guess of an item in a row of the document's. -/
theorem Reads.ri {W : World} {B n k : Nat} {A : Option Addr} {M : Nat → It} (h : Reads W B 51 A n (risC M n)) (hk : k < n) :
    ∃ ad : Addr, A = some ad ∧ W.cell? ⟨ad.block, (ad.add (k * 51)).off + 45, none⟩ = some (.int .i64 (M k).sides) ∧ W.cell? ⟨ad.block, (ad.add (k * 51)).off + 47, none⟩ = some (.int .i64 (M k).guess) := by
  obtain ⟨ad, e, hb, hc⟩ := h.2 (by omega)
  have key : ∀ i u, i + 1 < 51 → (riC (M k))[i + 1]? = some u → W.cell? ⟨ad.block, (ad.add (k * 51)).off + (i + 1), none⟩ = some u := fun i u hi hu => by
    have ha : (⟨ad.block, (ad.add (k * 51)).off + (i + 1), none⟩ : Addr) = ad.add (k * 51 + (i + 1)) := by
      rw [← add_of_add, show ∀ p : Addr, p.add (i + 1) = ⟨p.block, p.off + (i + 1), none⟩ from fun p => by unfold Addr.add; rw [if_neg (by omega)], block_of_add]
    rw [ha]
    exact hc _ u (by rw [risC_at M n k (i + 1) hk hi]; exact hu)
  exact ⟨ad, e, key 44 _ (by omega) rfl, key 46 _ (by omega) rfl⟩
theorem rowAt_eq {R : List (List Nat)} {r : Nat} (h : r < R.length) : rowAt R r = R[r] := by unfold rowAt; rw [List.getElem?_eq_getElem h]; rfl
end Go.Proofs.Ytbopeofglhkffaa
