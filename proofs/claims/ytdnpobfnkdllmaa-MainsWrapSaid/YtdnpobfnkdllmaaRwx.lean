/- Rows that are read; the cells of a case. -/
import Derived.Test.YtdnpobfnkdllmaaMu
import Derived.Test.YtdnpobfnkdllmaaWm
set_option linter.unusedSimpArgs false
set_option linter.unusedVariables false
namespace Go.Proofs.Ytdnpobfnkdllmaa
open Go.RowKit

/-- Rows that are read. -/
structure RowsX (w : World) (B : Nat) (A : Option Addr) (rows : List (List Nat)) : Prop where
  at_ : ∀ r, r < rows.length → ∃ g Ar cr, A = some ⟨g, 0, none⟩ ∧ g < B ∧ w.cell? ⟨g, r, none⟩ = some (.slice Ar (rowAt rows r).length cr) ∧ Reads w B 1 Ar (rowAt rows r).length (nCells (rowAt rows r))
theorem RowsAt.x {w : World} {lo B n c : Nat} {A : Option Addr} {rows : List (List Nat)} (h : RowsAt w lo B (.slice A n c) rows) : RowsX w B A rows := by
  obtain ⟨A', c', e, _, hx⟩ := h.ex
  injection e with e1 e2 e3
  subst e1
  refine ⟨fun r hr => ?_⟩
  obtain ⟨g, hA, _, hB, hp⟩ := hx (by omega)
  obtain ⟨Ar, cr, h1, _, h2, _⟩ := hp r hr
  exact ⟨g, Ar, cr, hA, hB, h1, h2⟩
theorem RowsX.below {w w' : World} {B : Nat} {A : Option Addr} {rows : List (List Nat)} (h : RowsX w B A rows) (hb : Below B w w') : RowsX w' B A rows := ⟨fun r hr => by
  obtain ⟨g, Ar, cr, h1, h2, h3, h4⟩ := h.at_ r hr
  exact ⟨g, Ar, cr, h1, h2, (hb.cell (p := ⟨g, r, none⟩) h2).trans h3, h4.below hb⟩⟩
theorem rows_count {rows : List (List Nat)} (h : ∀ r ∈ rows, r ≠ []) : rows.length ≤ rows.flatten.length := by
  induction rows with
  | nil => simp
  | cons a t ih =>
    have h1 := ih fun r hr => h r (by simp [hr])
    have h3 := List.length_pos_iff.2 (h a (by simp))
    rw [List.flatten_cons, List.length_append, List.length_cons]; omega
theorem rowAt_len (rows : List (List Nat)) (r : Nat) : (rowAt rows r).length ≤ rows.flatten.length := by
  unfold rowAt
  rcases Nat.lt_or_ge r rows.length with h | h
  · rw [List.getElem?_eq_getElem h]; exact row_len h
  · rw [List.getElem?_eq_none h]; simp
end Go.Proofs.Ytdnpobfnkdllmaa
