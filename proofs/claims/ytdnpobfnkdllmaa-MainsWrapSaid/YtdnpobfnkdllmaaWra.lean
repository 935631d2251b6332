/- What MainsWrap asks of rows: plain. -/
import Derived.Test.YtdnpobfnkdllmaaRwx
import Derived.Test.YtdnpobfnkdllmaaRit
set_option linter.unusedSimpArgs false
set_option linter.unusedVariables false
namespace Go.Proofs.Ytdnpobfnkdllmaa
open Go.RowKit
attribute [local go_sem] block_of_add

theorem risC_at (M : Nat → It) : ∀ (n k j : Nat), k < n → j < 51 → (risC M n)[k * 51 + j]? = (riC (M k))[j]?
  | 0, k, j, h, _ => by omega
  | n + 1, k, j, h, hj => by
    have hl : ∀ n, (risC M n).length = n * 51 := fun n => by
      induction n with
      | zero => rfl
      | succ n ih => rw [risC_succ, List.length_append, ih]; show n * 51 + 51 = _; omega
    rw [risC_succ]
    by_cases e : k = n
    · subst e; rw [List.getElem?_append_right (by rw [hl]; omega), hl, show k * 51 + j - k * 51 = j by omega]
    · rw [List.getElem?_append_left (by rw [hl]; omega)]; exact risC_at M n k j (by omega) hj
/-- The sides and the guess of an item in a row of the document's. -/
theorem Reads.ri {W : World} {B n k : Nat} {A : Option Addr} {M : Nat → It} (h : Reads W B 51 A n (risC M n)) (hk : k < n) :
    ∃ ad : Addr, A = some ad ∧ W.cell? ⟨ad.block, (ad.add (k * 51)).off + 45, none⟩ = some (.int .i64 (M k).sides) ∧ W.cell? ⟨ad.block, (ad.add (k * 51)).off + 47, none⟩ = some (.int .i64 (M k).guess) := by
  obtain ⟨ad, e, hb, hc⟩ := h.2 (by omega)
  have key : ∀ i u, i + 1 < 51 → (riC (M k))[i + 1]? = some u → W.cell? ⟨ad.block, (ad.add (k * 51)).off + (i + 1), none⟩ = some u := fun i u hi hu => by
    have ha : (⟨ad.block, (ad.add (k * 51)).off + (i + 1), none⟩ : Addr) = ad.add (k * 51 + (i + 1)) := by
      rw [← add_of_add, show ∀ p : Addr, p.add (i + 1) = ⟨p.block, p.off + (i + 1), none⟩ from fun p => by unfold Addr.add; rw [if_neg (by omega)], block_of_add]
    rw [ha]
    exact hc _ u (by rw [risC_at M n k (i + 1) hk hi]; exact hu)
  exact ⟨ad, e, key 44 _ (by omega) rfl, key 46 _ (by omega) rfl⟩
structure WrapF (n : Nat) (c : Int) (own : Nat → Int) (R : List (List Nat)) : Prop where
  cnt : R.length ≤ n
  rl : ∀ r, (rowAt R r).length ≤ n
  mem : ∀ r (i : Nat) (h : i < (rowAt R r).length), (rowAt R r)[i] < n
  room : ∀ r, r < R.length → ∀ i, 0 < i → i < (rowAt R r).length → (((rowAt R r).take (i + 1)).map own).sum ≤ c
  wraps : ∀ r, 0 < r → r < R.length → ∀ h : 0 < (rowAt R r).length, c < ((rowAt R (r - 1)).map own).sum + own (rowAt R r)[0]
theorem rowAt_eq {R : List (List Nat)} {r : Nat} (h : r < R.length) : rowAt R r = R[r] := by unfold rowAt; rw [List.getElem?_eq_getElem h]; rfl
theorem wrap_ans (c : Int) (own : Nat → Int) (o : Nat → Int) (n : Nat) : WrapF n c own (rowsF true c own (orderF o n)) := by
  have hr := rows_all true c own (orderF o n)
  obtain ⟨R, hR⟩ : ∃ R, R = rowsF true c own (orderF o n) := ⟨_, rfl⟩
  have e : ((orderF o n).foldl (rowStep true c own) ([], 0)).1 = R := hR.symm
  have hf : R.flatten = orderF o n := by rw [← e]; exact hr.flat
  have hfl : R.flatten.length = n := by rw [hf, orderF_len]
  have hne : ∀ r ∈ R, r ≠ [] := by rw [← e]; exact hr.ne
  rw [← hR]
  refine ⟨by rw [← hfl]; exact rows_count hne, fun r => by rw [← hfl]; exact rowAt_len _ _, fun r i h => ?_, fun r h i h0 hi => ?_, fun r h0 h hl => ?_⟩
  · have hrl : r < R.length := by
      rcases Nat.lt_or_ge r R.length with h2 | h2
      · exact h2
      · exfalso
        have : rowAt R r = [] := by unfold rowAt; rw [List.getElem?_eq_none h2]; rfl
        rw [this] at h; simp at h
    have hm : (rowAt R r)[i] ∈ R.flatten := List.mem_flatten.2 ⟨R[r], List.getElem_mem hrl, by rw [← rowAt_eq hrl]; exact List.getElem_mem h⟩
    rw [hf] at hm
    exact (orderF_mem _ _ _).1 hm
  · rw [rowAt_eq h] at hi ⊢
    exact hr.room rfl R[r] (by rw [e]; exact List.getElem_mem h) i h0 hi
  · have h1 : R[r - 1]? = some (rowAt R (r - 1)) := by rw [rowAt_eq (show r - 1 < R.length by omega)]; exact List.getElem?_eq_getElem (by omega)
    have h2 : R[r - 1 + 1]? = some (rowAt R r) := by rw [show r - 1 + 1 = r by omega, rowAt_eq h]; exact List.getElem?_eq_getElem h
    obtain ⟨k, t, hs, hc⟩ := hr.wraps rfl (r - 1) (rowAt R (r - 1)) (rowAt R r) (by rw [e]; exact h1) (by rw [e]; exact h2)
    have : (rowAt R r)[0] = k := by simp [hs]
    rw [this]; exact hc
end Go.Proofs.Ytdnpobfnkdllmaa
