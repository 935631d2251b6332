/- Mains of items in one row: plain. Lists of small numbers as cells. -/
import Derived.Test.YtdnpobfnkdllmaaWko
set_option linter.unusedSimpArgs false
set_option linter.unusedVariables false
namespace Go.Proofs.Ytdnpobfnkdllmaa
open Go.RowKit

theorem rows_false (c : Int) (own : Nat → Int) (l : List Nat) (h : l ≠ []) : rowsF false c own l = [l] := by
  have hr := rows_all false c own l
  have h1 := hr.one rfl
  have h2 : rowsF false c own l ≠ [] := fun e => h (hr.none e)
  unfold rowsF at h2 ⊢
  match hp : (l.foldl (rowStep false c own) ([], 0)).1, h1, h2 with
  | [x], _, _ =>
    have := hr.flat
    rw [hp] at this
    simp at this
    rw [this]
theorem mains_row (s : Sty) (c : Int) (l : List Sty) (got : List Cn) (hw : s.wrap = false) (ho : ∀ k, k < l.length → ordF l k = 0) (hl : l ≠ []) : mainsM s c l got = fitM c (itM l c got) (List.range l.length) := by
  unfold mainsM
  rw [hw, order_id (ordF l) l.length (fun p q hpq hq => by rw [ho p (by omega), ho q hq]; exact Int.le_refl _), rows_false _ _ _ (by simpa using hl)]
  rfl
theorem used_item (c : Int) (M : Nat → It) (ks : List Nat) (k : Nat) (b g sh x : Int) (hM : M k = measF (itemS b g sh nil0) c x) : usedT (fitM c M ks k) = (cutF (numF (fitM c M ks k).width), 0, 0) ∧ usedB (fitM c M ks k) = cutB (numF (fitM c M ks k).width) := by
  have hs := fit_same c M ks k
  rw [hM, meas_item] at hs
  have h1 : (fitM c M ks k).left = 0 := hs.left
  have h2 : (fitM c M ks k).right = 0 := hs.right
  unfold usedT usedB
  rw [h1, h2]
  exact ⟨rfl, by simp [cutB]⟩
theorem el_sty : El Try.prog 25 32 (.agg (styCells styD).toArray) 43 320 := ⟨Try.underlying25, by kernel_rfl, rfl, by decide⟩
theorem sty_ones {s : Sty} (h : s.uv = nil0) : ∀ u ∈ styCells s, u.oneCell' = true := by
  have := Sty.one s h
  intro u hu
  exact Array.all_eq_true'.1 this u (by simpa using hu)
theorem stys_take (l : List Sty) (i : Nat) (h : i < l.length) : stysCells (l.take (i + 1)) = stysCells (l.take i) ++ styCells l[i] := by
  unfold stysCells
  rw [List.take_succ_eq_append_getElem h, List.flatMap_append]; simp
def u16c (l : List Nat) : List Value := l.map fun (x : Nat) => Value.int .u16 (x : Int)
def u8c (l : List Nat) : List Value := l.map fun (x : Nat) => Value.int .u8 (x : Int)
theorem u16_at {l : List Nat} {k : Nat} (h : k < l.length) {u : Value} (hu : (u16c l)[k]? = some u) : u = .int .u16 (l[k] : Nat) := by
  simp [u16c, List.getElem?_map, List.getElem?_eq_getElem h] at hu; exact hu.symm
theorem u8_at {l : List Nat} {k : Nat} (h : k < l.length) {u : Value} (hu : (u8c l)[k]? = some u) : u = .int .u8 (l[k] : Nat) := by
  simp [u8c, List.getElem?_map, List.getElem?_eq_getElem h] at hu; exact hu.symm
theorem Reads.cel {W : World} {B : Nat} {ad : Addr} {n i : Nat} {xs : List Value} {u : Value} (h : Reads W B 1 (some ad) n xs) (hi : i < n) (hx : xs[i]? = some u) : W.cell? (ad.add i) = some u := by
  obtain ⟨a2, e, _, h2⟩ := h.2 (by omega)
  injection e with e
  subst e
  exact h2 i u hx
def sumN (l : List Nat) : Int := (l.map fun (x : Nat) => (x : Int)).sum
theorem sumN_take (l : List Nat) (i : Nat) (h : i < l.length) : sumN (l.take (i + 1)) = sumN (l.take i) + (l[i] : Nat) := by
  unfold sumN; rw [List.take_succ_eq_append_getElem h, List.map_append, List.sum_append]; simp
theorem sumN_bd (l : List Nat) (b : Nat) (h : ∀ x ∈ l, x ≤ b) : 0 ≤ sumN l ∧ sumN l ≤ (l.length * b : Nat) := by
  induction l with
  | nil => simp [sumN]
  | cons a t ih =>
    have h1 := ih fun x hx => h x (by simp [hx])
    have h2 := h a (by simp)
    have e : sumN (a :: t) = a + sumN t := by simp [sumN]
    have e2 : (a :: t).length * b = t.length * b + b := by rw [List.length_cons, Nat.add_mul, Nat.one_mul]
    rw [e, e2]; omega
end Go.Proofs.Ytdnpobfnkdllmaa
