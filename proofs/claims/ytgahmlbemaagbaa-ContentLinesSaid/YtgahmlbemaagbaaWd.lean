/- Slices of words that are read; the contract of jambref06.Same. -/
import Derived.Test.YtgahmlbemaagbaaWords
import Derived.BigQuiet
import Derived.Laws.StructEq
set_option linter.unusedSimpArgs false
set_option linter.unusedVariables false
namespace Go.Proofs.Ytgahmlbemaagbaa
open Go.RowKit
attribute [local go_sem] block_of_add

theorem Wd.ext_iff' (a b : Wd) : a = b ↔ a.fr = b.fr ∧ a.up = b.up ∧ a.w = b.w ∧ a.gap = b.gap ∧ a.forced = b.forced := by
  constructor
  · rintro rfl; simp
  · rintro ⟨h1, h2, h3, h4, h5⟩; cases a; cases b; simp_all
instance : DecidableEq Wd := fun a b => decidable_of_iff _ (Wd.ext_iff' a b).symm

theorem wdsCells_at (l : List Wd) : ∀ (k i : Nat) (hk : k < l.length), i < 5 → (wdsCells l)[k * 5 + i]? = (wdCells l[k])[i]? := by
  induction l with
  | nil => intro k i hk; simp at hk
  | cons a t ih =>
    intro k i hk hi
    have hl : (wdCells a).length = 5 := rfl
    have hc : wdsCells (a :: t) = wdCells a ++ wdsCells t := by simp [wdsCells]
    rw [hc]
    rcases k with _ | k
    · rw [List.getElem?_append_left (by omega)]; simp
    · rw [List.getElem?_append_right (by omega), show (k + 1) * 5 + i - (wdCells a).length = k * 5 + i by omega, ih k i (by simpa using hk) hi]
      simp

theorem Reads.wd {w : World} {B n k : Nat} {A : Option Addr} {l : List Wd} (h : Reads w B 5 A n (wdsCells l)) (hn : n = l.length) (hk : k < l.length) :
    ∃ ad : Addr, A = some ad ∧ ad.block < B ∧ w.cell? (ad.add (k * 5)) = some (.int .i64 l[k].fr) ∧ w.cell? ⟨ad.block, (ad.add (k * 5)).off + 1, none⟩ = some (.int .i64 l[k].up) ∧ w.cell? ⟨ad.block, (ad.add (k * 5)).off + 2, none⟩ = some (.int .i64 l[k].w) ∧
      w.cell? ⟨ad.block, (ad.add (k * 5)).off + 3, none⟩ = some (.int .i64 l[k].gap) ∧ w.cell? ⟨ad.block, (ad.add (k * 5)).off + 4, none⟩ = some (.int .i64 l[k].forced) := by
  obtain ⟨ad, e, hb, hc⟩ := h.2 (by omega)
  have ha : ∀ i, i ≠ 0 → (⟨ad.block, (ad.add (k * 5)).off + i, none⟩ : Addr) = ad.add (k * 5 + i) := by
    intro i hi
    rw [← add_of_add, show ∀ p : Addr, p.add i = ⟨p.block, p.off + i, none⟩ from fun p => by unfold Addr.add; rw [if_neg hi], block_of_add]
  have hg : ∀ i, i < 5 → ∀ u, (wdCells l[k])[i]? = some u → w.cell? (ad.add (k * 5 + i)) = some u := fun i hi u hu => hc _ u (by rw [wdsCells_at l k i hk hi]; exact hu)
  refine ⟨ad, e, hb, hg 0 (by omega) _ rfl, ?_, ?_, ?_, ?_⟩
  · rw [ha 1 (by omega)]; exact hg 1 (by omega) _ rfl
  · rw [ha 2 (by omega)]; exact hg 2 (by omega) _ rfl
  · rw [ha 3 (by omega)]; exact hg 3 (by omega) _ rfl
  · rw [ha 4 (by omega)]; exact hg 4 (by omega) _ rfl

theorem eqW (a1 a2 a3 a4 a5 b1 b2 b3 b4 b5 : Int) (w : World) : (Op.equalIn 10000 153 (.agg #[.int .i64 a1, .int .i64 a2, .int .i64 a3, .int .i64 a4, .int .i64 a5]) (.agg #[.int .i64 b1, .int .i64 b2, .int .i64 b3, .int .i64 b4, .int .i64 b5])).run Try.prog w = .ok (a1 == b1 && a2 == b2 && a3 == b3 && a4 == b4 && a5 == b5) w := by
  have u2 := Try.underlying2
  have u3 := Try.underlying3
  have g2 := Try.isAgg2
  have g3 := Try.isAgg3
  have z2 := Try.sizeOf2
  have z3 := Try.sizeOf3
  have hS : Try.prog.underlying 153 = some (.struct (Try.prog.fieldsOf 153)) := by kernel_rfl
  have hp : Try.prog.stoodInHeld 153 = false := by kernel_rfl
  rw [show (10000 : Nat) = 9999 + 1 from rfl, run_equalIn_agg w 9999 153 _ _ hS hp]
  simp only [Program.fieldsOf, Try.underlying153]
  go_simp
  by_cases h1 : a1 = b1 <;> by_cases h2 : a2 = b2 <;> by_cases h3 : a3 = b3 <;> by_cases h4 : a4 = b4 <;> by_cases h5 : a5 = b5 <;> simp [h1, h2, h3, h4, h5]
theorem Wd.eq_b (x y : Wd) : (x.fr == y.fr && x.up == y.up && x.w == y.w && x.gap == y.gap && x.forced == y.forced) = decide (x = y) := by
  rw [Bool.eq_iff_iff, decide_eq_true_iff, Wd.ext_iff']
  simp [and_assoc]
theorem Wd.cases (x y : Wd) : x = y ∨ x ≠ y ∧ (x.fr ≠ y.fr ∨ x.fr = y.fr ∧ x.up ≠ y.up ∨ x.fr = y.fr ∧ x.up = y.up ∧ x.w ≠ y.w ∨ x.fr = y.fr ∧ x.up = y.up ∧ x.w = y.w ∧ x.gap ≠ y.gap ∨ x.fr = y.fr ∧ x.up = y.up ∧ x.w = y.w ∧ x.gap = y.gap ∧ x.forced ≠ y.forced) := by
  by_cases h : x = y
  · exact .inl h
  · refine .inr ⟨h, ?_⟩
    rw [Wd.ext_iff'] at h
    by_cases h1 : x.fr = y.fr <;> by_cases h2 : x.up = y.up <;> by_cases h3 : x.w = y.w <;> by_cases h4 : x.gap = y.gap <;> by_cases h5 : x.forced = y.forced <;> simp_all
theorem guardW (op : BinOp) (x y : Operand) (xs ys : Array Value) (w : World) : (eqGuard op 153 x y (.agg xs) (.agg ys)).run Try.prog w = .ok () w := run_eqGuard_agg w op _ x y xs ys (by kernel_rfl)
attribute [local go_sem] eqW guardW
theorem take_ext {a b : List Wd} {k : Nat} (ha : k < a.length) (hb : k < b.length) (h : a.take k = b.take k) (e : a[k] = b[k]) : a.take (k + 1) = b.take (k + 1) := by
  rw [List.take_succ_eq_append_getElem ha, List.take_succ_eq_append_getElem hb, h, e]
theorem at_ne {a b : List Wd} {k : Nat} {x y : Wd} (ha : k < a.length) (hb : k < b.length) (hx : a[k] = x) (hy : b[k] = y) (e : x ≠ y) : a ≠ b := by
  rintro rfl; exact e (hx.symm.trans hy)

end Go.Proofs.Ytgahmlbemaagbaa
