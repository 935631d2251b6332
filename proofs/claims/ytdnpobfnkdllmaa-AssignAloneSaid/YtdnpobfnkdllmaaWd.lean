/- Slices of words that are read; the contract of jambref06.Same. -/
import Derived.Test.YtdnpobfnkdllmaaText
import Derived.BigQuiet
import Derived.Laws.StructEq
/- The words of units, as a plain function. -/
/- Words of a text, read from left to right: the plain function that package text's iterator computes. -/
set_option linter.unusedSimpArgs false
set_option linter.unusedVariables false
namespace Go.Proofs.Ytdnpobfnkdllmaa

/-- A word's place, and what stands between it and the word ahead. -/
structure Sp where
  fr : Nat
  up : Nat
  ends : Nat
  sp : Bool
/-- Where the reader stands: the word at hand, whether it is inside of it, the words behind. -/
structure Sc where
  s : Sp
  ins : Bool
  out : List Sp
def Sp.nil : Sp := ⟨0, 0, 0, false⟩
def gap (u : Int) : Bool := decide (u = 32) || decide (u = 10)
def scStep (c : Sc) (i : Nat) (u : Int) : Sc :=
  if u = 32 then
    if c.ins then ⟨⟨0, 0, 0, true⟩, false, c.out ++ [⟨c.s.fr, i, c.s.ends, c.s.sp⟩]⟩ else ⟨⟨c.s.fr, c.s.up, c.s.ends, true⟩, false, c.out⟩
  else if u = 10 then
    if c.ins then ⟨⟨0, 0, 1, false⟩, false, c.out ++ [⟨c.s.fr, i, c.s.ends, c.s.sp⟩]⟩ else ⟨⟨c.s.fr, c.s.up, c.s.ends + 1, c.s.sp⟩, false, c.out⟩
  else if c.ins then c else ⟨⟨i, c.s.up, c.s.ends, c.s.sp⟩, true, c.out⟩
def sc (l : List Int) : Nat → Sc
  | 0 => ⟨Sp.nil, false, []⟩
  | k + 1 => scStep (sc l k) k (l[k]?.getD 0)
def spansF (l : List Int) : List Sp :=
  if (sc l l.length).ins then (sc l l.length).out ++ [⟨(sc l l.length).s.fr, l.length, (sc l l.length).s.ends, (sc l l.length).s.sp⟩] else (sc l l.length).out

theorem sc_ends (l : List Int) (k : Nat) : (sc l k).s.ends ≤ k := by
  induction k with
  | zero => simp [sc, Sp.nil]
  | succ k ih =>
    simp only [sc, scStep]
    repeat' split
    all_goals try dsimp only
    all_goals omega
theorem out_prefix (l : List Int) {k m : Nat} (h : k ≤ m) : (sc l k).out <+: (sc l m).out := by
  induction m with
  | zero => obtain rfl : k = 0 := by omega
            exact List.prefix_refl _
  | succ m ih =>
    rcases Nat.eq_or_lt_of_le h with rfl | h
    · exact List.prefix_refl _
    · refine (ih (by omega)).trans ?_
      simp only [sc, scStep]
      split
      · split
        · exact List.prefix_append _ _
        · exact List.prefix_refl _
      · split
        · split
          · exact List.prefix_append _ _
          · exact List.prefix_refl _
        · split
          · exact List.prefix_refl _
          · exact List.prefix_refl _
theorem spans_prefix (l : List Int) {k : Nat} (h : k ≤ l.length) : (sc l k).out <+: spansF l := by
  refine (out_prefix l h).trans ?_
  unfold spansF
  split
  · exact List.prefix_append _ _
  · exact List.prefix_refl _

/-- What the reader holds true: its word begins ahead of where it stands; the words behind have ended. -/
theorem sc_bounds (l : List Int) (k : Nat) : ((sc l k).ins = true → (sc l k).s.fr < k) ∧ (∀ s ∈ (sc l k).out, s.fr < s.up ∧ s.up ≤ k ∧ s.ends ≤ k) := by
  induction k with
  | zero => simp [sc, Sp.nil]
  | succ k ih =>
    obtain ⟨h1, h2⟩ := ih
    have he := sc_ends l k
    simp only [sc, scStep]
    repeat' split
    all_goals refine ⟨?_, fun s hs => ?_⟩
    all_goals first
      | (intro hi; first | (simp at hi; done) | (have := h1 hi; omega) | (dsimp only; omega))
      | (dsimp only at hs
         rcases List.mem_append.1 hs with hs | hs
         · have := h2 s hs; omega
         · rw [List.mem_singleton] at hs; subst hs; have := h1 ‹_›; dsimp only; omega)
      | (have := h2 s hs; omega)
theorem spans_bounds (l : List Int) : ∀ s ∈ spansF l, s.fr < s.up ∧ s.up ≤ l.length ∧ s.ends ≤ l.length := by
  intro s hs
  obtain ⟨h1, h2⟩ := sc_bounds l l.length
  have he := sc_ends l l.length
  unfold spansF at hs
  split at hs
  · rcases List.mem_append.1 hs with hs | hs
    · exact h2 s hs
    · rw [List.mem_singleton] at hs; subst hs; have := h1 ‹_›; dsimp only; omega
  · exact h2 s hs
theorem spans_len (l : List Int) (k : Nat) : (sc l k).out.length + (if (sc l k).ins then 1 else 0) ≤ k := by
  induction k with
  | zero => simp [sc]
  | succ k ih =>
    simp only [sc, scStep]
    repeat' split
    all_goals simp_all
    all_goals omega
theorem spansF_len (l : List Int) : (spansF l).length ≤ l.length := by
  have := spans_len l l.length
  unfold spansF
  split
  · simp_all
  · simp_all
end Go.Proofs.Ytdnpobfnkdllmaa
set_option linter.unusedSimpArgs false
set_option linter.unusedVariables false
namespace Go.Proofs.Ytdnpobfnkdllmaa
open Go.RowKit

/-- A word, as api.Word has it. -/
structure Wd where
  fr : Int
  up : Int
  w : Int
  gap : Int
  forced : Int
def wdCells (x : Wd) : List Value := [.int .i64 x.fr, .int .i64 x.up, .int .i64 x.w, .int .i64 x.gap, .int .i64 x.forced]
def wdsCells (l : List Wd) : List Value := l.flatMap wdCells
theorem wdsCells_len (l : List Wd) : (wdsCells l).length = l.length * 5 := by
  induction l with
  | nil => rfl
  | cons a t ih => simp [wdsCells, wdCells] at *; omega
theorem wdsCells_snoc (l : List Wd) (x : Wd) : wdsCells (l ++ [x]) = wdsCells l ++ wdCells x := by simp [wdsCells]
theorem wdsCells_one (l : List Wd) : ∀ u ∈ wdsCells l, u.oneCell' = true := by
  intro u hu
  simp only [wdsCells, List.mem_flatMap, wdCells] at hu
  obtain ⟨x, _, hu⟩ := hu
  simp at hu
  rcases hu with rfl | rfl | rfl | rfl | rfl <;> rfl

def part (l : List Int) (s : Sp) : List Int := (l.drop s.fr).take (s.up - s.fr)
def gapIs (first : Bool) (s : Sp) : Bool := s.sp && decide (s.ends = 0) && !first
def mkW (t l : List Int) (first : Bool) (s : Sp) : Wd := ⟨s.fr, s.up, cutF (advs t (part l s)).sum, if gapIs first s then cutF (adv t 32) else 0, s.ends⟩
def overW (t l : List Int) (first : Bool) (s : Sp) : Bool := cutB (advs t (part l s)).sum || (gapIs first s && cutB (adv t 32))
def stepW (t l : List Int) (c : List Wd × Bool) (s : Sp) : List Wd × Bool := (c.1 ++ [mkW t l c.1.isEmpty s], c.2 || overW t l c.1.isEmpty s)
def wordsOf (t l : List Int) (pre : List Sp) : List Wd × Bool := pre.foldl (stepW t l) ([], false)
theorem wordsOf_snoc (t l : List Int) (pre : List Sp) (s : Sp) : wordsOf t l (pre ++ [s]) = stepW t l (wordsOf t l pre) s := by simp [wordsOf]
theorem foldl_stepW_len (t l : List Int) (pre : List Sp) : ∀ c : List Wd × Bool, (pre.foldl (stepW t l) c).1.length = c.1.length + pre.length := by
  induction pre with
  | nil => intro c; simp
  | cons s pre ih => intro c; rw [List.foldl_cons, ih]; simp [stepW]; omega
theorem wordsOf_len (t l : List Int) (pre : List Sp) : (wordsOf t l pre).1.length = pre.length := by
  rw [wordsOf, foldl_stepW_len]; simp
def wordsF (t l : List Int) : List Wd × Bool := wordsOf t l (spansF l)
end Go.Proofs.Ytdnpobfnkdllmaa
set_option linter.unusedSimpArgs false
set_option linter.unusedVariables false
namespace Go.Proofs.Ytdnpobfnkdllmaa
open Go.RowKit
attribute [local go_sem] block_of_add

theorem Wd.ext_iff' (a b : Wd) : a = b ↔ a.fr = b.fr ∧ a.up = b.up ∧ a.w = b.w ∧ a.gap = b.gap ∧ a.forced = b.forced := by
  constructor
  · rintro rfl; simp
  · rintro ⟨h1, h2, h3, h4, h5⟩; cases a; cases b; simp_all
instance : DecidableEq Wd := fun a b => decidable_of_iff _ (Wd.ext_iff' a b).symm

theorem wdsCells_at (l : List Wd) : ∀ (k i : Nat) (hk : k < l.length), i < 5 → (wdsCells l)[k * 5 + i]? = (wdCells l[k])[i]? := by
  induction l with
  | nil => intro k i hk; simp at hk
  | cons a t ih =>
    intro k i hk hi
    have hl : (wdCells a).length = 5 := rfl
    have hc : wdsCells (a :: t) = wdCells a ++ wdsCells t := by simp [wdsCells]
    rw [hc]
    rcases k with _ | k
    · rw [List.getElem?_append_left (by omega)]; simp
    · rw [List.getElem?_append_right (by omega), show (k + 1) * 5 + i - (wdCells a).length = k * 5 + i by omega, ih k i (by simpa using hk) hi]
      simp

theorem Reads.wd {w : World} {B n k : Nat} {A : Option Addr} {l : List Wd} (h : Reads w B 5 A n (wdsCells l)) (hn : n = l.length) (hk : k < l.length) :
    ∃ ad : Addr, A = some ad ∧ ad.block < B ∧ w.cell? (ad.add (k * 5)) = some (.int .i64 l[k].fr) ∧ w.cell? ⟨ad.block, (ad.add (k * 5)).off + 1, none⟩ = some (.int .i64 l[k].up) ∧ w.cell? ⟨ad.block, (ad.add (k * 5)).off + 2, none⟩ = some (.int .i64 l[k].w) ∧
      w.cell? ⟨ad.block, (ad.add (k * 5)).off + 3, none⟩ = some (.int .i64 l[k].gap) ∧ w.cell? ⟨ad.block, (ad.add (k * 5)).off + 4, none⟩ = some (.int .i64 l[k].forced) := by
  obtain ⟨ad, e, hb, hc⟩ := h.2 (by omega)
  have ha : ∀ i, i ≠ 0 → (⟨ad.block, (ad.add (k * 5)).off + i, none⟩ : Addr) = ad.add (k * 5 + i) := by
    intro i hi
    rw [← add_of_add, show ∀ p : Addr, p.add i = ⟨p.block, p.off + i, none⟩ from fun p => by unfold Addr.add; rw [if_neg hi], block_of_add]
  have hg : ∀ i, i < 5 → ∀ u, (wdCells l[k])[i]? = some u → w.cell? (ad.add (k * 5 + i)) = some u := fun i hi u hu => hc _ u (by rw [wdsCells_at l k i hk hi]; exact hu)
  refine ⟨ad, e, hb, hg 0 (by omega) _ rfl, ?_, ?_, ?_, ?_⟩
  · rw [ha 1 (by omega)]; exact hg 1 (by omega) _ rfl
  · rw [ha 2 (by omega)]; exact hg 2 (by omega) _ rfl
  · rw [ha 3 (by omega)]; exact hg 3 (by omega) _ rfl
  · rw [ha 4 (by omega)]; exact hg 4 (by omega) _ rfl

theorem eqW (a1 a2 a3 a4 a5 b1 b2 b3 b4 b5 : Int) (w : World) : (Op.equalIn 10000 165 (.agg #[.int .i64 a1, .int .i64 a2, .int .i64 a3, .int .i64 a4, .int .i64 a5]) (.agg #[.int .i64 b1, .int .i64 b2, .int .i64 b3, .int .i64 b4, .int .i64 b5])).run Try.prog w = .ok (a1 == b1 && a2 == b2 && a3 == b3 && a4 == b4 && a5 == b5) w := by
  have u2 := Try.underlying2
  have u3 := Try.underlying3
  have g2 := Try.isAgg2
  have g3 := Try.isAgg3
  have z2 := Try.sizeOf2
  have z3 := Try.sizeOf3
  have hS : Try.prog.underlying 165 = some (.struct (Try.prog.fieldsOf 165)) := by kernel_rfl
  have hp : Try.prog.stoodInHeld 165 = false := by kernel_rfl
  rw [show (10000 : Nat) = 9999 + 1 from rfl, run_equalIn_agg w 9999 165 _ _ hS hp]
  simp only [Program.fieldsOf, Try.underlying165]
  go_simp
  by_cases h1 : a1 = b1 <;> by_cases h2 : a2 = b2 <;> by_cases h3 : a3 = b3 <;> by_cases h4 : a4 = b4 <;> by_cases h5 : a5 = b5 <;> simp [h1, h2, h3, h4, h5]
theorem Wd.eq_b (x y : Wd) : (x.fr == y.fr && x.up == y.up && x.w == y.w && x.gap == y.gap && x.forced == y.forced) = decide (x = y) := by
  rw [Bool.eq_iff_iff, decide_eq_true_iff, Wd.ext_iff']
  simp [and_assoc]
theorem Wd.cases (x y : Wd) : x = y ∨ x ≠ y ∧ (x.fr ≠ y.fr ∨ x.fr = y.fr ∧ x.up ≠ y.up ∨ x.fr = y.fr ∧ x.up = y.up ∧ x.w ≠ y.w ∨ x.fr = y.fr ∧ x.up = y.up ∧ x.w = y.w ∧ x.gap ≠ y.gap ∨ x.fr = y.fr ∧ x.up = y.up ∧ x.w = y.w ∧ x.gap = y.gap ∧ x.forced ≠ y.forced) := by
  by_cases h : x = y
  · exact .inl h
  · refine .inr ⟨h, ?_⟩
    rw [Wd.ext_iff'] at h
    by_cases h1 : x.fr = y.fr <;> by_cases h2 : x.up = y.up <;> by_cases h3 : x.w = y.w <;> by_cases h4 : x.gap = y.gap <;> by_cases h5 : x.forced = y.forced <;> simp_all
theorem guardW (op : BinOp) (x y : Operand) (xs ys : Array Value) (w : World) : (eqGuard op 165 x y (.agg xs) (.agg ys)).run Try.prog w = .ok () w := run_eqGuard_agg w op _ x y xs ys (by kernel_rfl)
attribute [local go_sem] eqW guardW
theorem take_ext {a b : List Wd} {k : Nat} (ha : k < a.length) (hb : k < b.length) (h : a.take k = b.take k) (e : a[k] = b[k]) : a.take (k + 1) = b.take (k + 1) := by
  rw [List.take_succ_eq_append_getElem ha, List.take_succ_eq_append_getElem hb, h, e]
theorem at_ne {a b : List Wd} {k : Nat} {x y : Wd} (ha : k < a.length) (hb : k < b.length) (hx : a[k] = x) (hy : b[k] = y) (e : x ≠ y) : a ≠ b := by
  rintro rfl; exact e (hx.symm.trans hy)

end Go.Proofs.Ytdnpobfnkdllmaa
