/- The words of units, as a plain function. -/
import Derived.Test.YtgahmlbemaagbaaText
import Derived.Test.YtgahmlbemaagbaaScan
set_option linter.unusedSimpArgs false
set_option linter.unusedVariables false
namespace Go.Proofs.Ytgahmlbemaagbaa
open Go.RowKit

/-- A word, as api.Word has it. -/
structure Wd where
  fr : Int
  up : Int
  w : Int
  gap : Int
  forced : Int
def wdCells (x : Wd) : List Value := [.int .i64 x.fr, .int .i64 x.up, .int .i64 x.w, .int .i64 x.gap, .int .i64 x.forced]
def wdsCells (l : List Wd) : List Value := l.flatMap wdCells
theorem wdsCells_len (l : List Wd) : (wdsCells l).length = l.length * 5 := by
  induction l with
  | nil => rfl
  | cons a t ih => simp [wdsCells, wdCells] at *; omega
theorem wdsCells_snoc (l : List Wd) (x : Wd) : wdsCells (l ++ [x]) = wdsCells l ++ wdCells x := by simp [wdsCells]
theorem wdsCells_one (l : List Wd) : ∀ u ∈ wdsCells l, u.oneCell' = true := by
  intro u hu
  simp only [wdsCells, List.mem_flatMap, wdCells] at hu
  obtain ⟨x, _, hu⟩ := hu
  simp at hu
  rcases hu with rfl | rfl | rfl | rfl | rfl <;> rfl

def part (l : List Int) (s : Sp) : List Int := (l.drop s.fr).take (s.up - s.fr)
def gapIs (first : Bool) (s : Sp) : Bool := s.sp && decide (s.ends = 0) && !first
def mkW (t l : List Int) (first : Bool) (s : Sp) : Wd := ⟨s.fr, s.up, cutF (advs t (part l s)).sum, if gapIs first s then cutF (adv t 32) else 0, s.ends⟩
def overW (t l : List Int) (first : Bool) (s : Sp) : Bool := cutB (advs t (part l s)).sum || (gapIs first s && cutB (adv t 32))
def stepW (t l : List Int) (c : List Wd × Bool) (s : Sp) : List Wd × Bool := (c.1 ++ [mkW t l c.1.isEmpty s], c.2 || overW t l c.1.isEmpty s)
def wordsOf (t l : List Int) (pre : List Sp) : List Wd × Bool := pre.foldl (stepW t l) ([], false)
theorem wordsOf_snoc (t l : List Int) (pre : List Sp) (s : Sp) : wordsOf t l (pre ++ [s]) = stepW t l (wordsOf t l pre) s := by simp [wordsOf]
theorem foldl_stepW_len (t l : List Int) (pre : List Sp) : ∀ c : List Wd × Bool, (pre.foldl (stepW t l) c).1.length = c.1.length + pre.length := by
  induction pre with
  | nil => intro c; simp
  | cons s pre ih => intro c; rw [List.foldl_cons, ih]; simp [stepW]; omega
theorem wordsOf_len (t l : List Int) (pre : List Sp) : (wordsOf t l pre).1.length = pre.length := by
  rw [wordsOf, foldl_stepW_len]; simp
def wordsF (t l : List Int) : List Wd × Bool := wordsOf t l (spansF l)
end Go.Proofs.Ytgahmlbemaagbaa
