/- Slices of truths that came in. -/
import Derived.Test.YtdigjppdgiapfaaRowd
import Derived.Test.YtdigjppdgiapfaaLstack
set_option linter.unusedSimpArgs false
set_option linter.unusedVariables false
namespace Go.Proofs.Ytdigjppdgiapfaa
open Go.ChangeShapes Go.WideShapes Go.ChangeAt Go.RowKit

section
variable {H : Type} {enc : TypeId × Value → H}
theorem flat_map1b (l : List Bool) : l.flatMap (fun x => [Value.bool x]) = l.map Value.bool := by
  induction l with
  | nil => rfl
  | cons a t ih => simp [List.flatMap_cons, ih]
theorem reads_bools {W : World} {v : Value} {d : DataW H} {ps : List MemPlace} (hlt : ∀ x ∈ ps, x.block < W.heap.size) (hv : ∃ A len c, v = .slice A len c) (h : DataW.Trod enc Try.prog W 0 (fun _ => true) true 52 v d ps) :
    ∃ A c, ∃ l : List Bool, v = .slice A l.length c ∧ l.length ≤ c ∧ True ∧ Reads W W.heap.size 1 A l.length (bools l) := by
  obtain ⟨A, c, l, e, hc, hg, hr⟩ := reads_list (encd := fun x => [Value.bool x]) (good := fun _ => True) Try.underlying52 (show Try.prog.cellsOf 4 = 1 by kernel_rfl) (by omega) (fun n cs y hl h => by
    obtain ⟨x, e, -⟩ := DataW.trod_bool Try.underlying4 h
    exact ⟨x, e, trivial⟩) hlt hv h
  rw [flat_map1b] at hr
  exact ⟨A, c, l, e, hc, trivial, hr⟩
end
end Go.Proofs.Ytdigjppdgiapfaa
