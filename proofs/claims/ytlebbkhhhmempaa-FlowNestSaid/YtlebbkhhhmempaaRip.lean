/- Arguments of FlowNest: rows of two small numbers. -/
import Derived.Test.YtlebbkhhhmempaaRi8
import Derived.Test.YtlebbkhhhmempaaLnm
set_option linter.unusedSimpArgs false
set_option linter.unusedVariables false
namespace Go.Proofs.Ytlebbkhhhmempaa
open Go.ChangeShapes Go.WideShapes Go.ChangeAt Go.RowKit
section
variable {H : Type} {enc : TypeId × Value → H} {W : World}
set_option maxRecDepth 100000 in
theorem pair16_good {n : Nat} {cs : List Value} {y : DataW H × List MemPlace} (hl : cs.length = 2) (h : DataW.trod enc Try.prog W 0 (fun _ => true) true n 73 cs = some y) : ∃ x : Int × Int, cs = r2h x ∧ I16p x := by
  match cs, hl with
  | [c0, c1], _ =>
    obtain ⟨xs, m, _, _, _, hx, hf⟩ := DataW.trod_array Try.underlying73 h
    rw [show Try.prog.cellsOf 44 = 1 by kernel_rfl] at hf
    have g : ∀ i (hi : i < 2), ∃ z, xs[i]? = some z := fun i hi => ⟨_, List.getElem?_eq_getElem (by omega)⟩
    obtain ⟨z0, h0⟩ := g 0 (by omega)
    obtain ⟨z1, h1⟩ := g 1 (by omega)
    obtain ⟨x0, rfl, b0⟩ := i16_good ((hf 0 (by omega)).trans h0)
    obtain ⟨x1, rfl, b1⟩ := i16_good ((hf 1 (by omega)).trans h1)
    exact ⟨(x0, x1), rfl, b0, b1⟩
theorem reads_pairs16 {v : Value} {d : DataW H} {ps : List MemPlace} (hlt : ∀ x ∈ ps, x.block < W.heap.size) (hv : ∃ A len c, v = .slice A len c) (h : DataW.Trod enc Try.prog W 0 (fun _ => true) true 61 v d ps) :
    ∃ A c, ∃ l : List (Int × Int), v = .slice A l.length c ∧ l.length ≤ c ∧ (∀ r ∈ l, I16p r) ∧ Reads W W.heap.size 2 A l.length (l.flatMap r2h) :=
  reads_list (encd := r2h) (good := I16p) Try.underlying61 (show Try.prog.cellsOf 73 = 2 by kernel_rfl) (by omega) (fun n cs y hl h => pair16_good hl h) hlt hv h
end
end Go.Proofs.Ytlebbkhhhmempaa
