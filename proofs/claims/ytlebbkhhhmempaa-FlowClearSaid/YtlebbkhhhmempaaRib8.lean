/- Arguments of FlowClear: rows of bytes. -/
import Derived.Test.YtlebbkhhhmempaaRi8
import Derived.Test.YtlebbkhhhmempaaLck
set_option linter.unusedSimpArgs false
set_option linter.unusedVariables false
namespace Go.Proofs.Ytlebbkhhhmempaa
open Go.ChangeShapes Go.WideShapes Go.ChangeAt Go.RowKit
section
variable {H : Type} {enc : TypeId × Value → H} {W : World}
theorem u8_good {n : Nat} {a : Value} {y : DataW H × List MemPlace} (h : DataW.trod enc Try.prog W 0 (fun _ => true) true n 5 [a] = some y) : ∃ x : Nat, a = .int .u8 x ∧ x < 256 := by
  obtain ⟨n0, e0, -, hw⟩ := DataW.trod_int Try.underlying5 h
  injection e0 with e0 _
  obtain ⟨k, rfl, hk⟩ := u8_natT hw
  exact ⟨k, e0, hk⟩
set_option maxRecDepth 100000 in
theorem row8_good {n : Nat} {cs : List Value} {y : DataW H × List MemPlace} (hl : cs.length = 3) (h : DataW.trod enc Try.prog W 0 (fun _ => true) true n 78 cs = some y) : ∃ x : N3, cs = r3b x ∧ U8r x := by
  match cs, hl with
  | [c0, c1, c2], _ =>
    obtain ⟨xs, m, _, _, _, hx, hf⟩ := DataW.trod_array Try.underlying78 h
    rw [show Try.prog.cellsOf 5 = 1 by kernel_rfl] at hf
    have g : ∀ i (hi : i < 3), ∃ z, xs[i]? = some z := fun i hi => ⟨_, List.getElem?_eq_getElem (by omega)⟩
    obtain ⟨z0, h0⟩ := g 0 (by omega)
    obtain ⟨z1, h1⟩ := g 1 (by omega)
    obtain ⟨z2, h2⟩ := g 2 (by omega)
    obtain ⟨x0, rfl, b0⟩ := u8_good ((hf 0 (by omega)).trans h0)
    obtain ⟨x1, rfl, b1⟩ := u8_good ((hf 1 (by omega)).trans h1)
    obtain ⟨x2, rfl, b2⟩ := u8_good ((hf 2 (by omega)).trans h2)
    exact ⟨(x0, x1, x2), rfl, b0, b1, b2⟩
theorem reads_rows8 {v : Value} {d : DataW H} {ps : List MemPlace} (hlt : ∀ x ∈ ps, x.block < W.heap.size) (hv : ∃ A len c, v = .slice A len c) (h : DataW.Trod enc Try.prog W 0 (fun _ => true) true 77 v d ps) :
    ∃ A c, ∃ l : List N3, v = .slice A l.length c ∧ l.length ≤ c ∧ (∀ r ∈ l, U8r r) ∧ Reads W W.heap.size 3 A l.length (l.flatMap r3b) :=
  reads_list (encd := r3b) (good := U8r) Try.underlying77 (show Try.prog.cellsOf 78 = 3 by kernel_rfl) (by omega) (fun n cs y hl h => row8_good hl h) hlt hv h
end
end Go.Proofs.Ytlebbkhhhmempaa
