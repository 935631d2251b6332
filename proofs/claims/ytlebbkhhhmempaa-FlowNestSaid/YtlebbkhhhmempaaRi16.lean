/- Arguments of chapter 22's statements: rows of small numbers. -/
import Derived.Test.YtlebbkhhhmempaaRowk
import Derived.Test.YtlebbkhhhmempaaLth
import Derived.OpenShut
set_option linter.unusedSimpArgs false
set_option linter.unusedVariables false
namespace Go.Proofs.Ytlebbkhhhmempaa
open Go.ChangeShapes Go.WideShapes Go.ChangeAt Go.RowKit
section
variable {H : Type} {enc : TypeId × Value → H} {W : World}
theorem i16_b {n : Int} (h : (Lit.int .i16 n).wf = true) : -32768 ≤ n ∧ n ≤ 32767 := by
  have h1 : IntKind.i16.min = -32768 := rfl
  have h2 : IntKind.i16.max = 32767 := rfl
  simp only [Lit.wf, Bool.and_eq_true, decide_eq_true_eq] at h
  omega
theorem i16_good {n : Nat} {a : Value} {y : DataW H × List MemPlace} (h : DataW.trod enc Try.prog W 0 (fun _ => true) true n 44 [a] = some y) : ∃ x : Int, a = .int .i16 x ∧ -32768 ≤ x ∧ x ≤ 32767 := by
  obtain ⟨n0, e0, -, hw⟩ := DataW.trod_int Try.underlying44 h
  injection e0 with e0 _
  exact ⟨n0, e0, i16_b hw⟩
set_option maxRecDepth 100000 in
theorem row16_good {n : Nat} {cs : List Value} {y : DataW H × List MemPlace} (hl : cs.length = 3) (h : DataW.trod enc Try.prog W 0 (fun _ => true) true n 45 cs = some y) : ∃ x : Int × Int × Int, cs = r3h x ∧ I16r x := by
  match cs, hl with
  | [c0, c1, c2], _ =>
    obtain ⟨xs, m, _, _, _, hx, hf⟩ := DataW.trod_array Try.underlying45 h
    rw [show Try.prog.cellsOf 44 = 1 by kernel_rfl] at hf
    have g : ∀ i (hi : i < 3), ∃ z, xs[i]? = some z := fun i hi => ⟨_, List.getElem?_eq_getElem (by omega)⟩
    obtain ⟨z0, h0⟩ := g 0 (by omega)
    obtain ⟨z1, h1⟩ := g 1 (by omega)
    obtain ⟨z2, h2⟩ := g 2 (by omega)
    obtain ⟨x0, rfl, b0⟩ := i16_good ((hf 0 (by omega)).trans h0)
    obtain ⟨x1, rfl, b1⟩ := i16_good ((hf 1 (by omega)).trans h1)
    obtain ⟨x2, rfl, b2⟩ := i16_good ((hf 2 (by omega)).trans h2)
    exact ⟨(x0, x1, x2), rfl, b0, b1, b2⟩
theorem reads_rows16 {v : Value} {d : DataW H} {ps : List MemPlace} (hlt : ∀ x ∈ ps, x.block < W.heap.size) (hv : ∃ A len c, v = .slice A len c) (h : DataW.Trod enc Try.prog W 0 (fun _ => true) true 42 v d ps) :
    ∃ A c, ∃ l : List (Int × Int × Int), v = .slice A l.length c ∧ l.length ≤ c ∧ (∀ r ∈ l, I16r r) ∧ Reads W W.heap.size 3 A l.length (l.flatMap r3h) :=
  reads_list (encd := r3h) (good := I16r) Try.underlying42 (show Try.prog.cellsOf 45 = 3 by kernel_rfl) (by omega) (fun n cs y hl h => row16_good hl h) hlt hv h
end
end Go.Proofs.Ytlebbkhhhmempaa
