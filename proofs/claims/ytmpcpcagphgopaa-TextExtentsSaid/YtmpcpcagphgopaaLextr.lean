/- TextExtents: for every list of words, of whatever numbers, package text's least and greatest widths, and whether one was beyond, are those that the document's answer tells; the words stay. No condition. -/
import Derived.Test.YtmpcpcagphgopaaLext
import Derived.Test.YtmpcpcagphgopaaRowk
set_option linter.unusedSimpArgs false
set_option linter.unusedVariables false
namespace Go.Proofs.Ytmpcpcagphgopaa
open Go.ChangeShapes Go.WideShapes Go.ChangeAt Go.RowKit

theorem i64_of_wf {n : Int} (h : (Lit.int .i64 n).wf = true) : -9223372036854775808 ≤ n ∧ n < 9223372036854775808 := by
  have h1 : IntKind.i64.min = -9223372036854775808 := rfl
  have h2 : IntKind.i64.max = 9223372036854775807 := rfl
  simp only [Lit.wf, Bool.and_eq_true, decide_eq_true_eq] at h
  omega
theorem cells_word : Try.prog.cellsOf 37 = 5 := by kernel_rfl
theorem word_good {H : Type} {enc : TypeId × Value → H} {W : World} {n : Nat} {cs : List Value} {y : DataW H × List MemPlace} (hl : cs.length = 5) (h : DataW.trod enc Try.prog W 0 (fun _ => true) true n 37 cs = some y) : ∃ x, cs = wdCells x ∧ W64 x := by
  match cs, hl with
  | [c0, c1, c2, c3, c4], _ =>
    obtain ⟨m0, y0, x0, -⟩ := struct_field Try.underlying37 h 0 rfl rfl rfl (show Try.prog.cellsOf 3 = 1 by kernel_rfl)
    obtain ⟨n0, e0, -, w0⟩ := DataW.trod_int Try.underlying3 x0
    obtain ⟨m1, y1, x1, -⟩ := struct_field Try.underlying37 h 1 rfl rfl rfl (show Try.prog.cellsOf 3 = 1 by kernel_rfl)
    obtain ⟨n1, e1, -, w1⟩ := DataW.trod_int Try.underlying3 x1
    obtain ⟨m2, y2, x2, -⟩ := struct_field Try.underlying37 h 2 rfl rfl rfl (show Try.prog.cellsOf 2 = 1 by kernel_rfl)
    obtain ⟨n2, e2, -, w2⟩ := DataW.trod_int Try.underlying2 x2
    obtain ⟨m3, y3, x3, -⟩ := struct_field Try.underlying37 h 3 rfl rfl rfl (show Try.prog.cellsOf 2 = 1 by kernel_rfl)
    obtain ⟨n3, e3, -, w3⟩ := DataW.trod_int Try.underlying2 x3
    obtain ⟨m4, y4, x4, -⟩ := struct_field Try.underlying37 h 4 rfl rfl rfl (show Try.prog.cellsOf 3 = 1 by kernel_rfl)
    obtain ⟨n4, e4, -, w4⟩ := DataW.trod_int Try.underlying3 x4
    simp at e0 e1 e2 e3 e4
    exact ⟨⟨n0, n1, n2, n3, n4⟩, by rw [e0, e1, e2, e3, e4]; rfl, i64_of_wf w2, i64_of_wf w3⟩

set_option maxRecDepth 100000 in
theorem textExtents_lifted (os : Os) (started : os.Started) (H : Type) (enc : TypeId × Value → H) :
    ReturnsInHanded {} Try.checked os 4 .any (Rows.textExtentsSpec.pre6 enc Try.prog Try.f4 Rows.textExtentsRow.domain false) (Rows.textExtentsSpec.post enc Try.prog Try.f4 false true false false) := by
  refine law_lifted (tb := 4) started (by kernel_rfl) Try.func4 rfl ?_ (by kernel_rfl) Try.underlying4 (by kernel_rfl)
    (ChangeSpec.witness6 (enc := enc) (C := Try.checked) false ⟨#[], #[.slice none 0 0], []⟩ 8 (by kernel_rfl) (by kernel_rfl) (by kernel_rfl) (by kernel_rfl)) ?_
  · intro ds hd
    match ds, hd with
    | [d], _ => rfl
  · intro W base args ds ps hval hA hlt _
    rw [Try.params4] at hA hval
    obtain ⟨v, d, rfl, rfl, h0⟩ := trodAll_one hA
    obtain ⟨A, c, l, rfl, hcap, hg, hr⟩ := reads_list Try.underlying26 cells_word (by omega) (fun n cs y hl h => word_good hl h) hlt (okWide_slice Try.underlying26 (hval 0 _ _ rfl rfl)) h0
    exact textExtents_any l A c W (fun _ => hg) hr

theorem textExtents_holds : Rows.TextExtentsSaid :=
  OpenClaim.holds_of_wide 4 Try.f4 rfl rfl rfl rfl rfl rfl rfl ⟨rfl, rfl, rfl, rfl, rfl⟩ rfl rfl rfl rfl rfl (by kernel_rfl) Try.func4 (by kernel_rfl)
    (of_decide_eq_true (by kernel_rfl)) (by unfold Func.isWrapper; rw [if_neg (of_decide_eq_false (by kernel_rfl))]; exact ⟨rfl, rfl⟩)
    (fun os started H enc _ => textExtents_lifted os started H enc)
end Go.Proofs.Ytmpcpcagphgopaa
