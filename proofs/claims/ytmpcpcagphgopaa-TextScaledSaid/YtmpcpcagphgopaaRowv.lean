/- Slices of 32 bits and bytes that came in. -/
import Derived.Test.YtmpcpcagphgopaaLscale
import Derived.Test.YtmpcpcagphgopaaRowu
set_option linter.unusedSimpArgs false
set_option linter.unusedVariables false
namespace Go.Proofs.Ytmpcpcagphgopaa
open Go.ChangeShapes Go.WideShapes Go.ChangeAt Go.RowKit

theorem i32_wf {n : Int} (h : (Lit.int .i32 n).wf = true) : -2147483648 ≤ n ∧ n < 2147483648 := by
  have h1 : IntKind.i32.min = -2147483648 := rfl
  have h2 : IntKind.i32.max = 2147483647 := rfl
  simp only [Lit.wf, Bool.and_eq_true, decide_eq_true_eq] at h
  omega
theorem u8_wf {n : Int} (h : (Lit.int .u8 n).wf = true) : 0 ≤ n ∧ n < 256 := by
  have h1 : IntKind.u8.min = 0 := rfl
  have h2 : IntKind.u8.max = 255 := rfl
  simp only [Lit.wf, Bool.and_eq_true, decide_eq_true_eq] at h
  omega
section
variable {H : Type} {enc : TypeId × Value → H}
theorem reads_i32s {W : World} {v : Value} {d : DataW H} {ps : List MemPlace} (hlt : ∀ x ∈ ps, x.block < W.heap.size) (hv : ∃ A len c, v = .slice A len c) (h : DataW.Trod enc Try.prog W 0 (fun _ => true) true 41 v d ps) :
    ∃ A c, ∃ l : List Int, v = .slice A l.length c ∧ l.length ≤ c ∧ I32s l ∧ Reads W W.heap.size 1 A l.length (i32s l) := by
  obtain ⟨A, c, l, e, hc, hg, hr⟩ := reads_list (encd := fun x => [Value.int .i32 x]) (good := fun x => -2147483648 ≤ x ∧ x < 2147483648) Try.underlying41 (show Try.prog.cellsOf 21 = 1 by kernel_rfl) (by omega) (fun n cs y hl h => by
    obtain ⟨x, e, -, hw⟩ := DataW.trod_int Try.underlying21 h
    exact ⟨x, e, i32_wf hw⟩) hlt hv h
  rw [flat_map1] at hr
  exact ⟨A, c, l, e, hc, hg, hr⟩
theorem reads_u8 {W : World} {base : Nat} {v : Value} {d : DataW H} {ps : List MemPlace} (hv : Value.okWide Try.prog W .any base 5 v) (h : DataW.Trod enc Try.prog W 0 (fun _ => true) true 5 v d ps) :
    ∃ x, v = .int .u8 x ∧ 0 ≤ x ∧ x < 256 := by
  obtain ⟨x, rfl, rfl, rfl, wx⟩ := open_int Try.underlying5 hv h
  exact ⟨x, rfl, u8_wf wx⟩
end
end Go.Proofs.Ytmpcpcagphgopaa
