/- Slices of units and of advances that came in. -/
import Derived.Test.YtdnpobfnkdllmaaRowk
import Derived.Test.YtdnpobfnkdllmaaText
set_option linter.unusedSimpArgs false
set_option linter.unusedVariables false
namespace Go.Proofs.Ytdnpobfnkdllmaa
open Go.ChangeShapes Go.WideShapes Go.ChangeAt Go.RowKit

theorem u16_of_wf {n : Int} (h : (Lit.int .u16 n).wf = true) : 0 ≤ n ∧ n < 65536 := by
  have h1 : IntKind.u16.min = 0 := rfl
  have h2 : IntKind.u16.max = 65535 := rfl
  simp only [Lit.wf, Bool.and_eq_true, decide_eq_true_eq] at h
  omega
theorem i64_wf {n : Int} (h : (Lit.int .i64 n).wf = true) : -9223372036854775808 ≤ n ∧ n < 9223372036854775808 := by
  have h1 : IntKind.i64.min = -9223372036854775808 := rfl
  have h2 : IntKind.i64.max = 9223372036854775807 := rfl
  simp only [Lit.wf, Bool.and_eq_true, decide_eq_true_eq] at h
  omega
theorem flat_map1 (f : Int → Value) (l : List Int) : l.flatMap (fun x => [f x]) = l.map f := by
  induction l with
  | nil => rfl
  | cons a t ih => simp [List.flatMap_cons, ih]
section
variable {H : Type} {enc : TypeId × Value → H}
theorem reads_u16s {W : World} {v : Value} {d : DataW H} {ps : List MemPlace} (hlt : ∀ x ∈ ps, x.block < W.heap.size) (hv : ∃ A len c, v = .slice A len c) (h : DataW.Trod enc Try.prog W 0 (fun _ => true) true 30 v d ps) :
    ∃ A c, ∃ l : List Int, v = .slice A l.length c ∧ l.length ≤ c ∧ U16s l ∧ Reads W W.heap.size 1 A l.length (u16s l) := by
  obtain ⟨A, c, l, e, hc, hg, hr⟩ := reads_list (encd := fun x => [Value.int .u16 x]) (good := fun x => 0 ≤ x ∧ x < 65536) Try.underlying30 (show Try.prog.cellsOf 41 = 1 by kernel_rfl) (by omega) (fun n cs y hl h => by
    obtain ⟨x, e, -, hw⟩ := DataW.trod_int Try.underlying41 h
    exact ⟨x, e, u16_of_wf hw⟩) hlt hv h
  rw [flat_map1] at hr
  exact ⟨A, c, l, e, hc, hg, hr⟩
theorem reads_i64s {W : World} {v : Value} {d : DataW H} {ps : List MemPlace} (hlt : ∀ x ∈ ps, x.block < W.heap.size) (hv : ∃ A len c, v = .slice A len c) (h : DataW.Trod enc Try.prog W 0 (fun _ => true) true 62 v d ps) :
    ∃ A c, ∃ l : List Int, v = .slice A l.length c ∧ l.length ≤ c ∧ I64s l ∧ Reads W W.heap.size 1 A l.length (i64s l) := by
  obtain ⟨A, c, l, e, hc, hg, hr⟩ := reads_list (encd := fun x => [Value.int .i64 x]) (good := fun x => -9223372036854775808 ≤ x ∧ x < 9223372036854775808) Try.underlying62 (show Try.prog.cellsOf 2 = 1 by kernel_rfl) (by omega) (fun n cs y hl h => by
    obtain ⟨x, e, -, hw⟩ := DataW.trod_int Try.underlying2 h
    exact ⟨x, e, i64_wf hw⟩) hlt hv h
  rw [flat_map1] at hr
  exact ⟨A, c, l, e, hc, hg, hr⟩
end
end Go.Proofs.Ytdnpobfnkdllmaa
