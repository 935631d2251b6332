/- DequeNil: of no deque and of no operation, and of what may not be handed in, each answer is the one that the document names, for every room and every task. No condition. -/
import Derived.Test.YtdigjppdgiapfaaLnil
import Derived.Test.YtdigjppdgiapfaaRowd
set_option linter.unusedSimpArgs false
set_option linter.unusedVariables false
namespace Go.Proofs.Ytdigjppdgiapfaa
open Go.ChangeShapes Go.WideShapes Go.ChangeAt Go.RowKit

set_option maxRecDepth 100000 in
theorem dequeNil_lifted (os : Os) (started : os.Started) (H : Type) (enc : TypeId × Value → H) :
    ReturnsInHanded {} Try.checked os 7 .any (Rows.dequeNilSpec.pre6 enc Try.prog Try.f7 Rows.dequeNilRow.domain false) (Rows.dequeNilSpec.post enc Try.prog Try.f7 false true false false) := by
  refine law_lifted (tb := 4) started (by kernel_rfl) Try.func7 rfl ?_ (by kernel_rfl) Try.underlying4 (by kernel_rfl)
    (ChangeSpec.witness6 (enc := enc) (C := Try.checked) false ⟨#[], #[.int .i64 0, .int .i64 0], []⟩ 8 (by kernel_rfl) (by kernel_rfl) (by kernel_rfl) (by kernel_rfl)) ?_
  · intro ds hd
    match ds, hd with
    | [d0, d1], _ => rfl
  · intro W base args ds ps hval hA hlt _
    rw [Try.params7] at hA hval
    obtain ⟨v0, v1, d0, d1, p0, p1, rfl, rfl, rfl, h0, h1⟩ := trodAll_two hA
    obtain ⟨x0, rfl, hx0⟩ := reads_int (hval 0 _ _ rfl rfl) h0
    obtain ⟨x1, rfl, hx1⟩ := reads_int (hval 1 _ _ rfl rfl) h1
    exact dequeNil_any x0 x1 W hx0 hx1

theorem dequeNil_holds : Rows.DequeNilSaid :=
  OpenClaim.holds_of_wide 7 Try.f7 rfl rfl rfl rfl rfl rfl rfl ⟨rfl, rfl, rfl, rfl, rfl⟩ rfl rfl rfl rfl rfl (by kernel_rfl) Try.func7 (by kernel_rfl)
    (of_decide_eq_true (by kernel_rfl)) (by unfold Func.isWrapper; rw [if_neg (of_decide_eq_false (by kernel_rfl))]; exact ⟨rfl, rfl⟩)
    (fun os started H enc _ => dequeNil_lifted os started H enc)
end Go.Proofs.Ytdigjppdgiapfaa
