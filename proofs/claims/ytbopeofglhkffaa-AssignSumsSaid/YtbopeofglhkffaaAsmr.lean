/- AssignSums: for every tree that the statement speaks of, each box that flows in a block fills it just, and each that floats is no wider than its room, unless its contents or its style ask for more. No condition. -/
import Derived.Test.YtbopeofglhkffaaRot
import Derived.Test.YtbopeofglhkffaaAsm
set_option linter.unusedSimpArgs false
set_option linter.unusedVariables false
namespace Go.Proofs.Ytbopeofglhkffaa
open Go.ChangeShapes Go.WideShapes Go.ChangeAt Go.RowKit
set_option maxRecDepth 100000 in
theorem assignSums_lifted (os : Os) (started : os.Started) (H : Type) (enc : TypeId × Value → H) :
    ReturnsInHanded {} Try.checked os 4 .any (Rows.assignSumsSpec.pre6 enc Try.prog Try.f4 Rows.assignSumsRow.domain false) (Rows.assignSumsSpec.post enc Try.prog Try.f4 false true false false) := by
  refine law_lifted (tb := 4) started (by kernel_rfl) Try.func4 rfl ?_ (by kernel_rfl) Try.underlying4 (by kernel_rfl)
    (ChangeSpec.witness6 (enc := enc) (C := Try.checked) false ⟨#[], #[.agg #[.slice none 0 0, .slice none 0 0, .int .i64 0]], []⟩ 8 (by kernel_rfl) (by kernel_rfl) (by kernel_rfl) (by kernel_rfl)) ?_
  · intro ds hd
    match ds, hd with
    | [d], _ => rfl
  · intro W base args ds ps hval hA hlt _
    rw [Try.params4] at hA hval
    obtain ⟨v, d, rfl, rfl, h0⟩ := trodAll_one hA
    obtain ⟨A, c, A2, c2, view, l, adv, rfl, ht⟩ := reads_tree hlt (okWide_struct Try.underlying25 (hval 0 _ _ rfl rfl)) h0
    exact assignSums_any l adv A A2 c c2 view W ht
theorem assignSums_holds : Rows.AssignSumsSaid :=
  OpenClaim.holds_of_wide 4 Try.f4 rfl rfl rfl rfl rfl rfl rfl ⟨rfl, rfl, rfl, rfl, rfl⟩ rfl rfl rfl rfl rfl (by kernel_rfl) Try.func4 (by kernel_rfl)
    (of_decide_eq_true (by kernel_rfl)) (by unfold Func.isWrapper; rw [if_neg (of_decide_eq_false (by kernel_rfl))]; exact ⟨rfl, rfl⟩)
    (fun os started H enc _ => assignSums_lifted os started H enc)
end Go.Proofs.Ytbopeofglhkffaa
