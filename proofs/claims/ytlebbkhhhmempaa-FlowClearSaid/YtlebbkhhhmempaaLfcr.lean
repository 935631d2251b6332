/- FlowClear: in any tower a box that clears a side stands below all floats of that side that were placed ahead of it, or where its margins put it, if that is lower; and floats never make an island lower than they are. No condition. -/
import Derived.Test.YtlebbkhhhmempaaRib8
import Derived.Test.YtlebbkhhhmempaaLfc
set_option linter.unusedSimpArgs false
set_option linter.unusedVariables false
namespace Go.Proofs.Ytlebbkhhhmempaa
open Go.ChangeShapes Go.WideShapes Go.ChangeAt Go.RowKit

set_option maxRecDepth 100000 in
theorem flowClear_lifted (os : Os) (started : os.Started) (H : Type) (enc : TypeId × Value → H) :
    ReturnsInHanded {} Try.checked os 7 .any (Rows.flowClearSpec.pre6 enc Try.prog Try.f7 Rows.flowClearRow.domain false) (Rows.flowClearSpec.post enc Try.prog Try.f7 false true false false) := by
  refine law_lifted (tb := 4) started (by kernel_rfl) Try.func7 rfl ?_ (by kernel_rfl) Try.underlying4 (by kernel_rfl)
    (ChangeSpec.witness6 (enc := enc) (C := Try.checked) false ⟨#[], #[.slice none 0 0, .int .u8 0], []⟩ 8 (by kernel_rfl) (by kernel_rfl) (by kernel_rfl) (by kernel_rfl)) ?_
  · intro ds hd
    match ds, hd with
    | [d0, d1], _ => rfl
  · intro W base args ds ps hval hA hlt _
    rw [Try.params7] at hA hval
    obtain ⟨v0, v1, d0, d1, p0, p1, rfl, rfl, rfl, h0, h1⟩ := trodAll_two hA
    obtain ⟨A, c, l, rfl, _, hl, hr⟩ := reads_rows8 (fun x hx => hlt x (by simp [hx])) (okWide_slice Try.underlying77 (hval 0 _ _ rfl rfl)) h0
    obtain ⟨k, rfl, hk⟩ := reads_u8T (hval 1 _ _ rfl rfl) h1
    exact flowClear_any l A c k W hl hr hk

theorem flowClear_holds : Rows.FlowClearSaid :=
  OpenClaim.holds_of_wide 7 Try.f7 rfl rfl rfl rfl rfl rfl rfl ⟨rfl, rfl, rfl, rfl, rfl⟩ rfl rfl rfl rfl rfl (by kernel_rfl) Try.func7 (by kernel_rfl)
    (of_decide_eq_true (by kernel_rfl)) (by unfold Func.isWrapper; rw [if_neg (of_decide_eq_false (by kernel_rfl))]; exact ⟨rfl, rfl⟩)
    (fun os started H enc _ => flowClear_lifted os started H enc)
end Go.Proofs.Ytlebbkhhhmempaa
