/- FlowNest: in any boxes one in the other, of which the innermost has a height, all stand at one top and end at one bottom; with a border of the outermost one its contents begin below it. No condition. -/
import Derived.Test.YtlebbkhhhmempaaRip
import Derived.Test.YtlebbkhhhmempaaLfn
set_option linter.unusedSimpArgs false
set_option linter.unusedVariables false
namespace Go.Proofs.Ytlebbkhhhmempaa
open Go.ChangeShapes Go.WideShapes Go.ChangeAt Go.RowKit

set_option maxRecDepth 100000 in
theorem flowNest_lifted (os : Os) (started : os.Started) (H : Type) (enc : TypeId × Value → H) :
    ReturnsInHanded {} Try.checked os 5 .any (Rows.flowNestSpec.pre6 enc Try.prog Try.f5 Rows.flowNestRow.domain false) (Rows.flowNestSpec.post enc Try.prog Try.f5 false true false false) := by
  refine law_lifted (tb := 4) started (by kernel_rfl) Try.func5 rfl ?_ (by kernel_rfl) Try.underlying4 (by kernel_rfl)
    (ChangeSpec.witness6 (enc := enc) (C := Try.checked) false ⟨#[], #[.slice none 0 0, .int .u8 0, .int .u16 0], []⟩ 8 (by kernel_rfl) (by kernel_rfl) (by kernel_rfl) (by kernel_rfl)) ?_
  · intro ds hd
    match ds, hd with
    | [d0, d1, d2], _ => rfl
  · intro W base args ds ps hval hA hlt _
    rw [Try.params5] at hA hval
    obtain ⟨v0, v1, v2, d0, d1, d2, p0, p1, p2, rfl, rfl, rfl, h0, h1, h2⟩ := trodAll_three hA
    obtain ⟨A, c, l, rfl, _, hl, hr⟩ := reads_pairs16 (fun x hx => hlt x (by simp [hx])) (okWide_slice Try.underlying61 (hval 0 _ _ rfl rfl)) h0
    obtain ⟨k, rfl, hk⟩ := reads_u8T (hval 1 _ _ rfl rfl) h1
    obtain ⟨m, rfl, hm⟩ := reads_u16T (hval 2 _ _ rfl rfl) h2
    exact flowNest_any l A c k m W hl hr hk hm

theorem flowNest_holds : Rows.FlowNestSaid :=
  OpenClaim.holds_of_wide 5 Try.f5 rfl rfl rfl rfl rfl rfl rfl ⟨rfl, rfl, rfl, rfl, rfl⟩ rfl rfl rfl rfl rfl (by kernel_rfl) Try.func5 (by kernel_rfl)
    (of_decide_eq_true (by kernel_rfl)) (by unfold Func.isWrapper; rw [if_neg (of_decide_eq_false (by kernel_rfl))]; exact ⟨rfl, rfl⟩)
    (fun os started H enc _ => flowNest_lifted os started H enc)
end Go.Proofs.Ytlebbkhhhmempaa
