/- FlowDown: a roof of the root of any tower moves all that lies in it down by just that, and turns nothing else; its floor makes the island higher by that. No condition. -/
import Derived.Test.YtlebbkhhhmempaaRi8
import Derived.Test.YtlebbkhhhmempaaLfd
set_option linter.unusedSimpArgs false
set_option linter.unusedVariables false
namespace Go.Proofs.Ytlebbkhhhmempaa
open Go.ChangeShapes Go.WideShapes Go.ChangeAt Go.RowKit

set_option maxRecDepth 100000 in
theorem flowDown_lifted (os : Os) (started : os.Started) (H : Type) (enc : TypeId × Value → H) :
    ReturnsInHanded {} Try.checked os 8 .any (Rows.flowDownSpec.pre6 enc Try.prog Try.f8 Rows.flowDownRow.domain false) (Rows.flowDownSpec.post enc Try.prog Try.f8 false true false false) := by
  refine law_lifted (tb := 4) started (by kernel_rfl) Try.func8 rfl ?_ (by kernel_rfl) Try.underlying4 (by kernel_rfl)
    (ChangeSpec.witness6 (enc := enc) (C := Try.checked) false ⟨#[], #[.slice none 0 0, .int .u16 0, .int .u16 0], []⟩ 8 (by kernel_rfl) (by kernel_rfl) (by kernel_rfl) (by kernel_rfl)) ?_
  · intro ds hd
    match ds, hd with
    | [d0, d1, d2], _ => rfl
  · intro W base args ds ps hval hA hlt _
    rw [Try.params8] at hA hval
    obtain ⟨v0, v1, v2, d0, d1, d2, p0, p1, p2, rfl, rfl, rfl, h0, h1, h2⟩ := trodAll_three hA
    obtain ⟨A, c, l, rfl, _, hl, hr⟩ := reads_rows16 (fun x hx => hlt x (by simp [hx])) (okWide_slice Try.underlying42 (hval 0 _ _ rfl rfl)) h0
    obtain ⟨k, rfl, hk⟩ := reads_u16T (hval 1 _ _ rfl rfl) h1
    obtain ⟨m, rfl, hm⟩ := reads_u16T (hval 2 _ _ rfl rfl) h2
    exact flowDown_any l A c k m W hl hr hk hm

theorem flowDown_holds : Rows.FlowDownSaid :=
  OpenClaim.holds_of_wide 8 Try.f8 rfl rfl rfl rfl rfl rfl rfl ⟨rfl, rfl, rfl, rfl, rfl⟩ rfl rfl rfl rfl rfl (by kernel_rfl) Try.func8 (by kernel_rfl)
    (of_decide_eq_true (by kernel_rfl)) (by unfold Func.isWrapper; rw [if_neg (of_decide_eq_false (by kernel_rfl))]; exact ⟨rfl, rfl⟩)
    (fun os started H enc _ => flowDown_lifted os started H enc)
end Go.Proofs.Ytlebbkhhhmempaa
