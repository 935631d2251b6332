/- FlowTower: of any boxes one below the other those of heights above 0 stand apart by the strut of all margins between them, and the island ends below all margins behind the last one. No condition. -/
import Derived.Test.YtlebbkhhhmempaaRi16
import Derived.Test.YtlebbkhhhmempaaLft
set_option linter.unusedSimpArgs false
set_option linter.unusedVariables false
namespace Go.Proofs.Ytlebbkhhhmempaa
open Go.ChangeShapes Go.WideShapes Go.ChangeAt Go.RowKit

set_option maxRecDepth 100000 in
theorem flowTower_lifted (os : Os) (started : os.Started) (H : Type) (enc : TypeId × Value → H) :
    ReturnsInHanded {} Try.checked os 4 .any (Rows.flowTowerSpec.pre6 enc Try.prog Try.f4 Rows.flowTowerRow.domain false) (Rows.flowTowerSpec.post enc Try.prog Try.f4 false true false false) := by
  refine law_lifted (tb := 4) started (by kernel_rfl) Try.func4 rfl ?_ (by kernel_rfl) Try.underlying4 (by kernel_rfl)
    (ChangeSpec.witness6 (enc := enc) (C := Try.checked) false ⟨#[], #[.slice none 0 0], []⟩ 8 (by kernel_rfl) (by kernel_rfl) (by kernel_rfl) (by kernel_rfl)) ?_
  · intro ds hd
    match ds, hd with
    | [d0], _ => rfl
  · intro W base args ds ps hval hA hlt _
    rw [Try.params4] at hA hval
    obtain ⟨v0, d0, rfl, rfl, h0⟩ := trodAll_one hA
    obtain ⟨A, c, l, rfl, _, hl, hr⟩ := reads_rows16 hlt (okWide_slice Try.underlying42 (hval 0 _ _ rfl rfl)) h0
    exact flowTower_any l A c W hl hr

theorem flowTower_holds : Rows.FlowTowerSaid :=
  OpenClaim.holds_of_wide 4 Try.f4 rfl rfl rfl rfl rfl rfl rfl ⟨rfl, rfl, rfl, rfl, rfl⟩ rfl rfl rfl rfl rfl (by kernel_rfl) Try.func4 (by kernel_rfl)
    (of_decide_eq_true (by kernel_rfl)) (by unfold Func.isWrapper; rw [if_neg (of_decide_eq_false (by kernel_rfl))]; exact ⟨rfl, rfl⟩)
    (fun os started H enc _ => flowTower_lifted os started H enc)
end Go.Proofs.Ytlebbkhhhmempaa
