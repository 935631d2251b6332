/- TextScaled: for every list of units and of advances, with all advances so many times as great words stand where they did, and are so many times as wide, and so is what they want at least and at most. No condition. -/
import Derived.Test.YtmpcpcagphgopaaRowv
import Derived.Test.YtmpcpcagphgopaaRowu
set_option linter.unusedSimpArgs false
set_option linter.unusedVariables false
namespace Go.Proofs.Ytmpcpcagphgopaa
open Go.ChangeShapes Go.WideShapes Go.ChangeAt Go.RowKit

set_option maxRecDepth 100000 in
theorem textScaled_lifted (os : Os) (started : os.Started) (H : Type) (enc : TypeId × Value → H) :
    ReturnsInHanded {} Try.checked os 8 .any (Rows.textScaledSpec.pre6 enc Try.prog Try.f8 Rows.textScaledRow.domain false) (Rows.textScaledSpec.post enc Try.prog Try.f8 false true false false) := by
  refine law_lifted (tb := 4) started (by kernel_rfl) Try.func8 rfl ?_ (by kernel_rfl) Try.underlying4 (by kernel_rfl)
    (ChangeSpec.witness6 (enc := enc) (C := Try.checked) false ⟨#[], #[.slice none 0 0, .slice none 0 0, .int .u8 0], []⟩ 8 (by kernel_rfl) (by kernel_rfl) (by kernel_rfl) (by kernel_rfl)) ?_
  · intro ds hd
    match ds, hd with
    | [d0, d1, d2], _ => rfl
  · intro W base args ds ps hval hA hlt _
    rw [Try.params8] at hA hval
    obtain ⟨v0, v1, v2, d0, d1, d2, p0, p1, p2, rfl, rfl, rfl, h0, h1, h2⟩ := trodAll_three hA
    obtain ⟨A0, c0, l0, rfl, hc0, hl0, hr0⟩ := reads_u16s (fun x hx => hlt x (by simp [hx])) (okWide_slice Try.underlying22 (hval 0 _ _ rfl rfl)) h0
    obtain ⟨A1, c1, l1, rfl, hc1, hl1, hr1⟩ := reads_i32s (fun x hx => hlt x (by simp [hx])) (okWide_slice Try.underlying41 (hval 1 _ _ rfl rfl)) h1
    obtain ⟨x2, rfl, hx2⟩ := reads_u8 (hval 2 _ _ rfl rfl) h2
    exact textScaled_any l0 l1 x2 A0 A1 c0 c1 W hx2.1 hx2.2 hl0 hl1 hc0 hr0 hr1

theorem textScaled_holds : Rows.TextScaledSaid :=
  OpenClaim.holds_of_wide 8 Try.f8 rfl rfl rfl rfl rfl rfl rfl ⟨rfl, rfl, rfl, rfl, rfl⟩ rfl rfl rfl rfl rfl (by kernel_rfl) Try.func8 (by kernel_rfl)
    (of_decide_eq_true (by kernel_rfl)) (by unfold Func.isWrapper; rw [if_neg (of_decide_eq_false (by kernel_rfl))]; exact ⟨rfl, rfl⟩)
    (fun os started H enc _ => textScaled_lifted os started H enc)
end Go.Proofs.Ytmpcpcagphgopaa
