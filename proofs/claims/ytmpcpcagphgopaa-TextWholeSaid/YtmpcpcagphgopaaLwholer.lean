/- TextWhole: for every list of units and of advances, the words that package text tells, with the spaces and ends between them, are all units, in order, each end counted. No condition. -/
import Derived.Test.YtmpcpcagphgopaaLwhole
import Derived.Test.YtmpcpcagphgopaaRowu
set_option linter.unusedSimpArgs false
set_option linter.unusedVariables false
namespace Go.Proofs.Ytmpcpcagphgopaa
open Go.ChangeShapes Go.WideShapes Go.ChangeAt Go.RowKit

set_option maxRecDepth 100000 in
theorem textWhole_lifted (os : Os) (started : os.Started) (H : Type) (enc : TypeId × Value → H) :
    ReturnsInHanded {} Try.checked os 5 .any (Rows.textWholeSpec.pre6 enc Try.prog Try.f5 Rows.textWholeRow.domain false) (Rows.textWholeSpec.post enc Try.prog Try.f5 false true false false) := by
  refine law_lifted (tb := 4) started (by kernel_rfl) Try.func5 rfl ?_ (by kernel_rfl) Try.underlying4 (by kernel_rfl)
    (ChangeSpec.witness6 (enc := enc) (C := Try.checked) false ⟨#[], #[.slice none 0 0, .slice none 0 0], []⟩ 8 (by kernel_rfl) (by kernel_rfl) (by kernel_rfl) (by kernel_rfl)) ?_
  · intro ds hd
    match ds, hd with
    | [d0, d1], _ => rfl
  · intro W base args ds ps hval hA hlt _
    rw [Try.params5] at hA hval
    obtain ⟨v0, v1, d0, d1, p0, p1, rfl, rfl, rfl, h0, h1⟩ := trodAll_two hA
    obtain ⟨A0, c0, l0, rfl, hc0, hl0, hr0⟩ := reads_u16s (fun x hx => hlt x (by simp [hx])) (okWide_slice Try.underlying22 (hval 0 _ _ rfl rfl)) h0
    obtain ⟨A1, c1, l1, rfl, hc1, hl1, hr1⟩ := reads_i64s (fun x hx => hlt x (by simp [hx])) (okWide_slice Try.underlying23 (hval 1 _ _ rfl rfl)) h1
    exact textWhole_any l0 l1 A0 A1 c0 c1 W hl0 hl1 hc0 hr0 hr1

theorem textWhole_holds : Rows.TextWholeSaid :=
  OpenClaim.holds_of_wide 5 Try.f5 rfl rfl rfl rfl rfl rfl rfl ⟨rfl, rfl, rfl, rfl, rfl⟩ rfl rfl rfl rfl rfl (by kernel_rfl) Try.func5 (by kernel_rfl)
    (of_decide_eq_true (by kernel_rfl)) (by unfold Func.isWrapper; rw [if_neg (of_decide_eq_false (by kernel_rfl))]; exact ⟨rfl, rfl⟩)
    (fun os started H enc _ => textWhole_lifted os started H enc)
end Go.Proofs.Ytmpcpcagphgopaa
