/- TextWords: for every list of units and of advances, package text's words and widths, and whether one was beyond, are those that the document's answer tells; the units stay. No condition. -/
import Derived.Test.YtmpcpcagphgopaaLwords
import Derived.Test.YtmpcpcagphgopaaRowu
set_option linter.unusedSimpArgs false
set_option linter.unusedVariables false
namespace Go.Proofs.Ytmpcpcagphgopaa
open Go.ChangeShapes Go.WideShapes Go.ChangeAt Go.RowKit

set_option maxRecDepth 100000 in
theorem textWords_lifted (os : Os) (started : os.Started) (H : Type) (enc : TypeId × Value → H) :
    ReturnsInHanded {} Try.checked os 3 .any (Rows.textWordsSpec.pre6 enc Try.prog Try.f3 Rows.textWordsRow.domain false) (Rows.textWordsSpec.post enc Try.prog Try.f3 false true false false) := by
  refine law_lifted (tb := 4) started (by kernel_rfl) Try.func3 rfl ?_ (by kernel_rfl) Try.underlying4 (by kernel_rfl)
    (ChangeSpec.witness6 (enc := enc) (C := Try.checked) false ⟨#[], #[.slice none 0 0, .slice none 0 0], []⟩ 8 (by kernel_rfl) (by kernel_rfl) (by kernel_rfl) (by kernel_rfl)) ?_
  · intro ds hd
    match ds, hd with
    | [d, d'], _ => rfl
  · intro W base args ds ps hval hA hlt _
    rw [Try.params3] at hA hval
    obtain ⟨v0, v1, d0, d1, p0, p1, rfl, rfl, rfl, h0, h1⟩ := trodAll_two hA
    obtain ⟨A, c, l, rfl, hcap, hl, hr⟩ := reads_u16s (fun x hx => hlt x (by simp [hx])) (okWide_slice Try.underlying22 (hval 0 _ _ rfl rfl)) h0
    obtain ⟨B, d, t, rfl, hcap', ht, hr'⟩ := reads_i64s (fun x hx => hlt x (by simp [hx])) (okWide_slice Try.underlying23 (hval 1 _ _ rfl rfl)) h1
    exact textWords_any l t A B c d W hl ht hcap hr hr'

theorem textWords_holds : Rows.TextWordsSaid :=
  OpenClaim.holds_of_wide 3 Try.f3 rfl rfl rfl rfl rfl rfl rfl ⟨rfl, rfl, rfl, rfl, rfl⟩ rfl rfl rfl rfl rfl (by kernel_rfl) Try.func3 (by kernel_rfl)
    (of_decide_eq_true (by kernel_rfl)) (by unfold Func.isWrapper; rw [if_neg (of_decide_eq_false (by kernel_rfl))]; exact ⟨rfl, rfl⟩)
    (fun os started H enc _ => textWords_lifted os started H enc)
end Go.Proofs.Ytmpcpcagphgopaa
