/- MainsFill: for every case the rows hold each item once, in order, within its bounds; a row in which an item stands between its bounds is filled, just. No condition. -/
import Derived.Test.YtdnpobfnkdllmaaLfl
import Derived.Test.YtdnpobfnkdllmaaRowc
set_option linter.unusedSimpArgs false
set_option linter.unusedVariables false
namespace Go.Proofs.Ytdnpobfnkdllmaa
open Go.ChangeShapes Go.WideShapes Go.ChangeAt Go.RowKit

set_option maxRecDepth 100000 in
theorem mainsFill_lifted (os : Os) (started : os.Started) (H : Type) (enc : TypeId × Value → H) :
    ReturnsInHanded {} Try.checked os 6 .any (Rows.mainsFillSpec.pre6 enc Try.prog Try.f6 Rows.mainsFillRow.domain false) (Rows.mainsFillSpec.post enc Try.prog Try.f6 false true false false) := by
  refine law_lifted (tb := 4) started (by kernel_rfl) Try.func6 rfl ?_ (by kernel_rfl) Try.underlying4 (by kernel_rfl)
    (ChangeSpec.witness6 (enc := enc) (C := Try.checked) false ⟨#[], #[.agg (caseCells styD 0 none 0 0 none 0 0).toArray], []⟩ 8 (by kernel_rfl) (by kernel_rfl) (by kernel_rfl) (by kernel_rfl)) ?_
  · intro ds hd
    match ds, hd with
    | [d], _ => rfl
  · intro W base args ds ps hval hA hlt _
    rw [Try.params6] at hA hval
    obtain ⟨v, d, rfl, rfl, h0⟩ := trodAll_one hA
    obtain ⟨s, c, A, Ag, ck, cg, l, got, rfl, hsu, hlu, hr, hg⟩ := reads_case hlt (okWide_struct Try.underlying45 (hval 0 _ _ rfl rfl)) h0
    exact mainsFill_any s c l got A Ag ck cg W hr hlu hsu hg

theorem mainsFill_holds : Rows.MainsFillSaid :=
  OpenClaim.holds_of_wide 6 Try.f6 rfl rfl rfl rfl rfl rfl rfl ⟨rfl, rfl, rfl, rfl, rfl⟩ rfl rfl rfl rfl rfl (by kernel_rfl) Try.func6 (by kernel_rfl)
    (of_decide_eq_true (by kernel_rfl)) (by unfold Func.isWrapper; rw [if_neg (of_decide_eq_false (by kernel_rfl))]; exact ⟨rfl, rfl⟩)
    (fun os started H enc _ => mainsFill_lifted os started H enc)
end Go.Proofs.Ytdnpobfnkdllmaa
