/- MainsWrap: for every case, with Wrap each row but the last would not have had room for the next item, and a row of more than one item has room for all guesses. No condition. -/
import Derived.Test.YtdnpobfnkdllmaaLw
import Derived.Test.YtdnpobfnkdllmaaRowc
set_option linter.unusedSimpArgs false
set_option linter.unusedVariables false
namespace Go.Proofs.Ytdnpobfnkdllmaa
open Go.ChangeShapes Go.WideShapes Go.ChangeAt Go.RowKit

set_option maxRecDepth 100000 in
theorem mainsWrap_lifted (os : Os) (started : os.Started) (H : Type) (enc : TypeId × Value → H) :
    ReturnsInHanded {} Try.checked os 7 .any (Rows.mainsWrapSpec.pre6 enc Try.prog Try.f7 Rows.mainsWrapRow.domain false) (Rows.mainsWrapSpec.post enc Try.prog Try.f7 false true false false) := by
  refine law_lifted (tb := 4) started (by kernel_rfl) Try.func7 rfl ?_ (by kernel_rfl) Try.underlying4 (by kernel_rfl)
    (ChangeSpec.witness6 (enc := enc) (C := Try.checked) false ⟨#[], #[.agg (caseCells styD 0 none 0 0 none 0 0).toArray], []⟩ 8 (by kernel_rfl) (by kernel_rfl) (by kernel_rfl) (by kernel_rfl)) ?_
  · intro ds hd
    match ds, hd with
    | [d], _ => rfl
  · intro W base args ds ps hval hA hlt _
    rw [Try.params7] at hA hval
    obtain ⟨v, d, rfl, rfl, h0⟩ := trodAll_one hA
    obtain ⟨s, c, A, Ag, ck, cg, l, got, rfl, hsu, hlu, hr, hg⟩ := reads_case hlt (okWide_struct Try.underlying45 (hval 0 _ _ rfl rfl)) h0
    exact mainsWrap_any s c l got A Ag ck cg W hr hlu hsu hg

theorem mainsWrap_holds : Rows.MainsWrapSaid :=
  OpenClaim.holds_of_wide 7 Try.f7 rfl rfl rfl rfl rfl rfl rfl ⟨rfl, rfl, rfl, rfl, rfl⟩ rfl rfl rfl rfl rfl (by kernel_rfl) Try.func7 (by kernel_rfl)
    (of_decide_eq_true (by kernel_rfl)) (by unfold Func.isWrapper; rw [if_neg (of_decide_eq_false (by kernel_rfl))]; exact ⟨rfl, rfl⟩)
    (fun os started H enc _ => mainsWrap_lifted os started H enc)
end Go.Proofs.Ytdnpobfnkdllmaa
