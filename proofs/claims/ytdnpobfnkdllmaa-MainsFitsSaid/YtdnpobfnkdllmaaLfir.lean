/- MainsFits: for every list of widths, and whatever grows and shrinks, items that just fit are as wide as they say. No condition. -/
import Derived.Test.YtdnpobfnkdllmaaLfi
import Derived.Test.YtdnpobfnkdllmaaRsm
set_option linter.unusedSimpArgs false
set_option linter.unusedVariables false
namespace Go.Proofs.Ytdnpobfnkdllmaa
open Go.ChangeShapes Go.WideShapes Go.ChangeAt Go.RowKit

set_option maxRecDepth 100000 in
theorem mainsFits_lifted (os : Os) (started : os.Started) (H : Type) (enc : TypeId × Value → H) :
    ReturnsInHanded {} Try.checked os 4 .any (Rows.mainsFitsSpec.pre6 enc Try.prog Try.f4 Rows.mainsFitsRow.domain false) (Rows.mainsFitsSpec.post enc Try.prog Try.f4 false true false false) := by
  refine law_lifted (tb := 4) started (by kernel_rfl) Try.func4 rfl ?_ (by kernel_rfl) Try.underlying4 (by kernel_rfl)
    (ChangeSpec.witness6 (enc := enc) (C := Try.checked) false ⟨#[], #[.slice none 0 0, .int .u8 0, .int .u8 0], []⟩ 8 (by kernel_rfl) (by kernel_rfl) (by kernel_rfl) (by kernel_rfl)) ?_
  · intro ds hd
    match ds, hd with
    | [d0, d1, d2], _ => rfl
  · intro W base args ds ps hval hA hlt _
    rw [Try.params4] at hA hval
    obtain ⟨v0, v1, v2, d0, d1, d2, p0, p1, p2, rfl, rfl, rfl, h0, h1, h2⟩ := trodAll_three hA
    obtain ⟨A0, c0, l0, rfl, hc0, hl0, hr0⟩ := reads_u16s (fun x hx => hlt x (by simp [hx])) (okWide_slice Try.underlying30 (hval 0 _ _ rfl rfl)) h0
    obtain ⟨k1, rfl, hk1⟩ := reads_u8n (hval 1 _ _ rfl rfl) h1
    obtain ⟨k2, rfl, hk2⟩ := reads_u8n (hval 2 _ _ rfl rfl) h2
    exact mainsFits_any l0 k1 k2 A0 c0 W hl0 hk1 hk2 hr0

theorem mainsFits_holds : Rows.MainsFitsSaid :=
  OpenClaim.holds_of_wide 4 Try.f4 rfl rfl rfl rfl rfl rfl rfl ⟨rfl, rfl, rfl, rfl, rfl⟩ rfl rfl rfl rfl rfl (by kernel_rfl) Try.func4 (by kernel_rfl)
    (of_decide_eq_true (by kernel_rfl)) (by unfold Func.isWrapper; rw [if_neg (of_decide_eq_false (by kernel_rfl))]; exact ⟨rfl, rfl⟩)
    (fun os started H enc _ => mainsFits_lifted os started H enc)
end Go.Proofs.Ytdnpobfnkdllmaa
