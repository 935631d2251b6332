/- MainsShares: for every width, every list of factors and every base, items without bounds that grow share the rest. No condition. -/
import Derived.Test.YtdnpobfnkdllmaaLs
import Derived.Test.YtdnpobfnkdllmaaRsm
set_option linter.unusedSimpArgs false
set_option linter.unusedVariables false
namespace Go.Proofs.Ytdnpobfnkdllmaa
open Go.ChangeShapes Go.WideShapes Go.ChangeAt Go.RowKit

set_option maxRecDepth 100000 in
theorem mainsShares_lifted (os : Os) (started : os.Started) (H : Type) (enc : TypeId × Value → H) :
    ReturnsInHanded {} Try.checked os 3 .any (Rows.mainsSharesSpec.pre6 enc Try.prog Try.f3 Rows.mainsSharesRow.domain false) (Rows.mainsSharesSpec.post enc Try.prog Try.f3 false true false false) := by
  refine law_lifted (tb := 4) started (by kernel_rfl) Try.func3 rfl ?_ (by kernel_rfl) Try.underlying4 (by kernel_rfl)
    (ChangeSpec.witness6 (enc := enc) (C := Try.checked) false ⟨#[], #[.int .u32 0, .slice none 0 0, .int .u8 0], []⟩ 8 (by kernel_rfl) (by kernel_rfl) (by kernel_rfl) (by kernel_rfl)) ?_
  · intro ds hd
    match ds, hd with
    | [d0, d1, d2], _ => rfl
  · intro W base args ds ps hval hA hlt _
    rw [Try.params3] at hA hval
    obtain ⟨v0, v1, v2, d0, d1, d2, p0, p1, p2, rfl, rfl, rfl, h0, h1, h2⟩ := trodAll_three hA
    obtain ⟨k0, rfl, hk0⟩ := reads_u32n (hval 0 _ _ rfl rfl) h0
    obtain ⟨A1, c1, l1, rfl, hc1, hl1, hr1⟩ := reads_u8s (fun x hx => hlt x (by simp [hx])) (okWide_slice Try.underlying23 (hval 1 _ _ rfl rfl)) h1
    obtain ⟨k2, rfl, hk2⟩ := reads_u8n (hval 2 _ _ rfl rfl) h2
    exact mainsShares_any k0 l1 k2 A1 c1 W hk0 hl1 hk2 hr1

theorem mainsShares_holds : Rows.MainsSharesSaid :=
  OpenClaim.holds_of_wide 3 Try.f3 rfl rfl rfl rfl rfl rfl rfl ⟨rfl, rfl, rfl, rfl, rfl⟩ rfl rfl rfl rfl rfl (by kernel_rfl) Try.func3 (by kernel_rfl)
    (of_decide_eq_true (by kernel_rfl)) (by unfold Func.isWrapper; rw [if_neg (of_decide_eq_false (by kernel_rfl))]; exact ⟨rfl, rfl⟩)
    (fun os started H enc _ => mainsShares_lifted os started H enc)
end Go.Proofs.Ytdnpobfnkdllmaa
