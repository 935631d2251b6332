/- TextJoined: for every two lists of units and every list of advances, the two texts with an end between them have the words of both, the second ones moved on, and one forced end more. No condition. -/
import Derived.Test.YtmpcpcagphgopaaLjoin
import Derived.Test.YtmpcpcagphgopaaRowu
set_option linter.unusedSimpArgs false
set_option linter.unusedVariables false
namespace Go.Proofs.Ytmpcpcagphgopaa
open Go.ChangeShapes Go.WideShapes Go.ChangeAt Go.RowKit

set_option maxRecDepth 100000 in
theorem textJoined_lifted (os : Os) (started : os.Started) (H : Type) (enc : TypeId × Value → H) :
    ReturnsInHanded {} Try.checked os 7 .any (Rows.textJoinedSpec.pre6 enc Try.prog Try.f7 Rows.textJoinedRow.domain false) (Rows.textJoinedSpec.post enc Try.prog Try.f7 false true false false) := by
  refine law_lifted (tb := 4) started (by kernel_rfl) Try.func7 rfl ?_ (by kernel_rfl) Try.underlying4 (by kernel_rfl)
    (ChangeSpec.witness6 (enc := enc) (C := Try.checked) false ⟨#[], #[.slice none 0 0, .slice none 0 0, .slice none 0 0], []⟩ 8 (by kernel_rfl) (by kernel_rfl) (by kernel_rfl) (by kernel_rfl)) ?_
  · intro ds hd
    match ds, hd with
    | [d0, d1, d2], _ => rfl
  · intro W base args ds ps hval hA hlt _
    rw [Try.params7] at hA hval
    obtain ⟨v0, v1, v2, d0, d1, d2, p0, p1, p2, rfl, rfl, rfl, h0, h1, h2⟩ := trodAll_three hA
    obtain ⟨A0, c0, l0, rfl, hc0, hl0, hr0⟩ := reads_u16s (fun x hx => hlt x (by simp [hx])) (okWide_slice Try.underlying22 (hval 0 _ _ rfl rfl)) h0
    obtain ⟨A1, c1, l1, rfl, hc1, hl1, hr1⟩ := reads_u16s (fun x hx => hlt x (by simp [hx])) (okWide_slice Try.underlying22 (hval 1 _ _ rfl rfl)) h1
    obtain ⟨A2, c2, l2, rfl, hc2, hl2, hr2⟩ := reads_i64s (fun x hx => hlt x (by simp [hx])) (okWide_slice Try.underlying23 (hval 2 _ _ rfl rfl)) h2
    exact textJoined_any l0 l1 l2 A0 A1 A2 c0 c1 c2 W hl0 hl1 hl2 hc0 hc1 hr0 hr1 hr2

theorem textJoined_holds : Rows.TextJoinedSaid :=
  OpenClaim.holds_of_wide 7 Try.f7 rfl rfl rfl rfl rfl rfl rfl ⟨rfl, rfl, rfl, rfl, rfl⟩ rfl rfl rfl rfl rfl (by kernel_rfl) Try.func7 (by kernel_rfl)
    (of_decide_eq_true (by kernel_rfl)) (by unfold Func.isWrapper; rw [if_neg (of_decide_eq_false (by kernel_rfl))]; exact ⟨rfl, rfl⟩)
    (fun os started H enc _ => textJoined_lifted os started H enc)
end Go.Proofs.Ytmpcpcagphgopaa
