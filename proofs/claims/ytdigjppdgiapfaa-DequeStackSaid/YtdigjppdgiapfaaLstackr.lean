/- DequeStack: without thieves, for every room and every list of pushes and pops, the deque is a stack of so much room. No condition. -/
import Derived.Test.YtdigjppdgiapfaaLstack
import Derived.Test.YtdigjppdgiapfaaRowb
set_option linter.unusedSimpArgs false
set_option linter.unusedVariables false
namespace Go.Proofs.Ytdigjppdgiapfaa
open Go.ChangeShapes Go.WideShapes Go.ChangeAt Go.RowKit

set_option maxRecDepth 100000 in
theorem dequeStack_lifted (os : Os) (started : os.Started) (H : Type) (enc : TypeId × Value → H) :
    ReturnsInHanded {} Try.checked os 5 .any (Rows.dequeStackSpec.pre6 enc Try.prog Try.f5 Rows.dequeStackRow.domain false) (Rows.dequeStackSpec.post enc Try.prog Try.f5 false true false false) := by
  refine law_lifted (tb := 4) started (by kernel_rfl) Try.func5 rfl ?_ (by kernel_rfl) Try.underlying4 (by kernel_rfl)
    (ChangeSpec.witness6 (enc := enc) (C := Try.checked) false ⟨#[], #[.int .u8 0, .slice none 0 0], []⟩ 8 (by kernel_rfl) (by kernel_rfl) (by kernel_rfl) (by kernel_rfl)) ?_
  · intro ds hd
    match ds, hd with
    | [d0, d1], _ => rfl
  · intro W base args ds ps hval hA hlt _
    rw [Try.params5] at hA hval
    obtain ⟨v0, v1, d0, d1, p0, p1, rfl, rfl, rfl, h0, h1⟩ := trodAll_two hA
    obtain ⟨x0, rfl, hx0⟩ := reads_u8 (hval 0 _ _ rfl rfl) h0
    obtain ⟨A1, c1, l1, rfl, hc1, hl1, hr1⟩ := reads_bools (fun x hx => hlt x (by simp [hx])) (okWide_slice Try.underlying52 (hval 1 _ _ rfl rfl)) h1
    exact dequeStack_any x0 l1 A1 c1 W hx0 hr1

theorem dequeStack_holds : Rows.DequeStackSaid :=
  OpenClaim.holds_of_wide 5 Try.f5 rfl rfl rfl rfl rfl rfl rfl ⟨rfl, rfl, rfl, rfl, rfl⟩ rfl rfl rfl rfl rfl (by kernel_rfl) Try.func5 (by kernel_rfl)
    (of_decide_eq_true (by kernel_rfl)) (by unfold Func.isWrapper; rw [if_neg (of_decide_eq_false (by kernel_rfl))]; exact ⟨rfl, rfl⟩)
    (fun os started H enc _ => dequeStack_lifted os started H enc)
end Go.Proofs.Ytdigjppdgiapfaa
