/- DequeOnce: for every room and every list of moves, what was put is what was got and what is there at the end, each once; thieves get in order; who lost was robbed. No condition. -/
import Derived.Test.YtdigjppdgiapfaaLonce
import Derived.Test.YtdigjppdgiapfaaMv
set_option linter.unusedSimpArgs false
set_option linter.unusedVariables false
namespace Go.Proofs.Ytdigjppdgiapfaa
open Go.ChangeShapes Go.WideShapes Go.ChangeAt Go.RowKit

set_option maxRecDepth 100000 in
theorem dequeOnce_lifted (os : Os) (started : os.Started) (H : Type) (enc : TypeId × Value → H) :
    ReturnsInHanded {} Try.checked os 4 .any (Rows.dequeOnceSpec.pre6 enc Try.prog Try.f4 Rows.dequeOnceRow.domain false) (Rows.dequeOnceSpec.post enc Try.prog Try.f4 false true false false) := by
  refine law_lifted (tb := 4) started (by kernel_rfl) Try.func4 rfl ?_ (by kernel_rfl) Try.underlying4 (by kernel_rfl)
    (ChangeSpec.witness6 (enc := enc) (C := Try.checked) false ⟨#[], #[.int .u8 0, .slice none 0 0], []⟩ 8 (by kernel_rfl) (by kernel_rfl) (by kernel_rfl) (by kernel_rfl)) ?_
  · intro ds hd
    match ds, hd with
    | [d0, d1], _ => rfl
  · intro W base args ds ps hval hA hlt _
    rw [Try.params4] at hA hval
    obtain ⟨v0, v1, d0, d1, p0, p1, rfl, rfl, rfl, h0, h1⟩ := trodAll_two hA
    obtain ⟨x0, rfl, hx0⟩ := reads_u8 (hval 0 _ _ rfl rfl) h0
    obtain ⟨A1, c1, l1, rfl, hc1, hl1, hr1⟩ := reads_moves (fun x hx => hlt x (by simp [hx])) (okWide_slice Try.underlying22 (hval 1 _ _ rfl rfl)) h1
    exact dequeOnce_any x0 l1 A1 c1 W hx0 hl1 hr1

theorem dequeOnce_holds : Rows.DequeOnceSaid :=
  OpenClaim.holds_of_wide 4 Try.f4 rfl rfl rfl rfl rfl rfl rfl ⟨rfl, rfl, rfl, rfl, rfl⟩ rfl rfl rfl rfl rfl (by kernel_rfl) Try.func4 (by kernel_rfl)
    (of_decide_eq_true (by kernel_rfl)) (by unfold Func.isWrapper; rw [if_neg (of_decide_eq_false (by kernel_rfl))]; exact ⟨rfl, rfl⟩)
    (fun os started H enc _ => dequeOnce_lifted os started H enc)
end Go.Proofs.Ytdigjppdgiapfaa
