/- DequePlays: for every room and every list of moves the program's deque steps, ends and holds tasks as the document's does. No condition. -/
import Derived.Test.YtdigjppdgiapfaaLplays
import Derived.Test.YtdigjppdgiapfaaMv
set_option linter.unusedSimpArgs false
set_option linter.unusedVariables false
namespace Go.Proofs.Ytdigjppdgiapfaa
open Go.ChangeShapes Go.WideShapes Go.ChangeAt Go.RowKit

set_option maxRecDepth 100000 in
theorem dequePlays_lifted (os : Os) (started : os.Started) (H : Type) (enc : TypeId × Value → H) :
    ReturnsInHanded {} Try.checked os 3 .any (Rows.dequePlaysSpec.pre6 enc Try.prog Try.f3 Rows.dequePlaysRow.domain false) (Rows.dequePlaysSpec.post enc Try.prog Try.f3 false true false false) := by
  refine law_lifted (tb := 4) started (by kernel_rfl) Try.func3 rfl ?_ (by kernel_rfl) Try.underlying4 (by kernel_rfl)
    (ChangeSpec.witness6 (enc := enc) (C := Try.checked) false ⟨#[], #[.int .u8 0, .slice none 0 0], []⟩ 8 (by kernel_rfl) (by kernel_rfl) (by kernel_rfl) (by kernel_rfl)) ?_
  · intro ds hd
    match ds, hd with
    | [d0, d1], _ => rfl
  · intro W base args ds ps hval hA hlt _
    rw [Try.params3] at hA hval
    obtain ⟨v0, v1, d0, d1, p0, p1, rfl, rfl, rfl, h0, h1⟩ := trodAll_two hA
    obtain ⟨x0, rfl, hx0⟩ := reads_u8 (hval 0 _ _ rfl rfl) h0
    obtain ⟨A1, c1, l1, rfl, hc1, hl1, hr1⟩ := reads_moves (fun x hx => hlt x (by simp [hx])) (okWide_slice Try.underlying22 (hval 1 _ _ rfl rfl)) h1
    exact dequePlays_any x0 l1 A1 c1 W hx0 hl1 hr1

theorem dequePlays_holds : Rows.DequePlaysSaid :=
  OpenClaim.holds_of_wide 3 Try.f3 rfl rfl rfl rfl rfl rfl rfl ⟨rfl, rfl, rfl, rfl, rfl⟩ rfl rfl rfl rfl rfl (by kernel_rfl) Try.func3 (by kernel_rfl)
    (of_decide_eq_true (by kernel_rfl)) (by unfold Func.isWrapper; rw [if_neg (of_decide_eq_false (by kernel_rfl))]; exact ⟨rfl, rfl⟩)
    (fun os started H enc _ => dequePlays_lifted os started H enc)
end Go.Proofs.Ytdigjppdgiapfaa
