/- AgainReads: for every tree that the statement speaks of, each box but the node 0 is read of the island that it lies in and, if it is a root, of its own, each Text of just one; nothing else is read. No condition. -/
import Derived.Test.YtjhfcpadnofdnaaGreatRot
import Derived.Test.YtjhfcpadnofdnaaGreatCop
import Derived.Test.YtjhfcpadnofdnaaGreatLagj
set_option linter.unusedSimpArgs false
set_option linter.unusedVariables false
namespace Go.Proofs.YtjhfcpadnofdnaaGreat
open Go.ChangeShapes Go.WideShapes Go.ChangeAt Go.RowKit
set_option maxRecDepth 100000 in
theorem againReads_lifted (os : Os) (started : os.Started) (H : Type) (enc : TypeId × Value → H) :
    ReturnsInHanded {} Tryz.checked os 4 .any (Rows.againReadsSpec.pre6 enc Tryz.prog Tryz.f4 Rows.againReadsRow.domain false) (Rows.againReadsSpec.post enc Tryz.prog Tryz.f4 false true false false) := by
  refine law_lifted (tb := 4) started (by kernel_rfl) Tryz.func4 rfl ?_ (by kernel_rfl) Tryz.underlying4 (by kernel_rfl)
    (ChangeSpec.witness6 (enc := enc) (C := Tryz.checked) false ⟨#[], #[.agg #[.slice none 0 0, .slice none 0 0, .int .i64 0]], []⟩ 8 (by kernel_rfl) (by kernel_rfl) (by kernel_rfl) (by kernel_rfl)) ?_
  · intro ds hd
    match ds, hd with
    | [d], _ => rfl
  · intro W base args ds ps hval hA hlt _
    rw [Tryz.params4] at hA hval
    obtain ⟨v, d, rfl, rfl, h0⟩ := trodAll_one hA
    obtain ⟨A, c, A2, c2, view, l, adv, rfl, ht⟩ := reads_tree hlt (okWide_struct Tryz.underlying25 (hval 0 _ _ rfl rfl)) h0
    exact againReads_of l adv A A2 c c2 view W works30_any ht.nd ht.ad (fun x hx => by obtain ⟨Au, cu, e, _⟩ := ht.un x hx; exact ⟨Au, cu, e⟩)
theorem againReads_holds : Rows.AgainReadsSaid :=
  OpenClaim.holds_of_wide 4 Tryz.f4 rfl rfl rfl rfl rfl rfl rfl ⟨rfl, rfl, rfl, rfl, rfl⟩ rfl rfl rfl rfl rfl (by kernel_rfl) Tryz.func4 againReads_closed
    (of_decide_eq_true (by kernel_rfl)) (by unfold Func.isWrapper; rw [if_neg (of_decide_eq_false (by kernel_rfl))]; exact ⟨rfl, rfl⟩)
    (fun os started H enc _ => againReads_lifted os started H enc)
end Go.Proofs.YtjhfcpadnofdnaaGreat
