/- AssignPlays: for every tree, width and contents that the statement speaks of, what assign gives the children of any node is what the document says. No condition. -/
import Derived.Test.YtbopeofglhkffaaRot
import Derived.Test.YtbopeofglhkffaaApl
set_option linter.unusedSimpArgs false
set_option linter.unusedVariables false
namespace Go.Proofs.Ytbopeofglhkffaa
open Go.ChangeShapes Go.WideShapes Go.ChangeAt Go.RowKit
set_option maxRecDepth 100000 in
theorem assignPlays_lifted (os : Os) (started : os.Started) (H : Type) (enc : TypeId × Value → H) :
    ReturnsInHanded {} Try.checked os 3 .any (Rows.assignPlaysSpec.pre6 enc Try.prog Try.f3 Rows.assignPlaysRow.domain false) (Rows.assignPlaysSpec.post enc Try.prog Try.f3 false true false false) := by
  refine law_lifted (tb := 4) started (by kernel_rfl) Try.func3 rfl ?_ (by kernel_rfl) Try.underlying4 (by kernel_rfl)
    (ChangeSpec.witness6 (enc := enc) (C := Try.checked) false ⟨#[], #[.agg #[.slice none 0 0, .slice none 0 0, .int .i64 0], .agg #[.int .i64 0, .int .i64 0, .int .i64 0], .slice none 0 0], []⟩ 8 (by kernel_rfl) (by kernel_rfl) (by kernel_rfl) (by kernel_rfl)) ?_
  · intro ds hd
    match ds, hd with
    | [d0, d1, d2], _ => rfl
  · intro W base args ds ps hval hA hlt _
    rw [Try.params3] at hA hval
    obtain ⟨v0, v1, v2, d0, d1, d2, p0, p1, p2, rfl, rfl, rfl, h0, h1, h2⟩ := trodAll_three hA
    obtain ⟨A, c, A2, c2, view, l, adv, rfl, ht⟩ := reads_tree (fun x hx => hlt x (by simp [hx])) (okWide_struct Try.underlying25 (hval 0 _ _ rfl rfl)) h0
    obtain ⟨u1, u2, u3, rfl⟩ := reads_used (okWide_struct Try.underlying27 (hval 1 _ _ rfl rfl)) h1
    obtain ⟨Ag, cg, got, rfl, hcg, hgg, hg⟩ := reads_list (encd := cnCells) (good := fun _ => True) Try.underlying28 (show Try.prog.cellsOf 45 = 4 by kernel_rfl) (by omega) (fun n cs y hl h => cn_good hl h) (fun x hx => hlt x (by simp [hx])) (okWide_slice Try.underlying28 (hval 2 _ _ rfl rfl)) h2
    exact assignPlays_any l adv A A2 Ag c c2 cg view u1 u2 u3 got W ht.nd ht.ad (fun x hx => by obtain ⟨Au, cu, e, _⟩ := ht.un x hx; exact ⟨Au, cu, e⟩) hg (by omega)
theorem assignPlays_holds : Rows.AssignPlaysSaid :=
  OpenClaim.holds_of_wide 3 Try.f3 rfl rfl rfl rfl rfl rfl rfl ⟨rfl, rfl, rfl, rfl, rfl⟩ rfl rfl rfl rfl rfl (by kernel_rfl) Try.func3 (by kernel_rfl)
    (of_decide_eq_true (by kernel_rfl)) (by unfold Func.isWrapper; rw [if_neg (of_decide_eq_false (by kernel_rfl))]; exact ⟨rfl, rfl⟩)
    (fun os started H enc _ => assignPlays_lifted os started H enc)
end Go.Proofs.Ytbopeofglhkffaa
