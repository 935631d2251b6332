/- AssignAlone: for every tree, width, contents and number that the statement speaks of, what a block gives a child hangs on nothing but that child, and wider contents make no child narrower. No condition. -/
import Derived.Test.YtdnpobfnkdllmaaRot
import Derived.Test.YtdnpobfnkdllmaaAsl
set_option linter.unusedSimpArgs false
set_option linter.unusedVariables false
namespace Go.Proofs.Ytdnpobfnkdllmaa
open Go.ChangeShapes Go.WideShapes Go.ChangeAt Go.RowKit

set_option maxRecDepth 100000 in
theorem assignAlone_lifted (os : Os) (started : os.Started) (H : Type) (enc : TypeId × Value → H) :
    ReturnsInHanded {} Try.checked os 10 .any (Rows.assignAloneSpec.pre6 enc Try.prog Try.f10 Rows.assignAloneRow.domain false) (Rows.assignAloneSpec.post enc Try.prog Try.f10 false true false false) := by
  refine law_lifted (tb := 4) started (by kernel_rfl) Try.func10 rfl ?_ (by kernel_rfl) Try.underlying4 (by kernel_rfl)
    (ChangeSpec.witness6 (enc := enc) (C := Try.checked) false ⟨#[], #[.agg #[.slice none 0 0, .slice none 0 0, .int .i64 0], .agg #[.int .i64 0, .int .i64 0, .int .i64 0], .slice none 0 0, .int .u16 0], []⟩ 8 (by kernel_rfl) (by kernel_rfl) (by kernel_rfl) (by kernel_rfl)) ?_
  · intro ds hd
    match ds, hd with
    | [d0, d1, d2, d3], _ => rfl
  · intro W base args ds ps hval hA hlt _
    rw [Try.params10] at hA hval
    obtain ⟨v0, v1, v2, v3, d0, d1, d2, d3, p0, p1, p2, p3, rfl, rfl, rfl, h0, h1, h2, h3⟩ := trodAll_four hA
    obtain ⟨A, c, A2, c2, view, l, adv, rfl, ht⟩ := reads_tree (fun x hx => hlt x (by simp [hx])) (okWide_struct Try.underlying64 (hval 0 _ _ rfl rfl)) h0
    obtain ⟨u1, u2, u3, rfl⟩ := reads_used (okWide_struct Try.underlying39 (hval 1 _ _ rfl rfl)) h1
    obtain ⟨Ag, cg, got, rfl, hcg, hgg, hg⟩ := reads_list (encd := cnCells) (good := fun _ => True) Try.underlying43 (show Try.prog.cellsOf 53 = 4 by kernel_rfl) (by omega) (fun n cs y hl h => cn_good hl h) (fun x hx => hlt x (by simp [hx])) (okWide_slice Try.underlying43 (hval 2 _ _ rfl rfl)) h2
    obtain ⟨b, rfl, hb⟩ := reads_u16n (hval 3 _ _ rfl rfl) h3
    exact assignAlone_any l adv A A2 Ag c c2 cg view u1 u2 u3 got b W ht.nd ht.ad (fun x hx => by obtain ⟨Au, cu, e, _⟩ := ht.un x hx; exact ⟨Au, cu, e⟩) hg hb

theorem assignAlone_holds : Rows.AssignAloneSaid :=
  OpenClaim.holds_of_wide 10 Try.f10 rfl rfl rfl rfl rfl rfl rfl ⟨rfl, rfl, rfl, rfl, rfl⟩ rfl rfl rfl rfl rfl (by kernel_rfl) Try.func10 (by kernel_rfl)
    (of_decide_eq_true (by kernel_rfl)) (by unfold Func.isWrapper; rw [if_neg (of_decide_eq_false (by kernel_rfl))]; exact ⟨rfl, rfl⟩)
    (fun os started H enc _ => assignAlone_lifted os started H enc)
end Go.Proofs.Ytdnpobfnkdllmaa
