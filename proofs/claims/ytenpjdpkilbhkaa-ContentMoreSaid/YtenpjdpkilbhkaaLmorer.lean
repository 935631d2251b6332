/- ContentMore: for every tree and all contents that the statement speaks of, a child more, or one that wants more, makes no box want less. No condition. -/
import Derived.Test.YtenpjdpkilbhkaaLorderr
import Derived.Test.YtenpjdpkilbhkaaLmore
import Derived.Carry
set_option linter.unusedSimpArgs false
set_option linter.unusedVariables false
namespace Go.Proofs.Ytenpjdpkilbhkaa
open Go.ChangeShapes Go.WideShapes Go.ChangeAt Go.RowKit

section
variable {H : Type} {enc : TypeId × Value → H}
theorem u8_nat {n : Int} (h : (Lit.int .u8 n).wf = true) : ∃ k : Nat, n = k ∧ k < 256 := by
  have h1 : IntKind.u8.min = 0 := rfl
  have h2 : IntKind.u8.max = 255 := rfl
  simp only [Lit.wf, Bool.and_eq_true, decide_eq_true_eq] at h
  exact ⟨n.toNat, by omega, by omega⟩
theorem u16_nat {n : Int} (h : (Lit.int .u16 n).wf = true) : ∃ k : Nat, n = k ∧ k < 65536 := by
  have h1 : IntKind.u16.min = 0 := rfl
  have h2 : IntKind.u16.max = 65535 := rfl
  simp only [Lit.wf, Bool.and_eq_true, decide_eq_true_eq] at h
  exact ⟨n.toNat, by omega, by omega⟩
set_option maxRecDepth 100000 in
theorem reads_u8n {W : World} {base : Nat} {v : Value} {d : DataW H} {ps : List MemPlace} (hv : Value.okWide Try.prog W .any base 5 v) (h : DataW.Trod enc Try.prog W 0 (fun _ => true) true 5 v d ps) :
    ∃ k : Nat, v = .int .u8 k ∧ k < 256 := by
  obtain ⟨x, rfl, rfl, rfl, wx⟩ := open_int Try.underlying5 hv h
  obtain ⟨k, rfl, hk⟩ := u8_nat wx
  exact ⟨k, rfl, hk⟩
set_option maxRecDepth 100000 in
theorem reads_u16n {W : World} {base : Nat} {v : Value} {d : DataW H} {ps : List MemPlace} (hv : Value.okWide Try.prog W .any base 44 v) (h : DataW.Trod enc Try.prog W 0 (fun _ => true) true 44 v d ps) :
    ∃ k : Nat, v = .int .u16 k ∧ k < 65536 := by
  obtain ⟨x, rfl, rfl, rfl, wx⟩ := open_int Try.underlying44 hv h
  obtain ⟨k, rfl, hk⟩ := u16_nat wx
  exact ⟨k, rfl, hk⟩
set_option maxRecDepth 100000 in
theorem cn_good {W : World} {n : Nat} {cs : List Value} {y : DataW H × List MemPlace} (hl : cs.length = 4) (h : DataW.trod enc Try.prog W 0 (fun _ => true) true n 33 cs = some y) : ∃ x, cs = cnCells x ∧ True := by
  match cs, hl with
  | [c0, c1, c2, c3], _ =>
    obtain ⟨m0, y0, x0, -⟩ := struct_field Try.underlying33 h 0 rfl rfl rfl (show Try.prog.cellsOf 2 = 1 by kernel_rfl)
    obtain ⟨n0, e0, -, -⟩ := DataW.trod_int Try.underlying2 x0
    obtain ⟨m1, y1, x1, -⟩ := struct_field Try.underlying33 h 1 rfl rfl rfl (show Try.prog.cellsOf 2 = 1 by kernel_rfl)
    obtain ⟨n1, e1, -, -⟩ := DataW.trod_int Try.underlying2 x1
    obtain ⟨m2, y2, x2, -⟩ := struct_field Try.underlying33 h 2 rfl rfl rfl (show Try.prog.cellsOf 2 = 1 by kernel_rfl)
    obtain ⟨n2, e2, -, -⟩ := DataW.trod_int Try.underlying2 x2
    obtain ⟨m3, y3, x3, -⟩ := struct_field Try.underlying33 h 3 rfl rfl rfl (show Try.prog.cellsOf 2 = 1 by kernel_rfl)
    obtain ⟨n3, e3, -, -⟩ := DataW.trod_int Try.underlying2 x3
    simp at e0 e1 e2 e3
    exact ⟨⟨n0, n1, n2, n3⟩, by rw [e0, e1, e2, e3]; rfl, trivial⟩
end
set_option maxRecDepth 100000 in
theorem contentMore_lifted (os : Os) (started : os.Started) (H : Type) (enc : TypeId × Value → H) :
    ReturnsInHanded {} Try.checked os 5 .any (Rows.contentMoreSpec.pre6 enc Try.prog Try.f5 Rows.contentMoreRow.domain false) (Rows.contentMoreSpec.post enc Try.prog Try.f5 false true false false) := by
  refine law_lifted (tb := 4) started (by kernel_rfl) Try.func5 rfl ?_ (by kernel_rfl) Try.underlying4 (by kernel_rfl)
    (ChangeSpec.witness6 (enc := enc) (C := Try.checked) false ⟨#[], #[.agg #[.slice none 0 0, .slice none 0 0, .int .i64 0], .slice none 0 0, .int .u8 0, .int .u16 0], []⟩ 8 (by kernel_rfl) (by kernel_rfl) (by kernel_rfl) (by kernel_rfl)) ?_
  · intro ds hd
    match ds, hd with
    | [d0, d1, d2, d3], _ => rfl
  · intro W base args ds ps hval hA hlt _
    rw [Try.params5] at hA hval
    obtain ⟨v0, v1, v2, v3, d0, d1, d2, d3, p0, p1, p2, p3, rfl, rfl, rfl, h0, h1, h2, h3⟩ := trodAll_four hA
    obtain ⟨A, c, A2, c2, view, l, adv, rfl, ht⟩ := reads_tree (fun x hx => hlt x (by simp [hx])) (okWide_struct Try.underlying25 (hval 0 _ _ rfl rfl)) h0
    obtain ⟨Ag, cg, got, rfl, hcg, hgg, hg⟩ := reads_list (encd := cnCells) (good := fun _ => True) Try.underlying28 (show Try.prog.cellsOf 33 = 4 by kernel_rfl) (by omega) (fun n cs y hl h => cn_good hl h) (fun x hx => hlt x (by simp [hx])) (okWide_slice Try.underlying28 (hval 1 _ _ rfl rfl)) h1
    obtain ⟨wh, rfl, hwh⟩ := reads_u8n (hval 2 _ _ rfl rfl) h2
    obtain ⟨b, rfl, hb⟩ := reads_u16n (hval 3 _ _ rfl rfl) h3
    exact contentMore_any l adv got A A2 Ag c c2 cg view wh b W ht hg hwh hb

theorem contentMore_holds : Rows.ContentMoreSaid :=
  OpenClaim.holds_of_wide 5 Try.f5 rfl rfl rfl rfl rfl rfl rfl ⟨rfl, rfl, rfl, rfl, rfl⟩ rfl rfl rfl rfl rfl (by kernel_rfl) Try.func5 (by kernel_rfl)
    (of_decide_eq_true (by kernel_rfl)) (by unfold Func.isWrapper; rw [if_neg (of_decide_eq_false (by kernel_rfl))]; exact ⟨rfl, rfl⟩)
    (fun os started H enc _ => contentMore_lifted os started H enc)
end Go.Proofs.Ytenpjdpkilbhkaa
