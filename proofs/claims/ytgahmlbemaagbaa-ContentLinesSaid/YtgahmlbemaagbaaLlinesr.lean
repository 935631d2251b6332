/- ContentLines: for every two lists of bytes and every width of a space, a box of one text wants just its words' widths. No condition. -/
import Derived.Test.YtgahmlbemaagbaaLlines
import Derived.Test.YtgahmlbemaagbaaRowk
import Derived.Carry
set_option linter.unusedSimpArgs false
set_option linter.unusedVariables false
namespace Go.Proofs.Ytgahmlbemaagbaa
open Go.ChangeShapes Go.WideShapes Go.ChangeAt Go.RowKit

section
variable {H : Type} {enc : TypeId × Value → H}
theorem u8_nat {n : Int} (h : (Lit.int .u8 n).wf = true) : ∃ k : Nat, n = k ∧ k < 256 := by
  have h1 : IntKind.u8.min = 0 := rfl
  have h2 : IntKind.u8.max = 255 := rfl
  simp only [Lit.wf, Bool.and_eq_true, decide_eq_true_eq] at h
  exact ⟨n.toNat, by omega, by omega⟩
theorem u16_nat {n : Int} (h : (Lit.int .u16 n).wf = true) : ∃ k : Nat, n = k ∧ k < 65536 := by
  have h1 : IntKind.u16.min = 0 := rfl
  have h2 : IntKind.u16.max = 65535 := rfl
  simp only [Lit.wf, Bool.and_eq_true, decide_eq_true_eq] at h
  exact ⟨n.toNat, by omega, by omega⟩
set_option maxRecDepth 100000 in
theorem reads_u16n {W : World} {base : Nat} {v : Value} {d : DataW H} {ps : List MemPlace} (hv : Value.okWide Try.prog W .any base 23 v) (h : DataW.Trod enc Try.prog W 0 (fun _ => true) true 23 v d ps) :
    ∃ k : Nat, v = .int .u16 k ∧ k < 65536 := by
  obtain ⟨x, rfl, rfl, rfl, wx⟩ := open_int Try.underlying23 hv h
  obtain ⟨k, rfl, hk⟩ := u16_nat wx
  exact ⟨k, rfl, hk⟩
theorem flat_nat (f : Nat → Value) (l : List Nat) : l.flatMap (fun x => [f x]) = l.map f := by
  induction l with
  | nil => rfl
  | cons a t ih => simp [List.flatMap_cons, ih]
theorem reads_u8s {W : World} {v : Value} {d : DataW H} {ps : List MemPlace} (hlt : ∀ x ∈ ps, x.block < W.heap.size) (hv : ∃ A len c, v = .slice A len c) (h : DataW.Trod enc Try.prog W 0 (fun _ => true) true 22 v d ps) :
    ∃ A c, ∃ l : List Nat, v = .slice A l.length c ∧ l.length ≤ c ∧ (∀ x ∈ l, x < 256) ∧ Reads W W.heap.size 1 A l.length (u8s l) := by
  obtain ⟨A, c, l, e, hc, hg, hr⟩ := reads_list (encd := fun (x : Nat) => [Value.int .u8 (x : Int)]) (good := fun x => x < 256) Try.underlying22 (show Try.prog.cellsOf 5 = 1 by kernel_rfl) (by omega) (fun n cs y hl h => by
    obtain ⟨x, e, -, hw⟩ := DataW.trod_int Try.underlying5 h
    obtain ⟨k, rfl, hk⟩ := u8_nat hw
    exact ⟨k, e, hk⟩) hlt hv h
  rw [flat_nat] at hr
  exact ⟨A, c, l, e, hc, hg, hr⟩
end
set_option maxRecDepth 100000 in
theorem contentLines_lifted (os : Os) (started : os.Started) (H : Type) (enc : TypeId × Value → H) :
    ReturnsInHanded {} Try.checked os 3 .any (Rows.contentLinesSpec.pre6 enc Try.prog Try.f3 Rows.contentLinesRow.domain false) (Rows.contentLinesSpec.post enc Try.prog Try.f3 false true false false) := by
  refine law_lifted (tb := 4) started (by kernel_rfl) Try.func3 rfl ?_ (by kernel_rfl) Try.underlying4 (by kernel_rfl)
    (ChangeSpec.witness6 (enc := enc) (C := Try.checked) false ⟨#[], #[.slice none 0 0, .slice none 0 0, .int .u16 0], []⟩ 8 (by kernel_rfl) (by kernel_rfl) (by kernel_rfl) (by kernel_rfl)) ?_
  · intro ds hd
    match ds, hd with
    | [d0, d1, d2], _ => rfl
  · intro W base args ds ps hval hA hlt _
    rw [Try.params3] at hA hval
    obtain ⟨v0, v1, v2, d0, d1, d2, p0, p1, p2, rfl, rfl, rfl, h0, h1, h2⟩ := trodAll_three hA
    obtain ⟨A0, c0, l0, rfl, hc0, hl0, hr0⟩ := reads_u8s (fun x hx => hlt x (by simp [hx])) (okWide_slice Try.underlying22 (hval 0 _ _ rfl rfl)) h0
    obtain ⟨A1, c1, l1, rfl, hc1, hl1, hr1⟩ := reads_u8s (fun x hx => hlt x (by simp [hx])) (okWide_slice Try.underlying22 (hval 1 _ _ rfl rfl)) h1
    obtain ⟨k, rfl, hk⟩ := reads_u16n (hval 2 _ _ rfl rfl) h2
    exact contentLines_any l0 l1 k A0 A1 c0 c1 W hl0 hl1 hk hr0 hr1

theorem contentLines_holds : Rows.ContentLinesSaid :=
  OpenClaim.holds_of_wide 3 Try.f3 rfl rfl rfl rfl rfl rfl rfl ⟨rfl, rfl, rfl, rfl, rfl⟩ rfl rfl rfl rfl rfl (by kernel_rfl) Try.func3 (by kernel_rfl)
    (of_decide_eq_true (by kernel_rfl)) (by unfold Func.isWrapper; rw [if_neg (of_decide_eq_false (by kernel_rfl))]; exact ⟨rfl, rfl⟩)
    (fun os started H enc _ => contentLines_lifted os started H enc)
end Go.Proofs.Ytgahmlbemaagbaa
