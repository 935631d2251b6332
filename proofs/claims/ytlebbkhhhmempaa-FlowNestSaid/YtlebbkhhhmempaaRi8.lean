/- Arguments of chapter 22's statements: single small numbers. -/
import Derived.Test.YtlebbkhhhmempaaRi16
import Derived.Carry
set_option linter.unusedSimpArgs false
set_option linter.unusedVariables false
namespace Go.Proofs.Ytlebbkhhhmempaa
open Go.ChangeShapes Go.WideShapes Go.ChangeAt Go.RowKit
section
variable {H : Type} {enc : TypeId × Value → H}
theorem u8_natT {n : Int} (h : (Lit.int .u8 n).wf = true) : ∃ k : Nat, n = k ∧ k < 256 := by
  have h1 : IntKind.u8.min = 0 := rfl
  have h2 : IntKind.u8.max = 255 := rfl
  simp only [Lit.wf, Bool.and_eq_true, decide_eq_true_eq] at h
  exact ⟨n.toNat, by omega, by omega⟩
theorem u16_natT {n : Int} (h : (Lit.int .u16 n).wf = true) : ∃ k : Nat, n = k ∧ k < 65536 := by
  have h1 : IntKind.u16.min = 0 := rfl
  have h2 : IntKind.u16.max = 65535 := rfl
  simp only [Lit.wf, Bool.and_eq_true, decide_eq_true_eq] at h
  exact ⟨n.toNat, by omega, by omega⟩
set_option maxRecDepth 100000 in
theorem reads_u8T {W : World} {base : Nat} {v : Value} {d : DataW H} {ps : List MemPlace} (hv : Value.okWide Try.prog W .any base 5 v) (h : DataW.Trod enc Try.prog W 0 (fun _ => true) true 5 v d ps) :
    ∃ k : Nat, v = .int .u8 k ∧ k < 256 := by
  obtain ⟨x, rfl, rfl, rfl, wx⟩ := open_int Try.underlying5 hv h
  obtain ⟨k, rfl, hk⟩ := u8_natT wx
  exact ⟨k, rfl, hk⟩
set_option maxRecDepth 100000 in
theorem reads_u16T {W : World} {base : Nat} {v : Value} {d : DataW H} {ps : List MemPlace} (hv : Value.okWide Try.prog W .any base 62 v) (h : DataW.Trod enc Try.prog W 0 (fun _ => true) true 62 v d ps) :
    ∃ k : Nat, v = .int .u16 k ∧ k < 65536 := by
  obtain ⟨x, rfl, rfl, rfl, wx⟩ := open_int Try.underlying62 hv h
  obtain ⟨k, rfl, hk⟩ := u16_natT wx
  exact ⟨k, rfl, hk⟩
end
end Go.Proofs.Ytlebbkhhhmempaa
