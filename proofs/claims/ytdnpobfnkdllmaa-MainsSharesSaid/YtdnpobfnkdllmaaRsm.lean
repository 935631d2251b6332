/- Arguments of chapter 19's laws of small numbers. -/
import Derived.Test.YtdnpobfnkdllmaaMu
import Derived.Test.YtdnpobfnkdllmaaRowk
import Derived.Carry
set_option linter.unusedSimpArgs false
set_option linter.unusedVariables false
namespace Go.Proofs.Ytdnpobfnkdllmaa
open Go.ChangeShapes Go.WideShapes Go.ChangeAt Go.RowKit

section
variable {H : Type} {enc : TypeId × Value → H}
theorem u8_nat {n : Int} (h : (Lit.int .u8 n).wf = true) : ∃ k : Nat, n = k ∧ k < 256 := by
  have h1 : IntKind.u8.min = 0 := rfl
  have h2 : IntKind.u8.max = 255 := rfl
  simp only [Lit.wf, Bool.and_eq_true, decide_eq_true_eq] at h
  exact ⟨n.toNat, by omega, by omega⟩
theorem u16_nat {n : Int} (h : (Lit.int .u16 n).wf = true) : ∃ k : Nat, n = k ∧ k < 65536 := by
  have h1 : IntKind.u16.min = 0 := rfl
  have h2 : IntKind.u16.max = 65535 := rfl
  simp only [Lit.wf, Bool.and_eq_true, decide_eq_true_eq] at h
  exact ⟨n.toNat, by omega, by omega⟩
theorem u32_nat {n : Int} (h : (Lit.int .u32 n).wf = true) : ∃ k : Nat, n = k ∧ k < 4294967296 := by
  have h1 : IntKind.u32.min = 0 := rfl
  have h2 : IntKind.u32.max = 4294967295 := rfl
  simp only [Lit.wf, Bool.and_eq_true, decide_eq_true_eq] at h
  exact ⟨n.toNat, by omega, by omega⟩
set_option maxRecDepth 100000 in
theorem reads_u8n {W : World} {base : Nat} {v : Value} {d : DataW H} {ps : List MemPlace} (hv : Value.okWide Try.prog W .any base 5 v) (h : DataW.Trod enc Try.prog W 0 (fun _ => true) true 5 v d ps) :
    ∃ k : Nat, v = .int .u8 k ∧ k < 256 := by
  obtain ⟨x, rfl, rfl, rfl, wx⟩ := open_int Try.underlying5 hv h
  obtain ⟨k, rfl, hk⟩ := u8_nat wx
  exact ⟨k, rfl, hk⟩
set_option maxRecDepth 100000 in
theorem reads_u32n {W : World} {base : Nat} {v : Value} {d : DataW H} {ps : List MemPlace} (hv : Value.okWide Try.prog W .any base 22 v) (h : DataW.Trod enc Try.prog W 0 (fun _ => true) true 22 v d ps) :
    ∃ k : Nat, v = .int .u32 k ∧ k < 4294967296 := by
  obtain ⟨x, rfl, rfl, rfl, wx⟩ := open_int Try.underlying22 hv h
  obtain ⟨k, rfl, hk⟩ := u32_nat wx
  exact ⟨k, rfl, hk⟩
theorem flat_nat (f : Nat → Value) (l : List Nat) : l.flatMap (fun x => [f x]) = l.map f := by
  induction l with
  | nil => rfl
  | cons a t ih => simp [List.flatMap_cons, ih]
theorem reads_u8s {W : World} {v : Value} {d : DataW H} {ps : List MemPlace} (hlt : ∀ x ∈ ps, x.block < W.heap.size) (hv : ∃ A len c, v = .slice A len c) (h : DataW.Trod enc Try.prog W 0 (fun _ => true) true 23 v d ps) :
    ∃ A c, ∃ l : List Nat, v = .slice A l.length c ∧ l.length ≤ c ∧ (∀ x ∈ l, x < 256) ∧ Reads W W.heap.size 1 A l.length (u8c l) := by
  obtain ⟨A, c, l, e, hc, hg, hr⟩ := reads_list (encd := fun (x : Nat) => [Value.int .u8 (x : Int)]) (good := fun x => x < 256) Try.underlying23 (show Try.prog.cellsOf 5 = 1 by kernel_rfl) (by omega) (fun n cs y hl h => by
    obtain ⟨x, e, -, hw⟩ := DataW.trod_int Try.underlying5 h
    obtain ⟨k, rfl, hk⟩ := u8_nat hw
    exact ⟨k, e, hk⟩) hlt hv h
  rw [flat_nat] at hr
  exact ⟨A, c, l, e, hc, hg, hr⟩
theorem reads_u16s {W : World} {v : Value} {d : DataW H} {ps : List MemPlace} (hlt : ∀ x ∈ ps, x.block < W.heap.size) (hv : ∃ A len c, v = .slice A len c) (h : DataW.Trod enc Try.prog W 0 (fun _ => true) true 30 v d ps) :
    ∃ A c, ∃ l : List Nat, v = .slice A l.length c ∧ l.length ≤ c ∧ (∀ x ∈ l, x < 65536) ∧ Reads W W.heap.size 1 A l.length (u16c l) := by
  obtain ⟨A, c, l, e, hc, hg, hr⟩ := reads_list (encd := fun (x : Nat) => [Value.int .u16 (x : Int)]) (good := fun x => x < 65536) Try.underlying30 (show Try.prog.cellsOf 41 = 1 by kernel_rfl) (by omega) (fun n cs y hl h => by
    obtain ⟨x, e, -, hw⟩ := DataW.trod_int Try.underlying41 h
    obtain ⟨k, rfl, hk⟩ := u16_nat hw
    exact ⟨k, e, hk⟩) hlt hv h
  rw [flat_nat] at hr
  exact ⟨A, c, l, e, hc, hg, hr⟩
end
end Go.Proofs.Ytdnpobfnkdllmaa
