/- Moves that came in: a worker's byte and a truth. -/
import Derived.Test.YtdigjppdgiapfaaRowb
set_option linter.unusedSimpArgs false
set_option linter.unusedVariables false
namespace Go.Proofs.Ytdigjppdgiapfaa
open Go.ChangeShapes Go.WideShapes Go.ChangeAt Go.RowKit

def mvCells (l : List (Int × Bool)) : List Value := l.flatMap fun m => [.int .u8 m.1, .bool m.2]
theorem mvCells_at (l : List (Int × Bool)) : ∀ (k i : Nat) (hk : k < l.length), i < 2 → (mvCells l)[k * 2 + i]? = ([Value.int .u8 l[k].1, .bool l[k].2])[i]? := by
  induction l with
  | nil => intro k i hk; simp at hk
  | cons a t ih =>
    intro k i hk hi
    have hc : mvCells (a :: t) = [Value.int .u8 a.1, .bool a.2] ++ mvCells t := by simp [mvCells]
    rw [hc]
    rcases k with _ | k
    · rw [List.getElem?_append_left (by simp; omega)]; simp
    · rw [List.getElem?_append_right (by simp; omega), show (k + 1) * 2 + i - ([Value.int .u8 a.1, Value.bool a.2] : List Value).length = k * 2 + i by simp; omega, ih k i (by simpa using hk) hi]
      simp
theorem Reads.mv {w : World} {B n k : Nat} {A : Option Addr} {l : List (Int × Bool)} (h : Reads w B 2 A n (mvCells l)) (hn : n = l.length) (hk : k < l.length) :
    ∃ ad : Addr, A = some ad ∧ ad.block < B ∧ w.cell? (ad.add (k * 2)) = some (.int .u8 l[k].1) ∧ w.cell? ⟨ad.block, (ad.add (k * 2)).off + 1, none⟩ = some (.bool l[k].2) := by
  obtain ⟨ad, e, hb, hc⟩ := h.2 (by omega)
  have ha : ∀ i, i ≠ 0 → (⟨ad.block, (ad.add (k * 2)).off + i, none⟩ : Addr) = ad.add (k * 2 + i) := by
    intro i hi
    rw [← add_of_add, show ∀ p : Addr, p.add i = ⟨p.block, p.off + i, none⟩ from fun p => by unfold Addr.add; rw [if_neg hi], block_of_add]
  have hg : ∀ i, i < 2 → ∀ u, ([Value.int .u8 l[k].1, .bool l[k].2])[i]? = some u → w.cell? (ad.add (k * 2 + i)) = some u := fun i hi u hu => hc _ u (by rw [mvCells_at l k i hk hi]; exact hu)
  refine ⟨ad, e, hb, hg 0 (by omega) _ rfl, ?_⟩
  rw [ha 1 (by omega)]; exact hg 1 (by omega) _ rfl
section
variable {H : Type} {enc : TypeId × Value → H}
theorem reads_moves {W : World} {v : Value} {d : DataW H} {ps : List MemPlace} (hlt : ∀ x ∈ ps, x.block < W.heap.size) (hv : ∃ A len c, v = .slice A len c) (h : DataW.Trod enc Try.prog W 0 (fun _ => true) true 22 v d ps) :
    ∃ A c, ∃ l : List (Int × Bool), v = .slice A l.length c ∧ l.length ≤ c ∧ (∀ m ∈ l, 0 ≤ m.1 ∧ m.1 < 256) ∧ Reads W W.heap.size 2 A l.length (mvCells l) := by
  exact reads_list (encd := fun m : Int × Bool => [Value.int .u8 m.1, Value.bool m.2]) (good := fun m => 0 ≤ m.1 ∧ m.1 < 256) Try.underlying22 (show Try.prog.cellsOf 34 = 2 by kernel_rfl) (by omega) (fun n cs y hl h => by
    obtain ⟨m0, z0, h0, -⟩ := struct_field Try.underlying34 h 0 rfl rfl rfl (show Try.prog.cellsOf 5 = 1 by kernel_rfl)
    obtain ⟨m1, z1, h1, -⟩ := struct_field Try.underlying34 h 1 rfl rfl rfl (show Try.prog.cellsOf 4 = 1 by kernel_rfl)
    obtain ⟨x, e0, -, hw⟩ := DataW.trod_int Try.underlying5 h0
    obtain ⟨b, e1, -⟩ := DataW.trod_bool Try.underlying4 h1
    match cs, hl with
    | [a, c], _ =>
      simp at e0 e1
      exact ⟨(x, b), by rw [e0, e1], u8_wf hw⟩) hlt hv h
end
end Go.Proofs.Ytdigjppdgiapfaa
