/- Contracts of table and units of package jamblaw06. -/
import Derived.Test.YtmpcpcagphgopaaLawa
set_option linter.unusedSimpArgs false
set_option linter.unusedVariables false
namespace Go.Proofs.Ytmpcpcagphgopaa
open Go.RowKit
attribute [local go_sem] block_of_add

def tableF : List Int := (((List.replicate 99 (0 : Int)).set 97 10).set 98 20).set 32 5

theorem made_list' (n : Nat) : (madeCells (Value.int .i64 0).cells (n * 1)).toList = i64s (List.replicate n 0) := by
  apply List.ext_getElem?
  intro j
  by_cases h : j < n <;> simp [i64s, madeCells, Value.cells, Nat.mod_one, List.getElem?_replicate, h]
theorem made_list : (madeCells (Value.int .i64 0).cells (99 * 1)).toList = i64s (List.replicate 99 0) := made_list' 99
theorem rep_at (n j : Nat) (h : j < n) : (i64s (List.replicate n 0))[j]? = some (.int .i64 0) := by simp [i64s, List.getElem?_replicate, h]
theorem made_at (j : Nat) (h : j < 99) : (madeCells (Value.int .i64 0).cells (99 * 1)).toList[j]? = some (.int .i64 0) := by rw [made_list]; exact rep_at 99 j h
set_option maxRecDepth 100000 in
set_option maxHeartbeats 800000 in
theorem table_any (w : World) : Calls Try.prog 21 #[] w fun e w' => ∃ A, e = .returned (.slice A 99 99) ∧ w'.ownsRow w.heap.size 2 1 (.slice A 99 99) 99 (i64s tableF) ∧ Below w.heap.size w w' := by
  obtain ⟨i0, hi0, hz0, hz1, hz2⟩ := info_parts el_i64.info
  go_enter Try.func21, Try.ntmps21
  go_wp2_with (at_make; refine wpList_make_full _ rfl _ _ _ rfl w.heap.size 2 i0 (.int .i64 0) 1 Try.underlying23 hi0 hz0 hz1 .i64 .i64 _ _ 99 rfl rfl rfl rfl (by rw [hz2]; omega) (by simp only [maxLen]; omega) (Nat.le_refl _) ?_; intro w1 hown hg; have a0 := (hown.cellAt 97 (by omega)).trans (made_at 97 (by omega)); have a1 := (hown.cellAt 98 (by omega)).trans (made_at 98 (by omega)); have a2 := (hown.cellAt 32 (by omega)).trans (made_at 32 (by omega)); have z0 := hown.frozenAt 97; have z1 := hown.frozenAt 98; have z2 := hown.frozenAt 32)
  go_ret
  rw [made_list] at hown
  have h1 := ((hown.stored 97 (.int .i64 10)).1)
  have h2 := ((h1.stored 98 (.int .i64 20)).1)
  have h3 := ((h2.stored 32 (.int .i64 5)).1)
  refine ⟨_, rfl, ?_, ?_⟩
  · have e : i64s tableF = (((i64s (List.replicate 99 0)).set 97 (.int .i64 10)).set 98 (.int .i64 20)).set 32 (.int .i64 5) := by simp only [i64s, tableF, List.map_set]
    rw [e]; exact h3
  · exact ((((Below.refl _ _).grown hg (Nat.le_refl _) (by simp)).setCell (p := ⟨w.heap.size, 97, none⟩) (Nat.le_refl _) _).setCell (p := ⟨w.heap.size, 98, none⟩) (Nat.le_refl _) _).setCell (p := ⟨w.heap.size, 32, none⟩) (Nat.le_refl _) _

theorem el_u16 : El Try.prog 22 31 (.int .u16 0) 1 2 := ⟨Try.underlying22, by kernel_rfl, rfl, by decide⟩
def unitsF (s : List UInt8) : List Int := s.map fun b => (b.toNat : Int)
theorem units_step (s : ByteArray) (k : Nat) (h : k < s.size) : u16s (unitsF (s.data.toList.take (k + 1))) = u16s (unitsF (s.data.toList.take k)) ++ [.int .u16 (IntKind.u16.wrap s[k].toNat)] := by
  have hl : k < s.data.toList.length := h
  rw [List.take_succ_eq_append_getElem hl]
  have e : s.data.toList[k] = s[k] := rfl
  have hw : IntKind.u16.wrap (s[k].toNat : Int) = s[k].toNat := by
    have := s[k].toNat_lt
    simp [IntKind.wrap, IntKind.bits, IntKind.signed]
    omega
  rw [e, hw]
  simp [u16s, unitsF]
set_option maxRecDepth 100000 in
set_option maxHeartbeats 800000 in
theorem units_any (s : ByteArray) (w : World) (hn : s.size ≤ 1000) : Calls Try.prog 20 #[.string s] w fun e w' => ∃ A c, e = .returned (.slice A s.size c) ∧ w'.ownsRow w.heap.size 31 1 (.slice A s.size c) s.size (u16s (unitsF s.data.toList)) ∧ Below w.heap.size w w' := by
  go_enter Try.func20, Try.ntmps20
  go_wp2_with fail
  go_loopw [3, 4] (fun o i wr => ∃ k : Nat, k ≤ s.size ∧ i = .int .i64 k ∧ wr.ownsRow w.heap.size 31 1 o k (u16s (unitsF (s.data.toList.take k))) ∧ Below w.heap.size w wr) (fun _ i _ => s.size - (intOf i).toNat)
  case atStart => exact ⟨0, by omega, rfl, World.ownsRow_nil _ _ _ _, Below.refl _ _⟩
  case round =>
    obtain ⟨k, hk, rfl, hown, hw⟩ := hrel
    obtain ⟨Ao, co, rfl⟩ := own_form hown
    by_cases hlt : k < s.size
    · have HT : Hid (u16s (unitsF (s.data.toList.take (k + 1))) = u16s (unitsF (s.data.toList.take k)) ++ [.int .u16 (IntKind.u16.wrap s[k].toNat)]) := Lib.hid (units_step s k hlt)
      go_wp2_with (at_builtin; refine wpList_app rfl _ _ rfl el_u16 hown hw.size rfl [_] rfl (by simp) (by simp [Value.oneCell']) (by omega) (by omega) ?_; intro A' c' w' hown' hB hg _)
      go_roundw
      case rel => exact ⟨k + 1, by omega, by go_num, by rw [HT.out]; exact hown', hB _ _ (Nat.le_refl _) hw⟩
      case measure => simp [intOf]; omega
    · obtain rfl : k = s.size := by omega
      rw [List.take_of_length_le (show s.data.toList.length ≤ s.size from Nat.le_refl _)] at hown
      go_wp2_with fail
      go_ret
      exact ⟨_, _, rfl, hown, hw⟩
end Go.Proofs.Ytmpcpcagphgopaa
