/- Contracts: advances and widths of units (packages text and jambref06). -/
import Derived.BigQuiet
import Derived.Deep.DeepCutAuto
import Derived.Deep.QuietTactic
import Derived.Deep.RegionHeld3
import Derived.Test.YtdnpobfnkdllmaaAu
set_option linter.unusedSimpArgs false
set_option linter.unusedVariables false
namespace Go.Proofs.Ytdnpobfnkdllmaa
open Go.RowKit
attribute [local go_sem] block_of_add

def u16s (l : List Int) : List Value := l.map (Value.int .u16)
def U16s (l : List Int) : Prop := ∀ x ∈ l, 0 ≤ x ∧ x < 65536
theorem U16s.at_ {l : List Int} (h : U16s l) {k : Nat} (hk : k < l.length) : 0 ≤ l[k] ∧ l[k] < 65536 := h _ (List.getElem_mem hk)
/-- A unit's advance. -/
def adv (t : List Int) (u : Int) : Int := t[u.toNat]?.getD 0
def advs (t : List Int) (l : List Int) : List Int := l.map (adv t)
theorem advs_len (t l : List Int) : (advs t l).length = l.length := by simp [advs]
theorem adv_i64 {t : List Int} (h : I64s t) (u : Int) : -9223372036854775808 ≤ adv t u ∧ adv t u < 9223372036854775808 := by
  unfold adv
  rcases Nat.lt_or_ge u.toNat t.length with hl | hl
  · rw [List.getElem?_eq_getElem hl]; exact h.at_ hl
  · rw [List.getElem?_eq_none hl]; simp
theorem advs_i64 {t : List Int} (h : I64s t) (l : List Int) : I64s (advs t l) := by
  intro x hx
  simp only [advs, List.mem_map] at hx
  obtain ⟨u, _, rfl⟩ := hx
  exact adv_i64 h u

section
variable (t : List Int) (A : Option Addr) (c : Nat) (w : World) (hr : Reads w w.heap.size 1 A t.length (i64s t))
include hr

set_option maxRecDepth 100000 in
set_option maxHeartbeats 400000 in
theorem adv_any (u : Int) (hu0 : 0 ≤ u) (hu1 : u < 65536) : Calls Try.prog 120 #[.int .u16 u, .slice A t.length c] w fun e w' => e = .returned (.int .i64 (adv t u)) ∧ w = w' := by
  obtain ⟨k, rfl⟩ := Int.eq_ofNat_of_zero_le hu0
  by_cases hlt : k < t.length
  · obtain ⟨ad, v, rfl, hab, hx, hc⟩ := hr.at_ hlt
    have hv : v = .int .i64 (adv t k) := by simp [i64s, hlt] at hx; rw [← hx]; simp [adv, hlt]
    subst hv
    have hd : decide (t.length ≤ k) = false := by simp; omega
    clear hx hr
    go_enter Try.func120, Try.ntmps120
    go_wp2_with fail
    go_ret
    exact ⟨rfl, rfl⟩
  · have hv : adv t k = 0 := by simp [adv, Nat.le_of_not_lt hlt]
    have HV := Lib.hid hv
    have hd : decide (t.length ≤ k) = true := by simp; omega
    clear hr hv hlt
    go_enter Try.func120, Try.ntmps120
    go_wp2_with fail
    go_ret
    exact ⟨by rw [HV.out]; rfl, rfl⟩

end

theorem el_i64 : El Try.prog 62 2 (.int .i64 0) 1 8 := ⟨Try.underlying62, by kernel_rfl, rfl, by decide⟩

/-- Of the first k places the advances, of the others noughts. -/
def filled (t l : List Int) (k : Nat) : List Value := (List.range l.length).map fun j => if j < k then .int .i64 (adv t (l[j]?.getD 0)) else .int .i64 0
theorem filled_zero (t l : List Int) : filled t l 0 = (madeCells (Value.int .i64 0).cells (l.length * 1)).toList := by simp [filled, madeCells, Value.cells, Nat.mod_one]
theorem filled_set (t l : List Int) (k : Nat) (hk : k < l.length) : (filled t l k).set k (.int .i64 (adv t l[k])) = filled t l (k + 1) := by
  apply List.ext_getElem?
  intro j
  simp only [filled, List.getElem?_set, List.length_map, List.length_range, List.getElem?_map]
  by_cases hj : k = j
  · subst hj; simp [hk]
  · rw [if_neg hj]
    by_cases hjl : j < l.length
    · have : (j < k) = (j < k + 1) := by simp; omega
      simp [hjl, this]
    · simp [hjl]
theorem filled_at (t l : List Int) (k : Nat) (hk : k < l.length) : (filled t l k)[k]? = some (.int .i64 0) := by simp [filled, hk]
theorem filled_all (t l : List Int) : filled t l l.length = i64s (advs t l) := by
  apply List.ext_getElem?
  intro j
  simp only [filled, i64s, advs, List.getElem?_map]
  by_cases hj : j < l.length <;> simp [hj]

set_option maxHeartbeats 800000 in
theorem wide_any (l t : List Int) (A B : Option Addr) (c d : Nat) (w : World) (hl : U16s l) (ht : I64s t) (hn : l.length ≤ 4294967296) (hrl : Reads w w.heap.size 1 A l.length (u16s l)) (hrt : Reads w w.heap.size 1 B t.length (i64s t)) :
    Calls Try.prog 122 #[.slice A l.length c, .slice B t.length d] w fun e w' => e = .returned (.tuple #[.int .i64 (cutF (advs t l).sum), .bool (cutB (advs t l).sum)]) ∧ Below w.heap.size w w' := by
  obtain ⟨i0, hi0, hz0, hz1, hz2⟩ := info_parts el_i64.info
  have HT := Lib.hid hrt
  clear hrt
  go_enter Try.func122, Try.ntmps122
  go_wp2_with (at_make; refine wpList_make_full _ rfl _ _ _ rfl w.heap.size 2 i0 (.int .i64 0) 1 Try.underlying62 hi0 hz0 hz1 .i64 .i64 _ _ l.length rfl rfl rfl rfl (by rw [hz2]; omega) (by simp only [maxLen]; omega) (Nat.le_refl _) ?_; intro w1 hown hg)
  have hown0 : w1.ownsRow w.heap.size 2 1 (.slice (some ⟨w.heap.size, 0, none⟩) l.length l.length) l.length (filled t l 0) := by rw [filled_zero]; exact hown
  have hw1 : Below w.heap.size w w1 := (Below.refl _ _).grown hg (Nat.le_refl _) (by simp)
  clear hown hg
  go_loopw [14] (fun i wr => ∃ k : Nat, k ≤ l.length ∧ i = .int .i64 k ∧ wr.ownsRow w.heap.size 2 1 (.slice (some ⟨w.heap.size, 0, none⟩) l.length l.length) l.length (filled t l k) ∧ Below w.heap.size w wr) (fun i _ => l.length - (intOf i).toNat)
  case atStart => exact ⟨0, by omega, rfl, hown0, hw1⟩
  case round =>
    obtain ⟨k, hk, rfl, hown, hw⟩ := hrel
    by_cases hlt : k < l.length
    · obtain ⟨ad, u, rfl, hab, hx, hc⟩ := (hrl.below hw).at_ hlt
      have hu : u = .int .u16 l[k] := by simpa [u16s, hlt] using hx.symm
      subst hu
      have hx2 := hl.at_ hlt
      have HF := Lib.hid (filled_set t l k hlt)
      clear hx hrl
      go_wp2_with fail
      refine (adv_any t B d _ ((HT.out.below hw).more hw.size) l[k] hx2.1 hx2.2).mono ?_
      rintro e w' ⟨rfl, rfl⟩
      have hfr := hown.frozenAt k
      have hcl := (hown.cellAt k (by omega)).trans (filled_at t l k hlt)
      go_wp2_with fail
      go_roundw
      case rel => exact ⟨k + 1, by omega, by go_num, by rw [← HF.out]; exact (hown.stored k _).1, hw.setCell (p := ⟨w.heap.size, k, none⟩) (Nat.le_refl _) _⟩
      case measure => simp [intOf]; omega
    · obtain rfl : k = l.length := by omega
      rw [filled_all] at hown
      have hrd : Reads wr wr.heap.size 1 (some ⟨w.heap.size, 0, none⟩) (advs t l).length (i64s (advs t l)) := by rw [advs_len]; exact Reads.of_own hown
      have hnn : (advs t l).length ≤ 4611686018427387904 := by rw [advs_len]; omega
      have HC := Lib.hid (sum_any (advs t l) (some ⟨w.heap.size, 0, none⟩) l.length wr (advs_i64 ht l) hnn hrd)
      rw [advs_len] at HC
      clear hrl hrd hnn
      go_wp2_with fail
      refine HC.out.mono ?_
      rintro e w' ⟨rfl, hb⟩
      go_wp2_with fail
      go_ret2
      exact ⟨rfl, hw.trans (hb.mono hw.size)⟩

end Go.Proofs.Ytdnpobfnkdllmaa
