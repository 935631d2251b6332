/- Contracts of small functions of package jamblaw06: vast, ends, table, units. -/
import Derived.Test.YtmpcpcagphgopaaRlet
import Derived.Test.YtmpcpcagphgopaaWhole
set_option linter.unusedSimpArgs false
set_option linter.unusedVariables false
namespace Go.Proofs.Ytmpcpcagphgopaa
open Go.RowKit
attribute [local go_sem] block_of_add

def vastF (n m : Nat) : Bool := decide (3000 < n) || decide (8192 < m)
set_option maxRecDepth 100000 in
theorem vast_any (A B : Option Addr) (n m c d : Nat) (w : World) : Calls Try.prog 9 #[.slice A n c, .slice B m d] w fun e w' => e = .returned (.bool (vastF n m)) ∧ w = w' := by
  by_cases h : 3000 < n
  · have HV : Hid (vastF n m = true) := Lib.hid (by simp [vastF, h])
    have e1 : decide ((3000 : Int) < (n : Int)) = true := decide_eq_true (by omega)
    go_enter Try.func9, Try.ntmps9
    go_wp2_with fail
    go_ret
    exact ⟨by rw [HV.out]; rfl, rfl⟩
  · have e1 : decide ((3000 : Int) < (n : Int)) = false := decide_eq_false (by omega)
    by_cases h2 : 8192 < m
    · have HV : Hid (vastF n m = true) := Lib.hid (by simp [vastF, h2])
      have e2 : decide ((8192 : Int) < (m : Int)) = true := decide_eq_true (by omega)
      go_enter Try.func9, Try.ntmps9
      go_wp2_with fail
      go_ret
      exact ⟨by rw [HV.out]; rfl, rfl⟩
    · have HV : Hid (vastF n m = false) := Lib.hid (by simp [vastF, h, h2])
      have e2 : decide ((8192 : Int) < (m : Int)) = false := decide_eq_false (by omega)
      go_enter Try.func9, Try.ntmps9
      go_wp2_with fail
      go_ret
      exact ⟨by rw [HV.out]; rfl, rfl⟩

set_option maxRecDepth 100000 in
set_option maxHeartbeats 800000 in
theorem ends_any (l : List Int) (A : Option Addr) (c : Nat) (w : World) (hl : U16s l) (hn : l.length ≤ 1048576) (hr : Reads w w.heap.size 1 A l.length (u16s l)) :
    Calls Try.prog 18 #[.slice A l.length c] w fun e w' => e = .returned (.int .i64 (endsF l)) ∧ w = w' := by
  go_enter Try.func18, Try.ntmps18
  go_wp2_with fail
  go_loop [3, 4] (fun n i => ∃ k : Nat, k ≤ l.length ∧ i = .int .i64 k ∧ n = .int .i64 ((l.take k).count 10 : Nat) ∧ (l.take k).any isLet = false) (fun _ i => l.length - (intOf i).toNat)
  case atStart => exact ⟨0, by omega, rfl, rfl, rfl⟩
  case round =>
    obtain ⟨k, hk, rfl, rfl, hany⟩ := hrel
    have HANY := Lib.hid hany
    clear hany
    have hcnt : (l.take k).count 10 ≤ k := Nat.le_trans (List.count_le_length) (by simp; omega)
    obtain ⟨n, hnn⟩ : ∃ n, (l.take k).count 10 = n := ⟨_, rfl⟩
    have HN := Lib.hid hnn
    rw [hnn] at hcnt
    simp only [hnn]
    clear hnn
    by_cases hlt : k < l.length
    · obtain ⟨ad, u, rfl, hab, hx, hc⟩ := hr.at_ hlt
      have hu : u = .int .u16 l[k] := by simpa [u16s, hlt] using hx.symm
      subst hu
      have hx2 := hl.at_ hlt
      have HT := Lib.hid (List.take_succ_eq_append_getElem hlt)
      have HM : Hid (∀ y, l[k] = y → isLet y = true → endsF l = -1) := Lib.hid (fun y hy h => by
        have : l.any isLet = true := List.any_eq_true.2 ⟨l[k], List.getElem_mem hlt, by rw [hy]; exact h⟩
        simp [endsF, this])
      obtain ⟨x, hxx⟩ : ∃ x, l[k] = x := ⟨_, rfl⟩
      rw [hxx] at hc hx2 HT HM
      clear hx hr hxx
      by_cases h10 : x = 10
      · subst h10
        go_wp2_with fail
        go_round
        case rel => exact ⟨k + 1, by omega, by go_num, by rw [HT.out, List.count_append, HN.out]; rfl, by rw [HT.out, List.any_append, HANY.out]; rfl⟩
        case measure => simp [intOf]; omega
      · have e1 : (x == 10) = false := by simp [h10]
        by_cases h32 : x = 32
        · subst h32
          go_wp2_with fail
          go_round
          case rel => exact ⟨k + 1, by omega, by go_num, by rw [HT.out, List.count_append, HN.out]; rfl, by rw [HT.out, List.any_append, HANY.out]; rfl⟩
          case measure => simp [intOf]; omega
        · have e2 : (x == 32) = false := by simp [h32]
          have HV := Lib.hid (HM.out x rfl (by simp [isLet, h32, h10]))
          clear h10 h32
          go_wp2_with fail
          go_ret
          exact ⟨by rw [HV.out]; rfl, rfl⟩
    · obtain rfl : k = l.length := by omega
      have HV : Hid (endsF l = n) := Lib.hid (by
        have h1 := HANY.out; have h2 := HN.out
        rw [List.take_of_length_le (Nat.le_refl _)] at h1 h2
        simp [endsF, h1, h2])
      clear hr
      go_wp2_with fail
      go_ret
      exact ⟨by rw [HV.out]; rfl, rfl⟩
end Go.Proofs.Ytmpcpcagphgopaa
