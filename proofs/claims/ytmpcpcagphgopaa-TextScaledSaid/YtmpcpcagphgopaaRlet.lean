/- The contract of jambref06.letter. -/
import Derived.Test.YtmpcpcagphgopaaRscan
set_option linter.unusedSimpArgs false
set_option linter.unusedVariables false
namespace Go.Proofs.Ytmpcpcagphgopaa
open Go.RowKit
attribute [local go_sem] block_of_add

theorem letN_no {l : List Int} {k : Nat} (h : l.length ≤ k) : letN l k = false := by simp [letN]; omega

set_option maxRecDepth 100000 in
set_option maxHeartbeats 400000 in
theorem letter_any (l : List Int) (A : Option Addr) (c : Nat) (w : World) (hl : U16s l) (hn : l.length ≤ 1048576) (hr : Reads w w.heap.size 1 A l.length (u16s l)) (k : Nat) (hk : k ≤ 1048576) :
    Calls Try.prog 25 #[.slice A l.length c, .int .i64 k] w fun e w' => e = .returned (.bool (letN l k)) ∧ w = w' := by
  by_cases hlt : k < l.length
  · obtain ⟨ad, u, rfl, hab, hx, hc⟩ := hr.at_ hlt
    have hu : u = .int .u16 l[k] := by simpa [u16s, hlt] using hx.symm
    subst hu
    have hx2 := hl.at_ hlt
    have HL : Hid (letN l k = isLet l[k]) := Lib.hid (by simp [letN, hlt])
    clear hx hr hl
    obtain ⟨x, hx⟩ : ∃ x, l[k] = x := ⟨_, rfl⟩
    rw [hx] at hc hx2 HL
    clear hx
    have hk0 : decide ((0 : Int) ≤ (k : Int)) = true := by simp
    by_cases h32 : x = 32
    · subst h32
      go_enter Try.func25, Try.ntmps25
      go_wp2_with fail
      go_ret
      exact ⟨by rw [HL.out]; rfl, rfl⟩
    · have e1 : (x != 32) = true := by simp [h32]
      by_cases h10 : x = 10
      · subst h10
        clear e1
        go_enter Try.func25, Try.ntmps25
        go_wp2_with fail
        go_ret
        exact ⟨by rw [HL.out]; rfl, rfl⟩
      · have e2 : (x != 10) = true := by simp [h10]
        have HV : Hid (isLet x = true) := Lib.hid (by simp [isLet, h32, h10])
        clear h32 h10
        go_enter Try.func25, Try.ntmps25
        go_wp2_with fail
        go_ret
        exact ⟨by rw [HL.out, HV.out]; rfl, rfl⟩
  · have HL := Lib.hid (letN_no (l := l) (k := k) (by omega))
    clear hr
    go_enter Try.func25, Try.ntmps25
    go_wp2_with fail
    go_ret
    exact ⟨by rw [HL.out]; rfl, rfl⟩

set_option maxRecDepth 100000 in
set_option maxHeartbeats 400000 in
theorem letter_neg (l : List Int) (A : Option Addr) (c : Nat) (w : World) :
    Calls Try.prog 25 #[.slice A l.length c, .int .i64 (-1)] w fun e w' => e = .returned (.bool false) ∧ w = w' := by
  go_enter Try.func25, Try.ntmps25
  go_wp2_with fail
  go_ret
  exact ⟨rfl, rfl⟩
end Go.Proofs.Ytmpcpcagphgopaa
