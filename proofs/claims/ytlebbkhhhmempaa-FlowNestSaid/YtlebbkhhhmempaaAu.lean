/- Contracts of the functions of package au. -/
import Derived.Test.YtlebbkhhhmempaaProg
import Derived.Test.YtlebbkhhhmempaaBase
import Derived.Laws.Externs
set_option linter.unusedSimpArgs false
set_option linter.unusedVariables false
namespace Go.Proofs.Ytlebbkhhhmempaa
open Go.RowKit

def cutF (x : Int) : Int := if x > 1099511627776 then 1099511627776 else if x < -1099511627776 then -1099511627776 else x
def cutB (x : Int) : Bool := decide (x > 1099511627776) || decide (x < -1099511627776)

set_option maxHeartbeats 400000 in
theorem cut_any (x : Int) (w : World) :
    Calls Try.prog 60 #[.int .i64 x] w fun e w' => e = .returned (.tuple #[.int .i64 (cutF x), .bool (cutB x)]) ∧ w = w' := by
  go_enter Try.func60, Try.ntmps60
  go_wp2
  all_goals
    go_ret2
    refine ⟨?_, rfl⟩
    simp [cutF, cutB]
    try omega

theorem add64 (x y c : Int) (hx : 0 ≤ x) (hy : 0 ≤ y) (hc0 : 0 ≤ c) (hc : c ≤ 1) (w : World) : (callFunc 123 #[.int .u64 x, .int .u64 y, .int .u64 c]).run Try.prog w =
    .ok (.value (.tuple #[.int .u64 ((x + y + c) % 18446744073709551616), .int .u64 ((x + y + c) / 18446744073709551616)])) w := by
  rw [run_callFunc_extern (fn := Try.f123) (by kernel_rfl) (by kernel_rfl) (by kernel_rfl) (by kernel_rfl) (e := add64Entry) (by kernel_rfl), run_add64 x y c hx hy hc0 hc]
  rfl
theorem add64_0 (x y : Int) (hx : 0 ≤ x) (hy : 0 ≤ y) (w : World) : (callFunc 123 #[.int .u64 x, .int .u64 y, .int .u64 0]).run Try.prog w =
    .ok (.value (.tuple #[.int .u64 ((x + y) % 18446744073709551616), .int .u64 ((x + y) / 18446744073709551616)])) w := by
  simpa using add64 x y 0 hx hy (Int.le_refl 0) (by decide) w

theorem u64_eq (x : Int) : IntKind.u64.wrap x = x % 18446744073709551616 := by simp [IntKind.wrap, IntKind.signed, IntKind.bits]
theorem u64_nn (x : Int) : 0 ≤ IntKind.u64.wrap x := by rw [u64_eq]; omega

def hiOf (S : Int) : Value := .int .i64 (S / 18446744073709551616)
def loOf (S : Int) : Value := .int .u64 (S % 18446744073709551616)
theorem sum1_lo (S x : Int) : (S + IntKind.u64.wrap x) % 18446744073709551616 = (S + x) % 18446744073709551616 := by rw [u64_eq]; omega
theorem sum1_hi (S x : Int) (hx0 : -9223372036854775808 ≤ x) (hx1 : x < 9223372036854775808) (h0 : -170141183460469231731687303715884105728 ≤ S + x) (h1 : S + x < 170141183460469231731687303715884105728) :
    wrap64 (S / 18446744073709551616 + wrap64 (x / 9223372036854775808 + wrap64 ((S % 18446744073709551616 + IntKind.u64.wrap x) / 18446744073709551616))) = (S + x) / 18446744073709551616 := by
  rw [u64_eq]
  obtain ⟨q, r, hr0, hr1, rfl⟩ : ∃ q r : Int, 0 ≤ r ∧ r < 18446744073709551616 ∧ S = 18446744073709551616 * q + r := ⟨S / 18446744073709551616, S % 18446744073709551616, by omega, by omega, by omega⟩
  have e1 : (18446744073709551616 * q + r) / 18446744073709551616 = q := by omega
  have e2 : (18446744073709551616 * q + r) % 18446744073709551616 = r := by omega
  rw [e1, e2]
  obtain ⟨c, hc, hc0, hc1⟩ : ∃ c, (r + x % 18446744073709551616) / 18446744073709551616 = c ∧ 0 ≤ c ∧ c ≤ 1 := ⟨_, rfl, by omega, by omega⟩
  rw [hc, IntWalk.wrap64_in c ⟨by omega, by omega⟩, IntWalk.wrap64_in (_ + c) ⟨by omega, by omega⟩]
  rw [IntWalk.wrap64_in _ ⟨by omega, by omega⟩]
  omega

set_option maxHeartbeats 400000 in
theorem sum1_any (S x : Int) (b : Nat) (w : World) (hx0 : -9223372036854775808 ≤ x) (hx1 : x < 9223372036854775808) (hS0 : -170141183460469231731687303715884105728 ≤ S + x) (hS1 : S + x < 170141183460469231731687303715884105728)
    (h0 : w.cell? ⟨b, 0, none⟩ = some (hiOf S)) (h1 : w.cell? ⟨b, 1, none⟩ = some (loOf S)) (f0 : w.frozen? ⟨b, 0, none⟩ = false) (f1 : w.frozen? ⟨b, 1, none⟩ = false) :
    Calls Try.prog 122 #[.int .i64 x, .pointer (some ⟨b, 0, none⟩)] w fun e w' => e = .returned (.tuple #[]) ∧ (w.setCell ⟨b, 1, none⟩ (loOf (S + x))).setCell ⟨b, 0, none⟩ (hiOf (S + x)) = w' := by
  have e1 := sum1_hi S x hx0 hx1 hS0 hS1
  have e0 : 0 ≤ S % 18446744073709551616 := by omega
  have E1 := Lib.hid e1
  clear e1 hx0 hx1 hS0 hS1
  unfold hiOf at h0
  unfold loOf at h1
  go_enter Try.func122, Try.ntmps122
  go_wp2_with (first | simp only [add64_0 (S % 18446744073709551616) _ e0 (u64_nn x)])
  go_end0
  refine ⟨rfl, ?_⟩
  rw [E1.out, sum1_lo]
  rfl

theorem low64 (S : Int) (h : -9223372036854775808 ≤ S ∧ S < 9223372036854775808) : wrap64 (S % 18446744073709551616) = S := by unfold wrap64; omega
theorem is64 (S : Int) (h : -9223372036854775808 ≤ S ∧ S < 9223372036854775808) : S / 18446744073709551616 = wrap64 (S % 18446744073709551616) / 9223372036854775808 := by rw [low64 S h]; omega
theorem not64 (S : Int) (h : S < -9223372036854775808 ∨ 9223372036854775808 ≤ S) : ¬ S / 18446744073709551616 = wrap64 (S % 18446744073709551616) / 9223372036854775808 := by unfold wrap64; omega

set_option maxHeartbeats 400000 in
theorem wcut_any (S : Int) (w : World) (h0 : -170141183460469231731687303715884105728 ≤ S) (h1 : S < 170141183460469231731687303715884105728) :
    Calls Try.prog 124 #[.agg #[hiOf S, loOf S]] w fun e w' => e = .returned (.tuple #[.int .i64 (cutF S), .bool (cutB S)]) ∧ Below w.heap.size w w' := by
  unfold hiOf loOf
  by_cases ha : -9223372036854775808 ≤ S ∧ S < 9223372036854775808
  · have e1 : (S / 18446744073709551616 == wrap64 (S % 18446744073709551616) / 9223372036854775808) = true := by simpa using is64 S ha
    have e2 := low64 S ha
    have E2 := Lib.hid e2
    clear h0 h1 e2
    go_enter Try.func124, Try.ntmps124
    go_wp2_with (go_at_call 60; refine (cut_any _ _).mono ?_; rintro e w' ⟨rfl, rfl⟩)
    go_ret2
    rw [E2.out]
    exact ⟨rfl, (Below.refl _ _).alloc (Nat.le_refl _) _⟩
  · have e1 : (S / 18446744073709551616 == wrap64 (S % 18446744073709551616) / 9223372036854775808) = false := by simpa using not64 S (by omega)
    by_cases hb : S < 0
    · have e2 : cutF S = -1099511627776 ∧ cutB S = true := by unfold cutF cutB; constructor <;> simp <;> omega
      have e3 : S / 18446744073709551616 < 0 := by omega
      have E2 := Lib.hid e2
      clear e2 h0 h1
      go_enter Try.func124, Try.ntmps124
      go_wp2_with fail
      go_ret2
      rw [E2.out.1, E2.out.2]
      exact ⟨rfl, (Below.refl _ _).alloc (Nat.le_refl _) _⟩
    · have e2 : cutF S = 1099511627776 ∧ cutB S = true := by unfold cutF cutB; constructor <;> simp <;> omega
      have e3 : 0 ≤ S / 18446744073709551616 := by omega
      have E2 := Lib.hid e2
      clear e2 h0 h1
      go_enter Try.func124, Try.ntmps124
      go_wp2_with fail
      go_ret2
      rw [E2.out.1, E2.out.2]
      exact ⟨rfl, (Below.refl _ _).alloc (Nat.le_refl _) _⟩

def i64s (l : List Int) : List Value := l.map (Value.int .i64)

set_option maxHeartbeats 800000 in
theorem sum_any (l : List Int) (A : Option Addr) (c : Nat) (w : World) (hl : I64s l) (hn : l.length ≤ 4611686018427387904) (hr : Reads w w.heap.size 1 A l.length (i64s l)) :
    Calls Try.prog 83 #[.slice A l.length c] w fun e w' => e = .returned (.tuple #[.int .i64 (cutF l.sum), .bool (cutB l.sum)]) ∧ Below w.heap.size w w' := by
  go_enter Try.func83, Try.ntmps83
  go_wp2
  go_loopw [11] (fun i wr => ∃ k : Nat, k ≤ l.length ∧ i = .int .i64 k ∧ Blk wr w.heap.size 212 #[hiOf (l.take k).sum, loOf (l.take k).sum] ∧ Below w.heap.size w wr)
    (fun i _ => l.length - (intOf i).toNat)
  case atStart => exact ⟨0, by omega, rfl, Blk.new _ _ _, (Below.refl _ _).alloc (Nat.le_refl _) _⟩
  case round =>
    obtain ⟨k, hk, rfl, hb, hw⟩ := hrel
    by_cases hlt : k < l.length
    · obtain ⟨ad, u, rfl, hab, hx, hc⟩ := (hr.below hw).at_ hlt
      have hu : u = .int .i64 l[k] := by simpa [i64s, hlt] using hx.symm
      subst hu
      have hs := take_sum_succ l k hlt
      have hx2 := hl.at_ hlt
      have hb1 := sum_bd (l.take (k + 1)) fun x hx => hl x (List.mem_of_mem_take hx)
      rw [List.length_take_of_le (by omega), hs] at hb1
      have HS := Lib.hid hs
      have c0 : wr.cell? ⟨w.heap.size, 0, none⟩ = some (hiOf (l.take k).sum) := (hb.cell 0).trans rfl
      have c1 : wr.cell? ⟨w.heap.size, 1, none⟩ = some (loOf (l.take k).sum) := (hb.cell 1).trans rfl
      clear hs hx hr
      go_wp2_with fail
      refine (sum1_any (l.take k).sum l[k] _ _ hx2.1 hx2.2 (by omega) (by omega) c0 c1 (hb.frozen 0) (hb.frozen 1)).mono ?_
      rintro e w' ⟨rfl, rfl⟩
      go_wp2_with fail
      go_roundw
      case rel =>
        refine ⟨k + 1, by omega, by go_num, ?_, ?_⟩
        · rw [HS.out]; exact (hb.set_ 1 _).set_ 0 _
        · exact (hw.setCell (p := ⟨w.heap.size, 1, none⟩) (Nat.le_refl _) _).setCell (p := ⟨w.heap.size, 0, none⟩) (Nat.le_refl _) _
      case measure => simp [intOf]; omega
    · obtain rfl : k = l.length := by omega
      have c0 : wr.cell? ⟨w.heap.size, 0, none⟩ = some (hiOf l.sum) := (hb.cell 0).trans (by simp)
      have c1 : wr.cell? ⟨w.heap.size, 1, none⟩ = some (loOf l.sum) := (hb.cell 1).trans (by simp)
      have hb1 := sum_bd l hl
      clear hr
      go_wp2_with fail
      refine (wcut_any l.sum _ (by omega) (by omega)).mono ?_
      rintro e w' ⟨rfl, hb2⟩
      go_wp2_with fail
      go_ret2
      exact ⟨rfl, hw.trans (hb2.mono hw.size)⟩
end Go.Proofs.Ytlebbkhhhmempaa
