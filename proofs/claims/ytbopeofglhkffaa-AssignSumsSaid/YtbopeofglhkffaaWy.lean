/- Wide numbers of package mains: contracts (number, times), math/bits. -/
import Derived.Test.YtbopeofglhkffaaSty
import Derived.Test.YtbopeofglhkffaaApp
import Derived.Shelf.Spec.BitsCarry
import Derived.BigQuiet
import Derived.Deep.RegionLaw
import Derived.Deep.DeepCutAuto
import Derived.Deep.CutRange
import Derived.Deep.QuietTactic
import Derived.Deep.RegionHeld3
import Derived.Lib.ItoaNum
set_option linter.unusedSimpArgs false
set_option linter.unusedVariables false
namespace Go.Proofs.Ytbopeofglhkffaa
open Go.RowKit
def W128 (S : Int) : Prop := -170141183460469231731687303715884105728 ≤ S ∧ S < 170141183460469231731687303715884105728
theorem split64 (S : Int) : ∃ q r : Int, 0 ≤ r ∧ r < 18446744073709551616 ∧ S = 18446744073709551616 * q + r := ⟨S / 18446744073709551616, S % 18446744073709551616, by omega, by omega, by omega⟩
theorem split_hi (q r : Int) (h0 : 0 ≤ r) (h1 : r < 18446744073709551616) : (18446744073709551616 * q + r) / 18446744073709551616 = q ∧ (18446744073709551616 * q + r) % 18446744073709551616 = r := by omega
theorem wrap_mod (x : Int) (h0 : -9223372036854775808 ≤ x) (h1 : x < 9223372036854775808) (y : Int) (h : ∃ k : Int, y = x + 18446744073709551616 * k) : wrap64 (y % 18446744073709551616) = x := by
  obtain ⟨k, rfl⟩ := h
  unfold wrap64; omega
theorem plus_hi (a b : Int) (h : W128 (a + b)) :
    wrap64 ((IntKind.u64.wrap (a / 18446744073709551616) + IntKind.u64.wrap (b / 18446744073709551616) + (a % 18446744073709551616 + b % 18446744073709551616) / 18446744073709551616) % 18446744073709551616) = (a + b) / 18446744073709551616 := by
  rw [u64_eq, u64_eq]
  obtain ⟨q, r, hr0, hr1, rfl⟩ := split64 a
  obtain ⟨p, s, hs0, hs1, rfl⟩ := split64 b
  rw [(split_hi q r hr0 hr1).1, (split_hi q r hr0 hr1).2, (split_hi p s hs0 hs1).1, (split_hi p s hs0 hs1).2]
  obtain ⟨c, hc, hc0, hc1⟩ : ∃ c, (r + s) / 18446744073709551616 = c ∧ 0 ≤ c ∧ c ≤ 1 := ⟨_, rfl, by omega, by omega⟩
  rw [hc]
  have e : (18446744073709551616 * q + r + (18446744073709551616 * p + s)) / 18446744073709551616 = q + p + c := by omega
  rw [e]
  unfold W128 at h
  exact wrap_mod _ (by omega) (by omega) _ ⟨-(q / 18446744073709551616) - p / 18446744073709551616, by omega⟩
theorem minus_lo (a b : Int) : (a % 18446744073709551616 + 18446744073709551616 - b) % 18446744073709551616 = (a - b) % 18446744073709551616 := by omega
def bor (x y : Int) : Int := if x < y then 1 else 0
def borr (a b : Int) : Int := bor (a % 18446744073709551616) (b % 18446744073709551616)
theorem borr_bd (a b : Int) : borr a b = 0 ∨ borr a b = 1 := by unfold borr bor; split <;> omega
theorem minus_hi (a b : Int) (h : W128 (a - b)) :
    wrap64 ((IntKind.u64.wrap (a / 18446744073709551616) + 18446744073709551616 - IntKind.u64.wrap (b / 18446744073709551616) - borr a b) % 18446744073709551616) = (a - b) / 18446744073709551616 := by
  unfold borr bor
  rw [u64_eq, u64_eq]
  obtain ⟨q, r, hr0, hr1, rfl⟩ := split64 a
  obtain ⟨p, s, hs0, hs1, rfl⟩ := split64 b
  rw [(split_hi q r hr0 hr1).1, (split_hi q r hr0 hr1).2, (split_hi p s hs0 hs1).1, (split_hi p s hs0 hs1).2]
  obtain ⟨c, hc, hc0, hc1, hcr⟩ : ∃ c : Int, (if r < s then (1 : Int) else 0) = c ∧ 0 ≤ c ∧ c ≤ 1 ∧ (18446744073709551616 * q + r - (18446744073709551616 * p + s)) / 18446744073709551616 = q - p - c := by
    by_cases h : r < s
    · exact ⟨1, if_pos h, by omega, by omega, by omega⟩
    · exact ⟨0, if_neg h, by omega, by omega, by omega⟩
  rw [hc, hcr]
  unfold W128 at h
  exact wrap_mod _ (by omega) (by omega) _ ⟨1 - (q / 18446744073709551616) + p / 18446744073709551616, by omega⟩
theorem sub64 (x y b : Int) (hx : 0 ≤ x) (hy : 0 ≤ y) (hx1 : x < 18446744073709551616) (hy1 : y < 18446744073709551616) (hb : b = 0 ∨ b = 1) (w : World) : (callFunc 89 #[.int .u64 x, .int .u64 y, .int .u64 b]).run Try.prog w =
    .ok (.value (.tuple #[.int .u64 ((x + 18446744073709551616 - y - b) % 18446744073709551616), .int .u64 (bor x (y + b))])) w := by
  obtain ⟨X, rfl⟩ := Int.eq_ofNat_of_zero_le hx
  obtain ⟨Y, rfl⟩ := Int.eq_ofNat_of_zero_le hy
  obtain ⟨B, rfl, hB⟩ : ∃ B : Nat, b = B ∧ B ≤ 1 := by
    rcases hb with h | h
    · exact ⟨0, h, by omega⟩
    · exact ⟨1, h, by omega⟩
  rw [run_callFunc_extern (fn := Try.f89) (by kernel_rfl) (by kernel_rfl) (by kernel_rfl) (by kernel_rfl) (e := sub64Entry) (by kernel_rfl), run_sub64 X Y B hB]
  have e1 : (((X + 18446744073709551616 - Y - B) % 18446744073709551616 : Nat) : Int) = ((X : Int) + 18446744073709551616 - Y - B) % 18446744073709551616 := by omega
  have e2 : ((if X < Y + B then 1 else 0 : Nat) : Int) = bor X (Y + B) := by unfold bor; split <;> split <;> omega
  rw [e1, e2]; rfl
theorem sub64_0 (x y : Int) (hx : 0 ≤ x) (hy : 0 ≤ y) (hx1 : x < 18446744073709551616) (hy1 : y < 18446744073709551616) (w : World) : (callFunc 89 #[.int .u64 x, .int .u64 y, .int .u64 0]).run Try.prog w =
    .ok (.value (.tuple #[.int .u64 ((x + 18446744073709551616 - y) % 18446744073709551616), .int .u64 (bor x y)])) w := by
  simpa using sub64 x y 0 hx hy hx1 hy1 (.inl rfl) w
theorem lo_nn (x : Int) : 0 ≤ x % 18446744073709551616 := by omega
theorem lo_lt (x : Int) : x % 18446744073709551616 < 18446744073709551616 := by omega
theorem u64_lt (x : Int) : IntKind.u64.wrap x < 18446744073709551616 := by rw [u64_eq]; omega
set_option maxHeartbeats 400000 in
theorem of_any (n : Int) (w : World) (h0 : -9223372036854775808 ≤ n) (h1 : n < 9223372036854775808) :
    Calls Try.prog 58 #[.int .i64 n] w fun e w' => e = .returned (.agg #[hiOf n, loOf n]) ∧ w.alloc (.cells #[hiOf n, loOf n] 87) = w' := by
  have E : Hid (n / 9223372036854775808 = n / 18446744073709551616 ∧ IntKind.u64.wrap n = n % 18446744073709551616) := Lib.hid ⟨by omega, u64_eq n⟩
  go_enter Try.func58, Try.ntmps58
  go_wp2_with fail
  refine bodyPost_ret (results_cell_row rfl _ _ w.heap.size 87 #[_, _] (0, 0) _ rfl (by first | exact Blk.at_ _ _ _ (by simp) | exact Blk.set_ (Blk.set_ (Blk.at_ _ _ _ (by simp)) _ _) _ _) Try.underlying87 rfl (by kernel_rfl)) rfl ?_
  unfold hiOf loOf
  rw [E.out.1, E.out.2]
  exact ⟨rfl, rfl⟩
set_option maxHeartbeats 400000 in
theorem plus_any (a b : Int) (w : World) (h : W128 (a + b)) :
    Calls Try.prog 57 #[.agg #[hiOf a, loOf a], .agg #[hiOf b, loOf b]] w fun e w' => e = .returned (.agg #[hiOf (a + b), loOf (a + b)]) ∧
      ((w.alloc (.cells #[hiOf a, loOf a] 87)).alloc (.cells #[hiOf b, loOf b] 87)).alloc (.cells #[hiOf (a + b), loOf (a + b)] 87) = w' := by
  have E := Lib.hid (plus_hi a b h)
  have ha := lo_nn a
  have hb := lo_nn b
  have hc0 : 0 ≤ (a % 18446744073709551616 + b % 18446744073709551616) / 18446744073709551616 := by omega
  have hc1 : (a % 18446744073709551616 + b % 18446744073709551616) / 18446744073709551616 ≤ 1 := by omega
  have hA := u64_nn (a / 18446744073709551616)
  have hB := u64_nn (b / 18446744073709551616)
  clear h
  unfold hiOf loOf
  go_enter Try.func57, Try.ntmps57
  go_wp2_with (first | simp only [add64_0 _ _ ha hb] | simp only [add64 _ _ _ hA hB hc0 hc1])
  refine bodyPost_ret (results_cell_row rfl _ _ (w.heap.size + 1 + 1) 87 #[_, _] (0, 0) _ rfl (by first | exact Blk.at_ _ _ _ (by simp) | exact Blk.set_ (Blk.set_ (Blk.at_ _ _ _ (by simp)) _ _) _ _) Try.underlying87 rfl (by kernel_rfl)) rfl ?_
  rw [E.out]
  exact ⟨rfl, rfl⟩
set_option maxHeartbeats 400000 in
theorem minus_any (a b : Int) (w : World) (h : W128 (a - b)) :
    Calls Try.prog 60 #[.agg #[hiOf a, loOf a], .agg #[hiOf b, loOf b]] w fun e w' => e = .returned (.agg #[hiOf (a - b), loOf (a - b)]) ∧
      ((w.alloc (.cells #[hiOf a, loOf a] 87)).alloc (.cells #[hiOf b, loOf b] 87)).alloc (.cells #[hiOf (a - b), loOf (a - b)] 87) = w' := by
  have E := Lib.hid (And.intro (minus_hi a b h) (minus_lo a b))
  have ha := lo_nn a
  have hb := lo_nn b
  have ha1 := lo_lt a
  have hb1 := lo_lt b
  have hbr := borr_bd a b
  have hbe : bor (a % 18446744073709551616) (b % 18446744073709551616) = borr a b := rfl
  have hA := u64_nn (a / 18446744073709551616)
  have hB := u64_nn (b / 18446744073709551616)
  have hA1 := u64_lt (a / 18446744073709551616)
  have hB1 := u64_lt (b / 18446744073709551616)
  clear h
  unfold hiOf loOf
  go_enter Try.func60, Try.ntmps60
  go_wp2_with (first | simp only [sub64_0 _ _ ha hb ha1 hb1, hbe] | simp only [sub64 _ _ _ hA hB hA1 hB1 hbr])
  refine bodyPost_ret (results_cell_row rfl _ _ (w.heap.size + 1 + 1) 87 #[_, _] (0, 0) _ rfl (by first | exact Blk.at_ _ _ _ (by simp) | exact Blk.set_ (Blk.set_ (Blk.at_ _ _ _ (by simp)) _ _) _ _) Try.underlying87 rfl (by kernel_rfl)) rfl ?_
  rw [E.out.1, E.out.2]
  exact ⟨rfl, rfl⟩
def cmpI (a b : Int) : Int := if a < b then -1 else if b < a then 1 else 0
theorem isnan_i (a : Int) (w : World) : Calls Try.prog 98 #[.int .i64 a] w fun e w' => e = .returned (.bool false) ∧ w = w' := by
  go_enter Try.func98, Try.ntmps98
  go_wp2_with fail
  go_ret
  exact ⟨by simp, rfl⟩
theorem isnan_u (a : Int) (w : World) : Calls Try.prog 99 #[.int .u64 a] w fun e w' => e = .returned (.bool false) ∧ w = w' := by
  go_enter Try.func99, Try.ntmps99
  go_wp2_with fail
  go_ret
  exact ⟨by simp, rfl⟩
theorem isnan_n (a : Int) (w : World) : Calls Try.prog 97 #[.int .i64 a] w fun e w' => e = .returned (.bool false) ∧ w = w' := by
  go_enter Try.func97, Try.ntmps97
  go_wp2_with fail
  go_ret
  exact ⟨by simp, rfl⟩
set_option maxHeartbeats 400000 in
theorem cmp_i (a b : Int) (w : World) : Calls Try.prog 87 #[.int .i64 a, .int .i64 b] w fun e w' => e = .returned (.int .i64 (cmpI a b)) ∧ w = w' := by
  cases h1 : decide (a < b)
  · cases h2 : decide (b < a)
    · have E : Hid (cmpI a b = 0) := Lib.hid (by have := of_decide_eq_false h1; have := of_decide_eq_false h2; unfold cmpI; rw [if_neg (by omega), if_neg (by omega)])
      go_enter Try.func87, Try.ntmps87
      go_wp2_with (go_at_call 98; refine (isnan_i _ _).mono ?_; rintro e w' ⟨rfl, rfl⟩)
      go_ret
      exact ⟨by rw [E.out]; rfl, rfl⟩
    · have E : Hid (cmpI a b = 1) := Lib.hid (by have := of_decide_eq_false h1; have := of_decide_eq_true h2; unfold cmpI; rw [if_neg (by omega), if_pos (by omega)])
      go_enter Try.func87, Try.ntmps87
      go_wp2_with (go_at_call 98; refine (isnan_i _ _).mono ?_; rintro e w' ⟨rfl, rfl⟩)
      go_ret
      exact ⟨by rw [E.out]; rfl, rfl⟩
  · have E : Hid (cmpI a b = -1) := Lib.hid (by have := of_decide_eq_true h1; unfold cmpI; rw [if_pos (by omega)])
    go_enter Try.func87, Try.ntmps87
    go_wp2_with (go_at_call 98; refine (isnan_i _ _).mono ?_; rintro e w' ⟨rfl, rfl⟩)
    go_ret
    exact ⟨by rw [E.out]; rfl, rfl⟩
set_option maxHeartbeats 400000 in
theorem cmp_u (a b : Int) (w : World) : Calls Try.prog 88 #[.int .u64 a, .int .u64 b] w fun e w' => e = .returned (.int .i64 (cmpI a b)) ∧ w = w' := by
  cases h1 : decide (a < b)
  · cases h2 : decide (b < a)
    · have E : Hid (cmpI a b = 0) := Lib.hid (by have := of_decide_eq_false h1; have := of_decide_eq_false h2; unfold cmpI; rw [if_neg (by omega), if_neg (by omega)])
      go_enter Try.func88, Try.ntmps88
      go_wp2_with (go_at_call 99; refine (isnan_u _ _).mono ?_; rintro e w' ⟨rfl, rfl⟩)
      go_ret
      exact ⟨by rw [E.out]; rfl, rfl⟩
    · have E : Hid (cmpI a b = 1) := Lib.hid (by have := of_decide_eq_false h1; have := of_decide_eq_true h2; unfold cmpI; rw [if_neg (by omega), if_pos (by omega)])
      go_enter Try.func88, Try.ntmps88
      go_wp2_with (go_at_call 99; refine (isnan_u _ _).mono ?_; rintro e w' ⟨rfl, rfl⟩)
      go_ret
      exact ⟨by rw [E.out]; rfl, rfl⟩
  · have E : Hid (cmpI a b = -1) := Lib.hid (by have := of_decide_eq_true h1; unfold cmpI; rw [if_pos (by omega)])
    go_enter Try.func88, Try.ntmps88
    go_wp2_with (go_at_call 99; refine (isnan_u _ _).mono ?_; rintro e w' ⟨rfl, rfl⟩)
    go_ret
    exact ⟨by rw [E.out]; rfl, rfl⟩
set_option maxHeartbeats 400000 in
theorem cmp_n (a b : Int) (w : World) : Calls Try.prog 86 #[.int .i64 a, .int .i64 b] w fun e w' => e = .returned (.int .i64 (cmpI a b)) ∧ w = w' := by
  cases h1 : decide (a < b)
  · cases h2 : decide (b < a)
    · have E : Hid (cmpI a b = 0) := Lib.hid (by have := of_decide_eq_false h1; have := of_decide_eq_false h2; unfold cmpI; rw [if_neg (by omega), if_neg (by omega)])
      go_enter Try.func86, Try.ntmps86
      go_wp2_with (go_at_call 97; refine (isnan_n _ _).mono ?_; rintro e w' ⟨rfl, rfl⟩)
      go_ret
      exact ⟨by rw [E.out]; rfl, rfl⟩
    · have E : Hid (cmpI a b = 1) := Lib.hid (by have := of_decide_eq_false h1; have := of_decide_eq_true h2; unfold cmpI; rw [if_neg (by omega), if_pos (by omega)])
      go_enter Try.func86, Try.ntmps86
      go_wp2_with (go_at_call 97; refine (isnan_n _ _).mono ?_; rintro e w' ⟨rfl, rfl⟩)
      go_ret
      exact ⟨by rw [E.out]; rfl, rfl⟩
  · have E : Hid (cmpI a b = -1) := Lib.hid (by have := of_decide_eq_true h1; unfold cmpI; rw [if_pos (by omega)])
    go_enter Try.func86, Try.ntmps86
    go_wp2_with (go_at_call 97; refine (isnan_n _ _).mono ?_; rintro e w' ⟨rfl, rfl⟩)
    go_ret
    exact ⟨by rw [E.out]; rfl, rfl⟩
theorem cmp_hi {a b : Int} (h : a / 18446744073709551616 ≠ b / 18446744073709551616) : cmpI (a / 18446744073709551616) (b / 18446744073709551616) = cmpI a b := by
  unfold cmpI; repeat' split
  all_goals first | rfl | (exfalso; omega)
theorem cmp_lo {a b : Int} (h : a / 18446744073709551616 = b / 18446744073709551616) : cmpI (a % 18446744073709551616) (b % 18446744073709551616) = cmpI a b := by
  unfold cmpI; repeat' split
  all_goals first | rfl | (exfalso; omega)
set_option maxHeartbeats 400000 in
theorem against_any (a b : Int) (w : World) :
    Calls Try.prog 59 #[.agg #[hiOf a, loOf a], .agg #[hiOf b, loOf b]] w fun e w' => e = .returned (.int .i64 (cmpI a b)) ∧
      (w.alloc (.cells #[hiOf a, loOf a] 87)).alloc (.cells #[hiOf b, loOf b] 87) = w' := by
  unfold hiOf loOf
  cases h : (a / 18446744073709551616 == b / 18446744073709551616)
  · have E := Lib.hid (cmp_hi (by simpa using h))
    go_enter Try.func59, Try.ntmps59
    go_wp2_with (go_at_call 87; refine (cmp_i _ _ _).mono ?_; rintro e w' ⟨rfl, rfl⟩)
    go_ret
    exact ⟨by rw [E.out]; rfl, rfl⟩
  · have E := Lib.hid (cmp_lo (by simpa using h))
    go_enter Try.func59, Try.ntmps59
    go_wp2_with (go_at_call 88; refine (cmp_u _ _ _).mono ?_; rintro e w' ⟨rfl, rfl⟩)
    go_ret
    exact ⟨by rw [E.out]; rfl, rfl⟩
theorem against0 (a : Int) (w : World) :
    Calls Try.prog 59 #[.agg #[hiOf a, loOf a], .agg #[.int .i64 0, .int .u64 0]] w fun e w' => e = .returned (.int .i64 (cmpI a 0)) ∧
      (w.alloc (.cells #[hiOf a, loOf a] 87)).alloc (.cells #[hiOf 0, loOf 0] 87) = w' := against_any a 0 w
set_option maxHeartbeats 400000 in
theorem sign_any (a : Int) (w : World) :
    Calls Try.prog 62 #[.agg #[hiOf a, loOf a]] w fun e w' => e = .returned (.int .i64 (cmpI a 0)) ∧
      ((w.alloc (.cells #[hiOf a, loOf a] 87)).alloc (.cells #[hiOf a, loOf a] 87)).alloc (.cells #[hiOf 0, loOf 0] 87) = w' := by
  go_enter Try.func62, Try.ntmps62
  go_wp2_with (go_at_call 59; refine (against0 _ _).mono ?_; rintro e w' ⟨rfl, rfl⟩)
  go_ret
  exact ⟨rfl, rfl⟩
def numF (a : Int) : Int := if 9223372036854775807 < a then 9223372036854775807 else if a < -9223372036854775808 then -9223372036854775808 else a
theorem cel_alloc {W : World} {p : Addr} {v : Value} (h : W.cell? p = some v) (o : Obj) : (W.alloc o).cell? p = some v := (World.cell?_alloc_lt _ _ _ (World.block_lt_of_cell? W p h)).trans h
theorem cel_two0 (W : World) (t : TypeId) (x y : Value) : (W.alloc (.cells #[x, y] t)).cell? ⟨W.heap.size, 0, none⟩ = some x := (Blk.new W t #[x, y]).cell 0
theorem cel_two1 (W : World) (t : TypeId) (x y : Value) : (W.alloc (.cells #[x, y] t)).cell? ⟨W.heap.size, 1, none⟩ = some y := (Blk.new W t #[x, y]).cell 1
theorem bal {w w' : World} (h : Below w.heap.size w w') (o : Obj) : Below w.heap.size w (w'.alloc o) := h.alloc h.size _
end Go.Proofs.Ytbopeofglhkffaa
set_option linter.unusedSimpArgs false
set_option linter.unusedVariables false
namespace Go.Proofs.Ytbopeofglhkffaa
open Go.RowKit
theorem num_mid {a : Int} (h1 : ¬ 9223372036854775807 < a) (h2 : ¬ a < -9223372036854775808) : wrap64 (a % 18446744073709551616) = a := by unfold wrap64; omega
theorem mul_parts (x y : Int) (hx : 0 ≤ x) (hy : 0 ≤ y) (hx1 : x < 18446744073709551616) (hy1 : y < 18446744073709551616) :
    IntKind.u64.wrap (IntKind.u64.wrap (IntKind.u64.wrap (x / 4294967296 * (y / 4294967296)) + IntKind.u64.wrap (IntKind.u64.wrap (x / 4294967296 * (y % 4294967296)) + IntKind.u64.wrap (x % 4294967296 * (y % 4294967296)) / 4294967296) / 4294967296) + IntKind.u64.wrap (IntKind.u64.wrap (IntKind.u64.wrap (x / 4294967296 * (y % 4294967296)) + IntKind.u64.wrap (x % 4294967296 * (y % 4294967296)) / 4294967296) % 4294967296 + IntKind.u64.wrap (x % 4294967296 * (y / 4294967296))) / 4294967296) = x * y / 18446744073709551616 := by
  obtain ⟨p, q, hp, hq, hq1, rfl⟩ : ∃ p q : Int, 0 ≤ p ∧ 0 ≤ q ∧ q < 4294967296 ∧ x = 4294967296 * p + q := ⟨x / 4294967296, x % 4294967296, by omega, by omega, by omega, by omega⟩
  obtain ⟨r, s, hr, hs, hs1, rfl⟩ : ∃ p q : Int, 0 ≤ p ∧ 0 ≤ q ∧ q < 4294967296 ∧ y = 4294967296 * p + q := ⟨y / 4294967296, y % 4294967296, by omega, by omega, by omega, by omega⟩
  have e1 : (4294967296 * p + q) / 4294967296 = p := by omega
  have e2 : (4294967296 * p + q) % 4294967296 = q := by omega
  have e3 : (4294967296 * r + s) / 4294967296 = r := by omega
  have e4 : (4294967296 * r + s) % 4294967296 = s := by omega
  rw [e1, e2, e3, e4]
  have hp1 : p ≤ 4294967295 := by omega
  have hr1 : r ≤ 4294967295 := by omega
  have m : ∀ u v : Int, 0 ≤ u → u ≤ 4294967295 → 0 ≤ v → v ≤ 4294967295 → 0 ≤ u * v ∧ u * v ≤ 18446744065119617025 := fun u v a b c d => ⟨Int.mul_nonneg a c, Int.le_trans (Int.mul_le_mul b d c (by decide)) (by decide)⟩
  have A := m q s hq (by omega) hs (by omega)
  have B := m p s hp hp1 hs (by omega)
  have C := m q r hq (by omega) hr hr1
  have D := m p r hp hp1 hr hr1
  have e : (4294967296 * p + q) * (4294967296 * r + s) = 18446744073709551616 * (p * r) + 4294967296 * (p * s) + 4294967296 * (q * r) + q * s := by
    rw [Int.add_mul, Int.mul_add, Int.mul_add, Int.mul_assoc 4294967296 p, Int.mul_left_comm p 4294967296 r, ← Int.mul_assoc 4294967296 4294967296, Int.mul_assoc 4294967296 p s, Int.mul_left_comm q 4294967296 r]; omega
  rw [e]
  generalize q * s = A' at *
  generalize p * s = B' at *
  generalize q * r = C' at *
  generalize p * r = D' at *
  simp only [u64_eq]
  omega
theorem u64_mask (x : Int) (hx : 0 ≤ x) (hx1 : x < 18446744073709551616) : bits .and .u64 x 4294967295 = x % 4294967296 := by
  have h := bits_mask .u64 64 (by decide) (fun n h0 h1 => by rw [u64_eq]; exact Int.emod_eq_of_lt h0 (by simpa using h1)) 32 (by decide) x hx (by simpa using hx1)
  have e : ((2 : Int) ^ 32 - 1) = 4294967295 := by decide
  have e2 : ((2 : Int) ^ 32) = 4294967296 := by decide
  rw [e, e2] at h
  exact h
set_option maxHeartbeats 800000 in
theorem mul64_any (x y : Int) (w : World) (hx : 0 ≤ x) (hy : 0 ≤ y) (hx1 : x < 18446744073709551616) (hy1 : y < 18446744073709551616) :
    Calls Try.prog 90 #[.int .u64 x, .int .u64 y] w fun e w' => e = .returned (.tuple #[.int .u64 (x * y / 18446744073709551616), .int .u64 (x * y % 18446744073709551616)]) ∧ w = w' := by
  have hm := u64_mask x hx hx1
  have hm2 := u64_mask y hy hy1
  have hm3 : ∀ z, bits .and .u64 (IntKind.u64.wrap z) 4294967295 = IntKind.u64.wrap z % 4294967296 := fun z => u64_mask _ (u64_nn _) (u64_lt _)
  have E := Lib.hid (mul_parts x y hx hy hx1 hy1)
  go_enter Try.func90, Try.ntmps90
  go_wp2_with fail
  go_ret2
  exact ⟨by rw [← E.out, ← u64_eq (x * y)]; rfl, rfl⟩
theorem times_parts (a b : Int) : IntKind.u64.wrap a * IntKind.u64.wrap b = a * b + 18446744073709551616 * (18446744073709551616 * (a / 18446744073709551616 * (b / 18446744073709551616)) - a / 18446744073709551616 * b - b / 18446744073709551616 * a) := by
  rw [u64_eq, u64_eq]
  obtain ⟨q, r, hr0, hr1, rfl⟩ := split64 a
  obtain ⟨p, s, hs0, hs1, rfl⟩ := split64 b
  rw [(split_hi q r hr0 hr1).1, (split_hi q r hr0 hr1).2, (split_hi p s hs0 hs1).1, (split_hi p s hs0 hs1).2]
  have e : (18446744073709551616 * q + r) * (18446744073709551616 * p + s) = 340282366920938463463374607431768211456 * (q * p) + 18446744073709551616 * (q * s) + 18446744073709551616 * (r * p) + r * s := by
    rw [Int.add_mul, Int.mul_add, Int.mul_add, Int.mul_assoc 18446744073709551616 q, Int.mul_left_comm q 18446744073709551616 p, ← Int.mul_assoc 18446744073709551616 18446744073709551616, Int.mul_assoc 18446744073709551616 q s, Int.mul_left_comm r 18446744073709551616 p]; omega
  have e2 : q * (18446744073709551616 * p + s) = 18446744073709551616 * (q * p) + q * s := by rw [Int.mul_add, Int.mul_left_comm]
  have e3 : p * (18446744073709551616 * q + r) = 18446744073709551616 * (q * p) + r * p := by rw [Int.mul_add, Int.mul_left_comm, Int.mul_comm p q, Int.mul_comm p r]
  rw [e, e2, e3]
  omega
theorem len8_lt (x : Nat) (h : x < 18446744073709551616) : x < 2 ^ Lib.bitLen x := by
  by_cases h0 : x = 0
  · subst h0; decide
  · exact (Lib.bitLenAux_bounds 64 x h h0).2.2
theorem len8_at (n : Nat) (h : n < Lib.len8tab.size) : ((Lib.len8tab[n]'h).toNat : Int) = (Lib.bitLen n : Int) ∧ Lib.bitLen n ≤ 8 := by
  have h2 : n < 256 := by rw [← Lib.len8tab_size]; exact h
  have e := Lib.len8_of n (by omega) (by omega)
  have l := Lib.bitLen_le8' n (by omega) (by omega)
  have e2 : Lib.len8 (n : Int) = ((Lib.len8tab[n]'h).toNat : Int) := by
    unfold Lib.len8
    rw [Int.toNat_natCast, getElem?_pos Lib.len8tab n h]
    rfl
  rw [e2, Int.toNat_natCast] at e
  rw [Int.toNat_natCast] at l
  exact ⟨e, l⟩
theorem len8_add (k n : Nat) (h : n ≤ 8) (hk : k ≤ 100) : wrap64 ((k : Int) + wrap64 n) = ((k + n : Nat) : Int) := by unfold wrap64; omega
theorem len8_add0 (n : Nat) (h : n ≤ 8) : wrap64 (wrap64 n) = (n : Int) := by unfold wrap64; omega
set_option maxRecDepth 100000 in
set_option maxHeartbeats 4000000 in
theorem len64_any (x : Int) (w : World) (h0 : 0 ≤ x) (h1 : x ≤ 18446744073709551615) :
    Calls Try.prog 101 #[.int .u64 x] w fun e w' => e = .returned (.int .i64 (Lib.bitLen x.toNat)) ∧ w' = w := by
  have hz := Lib.len8tab_size
  go_enter Try.func101, Try.ntmps101
  go_wp2
  all_goals first | (exfalso; rw [hz] at *; omega) | (go_ret; refine ⟨congrArg Ending.returned (congrArg (Value.int IntKind.i64) ?_), rfl⟩)
  · obtain ⟨e8, l8⟩ := len8_at (x / 4294967296 / 65536 / 256).toNat (by rw [hz]; omega)
    have e : (x / 4294967296 / 65536 / 256).toNat = x.toNat / 72057594037927936 := by omega
    have s := Lib.bitLen_shift56 x.toNat (by omega) (by omega)
    rw [e8, s, ← e]
    exact len8_add 56 _ l8 (by decide)
  · obtain ⟨e8, l8⟩ := len8_at (x / 4294967296 / 65536).toNat (by rw [hz]; omega)
    have e : (x / 4294967296 / 65536).toNat = x.toNat / 281474976710656 := by omega
    have s := Lib.bitLen_shift48 x.toNat (by omega) (by omega)
    rw [e8, s, ← e]
    exact len8_add 48 _ l8 (by decide)
  · obtain ⟨e8, l8⟩ := len8_at (x / 4294967296 / 256).toNat (by rw [hz]; omega)
    have e : (x / 4294967296 / 256).toNat = x.toNat / 1099511627776 := by omega
    have s := Lib.bitLen_shift40 x.toNat (by omega) (by omega)
    rw [e8, s, ← e]
    exact len8_add 40 _ l8 (by decide)
  · obtain ⟨e8, l8⟩ := len8_at (x / 4294967296).toNat (by rw [hz]; omega)
    have e : (x / 4294967296).toNat = x.toNat / 4294967296 := by omega
    have s := Lib.bitLen_shift32 x.toNat (by omega) (by omega)
    rw [e8, s, ← e]
    exact len8_add 32 _ l8 (by decide)
  · obtain ⟨e8, l8⟩ := len8_at (x / 65536 / 256).toNat (by rw [hz]; omega)
    have e : (x / 65536 / 256).toNat = x.toNat / 16777216 := by omega
    have s := Lib.bitLen_shift24 x.toNat (by omega) (by omega)
    rw [e8, s, ← e]
    exact len8_add 24 _ l8 (by decide)
  · obtain ⟨e8, l8⟩ := len8_at (x / 65536).toNat (by rw [hz]; omega)
    have e : (x / 65536).toNat = x.toNat / 65536 := by omega
    have s := Lib.bitLen_shift16 x.toNat (by omega) (by omega)
    rw [e8, s, ← e]
    exact len8_add 16 _ l8 (by decide)
  · obtain ⟨e8, l8⟩ := len8_at (x / 256).toNat (by rw [hz]; omega)
    have e : (x / 256).toNat = x.toNat / 256 := by omega
    have s := Lib.bitLen_shift8 x.toNat (by omega) (by omega)
    rw [e8, s, ← e]
    exact len8_add 8 _ l8 (by decide)
  · obtain ⟨e8, l8⟩ := len8_at x.toNat (by rw [hz]; omega)
    rw [e8]
    exact len8_add0 _ l8
theorem times_mod (a b : Int) : IntKind.u64.wrap a * IntKind.u64.wrap b % 18446744073709551616 = a * b % 18446744073709551616 := by rw [times_parts]; omega
theorem times_hi (a b : Int) (ha : -9223372036854775808 ≤ a ∧ a < 9223372036854775808) (hb : -9223372036854775808 ≤ b ∧ b < 9223372036854775808) (s t : Int) (hs : s = if a < 0 then IntKind.u64.wrap b else 0) (ht : t = if b < 0 then IntKind.u64.wrap a else 0) (u : Int) (hu : ∃ k, u = IntKind.u64.wrap a * IntKind.u64.wrap b / 18446744073709551616 - s - t + 18446744073709551616 * k) : wrap64 (u % 18446744073709551616) = a * b / 18446744073709551616 := by
  obtain ⟨k, rfl⟩ := hu
  rw [times_parts]
  have m : -85070591730234615865843651857942052864 ≤ a * b ∧ a * b ≤ 85070591730234615865843651857942052864 := by
    have h1 : (a * b).natAbs ≤ 9223372036854775808 * 9223372036854775808 := by rw [Int.natAbs_mul]; exact Nat.mul_le_mul (by omega) (by omega)
    omega
  have hA : a / 18446744073709551616 = if a < 0 then -1 else 0 := by split <;> omega
  have hB : b / 18446744073709551616 = if b < 0 then -1 else 0 := by split <;> omega
  rw [hA, hB]
  rw [u64_eq] at hs ht
  generalize a * b = p at m ⊢
  subst hs ht
  by_cases h1 : a < 0 <;> by_cases h2 : b < 0 <;> simp only [h1, h2, if_true, if_false] <;> unfold wrap64 <;> omega
end Go.Proofs.Ytbopeofglhkffaa
