/- Wide numbers of package mains: contracts (times). -/
import Derived.Test.YtbopeofglhkffaaWy
set_option linter.unusedSimpArgs false
set_option linter.unusedVariables false
namespace Go.Proofs.Ytbopeofglhkffaa
open Go.RowKit
theorem wrap64_mod (x y : Int) (h : ∃ k : Int, x = y + 18446744073709551616 * k) : wrap64 x = wrap64 (y % 18446744073709551616) := by
  obtain ⟨k, rfl⟩ := h
  unfold wrap64; omega
theorem times_h0 (a b : Int) (ha : -9223372036854775808 ≤ a ∧ a < 9223372036854775808) (hb : -9223372036854775808 ≤ b ∧ b < 9223372036854775808) (h1 : ¬ a < 0) (h2 : ¬ b < 0) : wrap64 (IntKind.u64.wrap a * IntKind.u64.wrap b / 18446744073709551616) = a * b / 18446744073709551616 := by
  rw [← times_hi a b ha hb 0 0 (by rw [if_neg h1]) (by rw [if_neg h2]) (IntKind.u64.wrap a * IntKind.u64.wrap b / 18446744073709551616 - 0 - 0) ⟨0, by omega⟩]
  apply wrap64_mod
  skip
  generalize IntKind.u64.wrap a = A
  generalize IntKind.u64.wrap b = B
  generalize A * B / 18446744073709551616 = H
  exact ⟨0, by omega⟩
theorem times_h1 (a b : Int) (ha : -9223372036854775808 ≤ a ∧ a < 9223372036854775808) (hb : -9223372036854775808 ≤ b ∧ b < 9223372036854775808) (h1 : ¬ a < 0) (h2 : b < 0) : wrap64 (IntKind.u64.wrap (IntKind.u64.wrap a * IntKind.u64.wrap b / 18446744073709551616 - IntKind.u64.wrap a)) = a * b / 18446744073709551616 := by
  rw [← times_hi a b ha hb 0 (IntKind.u64.wrap a) (by rw [if_neg h1]) (by rw [if_pos h2]) (IntKind.u64.wrap a * IntKind.u64.wrap b / 18446744073709551616 - 0 - (IntKind.u64.wrap a)) ⟨0, by omega⟩]
  apply wrap64_mod
  rw [u64_eq (_ - _)]
  generalize IntKind.u64.wrap a = A
  generalize IntKind.u64.wrap b = B
  generalize A * B / 18446744073709551616 = H
  exact ⟨-((H - A) / 18446744073709551616), by omega⟩
theorem times_h2 (a b : Int) (ha : -9223372036854775808 ≤ a ∧ a < 9223372036854775808) (hb : -9223372036854775808 ≤ b ∧ b < 9223372036854775808) (h1 : a < 0) (h2 : ¬ b < 0) : wrap64 (IntKind.u64.wrap (IntKind.u64.wrap a * IntKind.u64.wrap b / 18446744073709551616 - IntKind.u64.wrap b)) = a * b / 18446744073709551616 := by
  rw [← times_hi a b ha hb (IntKind.u64.wrap b) 0 (by rw [if_pos h1]) (by rw [if_neg h2]) (IntKind.u64.wrap a * IntKind.u64.wrap b / 18446744073709551616 - (IntKind.u64.wrap b) - 0) ⟨0, by omega⟩]
  apply wrap64_mod
  rw [u64_eq (_ - _)]
  generalize IntKind.u64.wrap a = A
  generalize IntKind.u64.wrap b = B
  generalize A * B / 18446744073709551616 = H
  exact ⟨-((H - B) / 18446744073709551616), by omega⟩
theorem times_h3 (a b : Int) (ha : -9223372036854775808 ≤ a ∧ a < 9223372036854775808) (hb : -9223372036854775808 ≤ b ∧ b < 9223372036854775808) (h1 : a < 0) (h2 : b < 0) : wrap64 (IntKind.u64.wrap (IntKind.u64.wrap (IntKind.u64.wrap a * IntKind.u64.wrap b / 18446744073709551616 - IntKind.u64.wrap b) - IntKind.u64.wrap a)) = a * b / 18446744073709551616 := by
  rw [← times_hi a b ha hb (IntKind.u64.wrap b) (IntKind.u64.wrap a) (by rw [if_pos h1]) (by rw [if_pos h2]) (IntKind.u64.wrap a * IntKind.u64.wrap b / 18446744073709551616 - (IntKind.u64.wrap b) - (IntKind.u64.wrap a)) ⟨0, by omega⟩]
  apply wrap64_mod
  rw [u64_eq (_ - _), u64_eq (IntKind.u64.wrap a * IntKind.u64.wrap b / 18446744073709551616 - _)]
  generalize IntKind.u64.wrap a = A
  generalize IntKind.u64.wrap b = B
  generalize A * B / 18446744073709551616 = H
  exact ⟨-(((H - B) % 18446744073709551616 - A) / 18446744073709551616) - (H - B) / 18446744073709551616, by omega⟩
set_option maxRecDepth 100000 in
set_option maxHeartbeats 800000 in
theorem times_any (a b : Int) (w : World) (ha : -9223372036854775808 ≤ a ∧ a < 9223372036854775808) (hb : -9223372036854775808 ≤ b ∧ b < 9223372036854775808) :
    Calls Try.prog 61 #[.int .i64 a, .int .i64 b] w fun e w' => e = .returned (.agg #[hiOf (a * b), loOf (a * b)]) ∧ w.alloc (.cells #[hiOf (a * b), loOf (a * b)] 87) = w' := by
  have hA := u64_nn a
  have hB := u64_nn b
  have hA1 := u64_lt a
  have hB1 := u64_lt b
  have E2 := Lib.hid (times_mod a b)
  cases h1 : decide (a < 0)
  · cases h2 : decide (b < 0)
    · have E := Lib.hid (times_h0 a b ha hb (of_decide_eq_false h1) (of_decide_eq_false h2))
      clear ha hb
      go_enter Try.func61, Try.ntmps61
      go_wp2_with (go_at_call 90; refine (mul64_any _ _ _ hA hB hA1 hB1).mono ?_; rintro e w' ⟨rfl, rfl⟩)
      refine bodyPost_ret (results_cell_row rfl _ _ w.heap.size 87 #[_, _] (0, 0) _ rfl (by first | exact Blk.at_ _ _ _ (by simp)) Try.underlying87 rfl (by kernel_rfl)) rfl ?_
      unfold hiOf loOf
      rw [← E.out, ← E2.out]
      exact ⟨rfl, rfl⟩
    · have E := Lib.hid (times_h1 a b ha hb (of_decide_eq_false h1) (of_decide_eq_true h2))
      clear ha hb
      go_enter Try.func61, Try.ntmps61
      go_wp2_with (go_at_call 90; refine (mul64_any _ _ _ hA hB hA1 hB1).mono ?_; rintro e w' ⟨rfl, rfl⟩)
      refine bodyPost_ret (results_cell_row rfl _ _ w.heap.size 87 #[_, _] (0, 0) _ rfl (by first | exact Blk.at_ _ _ _ (by simp)) Try.underlying87 rfl (by kernel_rfl)) rfl ?_
      unfold hiOf loOf
      rw [← E.out, ← E2.out]
      exact ⟨rfl, rfl⟩
  · cases h2 : decide (b < 0)
    · have E := Lib.hid (times_h2 a b ha hb (of_decide_eq_true h1) (of_decide_eq_false h2))
      clear ha hb
      go_enter Try.func61, Try.ntmps61
      go_wp2_with (go_at_call 90; refine (mul64_any _ _ _ hA hB hA1 hB1).mono ?_; rintro e w' ⟨rfl, rfl⟩)
      refine bodyPost_ret (results_cell_row rfl _ _ w.heap.size 87 #[_, _] (0, 0) _ rfl (by first | exact Blk.at_ _ _ _ (by simp)) Try.underlying87 rfl (by kernel_rfl)) rfl ?_
      unfold hiOf loOf
      rw [← E.out, ← E2.out]
      exact ⟨rfl, rfl⟩
    · have E := Lib.hid (times_h3 a b ha hb (of_decide_eq_true h1) (of_decide_eq_true h2))
      clear ha hb
      go_enter Try.func61, Try.ntmps61
      go_wp2_with (go_at_call 90; refine (mul64_any _ _ _ hA hB hA1 hB1).mono ?_; rintro e w' ⟨rfl, rfl⟩)
      refine bodyPost_ret (results_cell_row rfl _ _ w.heap.size 87 #[_, _] (0, 0) _ rfl (by first | exact Blk.at_ _ _ _ (by simp)) Try.underlying87 rfl (by kernel_rfl)) rfl ?_
      unfold hiOf loOf
      rw [← E.out, ← E2.out]
      exact ⟨rfl, rfl⟩
end Go.Proofs.Ytbopeofglhkffaa
