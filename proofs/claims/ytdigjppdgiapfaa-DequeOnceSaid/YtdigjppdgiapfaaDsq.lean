/- Contracts: New and Tasks of a deque. -/
import Derived.Test.YtdigjppdgiapfaaDsp
set_option linter.unusedSimpArgs false
set_option linter.unusedVariables false
namespace Go.Proofs.Ytdigjppdgiapfaa
open Go.RowKit
attribute [local go_sem] block_of_add fn_some fn_nil fn_somen fn_niln
attribute [local go_sem ↓] Go.wp_at_zero Go.wp_at_succ

theorem el_a64 : El Try.prog 58 73 (.agg #[.int .i64 0]) 1 8 := ⟨Try.underlying58, by kernel_rfl, rfl, by decide⟩
theorem el_int : El Try.prog 49 3 (.int .i64 0) 1 8 := ⟨Try.underlying49, by kernel_rfl, rfl, by decide⟩
theorem made_a64 (n : Nat) : madeCells (Value.agg #[.int .i64 0]).cells ((2 + n) * 1) = (dqCells (Dq.made n)).toArray := by
  apply Array.toList_inj.1
  rw [Nat.mul_one]
  show (madeCells #[.int .i64 0] (2 + n)).toList = _
  rw [toList_madeCells_one, Nat.add_comm 2 n]
  simp [dqCells, Dq.made, List.replicate_succ]
theorem make_a64 (n : Nat) (hn : n ≤ 1000000) (w : World) : (Instr.makeSlice 58 (.int .i64 (2 + (n : Int))) (.int .i64 (2 + (n : Int)))).run Try.prog w = .ok (.slice (some ⟨w.heap.size, 0, none⟩) (2 + n) (2 + n)) (w.alloc (.cells (dqCells (Dq.made n)).toArray 73)) := by
  obtain ⟨i, hi, hz, hs, hb⟩ := info_parts el_a64.info
  have h := run_makeSlice (P := Try.prog) (w := w) 58 73 i (.agg #[.int .i64 0]) el_a64.ht hi hz .i64 .i64 (2 + (n : Int)) (2 + (n : Int)) (by omega) (by omega) (by rw [hs]; omega) (by rw [hb]; omega) (by omega)
  rw [h, hs, show (2 + (n : Int)).toNat = 2 + n by omega, made_a64]
structure Made (w w' : World) (n : Nat) (e : Ending) : Prop where
  e : e = .returned (.tuple #[.pointer (some ⟨w.heap.size + 1, 0, none⟩), .int .i64 0])
  d : DqAt w' (w.heap.size + 1) w.heap.size (Dq.made n) (.pointer none)
  k : Kp (fun _ => False) w w'
set_option maxHeartbeats 400000 in
theorem new_any (n : Nat) (h1 : 1 ≤ n) (h2 : n ≤ 65536) (w : World) : Calls Try.prog 9 #[.int .i64 (n : Int)] w fun e w' => Made w w' n e := by
  have d1 : decide ((n : Int) < 1) = false := decide_eq_false (by omega)
  have d2 : decide ((65536 : Int) < n) = false := decide_eq_false (by omega)
  have d3 : ¬ (n : Int) < 1 := by omega
  have d4 : ¬ (65536 : Int) < n := by omega
  have d5 : n ≤ 65536 := h2
  have d6 : ¬ n < 1 := by omega
  have hwr : IntKind.i64.wrap (2 + (n : Int)) = 2 + (n : Int) := IntWalk.i64_in _ ⟨by omega, by omega⟩
  have hmk := make_a64 n (by omega)
  have HN := Lib.hid h1
  clear h1 h2
  go_enter Try.func9, Try.ntmps9
  go_wp2_with fail
  refine bodyPost_ret (v := .tuple #[.pointer (some ⟨w.heap.size + 1, 0, none⟩), .int .i64 0]) (by simp [results, Try.results9, go_sem]) rfl ⟨rfl, ⟨?_, ?_⟩, ?_⟩
  · refine Blk.conv (Blk.at_ _ _ _ (by simp)) ?_
    simp [Dq.made]
  · exact (Blk.at_ _ _ _ rfl).alloc _
  · exact ((Kp.refl _ _).alloc _).alloc _
set_option maxHeartbeats 400000 in
theorem new_bad (n : Int) (h : n < 1 ∨ 65536 < n) (w : World) : Calls Try.prog 9 #[.int .i64 n] w fun e w' => e = .returned (.tuple #[.pointer none, .int .i64 1]) ∧ w' = w := by
  by_cases h1 : n < 1
  · have d1 : decide (n < 1) = true := decide_eq_true h1
    clear h h1
    go_enter Try.func9, Try.ntmps9
    go_wp2_with fail
    exact bodyPost_ret (v := .tuple #[.pointer none, .int .i64 1]) (by simp [results, Try.results9, go_sem]) rfl ⟨rfl, rfl⟩
  · have d1 : decide (n < 1) = false := decide_eq_false h1
    have d2 : decide (65536 < n) = true := decide_eq_true (by omega)
    clear h h1
    go_enter Try.func9, Try.ntmps9
    go_wp2_with fail
    exact bodyPost_ret (v := .tuple #[.pointer none, .int .i64 1]) (by simp [results, Try.results9, go_sem]) rfl ⟨rfl, rfl⟩
set_option maxHeartbeats 400000 in
theorem loadm (a : Addr) (x : Int) (w : World) (hc : w.cell? a = some (.int .i64 x)) : Calls Try.prog 31 #[.pointer (some a)] w fun e w' => e = .returned (.int .i64 x) ∧ w' = w := by
  have hld := load64 a x w hc
  go_enter Try.func31, Try.ntmps31
  go_wp2
  go_ret
  exact ⟨rfl, rfl⟩
theorem tasks_len (d : Dq) : d.tasks.length = d.tasksN := by simp [Dq.tasks]
theorem tasks_at (d : Dq) (k : Nat) (h : k < d.tasks.length) : d.tasks[k] = d.at_ (d.top + (k : Int)) := by simp [Dq.tasks]
theorem tasks_take (d : Dq) (k : Nat) (h : k < d.tasks.length) : d.tasks.take (k + 1) = d.tasks.take k ++ [d.at_ (d.top + (k : Int))] := by
  rw [List.take_succ_eq_append_getElem h, tasks_at]
end Go.Proofs.Ytdigjppdgiapfaa
