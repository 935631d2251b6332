/- Contracts of the reference's big numbers (package jambref01): Cut, Sum. -/
import Derived.Test.YtenpjdpkilbhkaaRefc
set_option linter.unusedSimpArgs false
set_option linter.unusedVariables false
namespace Go.Proofs.Ytenpjdpkilbhkaa
open Go.RowKit
attribute [local go_sem] block_of_add

theorem of_use (x : Int) (w : World) (h0 : -9223372036854775808 ≤ x) (h1 : x < 9223372036854775808) :
    Calls Try.prog 46 #[.int .i64 x] w fun e w' => ∃ (m : Bool) (A : Option Addr) (c : Nat) (l : List Bool), e = .returned (.agg #[.bool m, .slice A l.length c]) ∧ Below w.heap.size w w' ∧ l.length ≤ c ∧ l.length ≤ 64 ∧ Reads w' w'.heap.size 1 A l.length (bools l) ∧ sg m (val l) = x :=
  (of_any x w h0 h1).mono fun _ _ ⟨_, he, ⟨m, A, c, l, hv, h1, h2, h3, h5, h4⟩, hb⟩ => ⟨m, A, c, l, by rw [he, hv], hb, h1, h2, h3, h4⟩
theorem add_use (v1 v2 : Value) (K1 K2 : Nat) (x y : Int) (w : World) (hK1 : K1 ≤ 1048575) (hK2 : K2 ≤ 1048575) (lo1 lo2 : Nat) (h1 : Big w lo1 v1 K1 x) (h2 : Big w lo2 v2 K2 y) :
    Calls Try.prog 60 #[v1, v2] w fun e w' => ∃ (m : Bool) (A : Option Addr) (c : Nat) (l : List Bool), e = .returned (.agg #[.bool m, .slice A l.length c]) ∧ Below w.heap.size w w' ∧ Big w' w.heap.size (.agg #[.bool m, .slice A l.length c]) (max K1 K2 + 1) (x + y) :=
  (add_any v1 v2 K1 K2 x y w hK1 hK2 lo1 lo2 h1 h2).mono fun _ _ ⟨_, he, ⟨m, A, c, l, hv, h1, h2, h3, h5, h4⟩, hb⟩ => ⟨m, A, c, l, by rw [he, hv], hb, m, A, c, l, rfl, h1, h2, h3, h5, h4⟩

theorem fld_L (m : Bool) (A : Option Addr) (n c : Nat) (w : World) : (Instr.field 101 (.agg #[.bool m, .slice A n c]) 1).run Try.prog w = .ok (.slice A n c) w := by kernel_rfl
attribute [local go_sem] fld_L

theorem sg_val_max {m : Bool} {l : List Bool} (h : sg m (val l) = 1099511627776) : val l = 1099511627776 := by
  have := val_nn l
  unfold sg at h; split at h <;> omega
theorem cut_step {l : List Bool} {k : Nat} {n : Int} (hn : n = val (l.drop (k + 1))) : 2 * n + dg l k = val (l.drop k) := by subst hn; rw [val_drop l k]; omega
theorem drop_le (l : List Bool) (k : Nat) : val (l.drop k) ≤ val l := by
  have h := val_parts l k
  have h1 := val_take_nn l k
  have h2 := val_nn (l.drop k)
  have h3 := pow2_pos k
  have := Int.mul_le_mul_of_nonneg_right (show 1 ≤ (2 : Int) ^ k by omega) h2
  omega

set_option maxHeartbeats 1000000 in
theorem rcut_any (v : Value) (K : Nat) (x : Int) (w : World) (hK : K ≤ 1048576) (lo : Nat) (h : Big w lo v K x) :
    Calls Try.prog 45 #[v] w fun e w' => e = .returned (.tuple #[.int .i64 (cutF x), .bool (cutB x)]) ∧ Below w.heap.size w w' := by
  obtain ⟨m, A, c, l, rfl, hc, hk, hr, _, rfl⟩ := h
  go_enter Try.func45, Try.ntmps45
  go_wp2_with fail
  generalize hW : World.alloc w _ = W
  have b0 : Blk W w.heap.size 101 #[.bool m, .slice A l.length c] := by rw [← hW]; exact Blk.new _ _ _
  have hw : Below w.heap.size w W := by rw [← hW]; exact (Below.refl _ _).alloc (Nat.le_refl _) _
  clear hW
  obtain ⟨c0, c1⟩ := b0.c2
  have hz := b0.lt
  have k0 : W.drew.cell? ⟨w.heap.size, 1, none⟩ = some (.slice A l.length c) := c1
  have hnn := val_nn l
  by_cases hb : 1099511627776 < val l
  · go_region_held3 (fun w' => w'.cell? ⟨w.heap.size, 1, none⟩ = some (.slice A l.length c)) (first | (with_reducible exact k0) | (with_reducible exact k1))
      (first
        | (go_at_call 46; refine (of_use 1099511627776 _ (by omega) (by omega)).mono ?_; rintro e w1 ⟨m1, A1, d1, l1, rfl, hb1, hc1, hl1, hr1, hx1⟩; have HX := Lib.hid (sg_val_max hx1); clear hx1; have k1 : w1.cell? ⟨w.heap.size, 1, none⟩ = some (.slice A l.length c) := (hb1.cell (p := ⟨_, 1, none⟩) hz).trans c1)
        | (go_at_call 58; refine (less_any l1 l A1 A d1 c _ (by omega) (by omega) hr1 (by exact (hr.below (hw.drew.trans (hb1.mono hw.size))).more (Nat.le_trans hw.size hb1.size))).mono ?_; rintro e w2 ⟨rfl, rfl⟩))
    have hd : val l1 < val l := by rw [HX.out]; exact hb
    have k2 : w1.cell? ⟨w.heap.size, 0, none⟩ = some (.bool m) := (hb1.cell (p := ⟨_, 0, none⟩) hz).trans c0
    have hw1 := hw.drew.trans (hb1.mono hw.size)
    cases m
    · have hF : cutF (sg false (val l)) = 1099511627776 ∧ cutB (sg false (val l)) = true := by unfold cutF cutB sg; constructor <;> simp <;> omega
      have HF := Lib.hid hF
      clear hF
      go_wp2_with fail
      go_ret2
      exact ⟨by rw [HF.out.1, HF.out.2]; rfl, hw1⟩
    · have hF : cutF (sg true (val l)) = -1099511627776 ∧ cutB (sg true (val l)) = true := by unfold cutF cutB sg; constructor <;> simp <;> omega
      have HF := Lib.hid hF
      clear hF
      go_wp2_with fail
      go_ret2
      exact ⟨by rw [HF.out.1, HF.out.2]; rfl, hw1⟩
  · go_region_held3 (fun w' => w'.cell? ⟨w.heap.size, 1, none⟩ = some (.slice A l.length c)) (first | (with_reducible exact k0) | (with_reducible exact k1))
      (first
        | (go_at_call 46; refine (of_use 1099511627776 _ (by omega) (by omega)).mono ?_; rintro e w1 ⟨m1, A1, d1, l1, rfl, hb1, hc1, hl1, hr1, hx1⟩; have HX := Lib.hid (sg_val_max hx1); clear hx1; have k1 : w1.cell? ⟨w.heap.size, 1, none⟩ = some (.slice A l.length c) := (hb1.cell (p := ⟨_, 1, none⟩) hz).trans c1)
        | (go_at_call 58; refine (less_any l1 l A1 A d1 c _ (by omega) (by omega) hr1 (by exact (hr.below (hw.drew.trans (hb1.mono hw.size))).more (Nat.le_trans hw.size hb1.size))).mono ?_; rintro e w2 ⟨rfl, rfl⟩))
    have hd : val l ≤ val l1 := by rw [HX.out]; omega
    have k2 : w1.cell? ⟨w.heap.size, 0, none⟩ = some (.bool m) := (hb1.cell (p := ⟨_, 0, none⟩) hz).trans c0
    have hw1 := hw.drew.trans (hb1.mono hw.size)
    have hrw := (hr.below hw1).more hw1.size
    go_wp2_with fail
    go_loop [4, 5] (fun n i => ∃ k : Nat, k ≤ l.length ∧ i = .int .i64 ((k : Int) - 1) ∧ n = .int .i64 (val (l.drop k))) (fun _ i => (intOf i + 1).toNat)
    case atStart => exact ⟨_, Nat.le_refl _, rfl, by rw [val_drop_len _ _ (Nat.le_refl _)]⟩
    case round =>
      obtain ⟨k, hkl, rfl, rfl⟩ := hrel
      rcases k with _ | k
      · have h0 := val_nn l
        rw [List.drop_zero]
        cases m
        · have hF : cutF (sg false (val l)) = val l ∧ cutB (sg false (val l)) = false := by unfold cutF cutB sg; constructor <;> simp <;> omega
          have HF := Lib.hid hF
          clear hF
          go_wp2_with fail
          go_ret2
          exact ⟨by rw [HF.out.1, HF.out.2]; rfl, hw1⟩
        · have hF : cutF (sg true (val l)) = -val l ∧ cutB (sg true (val l)) = false := by unfold cutF cutB sg; constructor <;> simp <;> omega
          have HF := Lib.hid hF
          clear hF
          go_wp2_with fail
          go_ret2
          exact ⟨by rw [HF.out.1, HF.out.2]; rfl, hw1⟩
      · have hn0 := val_nn (l.drop (k + 1))
        have hn1 := drop_le l (k + 1)
        have hn2 := dg_01 l k
        have HS := Lib.hid (cut_step (l := l) (k := k) rfl)
        go_wp2_with fail
        refine (at_any l k _ rfl A c _ (by omega) hrw).mono ?_
        rintro e w' ⟨rfl, rfl⟩
        go_wp2_with fail
        go_round
        case rel => exact ⟨k, by omega, by go_num, by rw [HS.out]⟩
        case measure => simp [intOf]

end Go.Proofs.Ytenpjdpkilbhkaa
