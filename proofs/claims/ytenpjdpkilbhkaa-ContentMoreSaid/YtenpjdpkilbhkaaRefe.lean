/- The contract of the reference's Sum (package jambref01). -/
import Derived.Test.YtenpjdpkilbhkaaRefd
set_option linter.unusedSimpArgs false
set_option linter.unusedVariables false
namespace Go.Proofs.Ytenpjdpkilbhkaa
open Go.RowKit
attribute [local go_sem] block_of_add

theorem rsum_step {l : List Int} {k : Nat} (hk : k < l.length) : (l.take k).sum + l[k] = (l.take (k + 1)).sum := (take_sum_succ l k hk).symm

set_option maxHeartbeats 1000000 in
theorem rsum_any (l : List Int) (A : Option Addr) (c : Nat) (w : World) (hl : I64s l) (hn : l.length ≤ 1048000) (hr : Reads w w.heap.size 1 A l.length (i64s l)) :
    Calls Try.prog 48 #[.slice A l.length c] w fun e w' => e = .returned (.tuple #[.int .i64 (cutF l.sum), .bool (cutB l.sum)]) ∧ Below w.heap.size w w' := by
  go_enter Try.func48, Try.ntmps48
  go_wp2_with fail
  go_loopw [5] (fun i wr => ∃ (k : Nat) (m : Bool) (B : Option Addr) (d : Nat) (b : List Bool), k ≤ l.length ∧ i = .int .i64 k ∧ Blk wr w.heap.size 101 #[.bool m, .slice B b.length d] ∧ Big wr (w.heap.size + 1) (.agg #[.bool m, .slice B b.length d]) (65 + k) (l.take k).sum ∧ Below w.heap.size w wr)
    (fun i _ => l.length - (intOf i).toNat)
  case atStart => exact ⟨0, false, none, 0, [], by omega, rfl, Blk.new _ _ _, ⟨false, none, 0, [], rfl, by simp, by simp, Reads.none_, by simp, by simp [sg, val]⟩, (Below.refl _ _).alloc (Nat.le_refl _) _⟩
  case round =>
    obtain ⟨k, m, B, d, b, hk, rfl, b0, hbig, hw⟩ := hrel
    obtain ⟨c0, c1⟩ := b0.c2
    have hz := b0.lt
    by_cases hlt : k < l.length
    · obtain ⟨ad, u, rfl, hab, hx, hcl⟩ := (hr.below hw).at_ hlt
      have hu : u = .int .i64 l[k] := by simpa [i64s, hlt] using hx.symm
      subst hu
      have hx2 := hl.at_ hlt
      have HS := Lib.hid (rsum_step hlt)
      clear hx hr
      go_wp2_with fail
      go_region_with (first
        | (go_at_call 46; refine (of_any l[k] _ hx2.1 hx2.2).mono ?_; rintro e w1 ⟨v1, rfl, hbig1, hb1⟩; have k0 : w1.cell? ⟨w.heap.size, 0, none⟩ = some (.bool m) := (hb1.cell (p := ⟨_, 0, none⟩) hz).trans c0; have k1 : w1.cell? ⟨w.heap.size, 1, none⟩ = some (.slice B b.length d) := (hb1.cell (p := ⟨_, 1, none⟩) hz).trans c1)
        | (go_at_call 60; refine (add_use _ v1 (65 + k) 64 (l.take k).sum l[k] _ (by omega) (by omega) _ _ (by exact hbig.drew.below hb1) hbig1).mono ?_; rintro e w2 ⟨m2, B2, d2, b2, rfl, hb2, hbig2⟩; have hbb := hb1.trans (hb2.mono hb1.size); have b2' := b0.drew.below hbb hz; obtain ⟨e0, e1⟩ := b2'.c2; have ef := b2'.frozen))
      all_goals
        go_wp2_with fail
        go_roundw
        case rel => exact ⟨k + 1, m2, B2, d2, b2, by omega, by go_num, (b2'.set_ 0 _).set_ 1 _, by rw [← HS.out]; exact (((hbig2.more (K' := 65 + (k + 1)) (by omega) (Nat.le_trans hz hb1.size)).set_ (p := ⟨w.heap.size, 0, none⟩) (by simp) _).set_ (p := ⟨w.heap.size, 1, none⟩) (by simp) _), ((hw.drew.trans (hbb.mono hw.size)).setCell (p := ⟨w.heap.size, 0, none⟩) (Nat.le_refl _) _).setCell (p := ⟨w.heap.size, 1, none⟩) (Nat.le_refl _) _⟩
        case measure => simp [intOf]; omega
    · obtain rfl : k = l.length := by omega
      rw [List.take_of_length_le (Nat.le_refl _)] at hbig
      clear hr
      go_wp2_with fail
      refine (rcut_any _ _ _ _ (by omega) _ hbig).mono ?_
      rintro e w' ⟨rfl, hb2⟩
      go_wp2_with fail
      go_ret2
      exact ⟨rfl, hw.trans (hb2.mono hw.size)⟩
end Go.Proofs.Ytenpjdpkilbhkaa
