/- Contracts of the reference's big numbers (package jambref01): Add, Cut, Sum. -/
import Derived.Test.YtenpjdpkilbhkaaRefb
import Derived.Deep.RegionHeld3
import Derived.Deep.DeepCutAuto
import Derived.BigQuiet
import Derived.Deep.QuietTactic
set_option linter.unusedSimpArgs false
set_option linter.unusedVariables false
namespace Go.Proofs.Ytenpjdpkilbhkaa
open Go.RowKit
attribute [local go_sem] block_of_add

set_option maxHeartbeats 1000000 in
theorem add_any (v1 v2 : Value) (K1 K2 : Nat) (x y : Int) (w : World) (hK1 : K1 ≤ 1048575) (hK2 : K2 ≤ 1048575) (lo1 lo2 : Nat) (h1 : Big w lo1 v1 K1 x) (h2 : Big w lo2 v2 K2 y) :
    Calls Try.prog 60 #[v1, v2] w fun e w' => ∃ v, e = .returned v ∧ Big w' w.heap.size v (max K1 K2 + 1) (x + y) ∧ Below w.heap.size w w' := by
  obtain ⟨m, A, c, a, rfl, hac, hak, hra, _, rfl⟩ := h1
  obtain ⟨m', B, d, b, rfl, hbd, hbk, hrb, _, rfl⟩ := h2
  rcases (show m = m' ∧ True ∨ (m = !m') ∧ decide (val a < val b) = true ∨ (m' = !m) ∧ decide (val a < val b) = false by cases m <;> cases m' <;> simp <;> omega) with ⟨hm, _⟩ | ⟨hm, hlt⟩ | ⟨hm, hlt⟩
  · subst hm
    have HM : (m == m) = true := by simp
    go_enter Try.func60, Try.ntmps60
    go_wp2_with fail
    generalize hW : World.alloc (World.alloc (World.alloc w _) _) _ = W
    have b0 : Blk W w.heap.size 101 #[.bool m, .slice A a.length c] := by rw [← hW]; exact ((Blk.new _ _ _).alloc _).alloc _
    have b1 : Blk W (w.heap.size + 1) 101 #[.bool m, .slice B b.length d] := by rw [← hW]; exact (Blk.at_ _ _ _ (by simp)).alloc _
    have b2 : Blk W (w.heap.size + 1 + 1) 101 #[.bool false, .slice none 0 0] := by rw [← hW]; exact Blk.at_ _ _ _ (by simp)
    have hw : Below w.heap.size w W := by rw [← hW]; exact (((Below.refl _ _).alloc (Nat.le_refl _) _).alloc (by simp) _).alloc (by simp; omega) _
    clear hW
    obtain ⟨c0, c1⟩ := b0.c2
    obtain ⟨d0, d1⟩ := b1.c2
    have hz := b2.lt
    have z0 : w.heap.size < W.heap.size := by omega
    have z1 : w.heap.size + 1 < W.heap.size := by omega
    have k0 : W.drew.cell? ⟨w.heap.size, 0, none⟩ = some (.bool m) ∧ W.drew.cell? ⟨w.heap.size, 1, none⟩ = some (.slice A a.length c) ∧ W.drew.cell? ⟨w.heap.size + 1, 1, none⟩ = some (.slice B b.length d) := ⟨c0, c1, d1⟩
    go_region_held3 (fun w' => w'.cell? ⟨w.heap.size, 0, none⟩ = some (.bool m) ∧ w'.cell? ⟨w.heap.size, 1, none⟩ = some (.slice A a.length c) ∧ w'.cell? ⟨w.heap.size + 1, 1, none⟩ = some (.slice B b.length d)) (first | (with_reducible exact k0) | (with_reducible exact kp) | (with_reducible exact kp2) | exact ⟨(World.cell?_setCell_other _ _ _ _ (by intro e; injection e; omega)).trans ((World.cell?_setCell_other _ _ _ _ (by intro e; injection e; omega)).trans kp2.1), (World.cell?_setCell_other _ _ _ _ (by intro e; injection e; omega)).trans ((World.cell?_setCell_other _ _ _ _ (by intro e; injection e; omega)).trans kp2.2.1), (World.cell?_setCell_other _ _ _ _ (by intro e; injection e; omega)).trans ((World.cell?_setCell_other _ _ _ _ (by intro e; injection e; omega)).trans kp2.2.2)⟩)
      (first
        | (go_at_call 67; refine (plus_any a b A B c d _ (by omega) (by omega) (by exact ((hra.below hw).more hw.size).drew) (by exact ((hrb.below hw).more hw.size).drew)).mono ?_; rintro e w1 ⟨l, A', c', rfl, hl, hv, hown, hb⟩; have hl' := Nat.le_of_eq hl; have HV := Lib.hid hv; clear hl hv; have kp : w1.cell? ⟨w.heap.size, 0, none⟩ = some (.bool m) ∧ w1.cell? ⟨w.heap.size, 1, none⟩ = some (.slice A a.length c) ∧ w1.cell? ⟨w.heap.size + 1, 1, none⟩ = some (.slice B b.length d) := ⟨(hb.cell (p := ⟨_, 0, none⟩) z0).trans c0, (hb.cell (p := ⟨_, 1, none⟩) z0).trans c1, (hb.cell (p := ⟨_, 1, none⟩) z1).trans d1⟩)
        | (go_at_call 66; refine (short_use m l A' c' _ (by omega) (own_cap hown) (Reads.of_own hown)).mono ?_; rintro e w2 ⟨m2, k, rfl, hk, hv2, hb2⟩; have hbb := hb.trans (hb2.mono hb.size); have HV2 := Lib.hid hv2; clear hv2; have kp2 : w2.cell? ⟨w.heap.size, 0, none⟩ = some (.bool m) ∧ w2.cell? ⟨w.heap.size, 1, none⟩ = some (.slice A a.length c) ∧ w2.cell? ⟨w.heap.size + 1, 1, none⟩ = some (.slice B b.length d) := ⟨(hbb.cell (p := ⟨_, 0, none⟩) z0).trans c0, (hbb.cell (p := ⟨_, 1, none⟩) z0).trans c1, (hbb.cell (p := ⟨_, 1, none⟩) z1).trans d1⟩; have b2' := b2.drew.below hbb hz; obtain ⟨e0, e1⟩ := b2'.c2; have ef := b2'.frozen))
    go_wp2_with fail
    obtain ⟨bF, hbig, hB⟩ := big_stored (K := max K1 K2 + 1) rfl hown hb2 b2' hz hk (by omega) HV2.out (hw.drew.trans (hbb.mono hw.size)) (by omega) _ rfl
    obtain ⟨r0, r1⟩ := bF.c2
    refine bodyPost_ret (v := .agg #[.bool m2, .slice A' k c']) (by simp [results, Try.results60, go_sem, r0, r1]) rfl ⟨_, rfl, ?_, hB⟩
    have hE : sg m (val l) = sg m (val a) + sg m (val b) := by rw [HV.out]; unfold sg; split <;> omega
    rw [← hE]; exact hbig.more (Nat.le_refl _) hw.size
  · subst hm
    have HM : ((!m') == m') = false := by cases m' <;> rfl
    go_enter Try.func60, Try.ntmps60
    go_wp2_with fail
    generalize hW : World.alloc (World.alloc (World.alloc w _) _) _ = W
    have b0 : Blk W w.heap.size 101 #[.bool (!m'), .slice A a.length c] := by rw [← hW]; exact ((Blk.new _ _ _).alloc _).alloc _
    have b1 : Blk W (w.heap.size + 1) 101 #[.bool m', .slice B b.length d] := by rw [← hW]; exact (Blk.at_ _ _ _ (by simp)).alloc _
    have b2 : Blk W (w.heap.size + 1 + 1) 101 #[.bool false, .slice none 0 0] := by rw [← hW]; exact Blk.at_ _ _ _ (by simp)
    have hw : Below w.heap.size w W := by rw [← hW]; exact (((Below.refl _ _).alloc (Nat.le_refl _) _).alloc (by simp) _).alloc (by simp; omega) _
    clear hW
    obtain ⟨c0, c1⟩ := b0.c2
    obtain ⟨d0, d1⟩ := b1.c2
    have hz := b2.lt
    have z0 : w.heap.size < W.heap.size := by omega
    have z1 : w.heap.size + 1 < W.heap.size := by omega
    go_wp2_with fail
    refine (less_any a b A B c d _ (by omega) (by omega) ((hra.below hw).more hw.size) ((hrb.below hw).more hw.size)).mono ?_
    rintro e w' ⟨rfl, rfl⟩
    go_wp2_with fail
    have k0 : W.drew.cell? ⟨w.heap.size + 1, 0, none⟩ = some (.bool m') ∧ W.drew.cell? ⟨w.heap.size, 1, none⟩ = some (.slice A a.length c) ∧ W.drew.cell? ⟨w.heap.size + 1, 1, none⟩ = some (.slice B b.length d) := ⟨d0, c1, d1⟩
    go_region_held3 (fun w' => w'.cell? ⟨w.heap.size + 1, 0, none⟩ = some (.bool m') ∧ w'.cell? ⟨w.heap.size, 1, none⟩ = some (.slice A a.length c) ∧ w'.cell? ⟨w.heap.size + 1, 1, none⟩ = some (.slice B b.length d)) (first | (with_reducible exact k0) | (with_reducible exact kp) | (with_reducible exact kp2) | exact ⟨(World.cell?_setCell_other _ _ _ _ (by intro e; injection e; omega)).trans ((World.cell?_setCell_other _ _ _ _ (by intro e; injection e; omega)).trans kp2.1), (World.cell?_setCell_other _ _ _ _ (by intro e; injection e; omega)).trans ((World.cell?_setCell_other _ _ _ _ (by intro e; injection e; omega)).trans kp2.2.1), (World.cell?_setCell_other _ _ _ _ (by intro e; injection e; omega)).trans ((World.cell?_setCell_other _ _ _ _ (by intro e; injection e; omega)).trans kp2.2.2)⟩)
      (first
        | (go_at_call 68; refine (minus_any b a B A d c _ (by omega) (by omega) (Int.le_of_lt (of_decide_eq_true hlt))  (by exact ((hrb.below hw).more hw.size).drew) (by exact ((hra.below hw).more hw.size).drew)).mono ?_; rintro e w1 ⟨l, A', c', rfl, hl, hv, hown, hb⟩; have hl' := Nat.le_of_eq hl; have HV := Lib.hid hv; clear hl hv; have kp : w1.cell? ⟨w.heap.size + 1, 0, none⟩ = some (.bool m') ∧ w1.cell? ⟨w.heap.size, 1, none⟩ = some (.slice A a.length c) ∧ w1.cell? ⟨w.heap.size + 1, 1, none⟩ = some (.slice B b.length d) := ⟨(hb.cell (p := ⟨_, 0, none⟩) z1).trans d0, (hb.cell (p := ⟨_, 1, none⟩) z0).trans c1, (hb.cell (p := ⟨_, 1, none⟩) z1).trans d1⟩)
        | (go_at_call 66; refine (short_use m' l A' c' _ (by omega) (own_cap hown) (Reads.of_own hown)).mono ?_; rintro e w2 ⟨m2, k, rfl, hk, hv2, hb2⟩; have hbb := hb.trans (hb2.mono hb.size); have HV2 := Lib.hid hv2; clear hv2; have kp2 : w2.cell? ⟨w.heap.size + 1, 0, none⟩ = some (.bool m') ∧ w2.cell? ⟨w.heap.size, 1, none⟩ = some (.slice A a.length c) ∧ w2.cell? ⟨w.heap.size + 1, 1, none⟩ = some (.slice B b.length d) := ⟨(hbb.cell (p := ⟨_, 0, none⟩) z1).trans d0, (hbb.cell (p := ⟨_, 1, none⟩) z0).trans c1, (hbb.cell (p := ⟨_, 1, none⟩) z1).trans d1⟩; have b2' := b2.drew.below hbb hz; obtain ⟨e0, e1⟩ := b2'.c2; have ef := b2'.frozen))
    go_wp2_with fail
    obtain ⟨bF, hbig, hB⟩ := big_stored (K := max K1 K2 + 1) rfl hown hb2 b2' hz hk (by omega) HV2.out (hw.drew.trans (hbb.mono hw.size)) (by omega) _ rfl
    obtain ⟨r0, r1⟩ := bF.c2
    refine bodyPost_ret (v := .agg #[.bool m2, .slice A' k c']) (by simp [results, Try.results60, go_sem, r0, r1]) rfl ⟨_, rfl, ?_, hB⟩
    have hE : sg m' (val l) = sg (!m') (val a) + sg m' (val b) := by rw [HV.out]; unfold sg; cases m' <;> simp <;> omega
    rw [← hE]; exact hbig.more (Nat.le_refl _) hw.size
  · subst hm
    have HM : (m == !m) = false := by cases m <;> rfl
    go_enter Try.func60, Try.ntmps60
    go_wp2_with fail
    generalize hW : World.alloc (World.alloc (World.alloc w _) _) _ = W
    have b0 : Blk W w.heap.size 101 #[.bool m, .slice A a.length c] := by rw [← hW]; exact ((Blk.new _ _ _).alloc _).alloc _
    have b1 : Blk W (w.heap.size + 1) 101 #[.bool (!m), .slice B b.length d] := by rw [← hW]; exact (Blk.at_ _ _ _ (by simp)).alloc _
    have b2 : Blk W (w.heap.size + 1 + 1) 101 #[.bool false, .slice none 0 0] := by rw [← hW]; exact Blk.at_ _ _ _ (by simp)
    have hw : Below w.heap.size w W := by rw [← hW]; exact (((Below.refl _ _).alloc (Nat.le_refl _) _).alloc (by simp) _).alloc (by simp; omega) _
    clear hW
    obtain ⟨c0, c1⟩ := b0.c2
    obtain ⟨d0, d1⟩ := b1.c2
    have hz := b2.lt
    have z0 : w.heap.size < W.heap.size := by omega
    have z1 : w.heap.size + 1 < W.heap.size := by omega
    go_wp2_with fail
    refine (less_any a b A B c d _ (by omega) (by omega) ((hra.below hw).more hw.size) ((hrb.below hw).more hw.size)).mono ?_
    rintro e w' ⟨rfl, rfl⟩
    go_wp2_with fail
    have k0 : W.drew.cell? ⟨w.heap.size, 0, none⟩ = some (.bool m) ∧ W.drew.cell? ⟨w.heap.size, 1, none⟩ = some (.slice A a.length c) ∧ W.drew.cell? ⟨w.heap.size + 1, 1, none⟩ = some (.slice B b.length d) := ⟨c0, c1, d1⟩
    go_region_held3 (fun w' => w'.cell? ⟨w.heap.size, 0, none⟩ = some (.bool m) ∧ w'.cell? ⟨w.heap.size, 1, none⟩ = some (.slice A a.length c) ∧ w'.cell? ⟨w.heap.size + 1, 1, none⟩ = some (.slice B b.length d)) (first | (with_reducible exact k0) | (with_reducible exact kp) | (with_reducible exact kp2) | exact ⟨(World.cell?_setCell_other _ _ _ _ (by intro e; injection e; omega)).trans ((World.cell?_setCell_other _ _ _ _ (by intro e; injection e; omega)).trans kp2.1), (World.cell?_setCell_other _ _ _ _ (by intro e; injection e; omega)).trans ((World.cell?_setCell_other _ _ _ _ (by intro e; injection e; omega)).trans kp2.2.1), (World.cell?_setCell_other _ _ _ _ (by intro e; injection e; omega)).trans ((World.cell?_setCell_other _ _ _ _ (by intro e; injection e; omega)).trans kp2.2.2)⟩)
      (first
        | (go_at_call 68; refine (minus_any a b A B c d _ (by omega) (by omega) (Int.not_lt.1 (of_decide_eq_false hlt))  (by exact ((hra.below hw).more hw.size).drew) (by exact ((hrb.below hw).more hw.size).drew)).mono ?_; rintro e w1 ⟨l, A', c', rfl, hl, hv, hown, hb⟩; have hl' := Nat.le_of_eq hl; have HV := Lib.hid hv; clear hl hv; have kp : w1.cell? ⟨w.heap.size, 0, none⟩ = some (.bool m) ∧ w1.cell? ⟨w.heap.size, 1, none⟩ = some (.slice A a.length c) ∧ w1.cell? ⟨w.heap.size + 1, 1, none⟩ = some (.slice B b.length d) := ⟨(hb.cell (p := ⟨_, 0, none⟩) z0).trans c0, (hb.cell (p := ⟨_, 1, none⟩) z0).trans c1, (hb.cell (p := ⟨_, 1, none⟩) z1).trans d1⟩)
        | (go_at_call 66; refine (short_use m l A' c' _ (by omega) (own_cap hown) (Reads.of_own hown)).mono ?_; rintro e w2 ⟨m2, k, rfl, hk, hv2, hb2⟩; have hbb := hb.trans (hb2.mono hb.size); have HV2 := Lib.hid hv2; clear hv2; have kp2 : w2.cell? ⟨w.heap.size, 0, none⟩ = some (.bool m) ∧ w2.cell? ⟨w.heap.size, 1, none⟩ = some (.slice A a.length c) ∧ w2.cell? ⟨w.heap.size + 1, 1, none⟩ = some (.slice B b.length d) := ⟨(hbb.cell (p := ⟨_, 0, none⟩) z0).trans c0, (hbb.cell (p := ⟨_, 1, none⟩) z0).trans c1, (hbb.cell (p := ⟨_, 1, none⟩) z1).trans d1⟩; have b2' := b2.drew.below hbb hz; obtain ⟨e0, e1⟩ := b2'.c2; have ef := b2'.frozen))
    go_wp2_with fail
    obtain ⟨bF, hbig, hB⟩ := big_stored (K := max K1 K2 + 1) rfl hown hb2 b2' hz hk (by omega) HV2.out (hw.drew.trans (hbb.mono hw.size)) (by omega) _ rfl
    obtain ⟨r0, r1⟩ := bF.c2
    refine bodyPost_ret (v := .agg #[.bool m2, .slice A' k c']) (by simp [results, Try.results60, go_sem, r0, r1]) rfl ⟨_, rfl, ?_, hB⟩
    have hE : sg m (val l) = sg m (val a) + sg (!m) (val b) := by rw [HV.out]; unfold sg; cases m <;> simp <;> omega
    rw [← hE]; exact hbig.more (Nat.le_refl _) hw.size
end Go.Proofs.Ytenpjdpkilbhkaa
