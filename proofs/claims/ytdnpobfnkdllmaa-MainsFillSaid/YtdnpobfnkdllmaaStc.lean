/- Stable sorting, walked: insertion, merging. -/
import Derived.Test.YtdnpobfnkdllmaaStb
set_option linter.unusedSimpArgs false
set_option linter.unusedVariables false
namespace Go.Proofs.Ytdnpobfnkdllmaa
open Go.RowKit
attribute [local go_sem] block_of_add

/-- The comparison answers in every world that is as this one but for the row. -/
structure CmpOk (gk g N : Nat) (o : Nat → Int) (w : World) : Prop where
  run : ∀ (W : World) (x y : Nat), Kp (fun k => k = g) w W → x < N → y < N → Calls Try.prog 43 #[.int .i64 x, .int .i64 y, .pointer (some ⟨gk, 0, none⟩)] W fun e w' => e = .returned (.int .i64 (cmpI (o x) (o y))) ∧ Below W.heap.size W w'
theorem CmpOk.kp {gk g N : Nat} {o : Nat → Int} {w w' : World} (h : CmpOk gk g N o w) (k : Kp (fun k => k = g) w w') : CmpOk gk g N o w' := ⟨fun W x y hW => h.run W x y (k.trans hW)⟩
theorem cmp_lt (a b : Int) : decide (cmpI a b < 0) = decide (a < b) := by
  unfold cmpI
  by_cases h1 : a < b
  · rw [if_pos h1]; simp [h1]
  · rw [if_neg h1]
    by_cases h2 : b < a
    · rw [if_pos h2]; simp [h1]
    · rw [if_neg h2]; simp [h1]
set_option maxRecDepth 100000 in
set_option maxHeartbeats 2000000 in
theorem insertion_any (gk N g n c a b : Nat) (d : Nat → Nat) (o : Nat → Int) (w : World) (hn : n ≤ 1000000) (h1 : a ≤ b) (h2 : b ≤ n) (hinc : ∀ p q, a ≤ p → p < q → q < b → d p < d q) (hd : DAt N g n d w w) (hc : CmpOk gk g N o w) :
    Calls Try.prog 89 #[.slice (some ⟨g, 0, none⟩) n c, .int .i64 a, .int .i64 b, (.func (.func 43) #[] #[.pointer (some ⟨gk, 0, none⟩)])] w fun e w' => e = .returned (.tuple #[]) ∧ ∃ d', DAt N g n d' w w' ∧ Srt o d' a b ∧ Pin a b d d' := by
  have HD0 := Lib.hid hd
  have HC := Lib.hid hc
  have HI := Lib.hid hinc
  clear hd hc hinc
  have wa : IntKind.i64.wrap ((a : Int) + 1) = ((a + 1 : Nat) : Int) := by rw [IntWalk.i64_in _ ⟨by omega, by omega⟩]; omega
  obtain ⟨a1, ha1⟩ : ∃ a1, a1 = a + 1 := ⟨_, rfl⟩
  rw [← ha1] at wa
  have HA1 := Lib.hid ha1
  have ha2 : a + 1 ≤ a1 ∧ a1 ≤ a + 1 := by omega
  clear ha1
  go_enter Try.func89, Try.ntmps89
  go_wp2_with fail
  go_loopw [8, 9] (fun iv jv wr => ∃ (i : Nat) (d1 : Nat → Nat), (a + 1 ≤ i ∧ (i ≤ b ∨ i = a + 1) ∧ (i = a + 1 → d1 = d)) ∧ iv = .int .i64 i ∧ Hid (InsO o d d1 a i ∧ DAt N g n d1 w wr)) (fun iv _ _ => b - (intOf iv).toNat)
  case atStart => exact ⟨a1, d, ⟨by omega, by omega, fun _ => rfl⟩, rfl, Lib.hid ⟨by rw [HA1.out]; exact InsO.start o d a, HD0.out⟩⟩
  case round =>
    obtain ⟨i, d1, ⟨hi1, hi2, hid⟩, rfl, HD⟩ := hrel
    by_cases hlt : i < b
    · have g0 : decide ((i : Int) < (b : Int)) = true := decide_eq_true (by omega)
      have g0' : decide (i < b) = true := decide_eq_true hlt
      obtain ⟨i2, hi2e⟩ : ∃ i2, i2 = i + 1 := ⟨_, rfl⟩
      have wi : IntKind.i64.wrap ((i : Int) + 1) = (i2 : Int) := by rw [IntWalk.i64_in _ ⟨by omega, by omega⟩]; omega
      have hi3 : i + 1 ≤ i2 ∧ i2 ≤ i + 1 := by omega
      have HI2 := Lib.hid hi2e
      clear hi2e
      go_wp2_with fail
      go_loopw [9] (fun jv wx => ∃ j : Nat, a ≤ j ∧ j ≤ i ∧ jv = .int .i64 j ∧ Hid ((∀ q, j ≤ q → q < i → o (d1 i) < o (d1 q)) ∧ DAt N g n (shr d1 j i) w wx)) (fun jv _ => (intOf jv).toNat)
      case atStart => exact ⟨i, by omega, by omega, rfl, Lib.hid ⟨fun q h1 h2 => by omega, by rw [shr_start]; exact HD.out.2⟩⟩
      case round =>
        obtain ⟨j, hj1, hj2, rfl, HJ⟩ := hrel
        by_cases hgt : a < j
        · have g1 : decide ((a : Int) < (j : Int)) = true := decide_eq_true (by omega)
          have g1' : decide (a < j) = true := decide_eq_true hgt
          obtain ⟨j0, hj0⟩ : ∃ j0, j = j0 + 1 := ⟨j - 1, by omega⟩
          have wj : IntKind.i64.wrap ((j : Int) - 1) = (j0 : Int) := by rw [IntWalk.i64_in _ ⟨by omega, by omega⟩]; omega
          have hj3 : j0 + 1 ≤ j ∧ j ≤ j0 + 1 := by omega
          have HJ0 := Lib.hid hj0
          clear hj0
          have hjn : j < n := by omega
          have hj0n : j0 < n := by omega
          have hji : (j : Int) < (n : Int) := by omega
          have hj0i : (j0 : Int) < (n : Int) := by omega
          have e1 : shr d1 j i j = d1 i := by unfold shr; rw [if_pos rfl]
          have e2 : shr d1 j i j0 = d1 j0 := by unfold shr; rw [if_neg (by omega), if_neg (by omega)]
          have c1 := HJ.out.2.get hjn
          have c2 := HJ.out.2.get hj0n
          rw [e1] at c1
          rw [e2] at c2
          have hm1 : d1 i < N := by have := HJ.out.2.m j hjn; rw [e1] at this; exact this
          have hm2 : d1 j0 < N := by have := HJ.out.2.m j0 hj0n; rw [e2] at this; exact this
          have f1 := HJ.out.2.fz j
          have f2 := HJ.out.2.fz j0
          have hg := HJ.out.2.lt
          have hpq : ¬ j = j0 := by omega
          have hqp : ¬ j0 = j := by omega
          have HCR := Lib.hid (fun W hW => HC.out.run W (d1 i) (d1 j0) hW hm1 hm2)
          have HKP := Lib.hid HJ.out.2.k
          have hgd : g < wr.drew.heap.size := hg
          go_upto_region 4 with (fail)
          cases hl : decide (o (d1 i) < o (d1 j0))
          · have e3 : decide (cmpI (o (d1 i)) (o (d1 j0)) < 0) = false := by rw [cmp_lt]; exact hl
            go_region_held (fun W => W.cell? ⟨g, j, none⟩ = some (.int .i64 (d1 i : Nat)) ∧ W.cell? ⟨g, j0, none⟩ = some (.int .i64 (d1 j0 : Nat))) (first | go_keep | exact ⟨by assumption, by assumption⟩) (first | (go_at_call 43; refine (HCR.out _ HKP.out.drew).mono ?_; rintro e w3 ⟨rfl, hb3⟩; have q1 := (hb3.cell (p := ⟨g, j, none⟩) hgd).trans c1; have q2 := (hb3.cell (p := ⟨g, j0, none⟩) hgd).trans c2; have HB3 := Lib.hid hb3; clear hb3))
            all_goals
              have HD3 := Lib.hid (HJ.out.2.drew.bel HB3.out)
              have HGT := Lib.hid HJ.out.1
              go_wp2_with fail
              go_roundw
              case rel =>
                refine ⟨i2, shr d1 j i, ⟨by omega, by omega, fun h => by omega⟩, rfl, Lib.hid ⟨?_, HD3.out⟩⟩
                rw [HI2.out]
                exact HD.out.1.next HI.out hlt hj1 hj2 HGT.out (.inr (by rw [show j - 1 = j0 by omega]; exact of_decide_eq_false hl))
              case measure => simp [intOf] <;> omega
          · have e3 : decide (cmpI (o (d1 i)) (o (d1 j0)) < 0) = true := by rw [cmp_lt]; exact hl
            go_region_held (fun W => W.cell? ⟨g, j, none⟩ = some (.int .i64 (d1 i : Nat)) ∧ W.cell? ⟨g, j0, none⟩ = some (.int .i64 (d1 j0 : Nat))) (first | go_keep | exact ⟨by assumption, by assumption⟩) (first | (go_at_call 43; refine (HCR.out _ HKP.out.drew).mono ?_; rintro e w3 ⟨rfl, hb3⟩; have q1 := (hb3.cell (p := ⟨g, j, none⟩) hgd).trans c1; have q2 := (hb3.cell (p := ⟨g, j0, none⟩) hgd).trans c2; have HB3 := Lib.hid hb3; clear hb3))
            all_goals
              have HD3 := Lib.hid (HJ.out.2.drew.bel HB3.out)
              have HGT := Lib.hid HJ.out.1
              have HLL := Lib.hid (of_decide_eq_true hl)
              clear c1 c2 f1 f2 hg hgd q1 q2
              have c1 := HD3.out.get hjn
              have c2 := HD3.out.get hj0n
              rw [e1] at c1
              rw [e2] at c2
              have f1 := HD3.out.fz j
              have f2 := HD3.out.fz j0
              have hg := HD3.out.lt
              have HE := Lib.hid (And.intro e1 e2)
              clear e1 e2 e3 hl
              go_upto_region 6 with (fail)
              go_region
              go_wp2_with fail
              go_roundw
              case rel =>
                refine ⟨j0, by omega, by omega, rfl, Lib.hid ⟨fun q k1 k2 => ?_, ?_⟩⟩
                · by_cases e : q = j0
                  · rw [e]; exact HLL.out
                  · exact HGT.out q (by omega) k2
                · have hx : ∀ W, DAt N g n (shr d1 j i) w W → DAt N g n (shr d1 j0 i) w ((W.setCell ⟨g, j, none⟩ (.int .i64 (d1 j0 : Nat))).setCell ⟨g, j0, none⟩ (.int .i64 (d1 i : Nat))) := fun W h => by
                    have h2 := h.swp hjn hj0n
                    rw [HE.out.1, HE.out.2] at h2
                    have h3 : swp (shr d1 j i) j j0 = shr d1 j0 i := by rw [HJ0.out]; exact shr_step d1 j0 i (by omega)
                    rw [h3] at h2
                    exact h2
                  first | exact (hx _ HD3.out).drew | exact hx _ HD3.out.drew | exact hx _ HD3.out
              case measure => simp [intOf] <;> omega
        · have g1 : decide ((a : Int) < (j : Int)) = false := decide_eq_false (by omega)
          have g1' : decide (a < j) = false := decide_eq_false hgt
          have hja : j = a := by omega
          go_upto_region 4 with (fail)
          go_region
          have HGT := Lib.hid HJ.out.1
          have HD3 := Lib.hid HJ.out.2.drew
          go_wp2_with fail
          go_roundw
          case rel =>
            refine ⟨i2, shr d1 j i, ⟨by omega, by omega, fun h => by omega⟩, rfl, Lib.hid ⟨?_, HD3.out⟩⟩
            rw [HI2.out]
            exact HD.out.1.next HI.out hlt hj1 hj2 HGT.out (.inl hja)
          case measure => simp [intOf] <;> omega
    · have g0 : decide ((i : Int) < (b : Int)) = false := decide_eq_false (by omega)
      have g0' : decide (i < b) = false := decide_eq_false hlt
      go_wp2_with fail
      go_end0
      refine ⟨rfl, d1, HD.out.2, ?_, ?_⟩
      · by_cases hab : a = b
        · intro p q h1 h2 h3; omega
        · have : i = b := by omega
          rw [← this]; exact HD.out.1.srt
      · by_cases hab : a = b
        · rw [hid (by omega), hab]; exact Pin.refl _ _ _
        · have : i = b := by omega
          rw [← this]; exact HD.out.1.pin
end Go.Proofs.Ytdnpobfnkdllmaa
