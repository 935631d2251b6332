/- Stable sorting, walked: a merge with one element on the right. -/
import Derived.Test.YtbopeofglhkffaaStc
set_option linter.unusedSimpArgs false
set_option linter.unusedVariables false
namespace Go.Proofs.Ytbopeofglhkffaa
open Go.RowKit
attribute [local go_sem] block_of_add
set_option maxRecDepth 100000 in
set_option maxHeartbeats 4000000 in
theorem sym1_any (gk N g n c a m b : Nat) (d : Nat → Nat) (o : Nat → Int) (w : World) (hn : n ≤ 1000000) (h1 : a < m) (h2 : m < b) (h3 : b ≤ n) (he : m = a + 1) (s1 : Srt o d a m) (s2 : Srt o d m b) (cr : Crs o d a m b) (hd : DAt N g n d w w) (hc : CmpOk gk g N o w) :
    Calls Try.prog 106 #[.slice (some ⟨g, 0, none⟩) n c, .int .i64 a, .int .i64 m, .int .i64 b, (.func (.func 85) #[] #[.pointer (some ⟨gk, 0, none⟩)])] w fun e w' => e = .returned (.tuple #[]) ∧ ∃ d', DAt N g n d' w w' ∧ Srt o d' a b ∧ Pin a b d d' := by
  have HD0 := Lib.hid hd
  have HC := Lib.hid hc
  have HS1 := Lib.hid s1
  have HS2 := Lib.hid s2
  have HCX := Lib.hid cr
  clear hd hc s1 s2 cr
  have wa : IntKind.i64.wrap ((m : Int) - (a : Int)) = 1 := by rw [IntWalk.i64_in _ ⟨by omega, by omega⟩]; omega
  have HE := Lib.hid he
  have hab : a + 1 ≤ m ∧ m ≤ a + 1 := by omega
  clear he
  have han : a < n := by omega
  have hai : (a : Int) < (n : Int) := by omega
  have hma : d a < N := HD0.out.m a han
  go_enter Try.func106, Try.ntmps106
  go_wp2_with fail
  go_loopw [10, 11, 12] (fun iv jv hv wr => ∃ i j : Nat, (m ≤ i ∧ i ≤ j ∧ j ≤ b) ∧ iv = .int .i64 i ∧ jv = .int .i64 j ∧ Hid ((∀ p, m ≤ p → p < i → o (d p) < o (d a)) ∧ (∀ q, j ≤ q → q < b → o (d a) ≤ o (d q)) ∧ DAt N g n d w wr)) (fun iv jv _ _ => (intOf jv).toNat - (intOf iv).toNat)
  case atStart => exact ⟨m, b, by omega, rfl, rfl, Lib.hid ⟨fun p h1 h2 => by omega, fun q h1 h2 => by omega, HD0.out⟩⟩
  case round =>
    obtain ⟨i, j, ⟨b1, b2, b3⟩, rfl, rfl, HJ⟩ := hrel
    by_cases hij : i < j
    · have g0 : decide ((i : Int) < (j : Int)) = true := decide_eq_true (by omega)
      have g0' : decide (i < j) = true := decide_eq_true hij
      obtain ⟨t, ht⟩ : ∃ t, t = i + j := ⟨_, rfl⟩
      obtain ⟨h, hh⟩ : ∃ h, h = (i + j) / 2 := ⟨_, rfl⟩
      have wt : IntKind.i64.wrap ((i : Int) + (j : Int)) = (t : Int) := by rw [IntWalk.i64_in _ ⟨by omega, by omega⟩]; omega
      have wu : IntKind.u64.wrap (t : Int) = (t : Int) := by rw [ht]; simp [IntKind.wrap, IntKind.signed, IntKind.bits]; omega
      have wd : (t : Int) / 2 = (h : Int) := by omega
      have wh : IntKind.i64.wrap (h : Int) = (h : Int) := IntWalk.i64_in _ ⟨by omega, by omega⟩
      have HH := Lib.hid hh
      have hb : h + h ≤ i + j ∧ i + j ≤ h + h + 1 := by omega
      clear ht hh
      have hhn : h < n := by omega
      have hhi : (h : Int) < (n : Int) := by omega
      have wh1 : IntKind.i64.wrap ((h : Int) + 1) = ((h + 1 : Nat) : Int) := by rw [IntWalk.i64_in _ ⟨by omega, by omega⟩]; omega
      obtain ⟨h9, hh9⟩ : ∃ h9, h9 = h + 1 := ⟨_, rfl⟩
      rw [← hh9] at wh1
      have hb9 : h + 1 ≤ h9 ∧ h9 ≤ h + 1 := by omega
      clear hh9
      have c1 := HJ.out.2.2.get hhn
      have c2 := HJ.out.2.2.get han
      have hm1 : d h < N := HJ.out.2.2.m h hhn
      have hg := HJ.out.2.2.lt
      have hgd : g < wr.drew.heap.size := hg
      have HCR := Lib.hid (fun W hW => HC.out.run W (d h) (d a) hW hm1 hma)
      have HKP := Lib.hid HJ.out.2.2.k
      go_upto_region 5 with (fail)
      cases hl : decide (o (d h) < o (d a))
      · have e3 : decide (cmpI (o (d h)) (o (d a)) < 0) = false := by rw [cmp_lt]; exact hl
        have HL := Lib.hid (of_decide_eq_false hl)
        go_region_held (fun W => W.cell? ⟨g, h, none⟩ = some (.int .i64 (d h : Nat)) ∧ W.cell? ⟨g, a, none⟩ = some (.int .i64 (d a : Nat))) (first | go_keep | exact ⟨by assumption, by assumption⟩) (first | (go_at_call 85; refine (HCR.out _ HKP.out.drew).mono ?_; rintro e w3 ⟨rfl, hb3⟩; have q1 := (hb3.cell (p := ⟨g, h, none⟩) hgd).trans c1; have q2 := (hb3.cell (p := ⟨g, a, none⟩) hgd).trans c2; have HB3 := Lib.hid hb3; clear hb3))
        all_goals
          have HD3 := Lib.hid (HJ.out.2.2.drew.bel HB3.out)
          go_wp2_with fail
          go_roundw
          case rel =>
            refine ⟨i, h, by omega, rfl, rfl, Lib.hid ⟨HJ.out.1, fun q k1 k2 => ?_, HD3.out⟩⟩
            have := HS2.out.le (show m ≤ h by omega) k1 k2
            have := HL.out
            omega
          case measure => simp [intOf] <;> omega
      · have e3 : decide (cmpI (o (d h)) (o (d a)) < 0) = true := by rw [cmp_lt]; exact hl
        have HL := Lib.hid (of_decide_eq_true hl)
        go_region_held (fun W => W.cell? ⟨g, h, none⟩ = some (.int .i64 (d h : Nat)) ∧ W.cell? ⟨g, a, none⟩ = some (.int .i64 (d a : Nat))) (first | go_keep | exact ⟨by assumption, by assumption⟩) (first | (go_at_call 85; refine (HCR.out _ HKP.out.drew).mono ?_; rintro e w3 ⟨rfl, hb3⟩; have q1 := (hb3.cell (p := ⟨g, h, none⟩) hgd).trans c1; have q2 := (hb3.cell (p := ⟨g, a, none⟩) hgd).trans c2; have HB3 := Lib.hid hb3; clear hb3))
        all_goals
          have HD3 := Lib.hid (HJ.out.2.2.drew.bel HB3.out)
          go_wp2_with fail
          go_roundw
          case rel =>
            refine ⟨h9, j, by omega, rfl, rfl, Lib.hid ⟨fun p k1 k2 => ?_, HJ.out.2.1, HD3.out⟩⟩
            have := HS2.out.le k1 (show p ≤ h by omega) (by omega)
            have := HL.out
            omega
          case measure => simp [intOf] <;> omega
    · have g0 : decide ((i : Int) < (j : Int)) = false := decide_eq_false (by omega)
      have g0' : decide (i < j) = false := decide_eq_false hij
      have hji : j = i := by omega
      have HR := Lib.hid (And.intro HJ.out.1 (hji ▸ HJ.out.2.1))
      obtain ⟨i9, hi9⟩ : ∃ i9, i = i9 + 1 := ⟨i - 1, by omega⟩
      have wi9 : IntKind.i64.wrap ((i : Int) - 1) = (i9 : Int) := by rw [IntWalk.i64_in _ ⟨by omega, by omega⟩]; omega
      have hb9 : i9 + 1 ≤ i ∧ i ≤ i9 + 1 := by omega
      clear hi9 hji
      go_wp2_with fail
      go_loopw [13] (fun kv wx => ∃ k : Nat, a ≤ k ∧ k ≤ i9 ∧ kv = .int .i64 k ∧ Hid (DAt N g n (shl d a k) w wx)) (fun kv _ => i9 - (intOf kv).toNat)
      case atStart => exact ⟨a, by omega, by omega, rfl, Lib.hid (by rw [shl_start]; exact HJ.out.2.2)⟩
      case round =>
        obtain ⟨k, k1, k2, rfl, HK⟩ := hrel
        by_cases hk : k < i9
        · have g1 : decide ((k : Int) < (i9 : Int)) = true := decide_eq_true (by omega)
          have g1' : decide (k < i9) = true := decide_eq_true hk
          obtain ⟨q, hq⟩ : ∃ q, q = k + 1 := ⟨_, rfl⟩
          have wk : IntKind.i64.wrap ((k : Int) + 1) = (q : Int) := by rw [IntWalk.i64_in _ ⟨by omega, by omega⟩]; omega
          have hqb : k + 1 ≤ q ∧ q ≤ k + 1 := by omega
          have HQ := Lib.hid hq
          clear hq
          have hkn : k < n := by omega
          have hqn : q < n := by omega
          have hki : (k : Int) < (n : Int) := by omega
          have hqi : (q : Int) < (n : Int) := by omega
          have hpq : ¬ k = q := by omega
          have hqp : ¬ q = k := by omega
          obtain ⟨d1, hd1⟩ : ∃ d1, d1 = shl d a k := ⟨_, rfl⟩
          have HSW : Hid (swp d1 k q = shl d a q) := Lib.hid (by rw [hd1, HQ.out]; exact shl_step d a k k1)
          rw [← hd1] at HK
          clear hd1
          have c1 := HK.out.get hkn
          have c2 := HK.out.get hqn
          have f1 := HK.out.fz k
          have f2 := HK.out.fz q
          have hg := HK.out.lt
          go_upto_region 11 with (fail)
          go_region
          go_wp2_with fail
          go_roundw
          case rel =>
            refine ⟨q, by omega, by omega, rfl, Lib.hid ?_⟩
            rw [← HSW.out]
            first | exact (HK.out.swp hkn hqn).drew | exact HK.out.drew.swp hkn hqn | exact HK.out.swp hkn hqn
          case measure => simp [intOf] <;> omega
        · have g1 : decide ((k : Int) < (i9 : Int)) = false := decide_eq_false (by omega)
          have g1' : decide (k < i9) = false := decide_eq_false hk
          have hke : k = i - 1 := by omega
          rw [hke] at HK
          go_wp2_with fail
          refine bodyPost_ret (results_none rfl _ _ _) rfl ?_
          refine ⟨rfl, shl d a (i - 1), HK.out, srt_shl (by rw [← HE.out]; exact HS2.out) (by omega) (by omega) (fun p q1 q2 => .inl (HR.out.1 p (by omega) q2)) (fun q q1 q2 => HCX.out.lex (Nat.le_refl _) h1 (by omega) q2 (by have := HR.out.2 q q1 q2; omega)), Pin.shl d (by omega) (by omega)⟩
end Go.Proofs.Ytbopeofglhkffaa
namespace Go.Proofs.Ytbopeofglhkffaa
open Go.RowKit
attribute [local go_sem] block_of_add
set_option maxRecDepth 100000 in
set_option maxHeartbeats 4000000 in
theorem sym2_any (gk N g n c a m b : Nat) (d : Nat → Nat) (o : Nat → Int) (w : World) (hn : n ≤ 1000000) (h1 : a < m) (h2 : m < b) (h3 : b ≤ n) (he1 : m ≠ a + 1) (he : b = m + 1) (s1 : Srt o d a m) (s2 : Srt o d m b) (cr : Crs o d a m b) (hd : DAt N g n d w w) (hc : CmpOk gk g N o w) :
    Calls Try.prog 106 #[.slice (some ⟨g, 0, none⟩) n c, .int .i64 a, .int .i64 m, .int .i64 b, (.func (.func 85) #[] #[.pointer (some ⟨gk, 0, none⟩)])] w fun e w' => e = .returned (.tuple #[]) ∧ ∃ d', DAt N g n d' w w' ∧ Srt o d' a b ∧ Pin a b d d' := by
  have HD0 := Lib.hid hd
  have HC := Lib.hid hc
  have HS1 := Lib.hid s1
  have HS2 := Lib.hid s2
  have HCX := Lib.hid cr
  clear hd hc s1 s2 cr
  obtain ⟨l9, hl9⟩ : ∃ l9, l9 = m - a := ⟨_, rfl⟩
  have wa : IntKind.i64.wrap ((m : Int) - (a : Int)) = (l9 : Int) := by rw [IntWalk.i64_in _ ⟨by omega, by omega⟩]; omega
  have wa1 : ((l9 : Int) == 1) = false := beq_eq_false_iff_ne.2 (by omega)
  have wb : IntKind.i64.wrap ((b : Int) - (m : Int)) = 1 := by rw [IntWalk.i64_in _ ⟨by omega, by omega⟩]; omega
  have HE := Lib.hid he
  have hab : m + 1 ≤ b ∧ b ≤ m + 1 := by omega
  clear he hl9 he1
  have hmn : m < n := by omega
  have hmi : (m : Int) < (n : Int) := by omega
  have hmm : d m < N := HD0.out.m m hmn
  go_enter Try.func106, Try.ntmps106
  go_wp2_with fail
  go_loopw [14, 15, 16] (fun iv jv hv wr => ∃ i j : Nat, (a ≤ i ∧ i ≤ j ∧ j ≤ m) ∧ iv = .int .i64 i ∧ jv = .int .i64 j ∧ Hid ((∀ p, a ≤ p → p < i → o (d p) ≤ o (d m)) ∧ (∀ q, j ≤ q → q < m → o (d m) < o (d q)) ∧ DAt N g n d w wr)) (fun iv jv _ _ => (intOf jv).toNat - (intOf iv).toNat)
  case atStart => exact ⟨a, m, by omega, rfl, rfl, Lib.hid ⟨fun p h1 h2 => by omega, fun q h1 h2 => by omega, HD0.out⟩⟩
  case round =>
    obtain ⟨i, j, ⟨b1, b2, b3⟩, rfl, rfl, HJ⟩ := hrel
    by_cases hij : i < j
    · have g0 : decide ((i : Int) < (j : Int)) = true := decide_eq_true (by omega)
      have g0' : decide (i < j) = true := decide_eq_true hij
      obtain ⟨t, ht⟩ : ∃ t, t = i + j := ⟨_, rfl⟩
      obtain ⟨h, hh⟩ : ∃ h, h = (i + j) / 2 := ⟨_, rfl⟩
      have wt : IntKind.i64.wrap ((i : Int) + (j : Int)) = (t : Int) := by rw [IntWalk.i64_in _ ⟨by omega, by omega⟩]; omega
      have wu : IntKind.u64.wrap (t : Int) = (t : Int) := by rw [ht]; simp [IntKind.wrap, IntKind.signed, IntKind.bits]; omega
      have wd : (t : Int) / 2 = (h : Int) := by omega
      have wh : IntKind.i64.wrap (h : Int) = (h : Int) := IntWalk.i64_in _ ⟨by omega, by omega⟩
      have HH := Lib.hid hh
      have hb : h + h ≤ i + j ∧ i + j ≤ h + h + 1 := by omega
      clear ht hh
      have hhn : h < n := by omega
      have hhi : (h : Int) < (n : Int) := by omega
      have wh1 : IntKind.i64.wrap ((h : Int) + 1) = ((h + 1 : Nat) : Int) := by rw [IntWalk.i64_in _ ⟨by omega, by omega⟩]; omega
      obtain ⟨h9, hh9⟩ : ∃ h9, h9 = h + 1 := ⟨_, rfl⟩
      rw [← hh9] at wh1
      have hb9 : h + 1 ≤ h9 ∧ h9 ≤ h + 1 := by omega
      clear hh9
      have c1 := HJ.out.2.2.get hmn
      have c2 := HJ.out.2.2.get hhn
      have hm1 : d h < N := HJ.out.2.2.m h hhn
      have hg := HJ.out.2.2.lt
      have hgd : g < wr.drew.heap.size := hg
      have HCR := Lib.hid (fun W hW => HC.out.run W (d m) (d h) hW hmm hm1)
      have HKP := Lib.hid HJ.out.2.2.k
      go_upto_region 17 with (fail)
      cases hl : decide (o (d m) < o (d h))
      · have e3 : decide (cmpI (o (d m)) (o (d h)) < 0) = false := by rw [cmp_lt]; exact hl
        have HL := Lib.hid (of_decide_eq_false hl)
        go_region_held (fun W => W.cell? ⟨g, m, none⟩ = some (.int .i64 (d m : Nat)) ∧ W.cell? ⟨g, h, none⟩ = some (.int .i64 (d h : Nat))) (first | go_keep | exact ⟨by assumption, by assumption⟩) (first | (go_at_call 85; refine (HCR.out _ HKP.out.drew).mono ?_; rintro e w3 ⟨rfl, hb3⟩; have q1 := (hb3.cell (p := ⟨g, m, none⟩) hgd).trans c1; have q2 := (hb3.cell (p := ⟨g, h, none⟩) hgd).trans c2; have HB3 := Lib.hid hb3; clear hb3))
        all_goals
          have HD3 := Lib.hid (HJ.out.2.2.drew.bel HB3.out)
          go_wp2_with fail
          go_roundw
          case rel =>
            refine ⟨h9, j, by omega, rfl, rfl, Lib.hid ⟨fun p k1 k2 => ?_, HJ.out.2.1, HD3.out⟩⟩
            have := HS1.out.le k1 (show p ≤ h by omega) (by omega)
            have := HL.out
            omega
          case measure => simp [intOf] <;> omega
      · have e3 : decide (cmpI (o (d m)) (o (d h)) < 0) = true := by rw [cmp_lt]; exact hl
        have HL := Lib.hid (of_decide_eq_true hl)
        go_region_held (fun W => W.cell? ⟨g, m, none⟩ = some (.int .i64 (d m : Nat)) ∧ W.cell? ⟨g, h, none⟩ = some (.int .i64 (d h : Nat))) (first | go_keep | exact ⟨by assumption, by assumption⟩) (first | (go_at_call 85; refine (HCR.out _ HKP.out.drew).mono ?_; rintro e w3 ⟨rfl, hb3⟩; have q1 := (hb3.cell (p := ⟨g, m, none⟩) hgd).trans c1; have q2 := (hb3.cell (p := ⟨g, h, none⟩) hgd).trans c2; have HB3 := Lib.hid hb3; clear hb3))
        all_goals
          have HD3 := Lib.hid (HJ.out.2.2.drew.bel HB3.out)
          go_wp2_with fail
          go_roundw
          case rel =>
            refine ⟨i, h, by omega, rfl, rfl, Lib.hid ⟨HJ.out.1, fun q k1 k2 => ?_, HD3.out⟩⟩
            have := HS1.out.le (show a ≤ h by omega) k1 k2
            have := HL.out
            omega
          case measure => simp [intOf] <;> omega
    · have g0 : decide ((i : Int) < (j : Int)) = false := decide_eq_false (by omega)
      have g0' : decide (i < j) = false := decide_eq_false hij
      have hji : j = i := by omega
      have HR := Lib.hid (And.intro HJ.out.1 (hji ▸ HJ.out.2.1))
      clear hji
      go_wp2_with fail
      go_loopw [17] (fun kv wx => ∃ k : Nat, i ≤ k ∧ k ≤ m ∧ kv = .int .i64 k ∧ Hid (DAt N g n (shr d k m) w wx)) (fun kv _ => (intOf kv).toNat)
      case atStart => exact ⟨m, by omega, by omega, rfl, Lib.hid (by rw [shr_start]; exact HJ.out.2.2)⟩
      case round =>
        obtain ⟨k, k1, k2, rfl, HK⟩ := hrel
        by_cases hk : i < k
        · have g1 : decide ((i : Int) < (k : Int)) = true := decide_eq_true (by omega)
          have g1' : decide (i < k) = true := decide_eq_true hk
          obtain ⟨q, hq⟩ : ∃ q, k = q + 1 := ⟨k - 1, by omega⟩
          have wk : IntKind.i64.wrap ((k : Int) - 1) = (q : Int) := by rw [IntWalk.i64_in _ ⟨by omega, by omega⟩]; omega
          have hqb : q + 1 ≤ k ∧ k ≤ q + 1 := by omega
          have HQ := Lib.hid hq
          clear hq
          have hkn : k < n := by omega
          have hqn : q < n := by omega
          have hki : (k : Int) < (n : Int) := by omega
          have hqi : (q : Int) < (n : Int) := by omega
          have hpq : ¬ k = q := by omega
          have hqp : ¬ q = k := by omega
          obtain ⟨d1, hd1⟩ : ∃ d1, d1 = shr d k m := ⟨_, rfl⟩
          have HSW : Hid (swp d1 k q = shr d q m) := Lib.hid (by rw [hd1, HQ.out]; exact shr_step d q m (by omega))
          rw [← hd1] at HK
          clear hd1
          have c1 := HK.out.get hkn
          have c2 := HK.out.get hqn
          have f1 := HK.out.fz k
          have f2 := HK.out.fz q
          have hg := HK.out.lt
          go_upto_region 23 with (fail)
          go_region
          go_wp2_with fail
          go_roundw
          case rel =>
            refine ⟨q, by omega, by omega, rfl, Lib.hid ?_⟩
            rw [← HSW.out]
            first | exact (HK.out.swp hkn hqn).drew | exact HK.out.drew.swp hkn hqn | exact HK.out.swp hkn hqn
          case measure => simp [intOf] <;> omega
        · have g1 : decide ((i : Int) < (k : Int)) = false := decide_eq_false (by omega)
          have g1' : decide (i < k) = false := decide_eq_false hk
          have hke : k = i := by omega
          rw [hke] at HK
          go_wp2_with fail
          refine bodyPost_ret (results_none rfl _ _ _) rfl ?_
          refine ⟨rfl, shr d i m, HK.out, ?_, Pin.shr d b1 (by omega) h2⟩
          rw [HE.out]
          exact srt_shr HS1.out b1 (by omega) (fun p q1 q2 => HCX.out.lex q1 (by omega) (Nat.le_refl _) h2 (by have := HR.out.1 p q1 q2; omega)) (fun q q1 q2 => .inl (HR.out.2 q q1 q2))
end Go.Proofs.Ytbopeofglhkffaa
