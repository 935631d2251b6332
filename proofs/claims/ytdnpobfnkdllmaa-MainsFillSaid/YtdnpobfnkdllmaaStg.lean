/- Stable sorting, walked: all of it. -/
import Derived.Test.YtdnpobfnkdllmaaStf
set_option linter.unusedSimpArgs false
set_option linter.unusedVariables false
namespace Go.Proofs.Ytdnpobfnkdllmaa
open Go.RowKit
attribute [local go_sem] block_of_add

theorem pin_bd {a b : Nat} {d d' : Nat → Nat} (h : Pin a b d d') {n : Nat} (hb : b ≤ n) : Pin 0 n d d' := h.mono (Nat.zero_le _) hb
set_option maxRecDepth 100000 in
set_option maxHeartbeats 4000000 in
theorem stable_any (gk N g n c : Nat) (o : Nat → Int) (w : World) (hn : n ≤ 400000) (hd : DAt N g n id w w) (hc : CmpOk gk g N o w) :
    Calls Try.prog 69 #[.slice (some ⟨g, 0, none⟩) n c, .int .i64 n, (.func (.func 43) #[] #[.pointer (some ⟨gk, 0, none⟩)])] w fun e w' => e = .returned (.tuple #[]) ∧ ∃ d', DAt N g n d' w w' ∧ Srt o d' 0 n ∧ Pin 0 n id d' := by
  have HD0 := Lib.hid hd
  have HC := Lib.hid hc
  clear hd hc
  go_enter Try.func69, Try.ntmps69
  go_wp2_with fail
  go_loopw [7, 8] (fun av bv wr => ∃ (a : Nat) (d1 : Nat → Nat), (a % 20 = 0 ∧ (a ≤ n)) ∧ av = .int .i64 a ∧ bv = .int .i64 ((a + 20 : Nat) : Int) ∧ Hid (Sb o d1 20 0 a n ∧ (∀ x, a ≤ x → x < n → d1 x = x) ∧ Pin 0 n id d1 ∧ DAt N g n d1 w wr)) (fun av _ _ => n - (intOf av).toNat)
  case atStart => exact ⟨0, id, ⟨rfl, Nat.zero_le _⟩, rfl, rfl, Lib.hid ⟨fun x _ h1 h2 => by omega, fun x _ _ => rfl, Pin.refl _ _ _, HD0.out⟩⟩
  case round =>
    obtain ⟨a, d1, ⟨ha, ha2⟩, rfl, rfl, HJ⟩ := hrel
    obtain ⟨b, hb⟩ : ∃ b, b = a + 20 := ⟨_, rfl⟩
    rw [← hb]
    have hb2 : a + 20 ≤ b ∧ b ≤ a + 20 := by omega
    have HB := Lib.hid hb
    clear hb
    by_cases hlt : b ≤ n
    · have g0 : decide ((b : Int) ≤ (n : Int)) = true := decide_eq_true (by omega)
      have g0' : decide (b ≤ n) = true := decide_eq_true hlt
      obtain ⟨b2, hb3⟩ : ∃ b2, b2 = b + 20 := ⟨_, rfl⟩
      have wb : IntKind.i64.wrap ((b : Int) + 20) = (b2 : Int) := by rw [hb3, IntWalk.i64_in _ ⟨by omega, by omega⟩]; omega
      have HB2 := Lib.hid hb3
      clear hb3
      have HX := Lib.hid (insertion_any gk N g n c a b d1 o wr (by omega) (by omega) hlt (fun p q q1 q2 q3 => by rw [HJ.out.2.1 p q1 (by omega), HJ.out.2.1 q (by omega) (by omega)]; exact q2) HJ.out.2.2.2.self (HC.out.kp HJ.out.2.2.2.k))
      go_wp2_with fail
      refine HX.out.mono ?_
      rintro e w3 ⟨rfl, d2, hk, hs, hp⟩
      have HS := Lib.hid (Sb.ins HJ.out.1 ha (show b = min (a + 20) n by omega) HJ.out.2.1 hs hp)
      have HP := Lib.hid (HJ.out.2.2.1.trans (pin_bd hp hlt))
      have HK := Lib.hid (HJ.out.2.2.2.trans hk)
      clear hk hs hp
      go_wp2_with fail
      go_roundw
      case rel =>
        refine ⟨b, d2, ⟨by omega, hlt⟩, rfl, by rw [HB2.out], Lib.hid ⟨?_, HS.out.2, HP.out, HK.out⟩⟩
        have h := HS.out.1
        rw [← HB.out] at h
        exact h
      case measure => simp [intOf] <;> omega
    · have g0 : decide ((b : Int) ≤ (n : Int)) = false := decide_eq_false (by omega)
      have g0' : decide (b ≤ n) = false := decide_eq_false hlt
      have HX := Lib.hid (insertion_any gk N g n c a n d1 o wr (by omega) ha2 (Nat.le_refl _) (fun p q q1 q2 q3 => by rw [HJ.out.2.1 p q1 (by omega), HJ.out.2.1 q (by omega) q3]; exact q2) HJ.out.2.2.2.self (HC.out.kp HJ.out.2.2.2.k))
      go_wp2_with fail
      refine HX.out.mono ?_
      rintro e w3 ⟨rfl, d2, hk, hs, hp⟩
      have HS : Hid (Sb o d2 20 0 n n) := Lib.hid (fun x h1 h2 h3 => (Sb.ins HJ.out.1 ha (show n = min (a + 20) n by omega) HJ.out.2.1 hs hp).1 x h1 h2 (by omega))
      have HP := Lib.hid (HJ.out.2.2.1.trans (pin_bd hp (Nat.le_refl _)))
      have HK := Lib.hid (HJ.out.2.2.2.trans hk)
      clear hk hs hp
      go_wp2_with fail
      go_loopw [6, 7, 8, 9] (fun sv av bv mv wx => ∃ (bs : Nat) (d3 : Nat → Nat), (0 < bs ∧ bs ≤ 800020) ∧ sv = .int .i64 bs ∧ Hid (Sb o d3 bs 0 n n ∧ Pin 0 n id d3 ∧ DAt N g n d3 w wx)) (fun sv _ _ _ _ => n - (intOf sv).toNat)
      case atStart => exact ⟨20, d2, by omega, rfl, Lib.hid ⟨HS.out, HP.out, HK.out⟩⟩
      case round =>
        obtain ⟨bs, d3, ⟨hbs, hbs2⟩, rfl, HJ3⟩ := hrel
        by_cases hbn : bs < n
        · have g1 : decide ((bs : Int) < (n : Int)) = true := decide_eq_true (by omega)
          have g1' : decide (bs < n) = true := decide_eq_true hbn
          obtain ⟨dd, hdd⟩ : ∃ dd, dd = 2 * bs := ⟨_, rfl⟩
          have w2 : IntKind.i64.wrap (2 * (bs : Int)) = (dd : Int) := by rw [hdd, IntWalk.i64_in _ ⟨by omega, by omega⟩]; omega
          have w2b : IntKind.i64.wrap ((bs : Int) * 2) = (dd : Int) := by rw [hdd, IntWalk.i64_in _ ⟨by omega, by omega⟩]; omega
          have hd2 : bs + bs ≤ dd ∧ dd ≤ bs + bs := by omega
          have HDD := Lib.hid hdd
          clear hdd
          go_wp2_with fail
          go_loopw [7, 8] (fun av bv wx => ∃ (a : Nat) (d4 : Nat → Nat), (a % dd = 0 ∧ a ≤ n) ∧ av = .int .i64 a ∧ bv = .int .i64 ((a + dd : Nat) : Int) ∧ Hid (Sb o d4 (2 * bs) 0 a n ∧ Sb o d4 bs a n n ∧ Pin 0 n id d4 ∧ DAt N g n d4 w wx)) (fun av _ _ => n - (intOf av).toNat)
          case atStart => exact ⟨0, d3, ⟨Nat.zero_mod _, Nat.zero_le _⟩, rfl, by rw [Nat.zero_add], Lib.hid ⟨fun x _ h1 h2 => by omega, HJ3.out.1, HJ3.out.2.1, HJ3.out.2.2⟩⟩
          case round =>
            obtain ⟨a, d4, ⟨ha, ha2⟩, rfl, rfl, HJ4⟩ := hrel
            obtain ⟨b, hb⟩ : ∃ b, b = a + dd := ⟨_, rfl⟩
            rw [← hb]
            have hbb : a + dd ≤ b ∧ b ≤ a + dd := by omega
            have HB4 := Lib.hid hb
            clear hb
            obtain ⟨m, hm⟩ : ∃ m, m = a + bs := ⟨_, rfl⟩
            have wm : IntKind.i64.wrap ((a : Int) + (bs : Int)) = (m : Int) := by rw [hm, IntWalk.i64_in _ ⟨by omega, by omega⟩]; omega
            have hmm : a + bs ≤ m ∧ m ≤ a + bs := by omega
            have HM4 := Lib.hid hm
            clear hm
            have ha3 : a % (2 * bs) = 0 := by rw [← HDD.out]; exact ha
            have HA3 := Lib.hid ha3
            clear ha3
            by_cases hbn2 : b ≤ n
            · have g2 : decide ((b : Int) ≤ (n : Int)) = true := decide_eq_true (by omega)
              have g2' : decide (b ≤ n) = true := decide_eq_true hbn2
              obtain ⟨b2, hb3⟩ : ∃ b2, b2 = b + dd := ⟨_, rfl⟩
              have wb2 : IntKind.i64.wrap ((b : Int) + (dd : Int)) = (b2 : Int) := by rw [hb3, IntWalk.i64_in _ ⟨by omega, by omega⟩]; omega
              have HB2 := Lib.hid hb3
              clear hb3
              have hcr := Sb.crs hbs HJ4.out.2.1 HA3.out (by omega)
              rw [show min (a + 2 * bs) n = b by omega, ← HM4.out] at hcr
              have HX := Lib.hid (symMerge_any gk N g n c o (by omega) (b - a) a m b d4 wr (Nat.le_refl _) (by omega) (by omega) hbn2 hcr.1 hcr.2.1 hcr.2.2 HJ4.out.2.2.2.self (HC.out.kp HJ4.out.2.2.2.k))
              clear hcr
              go_wp2_with fail
              refine HX.out.mono ?_
              rintro e w5 ⟨rfl, d5, hk, hs, hp⟩
              have HS5 := Lib.hid (Sb.merge hbs HJ4.out.1 HJ4.out.2.1 HA3.out (by omega) (show b = min (a + 2 * bs) n by omega) hs hp)
              have HP5 := Lib.hid (HJ4.out.2.2.1.trans (pin_bd hp hbn2))
              have HK5 := Lib.hid (HJ4.out.2.2.2.trans hk)
              clear hk hs hp
              go_wp2_with fail
              go_roundw
              case rel =>
                refine ⟨b, d5, ⟨by rw [HB4.out, Nat.add_mod_right]; exact ha, hbn2⟩, rfl, by rw [HB2.out], Lib.hid ⟨?_, ?_, HP5.out, HK5.out⟩⟩
                · have h := HS5.out.1; rw [show a + 2 * bs = b by omega] at h; exact h
                · have h := HS5.out.2; rw [show a + 2 * bs = b by omega] at h; exact h
              case measure => simp [intOf] <;> omega
            · have g2 : decide ((b : Int) ≤ (n : Int)) = false := decide_eq_false (by omega)
              have g2' : decide (b ≤ n) = false := decide_eq_false hbn2
              by_cases hmn : m < n
              · have g3 : decide ((m : Int) < (n : Int)) = true := decide_eq_true (by omega)
                have g3' : decide (m < n) = true := decide_eq_true hmn
                have hcr := Sb.crs hbs HJ4.out.2.1 HA3.out (by omega)
                rw [show min (a + 2 * bs) n = n by omega, ← HM4.out] at hcr
                have HX := Lib.hid (symMerge_any gk N g n c o (by omega) (n - a) a m n d4 wr (Nat.le_refl _) (by omega) hmn (Nat.le_refl _) hcr.1 hcr.2.1 hcr.2.2 HJ4.out.2.2.2.self (HC.out.kp HJ4.out.2.2.2.k))
                clear hcr
                go_wp2_with fail
                refine HX.out.mono ?_
                rintro e w5 ⟨rfl, d5, hk, hs, hp⟩
                have HS5 := Lib.hid (Sb.merge hbs HJ4.out.1 HJ4.out.2.1 HA3.out (by omega) (show n = min (a + 2 * bs) n by omega) hs hp)
                have HP5 := Lib.hid (HJ4.out.2.2.1.trans (pin_bd hp (Nat.le_refl _)))
                have HK5 := Lib.hid (HJ4.out.2.2.2.trans hk)
                clear hk hs hp
                go_wp2_with fail
                go_roundw
                case rel =>
                  refine ⟨dd, d5, by omega, rfl, Lib.hid ⟨fun x h1 h2 h3 => ?_, HP5.out, HK5.out⟩⟩
                  have h := HS5.out.1 x (by rw [← HDD.out]; exact h1) h2 (by omega)
                  rw [← HDD.out] at h; exact h
                case measure => simp [intOf] <;> omega
              · have g3 : decide ((m : Int) < (n : Int)) = false := decide_eq_false (by omega)
                have g3' : decide (m < n) = false := decide_eq_false hmn
                have HS5 := Lib.hid (Sb.rest HJ4.out.1 HJ4.out.2.1 HA3.out (by omega))
                go_wp2_with fail
                go_roundw
                case rel =>
                  refine ⟨dd, d4, by omega, rfl, Lib.hid ⟨?_, HJ4.out.2.2.1, HJ4.out.2.2.2⟩⟩
                  have h := HS5.out
                  rw [← HDD.out] at h; exact h
                case measure => simp [intOf] <;> omega
        · have g1 : decide ((bs : Int) < (n : Int)) = false := decide_eq_false (by omega)
          have g1' : decide (bs < n) = false := decide_eq_false hbn
          go_wp2_with fail
          go_end0
          exact ⟨rfl, d3, HJ3.out.2.2, Sb.done HJ3.out.1 (by omega), HJ3.out.2.1⟩
end Go.Proofs.Ytdnpobfnkdllmaa
