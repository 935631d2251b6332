/- Stable sorting, walked: two pieces that change places. -/
import Derived.Test.YtdnpobfnkdllmaaNt
import Derived.Test.YtdnpobfnkdllmaaKp
import Derived.Test.YtdnpobfnkdllmaaApp
import Derived.BigQuiet
import Derived.Deep.DeepCutAuto
import Derived.Deep.CutRange
import Derived.Deep.QuietTactic
import Derived.Deep.RegionHeld3
/- Stable sorting, walked: places that are changed. -/
set_option linter.unusedSimpArgs false
set_option linter.unusedVariables false
namespace Go.Proofs.Ytdnpobfnkdllmaa
open Go.RowKit
attribute [local go_sem] block_of_add

def dCells (d : Nat → Nat) (n : Nat) : List Value := (List.range n).map fun i => Value.int .i64 ((d i : Nat) : Int)
theorem dCells_len (d : Nat → Nat) (n : Nat) : (dCells d n).length = n := by simp [dCells]
theorem dCells_at (d : Nat → Nat) {n p : Nat} (h : p < n) : (dCells d n).toArray[p]? = some (.int .i64 (d p : Nat)) := by simp [dCells, h]
theorem dCells_swp (d : Nat → Nat) {n p q : Nat} (hp : p < n) (hq : q < n) : ((dCells d n).toArray.setIfInBounds p (.int .i64 (d q : Nat))).setIfInBounds q (.int .i64 (d p : Nat)) = (dCells (swp d p q) n).toArray := by
  apply Array.ext_getElem?
  intro x
  simp only [Array.getElem?_setIfInBounds, Array.size_setIfInBounds, List.size_toArray, dCells_len, List.getElem?_toArray]
  by_cases hx : x < n
  · have hr : (dCells (swp d p q) n)[x]? = some (.int .i64 (swp d p q x : Nat)) := by simp [dCells, hx]
    have hl : (dCells d n)[x]? = some (.int .i64 (d x : Nat)) := by simp [dCells, hx]
    rw [hr, hl]
    unfold swp
    by_cases e1 : q = x
    · subst e1
      by_cases e2 : q = p
      · subst e2; simp [hq]
      · simp [hq, e2]
    · by_cases e2 : p = x
      · subst e2; simp [hp, e1]
      · have e3 : ¬ x = p := fun e => e2 e.symm
        have e4 : ¬ x = q := fun e => e1 e.symm
        simp [e1, e2, e3, e4]
  · have hr : (dCells (swp d p q) n)[x]? = none := List.getElem?_eq_none (by rw [dCells_len]; omega)
    have hl : (dCells d n)[x]? = none := List.getElem?_eq_none (by rw [dCells_len]; omega)
    have e1 : ¬ q = x := by omega
    have e2 : ¬ p = x := by omega
    rw [hr, hl]; simp [e1, e2]
/-- The numbers d lie in block g; nothing else has turned. -/
structure DAt (N g n : Nat) (d : Nat → Nat) (w wr : World) : Prop where
  b : Blk wr g 3 (dCells d n).toArray
  k : Kp (fun k => k = g) w wr
  m : ∀ p, p < n → d p < N
section
variable {N g n : Nat} {d d' : Nat → Nat} {w w1 wr : World}
theorem DAt.lt (h : DAt N g n d w wr) : g < wr.heap.size := h.b.lt
theorem DAt.get (h : DAt N g n d w wr) {p : Nat} (hp : p < n) : wr.cell? ⟨g, p, none⟩ = some (.int .i64 (d p : Nat)) := h.b.get p (dCells_at d hp)
theorem DAt.fz (h : DAt N g n d w wr) (p : Nat) : wr.frozen? ⟨g, p, none⟩ = false := h.b.frozen p
theorem DAt.drew (h : DAt N g n d w wr) : DAt N g n d w wr.drew := ⟨h.b.drew, h.k.drew, h.m⟩
theorem DAt.trans (h : DAt N g n d w w1) (k : DAt N g n d' w1 wr) : DAt N g n d' w wr := ⟨k.b, h.k.trans k.k, k.m⟩
theorem DAt.self (h : DAt N g n d w wr) : DAt N g n d wr wr := ⟨h.b, Kp.refl _ _, h.m⟩
theorem DAt.bel (h : DAt N g n d w wr) {w' : World} (hb : Below wr.heap.size wr w') : DAt N g n d w w' := ⟨h.b.below hb h.lt, h.k.trans (Kp.of_below hb _), h.m⟩
theorem DAt.swp (h : DAt N g n d w wr) {p q : Nat} (hp : p < n) (hq : q < n) : DAt N g n (swp d p q) w ((wr.setCell ⟨g, p, none⟩ (.int .i64 (d q : Nat))).setCell ⟨g, q, none⟩ (.int .i64 (d p : Nat))) := by
  refine ⟨?_, (h.k.setCell (p := ⟨g, p, none⟩) (.inl rfl) _).setCell (p := ⟨g, q, none⟩) (.inl rfl) _, fun x hx => ?_⟩
  · rw [← dCells_swp d hp hq]; exact (h.b.set_ p _).set_ q _
  · unfold Go.Proofs.Ytdnpobfnkdllmaa.swp
    split
    · exact h.m q hq
    · split
      · exact h.m p hp
      · exact h.m x hx
end
set_option maxRecDepth 100000 in
set_option maxHeartbeats 800000 in
theorem swapRange_any (N g n c a b m : Nat) (d : Nat → Nat) (fv : Value) (w : World) (hn : n ≤ 1000000) (h1 : a + m ≤ b) (h2 : b + m ≤ n) (hd : DAt N g n d w w) :
    Calls Try.prog 118 #[.slice (some ⟨g, 0, none⟩) n c, .int .i64 a, .int .i64 b, .int .i64 m, fv] w fun e w' => e = .returned (.tuple #[]) ∧ DAt N g n (swpR d a b m) w w' := by
  have HD0 := Lib.hid hd
  clear hd
  go_enter Try.func118, Try.ntmps118
  go_wp2_with fail
  go_loopw [10] (fun iv wr => ∃ i : Nat, i ≤ m ∧ iv = .int .i64 i ∧ Hid (DAt N g n (swpR d a b i) w wr)) (fun iv _ => m - (intOf iv).toNat)
  case atStart => exact ⟨0, by omega, rfl, Lib.hid (by rw [swpR_zero]; exact HD0.out)⟩
  case round =>
    obtain ⟨i, hi, rfl, HD⟩ := hrel
    by_cases hlt : i < m
    · have g0 : decide ((i : Int) < (m : Int)) = true := decide_eq_true (by omega)
      have g0' : decide (i < m) = true := decide_eq_true hlt
      have hw1 : IntKind.i64.wrap ((i : Int) + 1) = (i : Int) + 1 := IntWalk.i64_in _ ⟨by omega, by omega⟩
      obtain ⟨p, hp⟩ : ∃ p, p = a + i := ⟨_, rfl⟩
      obtain ⟨q, hq⟩ : ∃ q, q = b + i := ⟨_, rfl⟩
      have hwp : IntKind.i64.wrap ((a : Int) + (i : Int)) = (p : Int) := by rw [hp, IntWalk.i64_in _ ⟨by omega, by omega⟩]; omega
      have hwq : IntKind.i64.wrap ((b : Int) + (i : Int)) = (q : Int) := by rw [hq, IntWalk.i64_in _ ⟨by omega, by omega⟩]; omega
      have hpn : p < n := by omega
      have hqn : q < n := by omega
      have hpi : (p : Int) < (n : Int) := by omega
      have hqi : (q : Int) < (n : Int) := by omega
      have hpq : ¬ p = q := by omega
      have hqp : ¬ q = p := by omega
      have HS : Hid (swp (swpR d a b i) p q = swpR d a b (i + 1)) := Lib.hid (by rw [hp, hq]; exact swpR_step d a b i (by omega))
      clear hp hq
      obtain ⟨d1, hd1⟩ : ∃ d1, d1 = swpR d a b i := ⟨_, rfl⟩
      rw [← hd1] at HD HS
      clear hd1
      have c1 := HD.out.get hpn
      have c2 := HD.out.get hqn
      have f1 := HD.out.fz p
      have f2 := HD.out.fz q
      have hg := HD.out.lt
      go_upto_region 3 with (fail)
      go_region
      go_wp2_with fail
      go_roundw
      case rel =>
        refine ⟨i + 1, by omega, by go_num, Lib.hid ?_⟩
        rw [← HS.out]
        first | exact (HD.out.swp hpn hqn).drew | exact HD.out.drew.swp hpn hqn | exact HD.out.swp hpn hqn
      case measure => simp [intOf]; omega
    · have g0 : decide ((i : Int) < (m : Int)) = false := decide_eq_false (by omega)
      have g0' : decide (i < m) = false := decide_eq_false hlt
      have he : i = m := by omega
      rw [he] at HD
      go_wp2_with fail
      go_end0
      exact ⟨rfl, HD.out⟩
end Go.Proofs.Ytdnpobfnkdllmaa
set_option linter.unusedSimpArgs false
set_option linter.unusedVariables false
namespace Go.Proofs.Ytdnpobfnkdllmaa
open Go.RowKit
attribute [local go_sem] block_of_add
set_option maxRecDepth 100000 in
set_option maxHeartbeats 3000000 in
theorem rotate_any (N g n c a m b : Nat) (d : Nat → Nat) (fv : Value) (w : World) (hn : n ≤ 1000000) (h1 : a < m) (h2 : m < b) (h3 : b ≤ n) (hd : DAt N g n d w w) :
    Calls Try.prog 113 #[.slice (some ⟨g, 0, none⟩) n c, .int .i64 a, .int .i64 m, .int .i64 b, fv] w fun e w' => e = .returned (.tuple #[]) ∧ DAt N g n (rot d a m b) w w' := by
  have HD0 := Lib.hid hd
  clear hd
  have w1 : IntKind.i64.wrap ((m : Int) - (a : Int)) = ((m - a : Nat) : Int) := by rw [IntWalk.i64_in _ ⟨by omega, by omega⟩]; omega
  have w2 : IntKind.i64.wrap ((b : Int) - (m : Int)) = ((b - m : Nat) : Int) := by rw [IntWalk.i64_in _ ⟨by omega, by omega⟩]; omega
  obtain ⟨i0, hi0⟩ : ∃ i, i = m - a := ⟨_, rfl⟩
  obtain ⟨j0, hj0⟩ : ∃ i, i = b - m := ⟨_, rfl⟩
  rw [← hi0] at w1
  rw [← hj0] at w2
  have HR0 : Hid (rot d (m - i0) m (m + j0) = rot d a m b) := Lib.hid (by rw [show m - i0 = a by omega, show m + j0 = b by omega])
  have hb0 : 0 < i0 ∧ i0 ≤ m ∧ 0 < j0 ∧ m + j0 ≤ n := by omega
  clear hi0 hj0
  go_enter Try.func113, Try.ntmps113
  go_wp2_with fail
  go_loopw [10, 11] (fun iv jv wr => ∃ (i j : Nat) (d1 : Nat → Nat), (0 < i ∧ i ≤ m ∧ 0 < j ∧ m + j ≤ n) ∧ iv = .int .i64 i ∧ jv = .int .i64 j ∧ Hid (rot d1 (m - i) m (m + j) = rot d a m b ∧ DAt N g n d1 w wr)) (fun iv jv _ => (intOf iv).toNat + (intOf jv).toNat)
  case atStart => exact ⟨i0, j0, d, hb0, rfl, rfl, Lib.hid ⟨HR0.out, HD0.out⟩⟩
  case round =>
    obtain ⟨i, j, d1, ⟨b1, b2, b3, b4⟩, rfl, rfl, HD⟩ := hrel
    obtain ⟨s, hs⟩ : ∃ s, s = m - i := ⟨_, rfl⟩
    have ws : IntKind.i64.wrap ((m : Int) - (i : Int)) = (s : Int) := by rw [hs, IntWalk.i64_in _ ⟨by omega, by omega⟩]; omega
    have hsb : s + i = m := by omega
    have HS := Lib.hid hs
    clear hs
    by_cases hij : i = j
    · subst hij
      have g0 : ((i : Int) == (i : Int)) = true := by simp
      have HC := Lib.hid (swapRange_any N g n c s m i d1 fv wr hn (by omega) (by omega) HD.out.2.self)
      go_wp2_with fail
      refine HC.out.mono ?_
      rintro e w3 ⟨rfl, hk⟩
      have HK := Lib.hid hk
      clear hk
      go_wp2_with fail
      go_end0
      refine ⟨rfl, ?_⟩
      have h := HD.out.2.trans HK.out
      rw [HS.out, rot_end d1 m i b2, HD.out.1] at h
      exact h
    · have g0 : ((i : Int) == (j : Int)) = false := beq_eq_false_iff_ne.2 (by omega)
      by_cases hgt : j < i
      · have g1 : decide ((j : Int) < (i : Int)) = true := decide_eq_true (by omega)
        have g1' : decide (j < i) = true := decide_eq_true hgt
        obtain ⟨i2, hi2⟩ : ∃ i2, i2 = i - j := ⟨_, rfl⟩
        have wi : IntKind.i64.wrap ((i : Int) - (j : Int)) = (i2 : Int) := by rw [hi2, IntWalk.i64_in _ ⟨by omega, by omega⟩]; omega
        have hib : i2 + j = i := by omega
        have HI2 := Lib.hid hi2
        clear hi2
        have HC := Lib.hid (swapRange_any N g n c s m j d1 fv wr hn (by omega) (by omega) HD.out.2.self)
        go_wp2_with fail
        refine HC.out.mono ?_
        rintro e w3 ⟨rfl, hk⟩
        have HK := Lib.hid hk
        clear hk
        go_wp2_with fail
        go_roundw
        case rel =>
          refine ⟨i2, j, swpR d1 s m j, ⟨by omega, by omega, by omega, by omega⟩, rfl, rfl, Lib.hid ⟨?_, HD.out.2.trans HK.out⟩⟩
          rw [HI2.out, HS.out, rot_step1 d1 m i j hgt b2, HD.out.1]
        case measure => simp [intOf]; omega
      · have g1 : decide ((j : Int) < (i : Int)) = false := decide_eq_false (by omega)
        have g1' : decide (j < i) = false := decide_eq_false hgt
        obtain ⟨j2, hj2⟩ : ∃ j2, j2 = j - i := ⟨_, rfl⟩
        obtain ⟨t, ht⟩ : ∃ t, t = m + j := ⟨_, rfl⟩
        obtain ⟨t2, ht2⟩ : ∃ t2, t2 = m + j - i := ⟨_, rfl⟩
        have wj : IntKind.i64.wrap ((j : Int) - (i : Int)) = (j2 : Int) := by rw [hj2, IntWalk.i64_in _ ⟨by omega, by omega⟩]; omega
        have wt : IntKind.i64.wrap ((m : Int) + (j : Int)) = (t : Int) := by rw [ht, IntWalk.i64_in _ ⟨by omega, by omega⟩]; omega
        have wt2 : IntKind.i64.wrap ((t : Int) - (i : Int)) = (t2 : Int) := by rw [ht, ht2, IntWalk.i64_in _ ⟨by omega, by omega⟩]; omega
        have hjb : j2 + i = j ∧ t2 + i = m + j := by omega
        have HJ2 := Lib.hid hj2
        have HT2 := Lib.hid ht2
        clear hj2 ht2 ht
        have HC := Lib.hid (swapRange_any N g n c s t2 i d1 fv wr hn (by omega) (by omega) HD.out.2.self)
        go_wp2_with fail
        refine HC.out.mono ?_
        rintro e w3 ⟨rfl, hk⟩
        have HK := Lib.hid hk
        clear hk
        go_wp2_with fail
        go_roundw
        case rel =>
          refine ⟨i, j2, swpR d1 s t2 i, ⟨by omega, by omega, by omega, by omega⟩, rfl, rfl, Lib.hid ⟨?_, HD.out.2.trans HK.out⟩⟩
          rw [HJ2.out, HT2.out, HS.out, rot_step2 d1 m i j (by omega) b2, HD.out.1]
        case measure => simp [intOf]; omega
end Go.Proofs.Ytdnpobfnkdllmaa
