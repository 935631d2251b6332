/- Stable sorting, walked: insertion, merging. -/
import Derived.Test.YtbopeofglhkffaaNt
import Derived.Test.YtbopeofglhkffaaApp
import Derived.BigQuiet
import Derived.Deep.DeepCutAuto
import Derived.Deep.CutRange
import Derived.Deep.QuietTactic
import Derived.Deep.RegionHeld3
import Derived.Test.YtbopeofglhkffaaWy
import Derived.Test.YtbopeofglhkffaaSty
set_option linter.unusedSimpArgs false
set_option linter.unusedVariables false
namespace Go.Proofs.Ytbopeofglhkffaa
open Go.RowKit
attribute [local go_sem] block_of_add
def dCells (d : Nat → Nat) (n : Nat) : List Value := (List.range n).map fun i => Value.int .i64 ((d i : Nat) : Int)
theorem dCells_len (d : Nat → Nat) (n : Nat) : (dCells d n).length = n := by simp [dCells]
theorem dCells_at (d : Nat → Nat) {n p : Nat} (h : p < n) : (dCells d n).toArray[p]? = some (.int .i64 (d p : Nat)) := by simp [dCells, h]
theorem dCells_swp (d : Nat → Nat) {n p q : Nat} (hp : p < n) (hq : q < n) : ((dCells d n).toArray.setIfInBounds p (.int .i64 (d q : Nat))).setIfInBounds q (.int .i64 (d p : Nat)) = (dCells (swp d p q) n).toArray := by
  apply Array.ext_getElem?
  intro x
  simp only [Array.getElem?_setIfInBounds, Array.size_setIfInBounds, List.size_toArray, dCells_len, List.getElem?_toArray]
  by_cases hx : x < n
  · have hr : (dCells (swp d p q) n)[x]? = some (.int .i64 (swp d p q x : Nat)) := by simp [dCells, hx]
    have hl : (dCells d n)[x]? = some (.int .i64 (d x : Nat)) := by simp [dCells, hx]
    rw [hr, hl]
    unfold swp
    by_cases e1 : q = x
    · subst e1
      by_cases e2 : q = p
      · subst e2; simp [hq]
      · simp [hq, e2]
    · by_cases e2 : p = x
      · subst e2; simp [hp, e1]
      · have e3 : ¬ x = p := fun e => e2 e.symm
        have e4 : ¬ x = q := fun e => e1 e.symm
        simp [e1, e2, e3, e4]
  · have hr : (dCells (swp d p q) n)[x]? = none := List.getElem?_eq_none (by rw [dCells_len]; omega)
    have hl : (dCells d n)[x]? = none := List.getElem?_eq_none (by rw [dCells_len]; omega)
    have e1 : ¬ q = x := by omega
    have e2 : ¬ p = x := by omega
    rw [hr, hl]; simp [e1, e2]
/-- The numbers d lie in block g; nothing else has turned. -/
structure DAt (N g n : Nat) (d : Nat → Nat) (w wr : World) : Prop where
  b : Blk wr g 3 (dCells d n).toArray
  k : Kp (fun k => k = g) w wr
  m : ∀ p, p < n → d p < N
section
variable {N g n : Nat} {d d' : Nat → Nat} {w w1 wr : World}
theorem DAt.lt (h : DAt N g n d w wr) : g < wr.heap.size := h.b.lt
theorem DAt.get (h : DAt N g n d w wr) {p : Nat} (hp : p < n) : wr.cell? ⟨g, p, none⟩ = some (.int .i64 (d p : Nat)) := h.b.get p (dCells_at d hp)
theorem DAt.fz (h : DAt N g n d w wr) (p : Nat) : wr.frozen? ⟨g, p, none⟩ = false := h.b.frozen p
theorem DAt.drew (h : DAt N g n d w wr) : DAt N g n d w wr.drew := ⟨h.b.drew, h.k.drew, h.m⟩
theorem DAt.trans (h : DAt N g n d w w1) (k : DAt N g n d' w1 wr) : DAt N g n d' w wr := ⟨k.b, h.k.trans k.k, k.m⟩
theorem DAt.self (h : DAt N g n d w wr) : DAt N g n d wr wr := ⟨h.b, Kp.refl _ _, h.m⟩
theorem DAt.bel (h : DAt N g n d w wr) {w' : World} (hb : Below wr.heap.size wr w') : DAt N g n d w w' := ⟨h.b.below hb h.lt, h.k.trans (Kp.of_below hb _), h.m⟩
theorem DAt.swp (h : DAt N g n d w wr) {p q : Nat} (hp : p < n) (hq : q < n) : DAt N g n (swp d p q) w ((wr.setCell ⟨g, p, none⟩ (.int .i64 (d q : Nat))).setCell ⟨g, q, none⟩ (.int .i64 (d p : Nat))) := by
  refine ⟨?_, (h.k.setCell (p := ⟨g, p, none⟩) (.inl rfl) _).setCell (p := ⟨g, q, none⟩) (.inl rfl) _, fun x hx => ?_⟩
  · rw [← dCells_swp d hp hq]; exact (h.b.set_ p _).set_ q _
  · unfold Go.Proofs.Ytbopeofglhkffaa.swp
    split
    · exact h.m q hq
    · split
      · exact h.m p hp
      · exact h.m x hx
end
set_option maxRecDepth 100000 in
set_option maxHeartbeats 800000 in
theorem swapRange_any (N g n c a b m : Nat) (d : Nat → Nat) (fv : Value) (w : World) (hn : n ≤ 1000000) (h1 : a + m ≤ b) (h2 : b + m ≤ n) (hd : DAt N g n d w w) :
    Calls Try.prog 109 #[.slice (some ⟨g, 0, none⟩) n c, .int .i64 a, .int .i64 b, .int .i64 m, fv] w fun e w' => e = .returned (.tuple #[]) ∧ DAt N g n (swpR d a b m) w w' := by
  have HD0 := Lib.hid hd
  clear hd
  go_enter Try.func109, Try.ntmps109
  go_wp2_with fail
  go_loopw [10] (fun iv wr => ∃ i : Nat, i ≤ m ∧ iv = .int .i64 i ∧ Hid (DAt N g n (swpR d a b i) w wr)) (fun iv _ => m - (intOf iv).toNat)
  case atStart => exact ⟨0, by omega, rfl, Lib.hid (by rw [swpR_zero]; exact HD0.out)⟩
  case round =>
    obtain ⟨i, hi, rfl, HD⟩ := hrel
    by_cases hlt : i < m
    · have g0 : decide ((i : Int) < (m : Int)) = true := decide_eq_true (by omega)
      have g0' : decide (i < m) = true := decide_eq_true hlt
      have hw1 : IntKind.i64.wrap ((i : Int) + 1) = (i : Int) + 1 := IntWalk.i64_in _ ⟨by omega, by omega⟩
      obtain ⟨p, hp⟩ : ∃ p, p = a + i := ⟨_, rfl⟩
      obtain ⟨q, hq⟩ : ∃ q, q = b + i := ⟨_, rfl⟩
      have hwp : IntKind.i64.wrap ((a : Int) + (i : Int)) = (p : Int) := by rw [hp, IntWalk.i64_in _ ⟨by omega, by omega⟩]; omega
      have hwq : IntKind.i64.wrap ((b : Int) + (i : Int)) = (q : Int) := by rw [hq, IntWalk.i64_in _ ⟨by omega, by omega⟩]; omega
      have hpn : p < n := by omega
      have hqn : q < n := by omega
      have hpi : (p : Int) < (n : Int) := by omega
      have hqi : (q : Int) < (n : Int) := by omega
      have hpq : ¬ p = q := by omega
      have hqp : ¬ q = p := by omega
      have HS : Hid (swp (swpR d a b i) p q = swpR d a b (i + 1)) := Lib.hid (by rw [hp, hq]; exact swpR_step d a b i (by omega))
      clear hp hq
      obtain ⟨d1, hd1⟩ : ∃ d1, d1 = swpR d a b i := ⟨_, rfl⟩
      rw [← hd1] at HD HS
      clear hd1
      have c1 := HD.out.get hpn
      have c2 := HD.out.get hqn
      have f1 := HD.out.fz p
      have f2 := HD.out.fz q
      have hg := HD.out.lt
      go_upto_region 3 with (fail)
      go_region
      go_wp2_with fail
      go_roundw
      case rel =>
        refine ⟨i + 1, by omega, by go_num, Lib.hid ?_⟩
        rw [← HS.out]
        first | exact (HD.out.swp hpn hqn).drew | exact HD.out.drew.swp hpn hqn | exact HD.out.swp hpn hqn
      case measure => simp [intOf]; omega
    · have g0 : decide ((i : Int) < (m : Int)) = false := decide_eq_false (by omega)
      have g0' : decide (i < m) = false := decide_eq_false hlt
      have he : i = m := by omega
      rw [he] at HD
      go_wp2_with fail
      go_end0
      exact ⟨rfl, HD.out⟩
end Go.Proofs.Ytbopeofglhkffaa
set_option linter.unusedSimpArgs false
set_option linter.unusedVariables false
namespace Go.Proofs.Ytbopeofglhkffaa
open Go.RowKit
attribute [local go_sem] block_of_add
set_option maxRecDepth 100000 in
set_option maxHeartbeats 3000000 in
theorem rotate_any (N g n c a m b : Nat) (d : Nat → Nat) (fv : Value) (w : World) (hn : n ≤ 1000000) (h1 : a < m) (h2 : m < b) (h3 : b ≤ n) (hd : DAt N g n d w w) :
    Calls Try.prog 108 #[.slice (some ⟨g, 0, none⟩) n c, .int .i64 a, .int .i64 m, .int .i64 b, fv] w fun e w' => e = .returned (.tuple #[]) ∧ DAt N g n (rot d a m b) w w' := by
  have HD0 := Lib.hid hd
  clear hd
  have w1 : IntKind.i64.wrap ((m : Int) - (a : Int)) = ((m - a : Nat) : Int) := by rw [IntWalk.i64_in _ ⟨by omega, by omega⟩]; omega
  have w2 : IntKind.i64.wrap ((b : Int) - (m : Int)) = ((b - m : Nat) : Int) := by rw [IntWalk.i64_in _ ⟨by omega, by omega⟩]; omega
  obtain ⟨i0, hi0⟩ : ∃ i, i = m - a := ⟨_, rfl⟩
  obtain ⟨j0, hj0⟩ : ∃ i, i = b - m := ⟨_, rfl⟩
  rw [← hi0] at w1
  rw [← hj0] at w2
  have HR0 : Hid (rot d (m - i0) m (m + j0) = rot d a m b) := Lib.hid (by rw [show m - i0 = a by omega, show m + j0 = b by omega])
  have hb0 : 0 < i0 ∧ i0 ≤ m ∧ 0 < j0 ∧ m + j0 ≤ n := by omega
  clear hi0 hj0
  go_enter Try.func108, Try.ntmps108
  go_wp2_with fail
  go_loopw [10, 11] (fun iv jv wr => ∃ (i j : Nat) (d1 : Nat → Nat), (0 < i ∧ i ≤ m ∧ 0 < j ∧ m + j ≤ n) ∧ iv = .int .i64 i ∧ jv = .int .i64 j ∧ Hid (rot d1 (m - i) m (m + j) = rot d a m b ∧ DAt N g n d1 w wr)) (fun iv jv _ => (intOf iv).toNat + (intOf jv).toNat)
  case atStart => exact ⟨i0, j0, d, hb0, rfl, rfl, Lib.hid ⟨HR0.out, HD0.out⟩⟩
  case round =>
    obtain ⟨i, j, d1, ⟨b1, b2, b3, b4⟩, rfl, rfl, HD⟩ := hrel
    obtain ⟨s, hs⟩ : ∃ s, s = m - i := ⟨_, rfl⟩
    have ws : IntKind.i64.wrap ((m : Int) - (i : Int)) = (s : Int) := by rw [hs, IntWalk.i64_in _ ⟨by omega, by omega⟩]; omega
    have hsb : s + i = m := by omega
    have HS := Lib.hid hs
    clear hs
    by_cases hij : i = j
    · subst hij
      have g0 : ((i : Int) == (i : Int)) = true := by simp
      have HC := Lib.hid (swapRange_any N g n c s m i d1 fv wr hn (by omega) (by omega) HD.out.2.self)
      go_wp2_with fail
      refine HC.out.mono ?_
      rintro e w3 ⟨rfl, hk⟩
      have HK := Lib.hid hk
      clear hk
      go_wp2_with fail
      go_end0
      refine ⟨rfl, ?_⟩
      have h := HD.out.2.trans HK.out
      rw [HS.out, rot_end d1 m i b2, HD.out.1] at h
      exact h
    · have g0 : ((i : Int) == (j : Int)) = false := beq_eq_false_iff_ne.2 (by omega)
      by_cases hgt : j < i
      · have g1 : decide ((j : Int) < (i : Int)) = true := decide_eq_true (by omega)
        have g1' : decide (j < i) = true := decide_eq_true hgt
        obtain ⟨i2, hi2⟩ : ∃ i2, i2 = i - j := ⟨_, rfl⟩
        have wi : IntKind.i64.wrap ((i : Int) - (j : Int)) = (i2 : Int) := by rw [hi2, IntWalk.i64_in _ ⟨by omega, by omega⟩]; omega
        have hib : i2 + j = i := by omega
        have HI2 := Lib.hid hi2
        clear hi2
        have HC := Lib.hid (swapRange_any N g n c s m j d1 fv wr hn (by omega) (by omega) HD.out.2.self)
        go_wp2_with fail
        refine HC.out.mono ?_
        rintro e w3 ⟨rfl, hk⟩
        have HK := Lib.hid hk
        clear hk
        go_wp2_with fail
        go_roundw
        case rel =>
          refine ⟨i2, j, swpR d1 s m j, ⟨by omega, by omega, by omega, by omega⟩, rfl, rfl, Lib.hid ⟨?_, HD.out.2.trans HK.out⟩⟩
          rw [HI2.out, HS.out, rot_step1 d1 m i j hgt b2, HD.out.1]
        case measure => simp [intOf]; omega
      · have g1 : decide ((j : Int) < (i : Int)) = false := decide_eq_false (by omega)
        have g1' : decide (j < i) = false := decide_eq_false hgt
        obtain ⟨j2, hj2⟩ : ∃ j2, j2 = j - i := ⟨_, rfl⟩
        obtain ⟨t, ht⟩ : ∃ t, t = m + j := ⟨_, rfl⟩
        obtain ⟨t2, ht2⟩ : ∃ t2, t2 = m + j - i := ⟨_, rfl⟩
        have wj : IntKind.i64.wrap ((j : Int) - (i : Int)) = (j2 : Int) := by rw [hj2, IntWalk.i64_in _ ⟨by omega, by omega⟩]; omega
        have wt : IntKind.i64.wrap ((m : Int) + (j : Int)) = (t : Int) := by rw [ht, IntWalk.i64_in _ ⟨by omega, by omega⟩]; omega
        have wt2 : IntKind.i64.wrap ((t : Int) - (i : Int)) = (t2 : Int) := by rw [ht, ht2, IntWalk.i64_in _ ⟨by omega, by omega⟩]; omega
        have hjb : j2 + i = j ∧ t2 + i = m + j := by omega
        have HJ2 := Lib.hid hj2
        have HT2 := Lib.hid ht2
        clear hj2 ht2 ht
        have HC := Lib.hid (swapRange_any N g n c s t2 i d1 fv wr hn (by omega) (by omega) HD.out.2.self)
        go_wp2_with fail
        refine HC.out.mono ?_
        rintro e w3 ⟨rfl, hk⟩
        have HK := Lib.hid hk
        clear hk
        go_wp2_with fail
        go_roundw
        case rel =>
          refine ⟨i, j2, swpR d1 s t2 i, ⟨by omega, by omega, by omega, by omega⟩, rfl, rfl, Lib.hid ⟨?_, HD.out.2.trans HK.out⟩⟩
          rw [HJ2.out, HT2.out, HS.out, rot_step2 d1 m i j (by omega) b2, HD.out.1]
        case measure => simp [intOf]; omega
end Go.Proofs.Ytbopeofglhkffaa
namespace Go.Proofs.Ytbopeofglhkffaa
open Go.RowKit
attribute [local go_sem] block_of_add
/-- The children's styles, as the comparison finds them. -/
def stysCells (l : List Sty) : List Value := l.flatMap styCells
theorem stysCells_at (l : List Sty) : ∀ (k i : Nat) (hk : k < l.length), i < 43 → (stysCells l)[k * 43 + i]? = (styCells l[k])[i]? := by
  induction l with
  | nil => intro k i hk; simp at hk
  | cons a t ih =>
    intro k i hk hi
    have hc : stysCells (a :: t) = styCells a ++ stysCells t := by simp [stysCells]
    rw [hc]
    rcases k with _ | k
    · rw [List.getElem?_append_left (by rw [sty_len]; omega)]; simp
    · rw [List.getElem?_append_right (by rw [sty_len]; omega), sty_len, show (k + 1) * 43 + i - 43 = k * 43 + i by omega, ih k i (by simpa using hk) hi]
      simp
/-- A style of a slice that reads as the list (as the walk spells its places). -/
structure StAt (w : World) (B : Nat) (p : Addr) (x : Sty) : Prop where
  lt : p.block < B
  c0 : w.cell? p = some (.int .u8 x.kind)
  cs : ∀ i u, (styCells x)[i + 1]? = some u → w.cell? ⟨p.block, p.off + (i + 1), none⟩ = some u
theorem Reads.st {w : World} {B n k : Nat} {A : Option Addr} {l : List Sty} (h : Reads w B 43 A n (stysCells l)) (hn : n = l.length) (hk : k < l.length) :
    ∃ ad : Addr, A = some ad ∧ StAt w B (ad.add (k * 43)) l[k] := by
  obtain ⟨ad, e, hb, hc⟩ := h.2 (by omega)
  refine ⟨ad, e, ⟨by rw [block_of_add]; exact hb, ?_, fun i u hu => ?_⟩⟩
  · exact hc _ _ (by have := stysCells_at l k 0 hk (by omega); rw [Nat.add_zero] at this; rw [this]; rfl)
  · have hi : i + 1 < 43 := by have := (List.getElem?_eq_some_iff.1 hu).1; rw [sty_len] at this; exact this
    have ha : (⟨(ad.add (k * 43)).block, (ad.add (k * 43)).off + (i + 1), none⟩ : Addr) = ad.add (k * 43 + (i + 1)) := by
      rw [← add_of_add, show ∀ p : Addr, p.add (i + 1) = ⟨p.block, p.off + (i + 1), none⟩ from fun p => by unfold Addr.add; rw [if_neg (by omega)]]
    rw [ha]
    exact hc _ u (by rw [stysCells_at l k (i + 1) hk hi]; exact hu)
theorem sty_get37 (s : Sty) : (styCells s)[36 + 1]? = some (.int .i64 s.order) := rfl
def ordF (l : List Sty) (k : Nat) : Int := ((l[k]?).map Sty.order).getD 0
theorem ordF_at (l : List Sty) {k : Nat} (h : k < l.length) : ordF l k = l[k].order := by unfold ordF; rw [List.getElem?_eq_getElem h]; rfl
structure KdS (gk : Nat) (A : Option Addr) (ck : Nat) (l : List Sty) (B : Nat) (W : World) : Prop where
  c : W.cell? ⟨gk, 0, none⟩ = some (.slice A l.length ck)
  r : Reads W B 43 A l.length (stysCells l)
theorem KdS.kp {gk ck B : Nat} {A : Option Addr} {l : List Sty} {W W' : World} {bad : Nat → Prop} (h : KdS gk A ck l B W) (hk : Kp bad W W') (h1 : ¬ bad gk) (hB : B ≤ W.heap.size) (hn : ∀ k, bad k → B ≤ k) : KdS gk A ck l B W' :=
  ⟨(hk.cell (World.block_lt_of_cell? W _ h.c) h1).trans h.c, h.r.kp hk hB hn⟩
set_option maxRecDepth 100000 in
set_option maxHeartbeats 800000 in
theorem cmpk_any (gk ck B : Nat) (A : Option Addr) (l : List Sty) (x y : Nat) (w : World) (hx : x < l.length) (hy : y < l.length) (hn : l.length ≤ 1000000) (h : KdS gk A ck l B w) :
    Calls Try.prog 85 #[.int .i64 x, .int .i64 y, .pointer (some ⟨gk, 0, none⟩)] w fun e w' => e = .returned (.int .i64 (cmpI (ordF l x) (ordF l y))) ∧ Below w.heap.size w w' := by
  obtain ⟨ad, rfl, s1⟩ := h.r.st rfl hx
  obtain ⟨ad2, e2, s2⟩ := h.r.st rfl hy
  obtain rfl : ad = ad2 := by injection e2
  have hc := h.c
  have h1 := s1.cs 36 _ (sty_get37 l[x])
  have h2 := s2.cs 36 _ (sty_get37 l[y])
  have hx1 : (x : Int) < (l.length : Int) := by omega
  have hy1 : (y : Int) < (l.length : Int) := by omega
  have E := Lib.hid (And.intro (ordF_at l hx) (ordF_at l hy))
  clear h s1 s2
  rw [block_of_add] at h1 h2
  go_enter Try.func85, Try.ntmps85
  go_upto_region 1 with (fail)
  go_region_held (fun W => W.cell? ⟨gk, 0, none⟩ = some (.slice (some ad) l.length ck) ∧ W.cell? ⟨ad.block, (ad.add (x * 43)).off + 37, none⟩ = some (.int .i64 l[x].order) ∧ W.cell? ⟨ad.block, (ad.add (y * 43)).off + 37, none⟩ = some (.int .i64 l[y].order)) (go_keep) (first | (go_at_call 86; refine (cmp_n _ _ _).mono ?_; rintro e w' ⟨rfl, rfl⟩))
  all_goals
    go_wp2_with fail
    go_ret
    exact ⟨by rw [E.out.1, E.out.2]; rfl, (Below.refl _ _).drew⟩
end Go.Proofs.Ytbopeofglhkffaa
namespace Go.Proofs.Ytbopeofglhkffaa
open Go.RowKit
attribute [local go_sem] block_of_add
/-- The comparison answers in every world that is as this one but for the row. -/
structure CmpOk (gk g N : Nat) (o : Nat → Int) (w : World) : Prop where
  run : ∀ (W : World) (x y : Nat), Kp (fun k => k = g) w W → x < N → y < N → Calls Try.prog 85 #[.int .i64 x, .int .i64 y, .pointer (some ⟨gk, 0, none⟩)] W fun e w' => e = .returned (.int .i64 (cmpI (o x) (o y))) ∧ Below W.heap.size W w'
theorem CmpOk.kp {gk g N : Nat} {o : Nat → Int} {w w' : World} (h : CmpOk gk g N o w) (k : Kp (fun k => k = g) w w') : CmpOk gk g N o w' := ⟨fun W x y hW => h.run W x y (k.trans hW)⟩
theorem cmp_lt (a b : Int) : decide (cmpI a b < 0) = decide (a < b) := by
  unfold cmpI
  by_cases h1 : a < b
  · rw [if_pos h1]; simp [h1]
  · rw [if_neg h1]
    by_cases h2 : b < a
    · rw [if_pos h2]; simp [h1]
    · rw [if_neg h2]; simp [h1]
set_option maxRecDepth 100000 in
set_option maxHeartbeats 2000000 in
theorem insertion_any (gk N g n c a b : Nat) (d : Nat → Nat) (o : Nat → Int) (w : World) (hn : n ≤ 1000000) (h1 : a ≤ b) (h2 : b ≤ n) (hinc : ∀ p q, a ≤ p → p < q → q < b → d p < d q) (hd : DAt N g n d w w) (hc : CmpOk gk g N o w) :
    Calls Try.prog 105 #[.slice (some ⟨g, 0, none⟩) n c, .int .i64 a, .int .i64 b, (.func (.func 85) #[] #[.pointer (some ⟨gk, 0, none⟩)])] w fun e w' => e = .returned (.tuple #[]) ∧ ∃ d', DAt N g n d' w w' ∧ Srt o d' a b ∧ Pin a b d d' := by
  have HD0 := Lib.hid hd
  have HC := Lib.hid hc
  have HI := Lib.hid hinc
  clear hd hc hinc
  have wa : IntKind.i64.wrap ((a : Int) + 1) = ((a + 1 : Nat) : Int) := by rw [IntWalk.i64_in _ ⟨by omega, by omega⟩]; omega
  obtain ⟨a1, ha1⟩ : ∃ a1, a1 = a + 1 := ⟨_, rfl⟩
  rw [← ha1] at wa
  have HA1 := Lib.hid ha1
  have ha2 : a + 1 ≤ a1 ∧ a1 ≤ a + 1 := by omega
  clear ha1
  go_enter Try.func105, Try.ntmps105
  go_wp2_with fail
  go_loopw [8, 9] (fun iv jv wr => ∃ (i : Nat) (d1 : Nat → Nat), (a + 1 ≤ i ∧ (i ≤ b ∨ i = a + 1) ∧ (i = a + 1 → d1 = d)) ∧ iv = .int .i64 i ∧ Hid (InsO o d d1 a i ∧ DAt N g n d1 w wr)) (fun iv _ _ => b - (intOf iv).toNat)
  case atStart => exact ⟨a1, d, ⟨by omega, by omega, fun _ => rfl⟩, rfl, Lib.hid ⟨by rw [HA1.out]; exact InsO.start o d a, HD0.out⟩⟩
  case round =>
    obtain ⟨i, d1, ⟨hi1, hi2, hid⟩, rfl, HD⟩ := hrel
    by_cases hlt : i < b
    · have g0 : decide ((i : Int) < (b : Int)) = true := decide_eq_true (by omega)
      have g0' : decide (i < b) = true := decide_eq_true hlt
      obtain ⟨i2, hi2e⟩ : ∃ i2, i2 = i + 1 := ⟨_, rfl⟩
      have wi : IntKind.i64.wrap ((i : Int) + 1) = (i2 : Int) := by rw [IntWalk.i64_in _ ⟨by omega, by omega⟩]; omega
      have hi3 : i + 1 ≤ i2 ∧ i2 ≤ i + 1 := by omega
      have HI2 := Lib.hid hi2e
      clear hi2e
      go_wp2_with fail
      go_loopw [9] (fun jv wx => ∃ j : Nat, a ≤ j ∧ j ≤ i ∧ jv = .int .i64 j ∧ Hid ((∀ q, j ≤ q → q < i → o (d1 i) < o (d1 q)) ∧ DAt N g n (shr d1 j i) w wx)) (fun jv _ => (intOf jv).toNat)
      case atStart => exact ⟨i, by omega, by omega, rfl, Lib.hid ⟨fun q h1 h2 => by omega, by rw [shr_start]; exact HD.out.2⟩⟩
      case round =>
        obtain ⟨j, hj1, hj2, rfl, HJ⟩ := hrel
        by_cases hgt : a < j
        · have g1 : decide ((a : Int) < (j : Int)) = true := decide_eq_true (by omega)
          have g1' : decide (a < j) = true := decide_eq_true hgt
          obtain ⟨j0, hj0⟩ : ∃ j0, j = j0 + 1 := ⟨j - 1, by omega⟩
          have wj : IntKind.i64.wrap ((j : Int) - 1) = (j0 : Int) := by rw [IntWalk.i64_in _ ⟨by omega, by omega⟩]; omega
          have hj3 : j0 + 1 ≤ j ∧ j ≤ j0 + 1 := by omega
          have HJ0 := Lib.hid hj0
          clear hj0
          have hjn : j < n := by omega
          have hj0n : j0 < n := by omega
          have hji : (j : Int) < (n : Int) := by omega
          have hj0i : (j0 : Int) < (n : Int) := by omega
          have e1 : shr d1 j i j = d1 i := by unfold shr; rw [if_pos rfl]
          have e2 : shr d1 j i j0 = d1 j0 := by unfold shr; rw [if_neg (by omega), if_neg (by omega)]
          have c1 := HJ.out.2.get hjn
          have c2 := HJ.out.2.get hj0n
          rw [e1] at c1
          rw [e2] at c2
          have hm1 : d1 i < N := by have := HJ.out.2.m j hjn; rw [e1] at this; exact this
          have hm2 : d1 j0 < N := by have := HJ.out.2.m j0 hj0n; rw [e2] at this; exact this
          have f1 := HJ.out.2.fz j
          have f2 := HJ.out.2.fz j0
          have hg := HJ.out.2.lt
          have hpq : ¬ j = j0 := by omega
          have hqp : ¬ j0 = j := by omega
          have HCR := Lib.hid (fun W hW => HC.out.run W (d1 i) (d1 j0) hW hm1 hm2)
          have HKP := Lib.hid HJ.out.2.k
          have hgd : g < wr.drew.heap.size := hg
          go_upto_region 4 with (fail)
          cases hl : decide (o (d1 i) < o (d1 j0))
          · have e3 : decide (cmpI (o (d1 i)) (o (d1 j0)) < 0) = false := by rw [cmp_lt]; exact hl
            go_region_held (fun W => W.cell? ⟨g, j, none⟩ = some (.int .i64 (d1 i : Nat)) ∧ W.cell? ⟨g, j0, none⟩ = some (.int .i64 (d1 j0 : Nat))) (first | go_keep | exact ⟨by assumption, by assumption⟩) (first | (go_at_call 85; refine (HCR.out _ HKP.out.drew).mono ?_; rintro e w3 ⟨rfl, hb3⟩; have q1 := (hb3.cell (p := ⟨g, j, none⟩) hgd).trans c1; have q2 := (hb3.cell (p := ⟨g, j0, none⟩) hgd).trans c2; have HB3 := Lib.hid hb3; clear hb3))
            all_goals
              have HD3 := Lib.hid (HJ.out.2.drew.bel HB3.out)
              have HGT := Lib.hid HJ.out.1
              go_wp2_with fail
              go_roundw
              case rel =>
                refine ⟨i2, shr d1 j i, ⟨by omega, by omega, fun h => by omega⟩, rfl, Lib.hid ⟨?_, HD3.out⟩⟩
                rw [HI2.out]
                exact HD.out.1.next HI.out hlt hj1 hj2 HGT.out (.inr (by rw [show j - 1 = j0 by omega]; exact of_decide_eq_false hl))
              case measure => simp [intOf] <;> omega
          · have e3 : decide (cmpI (o (d1 i)) (o (d1 j0)) < 0) = true := by rw [cmp_lt]; exact hl
            go_region_held (fun W => W.cell? ⟨g, j, none⟩ = some (.int .i64 (d1 i : Nat)) ∧ W.cell? ⟨g, j0, none⟩ = some (.int .i64 (d1 j0 : Nat))) (first | go_keep | exact ⟨by assumption, by assumption⟩) (first | (go_at_call 85; refine (HCR.out _ HKP.out.drew).mono ?_; rintro e w3 ⟨rfl, hb3⟩; have q1 := (hb3.cell (p := ⟨g, j, none⟩) hgd).trans c1; have q2 := (hb3.cell (p := ⟨g, j0, none⟩) hgd).trans c2; have HB3 := Lib.hid hb3; clear hb3))
            all_goals
              have HD3 := Lib.hid (HJ.out.2.drew.bel HB3.out)
              have HGT := Lib.hid HJ.out.1
              have HLL := Lib.hid (of_decide_eq_true hl)
              clear c1 c2 f1 f2 hg hgd q1 q2
              have c1 := HD3.out.get hjn
              have c2 := HD3.out.get hj0n
              rw [e1] at c1
              rw [e2] at c2
              have f1 := HD3.out.fz j
              have f2 := HD3.out.fz j0
              have hg := HD3.out.lt
              have HE := Lib.hid (And.intro e1 e2)
              clear e1 e2 e3 hl
              go_upto_region 6 with (fail)
              go_region
              go_wp2_with fail
              go_roundw
              case rel =>
                refine ⟨j0, by omega, by omega, rfl, Lib.hid ⟨fun q k1 k2 => ?_, ?_⟩⟩
                · by_cases e : q = j0
                  · rw [e]; exact HLL.out
                  · exact HGT.out q (by omega) k2
                · have hx : ∀ W, DAt N g n (shr d1 j i) w W → DAt N g n (shr d1 j0 i) w ((W.setCell ⟨g, j, none⟩ (.int .i64 (d1 j0 : Nat))).setCell ⟨g, j0, none⟩ (.int .i64 (d1 i : Nat))) := fun W h => by
                    have h2 := h.swp hjn hj0n
                    rw [HE.out.1, HE.out.2] at h2
                    have h3 : swp (shr d1 j i) j j0 = shr d1 j0 i := by rw [HJ0.out]; exact shr_step d1 j0 i (by omega)
                    rw [h3] at h2
                    exact h2
                  first | exact (hx _ HD3.out).drew | exact hx _ HD3.out.drew | exact hx _ HD3.out
              case measure => simp [intOf] <;> omega
        · have g1 : decide ((a : Int) < (j : Int)) = false := decide_eq_false (by omega)
          have g1' : decide (a < j) = false := decide_eq_false hgt
          have hja : j = a := by omega
          go_upto_region 4 with (fail)
          go_region
          have HGT := Lib.hid HJ.out.1
          have HD3 := Lib.hid HJ.out.2.drew
          go_wp2_with fail
          go_roundw
          case rel =>
            refine ⟨i2, shr d1 j i, ⟨by omega, by omega, fun h => by omega⟩, rfl, Lib.hid ⟨?_, HD3.out⟩⟩
            rw [HI2.out]
            exact HD.out.1.next HI.out hlt hj1 hj2 HGT.out (.inl hja)
          case measure => simp [intOf] <;> omega
    · have g0 : decide ((i : Int) < (b : Int)) = false := decide_eq_false (by omega)
      have g0' : decide (i < b) = false := decide_eq_false hlt
      go_wp2_with fail
      go_end0
      refine ⟨rfl, d1, HD.out.2, ?_, ?_⟩
      · by_cases hab : a = b
        · intro p q h1 h2 h3; omega
        · have : i = b := by omega
          rw [← this]; exact HD.out.1.srt
      · by_cases hab : a = b
        · rw [hid (by omega), hab]; exact Pin.refl _ _ _
        · have : i = b := by omega
          rw [← this]; exact HD.out.1.pin
end Go.Proofs.Ytbopeofglhkffaa
