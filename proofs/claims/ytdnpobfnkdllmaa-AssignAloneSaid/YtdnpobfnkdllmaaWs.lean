/- Wide numbers of package mains: share (its closure). -/
import Derived.Test.YtdnpobfnkdllmaaWy
import Derived.Test.YtdnpobfnkdllmaaKp
set_option linter.unusedSimpArgs false
set_option linter.unusedVariables false
namespace Go.Proofs.Ytdnpobfnkdllmaa
open Go.RowKit
theorem run_store_hi {P : Program} {w : World} {a : Addr} {m : Mode} (x : Int) : (store a (hiOf x) m).run P w = stored P w a (hiOf x) m := run_store P w a _ m rfl
theorem run_store_lo {P : Program} {w : World} {a : Addr} {m : Mode} (x : Int) : (store a (loOf x) m).run P w = stored P w a (loOf x) m := run_store P w a _ m rfl
attribute [local go_sem] run_store_hi run_store_lo

def wcs (S : Int) : Array Value := #[hiOf S, loOf S]
structure ShS (gR gA gW : Nat) (r a q : Int) (w W : World) : Prop where
  r : Blk W gR 87 #[hiOf r, loOf r]
  a : Blk W gA 87 #[hiOf a, loOf a]
  q : Blk W gW 87 #[hiOf q, loOf q]
  k : Kp (fun k => k = gR ∨ k = gW) w W
section
variable {gR gA gW : Nat} {r a q : Int} {w W : World}
theorem ShS.al (h : ShS gR gA gW r a q w W) (o : Obj) : ShS gR gA gW r a q w (W.alloc o) := ⟨h.r.alloc o, h.a.alloc o, h.q.alloc o, h.k.alloc o⟩
theorem ShS.drew (h : ShS gR gA gW r a q w W) : ShS gR gA gW r a q w W.drew := ⟨h.r.drew, h.a.drew, h.q.drew, h.k.drew⟩
theorem ShS.setR (h : ShS gR gA gW r a q w W) (h1 : gR ≠ gA) (h2 : gR ≠ gW) (x : Int) : ShS gR gA gW x a q w ((W.setCell ⟨gR, 0, none⟩ (hiOf x)).setCell ⟨gR, 1, none⟩ (loOf x)) :=
  ⟨(h.r.set_ 0 _).set_ 1 _, (h.a.far (by exact fun e => h1 e.symm) _).far (by exact fun e => h1 e.symm) _, (h.q.far (by exact fun e => h2 e.symm) _).far (by exact fun e => h2 e.symm) _, (h.k.setCell (p := ⟨gR, 0, none⟩) (.inl (.inl rfl)) _).setCell (p := ⟨gR, 1, none⟩) (.inl (.inl rfl)) _⟩
theorem ShS.setQ (h : ShS gR gA gW r a q w W) (h1 : gW ≠ gA) (h2 : gR ≠ gW) (x : Int) : ShS gR gA gW r a x w ((W.setCell ⟨gW, 0, none⟩ (hiOf x)).setCell ⟨gW, 1, none⟩ (loOf x)) :=
  ⟨(h.r.far (by exact h2) _).far (by exact h2) _, (h.a.far (by exact fun e => h1 e.symm) _).far (by exact fun e => h1 e.symm) _, (h.q.set_ 0 _).set_ 1 _, (h.k.setCell (p := ⟨gW, 0, none⟩) (.inl (.inr rfl)) _).setCell (p := ⟨gW, 1, none⟩) (.inl (.inr rfl)) _⟩
end
def addRest (r n a : Int) : Int := if a ≤ r + n then r + n - a else r + n
def addWhole (r n a q : Int) : Int := if a ≤ r + n then q + 1 else q
set_option maxRecDepth 100000 in
set_option maxHeartbeats 1000000 in
theorem add_any (gR gA gW : Nat) (r n a q : Int) (w : World) (h1 : gR ≠ gA) (h2 : gW ≠ gA) (h3 : gR ≠ gW) (hr : 0 ≤ r ∧ r < 170141183460469231731687303715884105728) (hn : 0 ≤ n ∧ r + n < 170141183460469231731687303715884105728) (ha : 0 ≤ a ∧ a < 170141183460469231731687303715884105728) (hq : W128 (q + 1))
    (hs : ShS gR gA gW r a q w w) :
    Calls Try.prog 111 #[.agg #[hiOf n, loOf n], .pointer (some ⟨gR, 0, none⟩), .pointer (some ⟨gA, 0, none⟩), .pointer (some ⟨gW, 0, none⟩)] w fun e w' => e = .returned (.tuple #[]) ∧ ShS gR gA gW (addRest r n a) a (addWhole r n a q) w w' := by
  have hs1 := hs.al (.cells #[hiOf n, loOf n] 87)
  have HS1 := Lib.hid hs1
  have r2 := hs1.r.c2
  have n2 : (w.alloc (.cells #[hiOf n, loOf n] 87)).cell? ⟨w.heap.size, 0, none⟩ = some (hiOf n) ∧ (w.alloc (.cells #[hiOf n, loOf n] 87)).cell? ⟨w.heap.size, 1, none⟩ = some (loOf n) := ⟨cel_two0 _ _ _ _, cel_two1 _ _ _ _⟩
  have hw1 : W128 (r + n) := ⟨by omega, by omega⟩
  obtain ⟨w1, hw⟩ : ∃ w1, w1 = w.alloc (.cells #[hiOf n, loOf n] 87) := ⟨_, rfl⟩
  go_enter Try.func111, Try.ntmps111
  go_upto_region 1 with (fail)
  rw [← hw] at n2 r2 HS1 ⊢
  have nl : w.heap.size < w1.heap.size := by rw [hw]; simp
  have rl0 : gR < w1.heap.size := by have := HS1.out.r.lt; omega
  have rl1 : gR < w1.heap.size + 1 := by have := HS1.out.r.lt; omega
  have rl2 : gR < w1.heap.size + 1 + 1 := by have := HS1.out.r.lt; omega
  have rl3 : gR < w1.heap.size + 1 + 1 + 1 := by have := HS1.out.r.lt; omega
  have f0 := HS1.out.r.frozen 0
  have f1 := HS1.out.r.frozen 1
  clear hs hs1 hw
  go_upto_region 2 with (go_at_call 60; refine (plus_any _ _ _ hw1).mono ?_; rintro e w' ⟨rfl, rfl⟩)
  have HS2 := Lib.hid ((((HS1.out.setR h1 h3 (r + n)).al (.cells #[hiOf r, loOf r] 87)).al (.cells #[hiOf n, loOf n] 87)).al (.cells #[hiOf (r + n), loOf (r + n)] 87))
  obtain ⟨w2, hw2⟩ : ∃ w2, w2 = ((((w1.setCell ⟨gR, 0, none⟩ (hiOf (r + n))).setCell ⟨gR, 1, none⟩ (loOf (r + n))).alloc (.cells #[hiOf r, loOf r] 87)).alloc (.cells #[hiOf n, loOf n] 87)).alloc (.cells #[hiOf (r + n), loOf (r + n)] 87) := ⟨_, rfl⟩
  rw [← hw2] at HS2 ⊢
  clear hw2 n2 r2 f0 f1 rl0 rl1 rl2 rl3 nl
  have r2 := HS2.out.r.c2
  have a2 := HS2.out.a.c2
  have q2 := HS2.out.q.c2
  have f0 := HS2.out.r.frozen 0
  have f1 := HS2.out.r.frozen 1
  have rl0 : gR < w2.heap.size := by have := HS2.out.r.lt; omega
  have rl1 : gR < w2.heap.size + 1 := by have := HS2.out.r.lt; omega
  have rl2 : gR < w2.heap.size + 1 + 1 := by have := HS2.out.r.lt; omega
  have rl3 : gR < w2.heap.size + 1 + 1 + 1 := by have := HS2.out.r.lt; omega
  have al0 : gA < w2.heap.size := by have := HS2.out.a.lt; omega
  have al1 : gA < w2.heap.size + 1 := by have := HS2.out.a.lt; omega
  have al2 : gA < w2.heap.size + 1 + 1 := by have := HS2.out.a.lt; omega
  have al3 : gA < w2.heap.size + 1 + 1 + 1 := by have := HS2.out.a.lt; omega
  have ql0 : gW < w2.heap.size := by have := HS2.out.q.lt; omega
  have ql1 : gW < w2.heap.size + 1 := by have := HS2.out.q.lt; omega
  have ql2 : gW < w2.heap.size + 1 + 1 := by have := HS2.out.q.lt; omega
  have ql3 : gW < w2.heap.size + 1 + 1 + 1 := by have := HS2.out.q.lt; omega
  cases hc : decide (a ≤ r + n)
  · have e1 : decide (0 ≤ cmpI (r + n) a) = false := by have := of_decide_eq_false hc; unfold cmpI; rw [if_pos (by omega)]; rfl
    have E : Hid (addRest r n a = r + n ∧ addWhole r n a q = q) := Lib.hid ⟨if_neg (of_decide_eq_false hc), if_neg (of_decide_eq_false hc)⟩
    go_wp2_with (go_at_call 62; refine (against_any _ _ _).mono ?_; rintro e w' ⟨rfl, rfl⟩)
    go_end0
    rw [E.out.1, E.out.2]
    exact ⟨rfl, (HS2.out.al _).al _⟩
  · have e1 : decide (0 ≤ cmpI (r + n) a) = true := by have := of_decide_eq_true hc; unfold cmpI; rw [if_neg (by omega)]; split <;> rfl
    have E : Hid (addRest r n a = r + n - a ∧ addWhole r n a q = q + 1) := Lib.hid ⟨if_pos (of_decide_eq_true hc), if_pos (of_decide_eq_true hc)⟩
    have hw3 : W128 (r + n - a) := by have := of_decide_eq_true hc; exact ⟨by omega, by omega⟩
    go_upto_region 4 with (first | (go_at_call 62; refine (against_any _ _ _).mono ?_; rintro e w' ⟨rfl, rfl⟩) | (go_at_call 63; refine (minus_any _ _ _ hw3).mono ?_; rintro e w' ⟨rfl, rfl⟩))
    have HS3 := Lib.hid ((((((HS2.out.setR h1 h3 (r + n - a)).al (.cells #[hiOf (r + n), loOf (r + n)] 87)).al (.cells #[hiOf a, loOf a] 87)).al (.cells #[hiOf (r + n), loOf (r + n)] 87)).al (.cells #[hiOf a, loOf a] 87)).al (.cells #[hiOf (r + n - a), loOf (r + n - a)] 87))
    trace_state
    obtain ⟨w3, hw3⟩ : ∃ w3, w3 = ((((((w2.setCell ⟨gR, 0, none⟩ (hiOf (r + n - a))).setCell ⟨gR, 1, none⟩ (loOf (r + n - a))).alloc (.cells #[hiOf (r + n), loOf (r + n)] 87)).alloc (.cells #[hiOf a, loOf a] 87)).alloc (.cells #[hiOf (r + n), loOf (r + n)] 87)).alloc (.cells #[hiOf a, loOf a] 87)).alloc (.cells #[hiOf (r + n - a), loOf (r + n - a)] 87) := ⟨_, rfl⟩
    rw [← hw3] at HS3 ⊢
    clear hw3 r2 a2 q2 f0 f1 rl0 rl1 rl2 rl3 al0 al1 al2 al3 ql0 ql1 ql2 ql3
    have q2 := HS3.out.q.c2
    have f0 := HS3.out.q.frozen 0
    have f1 := HS3.out.q.frozen 1
    have ql0 : gW < w3.heap.size := by have := HS3.out.q.lt; omega
    have ql1 : gW < w3.heap.size + 1 := by have := HS3.out.q.lt; omega
    have ql2 : gW < w3.heap.size + 1 + 1 := by have := HS3.out.q.lt; omega
    have ql3 : gW < w3.heap.size + 1 + 1 + 1 := by have := HS3.out.q.lt; omega
    go_region_with (first | (go_at_call 61; refine (of_any _ _ (by decide) (by decide)).mono ?_; rintro e w' ⟨rfl, rfl⟩) | (go_at_call 60; refine (plus_any _ _ _ hq).mono ?_; rintro e w' ⟨rfl, rfl⟩))
    all_goals
      go_wp2_with fail
      go_end0
      rw [E.out.1, E.out.2]
      refine ⟨rfl, ?_⟩
      first
        | exact ((((HS3.out.drew.setQ h2 h3 (q + 1)).al _).al _).al _).al _
        | exact ((((HS3.out.setQ h2 h3 (q + 1)).al _).al _).al _).al _
end Go.Proofs.Ytdnpobfnkdllmaa
