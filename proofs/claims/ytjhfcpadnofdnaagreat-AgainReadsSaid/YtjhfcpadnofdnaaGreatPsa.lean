/- The program's styles: which lengths and edges may be; the rules of a box. -/
import Derived.Test.YtjhfcpadnofdnaaGreatTrf
import Derived.Deep.RegionHeld
import Derived.Test.YtjhfcpadnofdnaaGreatRgh
set_option linter.unusedSimpArgs false
set_option linter.unusedVariables false
namespace Go.Proofs.YtjhfcpadnofdnaaGreat
open Go.RowKit
attribute [local go_sem] block_of_add
theorem below_drw (w : World) : Below w.heap.size w w.drew := by
  have h := Below.refl w.heap.size w
  exact ⟨h.os, h.tape, h.output, h.size, h.block⟩
set_option maxHeartbeats 1000000 in
theorem within_any (x a b : Int) (w : World) : Calls Tryz.prog 272 #[.int .i64 x, .int .i64 a, .int .i64 b] w fun e w' => e = .returned (.bool (decide (a ≤ x) && decide (x ≤ b))) ∧ w = w' := by
  cases h1 : decide (a ≤ x) <;> cases h2 : decide (x ≤ b)
  all_goals
    go_enter Tryz.func272, Tryz.ntmps272
    go_wp2
    go_ret
    exact ⟨by simp, rfl⟩
def thickF (x : Int) : Bool := decide (0 ≤ x) && decide (x ≤ 1099511627776)
set_option maxHeartbeats 1000000 in
theorem thick_any (x : Int) (w : World) : Calls Tryz.prog 264 #[.int .i64 x] w fun e w' => e = .returned (.bool (thickF x)) ∧ Below w.heap.size w w' := by
  have HW := Lib.hid (within_any x 0 1099511627776 w)
  go_enter Tryz.func264, Tryz.ntmps264
  go_wp2_with fail
  refine HW.out.mono ?_
  rintro e w1 ⟨rfl, rfl⟩
  obtain ⟨b, hb⟩ : ∃ b, b = thickF x := ⟨_, rfl⟩
  have HB := Lib.hid hb
  rw [show (decide (0 ≤ x) && decide (x ≤ 1099511627776)) = b from hb.symm]
  clear hb
  go_wp2_with fail
  go_ret
  exact ⟨by rw [← HB.out] <;> rfl, Below.refl _ _⟩
def fromF (k n px part : Int) : Bool := if k = 0 then n == 0 else if k = 1 then decide (px ≤ n) && decide (n ≤ 1099511627776) else if k = 2 then decide (part ≤ n) && decide (n ≤ 100000) else false
theorem from_may (k n : Int) : fromF k n 0 0 = mayF k n false := by
  unfold fromF mayF
  split
  · rfl
  · split
    · rw [Bool.and_comm]; rfl
    · split
      · rw [Bool.and_comm]; rfl
      · rfl
theorem from_margin (k n : Int) : fromF k n (-1099511627776) (-100000) = mayF k n true := by
  unfold fromF mayF
  split
  · rfl
  · split
    · rw [Bool.and_comm]; rfl
    · split
      · rw [Bool.and_comm]; rfl
      · rfl
set_option maxHeartbeats 1000000 in
theorem from_any (k n px part : Int) (w : World) : Calls Tryz.prog 314 #[.agg #[.int .u8 k, .int .i64 n], .int .i64 px, .int .i64 part] w fun e w' => e = .returned (.bool (fromF k n px part)) ∧ Below w.heap.size w w' := by
  have HB : Hid (Below w.heap.size w (w.alloc (.cells #[.int .u8 k, .int .i64 n] 62))) := Lib.hid ((Below.refl _ _).alloc (Nat.le_refl _) _)
  by_cases h0 : k = 0
  · have e0 : (k == 0) = true := beq_iff_eq.2 h0
    have HF : Hid (fromF k n px part = (n == 0)) := Lib.hid (by unfold fromF; rw [if_pos h0])
    clear h0
    go_enter Tryz.func314, Tryz.ntmps314
    go_wp2_with fail
    go_ret
    exact ⟨by rw [HF.out] <;> rfl, HB.out⟩
  have e0 : (k == 0) = false := beq_eq_false_iff_ne.2 h0
  by_cases h1 : k = 1
  · have e1 : (k == 1) = true := beq_iff_eq.2 h1
    have HF : Hid (fromF k n px part = (decide (px ≤ n) && decide (n ≤ 1099511627776))) := Lib.hid (by unfold fromF; rw [if_neg h0, if_pos h1])
    have HW := Lib.hid (fun W => within_any n px 1099511627776 W)
    clear h0 h1
    go_enter Tryz.func314, Tryz.ntmps314
    go_wp2_with fail
    refine (HW.out _).mono ?_
    rintro e w1 ⟨rfl, rfl⟩
    rw [← HF.out]
    obtain ⟨b, hb⟩ : ∃ b, b = fromF k n px part := ⟨_, rfl⟩
    rw [← hb]
    have HBB := Lib.hid hb
    clear hb
    go_wp2_with fail
    go_ret
    exact ⟨by rw [← HBB.out] <;> rfl, HB.out⟩
  have e1 : (k == 1) = false := beq_eq_false_iff_ne.2 h1
  by_cases h2 : k = 2
  · have e2 : (k == 2) = true := beq_iff_eq.2 h2
    have HF : Hid (fromF k n px part = (decide (part ≤ n) && decide (n ≤ 100000))) := Lib.hid (by unfold fromF; rw [if_neg h0, if_neg h1, if_pos h2])
    have HW := Lib.hid (fun W => within_any n part 100000 W)
    clear h0 h1 h2
    go_enter Tryz.func314, Tryz.ntmps314
    go_wp2_with fail
    refine (HW.out _).mono ?_
    rintro e w1 ⟨rfl, rfl⟩
    rw [← HF.out]
    obtain ⟨b, hb⟩ : ∃ b, b = fromF k n px part := ⟨_, rfl⟩
    rw [← hb]
    have HBB := Lib.hid hb
    clear hb
    go_wp2_with fail
    go_ret
    exact ⟨by rw [← HBB.out] <;> rfl, HB.out⟩
  have e2 : (k == 2) = false := beq_eq_false_iff_ne.2 h2
  have HF : Hid (fromF k n px part = false) := Lib.hid (by unfold fromF; rw [if_neg h0, if_neg h1, if_neg h2])
  clear h0 h1 h2
  go_enter Tryz.func314, Tryz.ntmps314
  go_wp2_with fail
  go_ret
  exact ⟨by rw [HF.out] <;> rfl, HB.out⟩
set_option maxHeartbeats 1000000 in
theorem pmay_any (k n : Int) (w : World) : Calls Tryz.prog 257 #[.agg #[.int .u8 k, .int .i64 n]] w fun e w' => e = .returned (.bool (mayF k n false)) ∧ Below w.heap.size w w' := by
  have HW := Lib.hid (fun W => from_any k n 0 0 W)
  have HB : Hid (Below w.heap.size w (w.alloc (.cells #[.int .u8 k, .int .i64 n] 62))) := Lib.hid ((Below.refl _ _).alloc (Nat.le_refl _) _)
  go_enter Tryz.func257, Tryz.ntmps257
  go_wp2_with fail
  refine (HW.out _).mono ?_
  rintro e w1 ⟨rfl, hb⟩
  rw [from_may]
  have HB2 := Lib.hid (HB.out.trans (hb.mono (by simp)))
  obtain ⟨b, hb⟩ : ∃ b, b = mayF k n false := ⟨_, rfl⟩
  rw [← hb]
  have HBB := Lib.hid hb
  clear hb
  go_wp2_with fail
  go_ret
  exact ⟨by rw [← HBB.out] <;> rfl, HB2.out⟩
set_option maxHeartbeats 1000000 in
theorem pmargin_any (k n : Int) (w : World) : Calls Tryz.prog 261 #[.agg #[.int .u8 k, .int .i64 n]] w fun e w' => e = .returned (.bool (mayF k n true)) ∧ Below w.heap.size w w' := by
  have HW := Lib.hid (fun W => from_any k n (-1099511627776) (-100000) W)
  have HB : Hid (Below w.heap.size w (w.alloc (.cells #[.int .u8 k, .int .i64 n] 62))) := Lib.hid ((Below.refl _ _).alloc (Nat.le_refl _) _)
  go_enter Tryz.func261, Tryz.ntmps261
  go_wp2_with fail
  refine (HW.out _).mono ?_
  rintro e w1 ⟨rfl, hb⟩
  rw [from_margin]
  have HB2 := Lib.hid (HB.out.trans (hb.mono (by simp)))
  obtain ⟨b, hb⟩ : ∃ b, b = mayF k n true := ⟨_, rfl⟩
  rw [← hb]
  have HBB := Lib.hid hb
  clear hb
  go_wp2_with fail
  go_ret
  exact ⟨by rw [← HBB.out] <;> rfl, HB2.out⟩
def tallF (k n : Int) : Bool := !(k == 2) && mayF k n false
set_option maxHeartbeats 1000000 in
theorem ptall_any (k n : Int) (w : World) : Calls Tryz.prog 259 #[.agg #[.int .u8 k, .int .i64 n]] w fun e w' => e = .returned (.bool (tallF k n)) ∧ Below w.heap.size w w' := by
  have HW := Lib.hid (fun W => pmay_any k n W)
  have HB : Hid (Below w.heap.size w (w.alloc (.cells #[.int .u8 k, .int .i64 n] 62))) := Lib.hid ((Below.refl _ _).alloc (Nat.le_refl _) _)
  cases h2 : (k == 2)
  · have h2' : (k != 2) = true := by rw [bne, h2]; rfl
    have HF : Hid (tallF k n = mayF k n false) := Lib.hid (by unfold tallF; rw [h2]; rfl)
    go_enter Tryz.func259, Tryz.ntmps259
    go_wp2_with fail
    refine (HW.out _).mono ?_
    rintro e w1 ⟨rfl, hb⟩
    rw [← HF.out]
    have HB2 := Lib.hid (HB.out.trans (hb.mono (by simp)))
    obtain ⟨b, hb⟩ : ∃ b, b = tallF k n := ⟨_, rfl⟩
    rw [← hb]
    have HBB := Lib.hid hb
    clear hb
    go_wp2_with fail
    go_ret
    exact ⟨by rw [← HBB.out] <;> rfl, HB2.out⟩
  · have h2' : (k != 2) = false := by rw [bne, h2]; rfl
    have HF : Hid (tallF k n = false) := Lib.hid (by unfold tallF; rw [h2]; rfl)
    go_enter Tryz.func259, Tryz.ntmps259
    go_wp2_with fail
    go_ret
    exact ⟨by rw [HF.out] <;> rfl, HB.out⟩
section
variable (p : Int → Int → Bool) (F : FuncId) (eg : ∀ args w, (callFunc F args).run Tryz.prog w = .ok (.enter F args) w) (hF : ∀ W k n, Calls Tryz.prog F #[.agg #[.int .u8 k, .int .i64 n]] W fun e w' => e = .returned (.bool (p k n)) ∧ Below W.heap.size W w')
include eg hF
set_option maxHeartbeats 1000000 in
theorem each_len (L : List Ln) (g o c : Nat) (w : World) (hg : g < w.heap.size) (hL : L.length ≤ 100) (hc : ∀ j (h : j < L.length), w.cell? ⟨g, o + j * 2, none⟩ = some (.int .u8 L[j].k) ∧ w.cell? ⟨g, o + j * 2 + 1, none⟩ = some (.int .i64 L[j].n)) :
    Calls Tryz.prog 256 #[.func (.func F) #[] #[], .slice (some ⟨g, o, none⟩) L.length c] w fun e w' => e = .returned (.bool (L.all fun x => p x.k x.n)) ∧ Below w.heap.size w w' := by
  have HF := Lib.hid hF
  have HC := Lib.hid hc
  clear hF hc
  go_enter Tryz.func256, Tryz.ntmps256
  go_wp2_with fail
  go_loopw [9] (fun iv wr => ∃ k : Nat, k ≤ L.length ∧ iv = .int .i64 k ∧ Hid ((∀ (j : Nat) (h : j < L.length), j < k → p L[j].k L[j].n = true) ∧ Below w.heap.size w wr)) (fun iv _ => L.length - (intOf iv).toNat)
  case atStart => exact ⟨0, by omega, rfl, Lib.hid ⟨fun j h h2 => by omega, Below.refl _ _⟩⟩
  case round =>
    obtain ⟨k, hk, rfl, H⟩ := hrel
    by_cases hlt : k < L.length
    · have d0 : decide ((k : Int) < (L.length : Int)) = true := decide_eq_true (by omega)
      have d0' : decide (k < L.length) = true := decide_eq_true hlt
      have hki : (k : Int) < (L.length : Int) := by omega
      have hwk : IntKind.i64.wrap ((k : Int) + 1) = (k : Int) + 1 := IntWalk.i64_in _ ⟨by omega, by omega⟩
      obtain ⟨c1, c2⟩ := HC.out k hlt
      obtain ⟨a, ha⟩ : ∃ a, a = L[k].k := ⟨_, rfl⟩
      obtain ⟨b, hb⟩ : ∃ b, b = L[k].n := ⟨_, rfl⟩
      rw [← ha] at c1
      rw [← hb] at c2
      have HQ : Hid (p L[k].k L[k].n = p a b) := Lib.hid (by rw [ha, hb])
      have f1 : wr.cell? ⟨g, o + k * 2, none⟩ = some (.int .u8 a) := (H.out.2.cell (p := ⟨g, o + k * 2, none⟩) hg).trans c1
      have f2 : wr.cell? ⟨g, o + k * 2 + 1, none⟩ = some (.int .i64 b) := (H.out.2.cell (p := ⟨g, o + k * 2 + 1, none⟩) hg).trans c2
      have hgr : g < wr.heap.size := by have := H.out.2.size; omega
      have HB1 := Lib.hid (H.out.2.alloc H.out.2.size (.cells #[.int .u8 a, .int .i64 b] 62))
      have HSZ := Lib.hid H.out.2.size
      clear ha hb c1 c2
      go_wp2_with fail
      refine (HF.out _ a b).mono ?_
      rintro e w1 ⟨rfl, hb1⟩
      have HB2 := Lib.hid (HB1.out.trans (hb1.mono (by simp; have := HSZ.out; omega)))
      clear hb1
      cases hp : p a b
      · have HA := Lib.hid (show (L.all fun x => p x.k x.n) = false by
          rw [List.all_eq_false]; exact ⟨L[k], List.getElem_mem hlt, by rw [HQ.out, hp]; simp⟩)
        go_wp2_with fail
        go_ret
        exact ⟨by rw [HA.out]; rfl, HB2.out⟩
      · have HK := Lib.hid (HQ.out.trans hp)
        go_wp2_with fail
        go_roundw
        case rel => exact ⟨k + 1, by omega, by go_num, Lib.hid ⟨fun j h h2 => by
          by_cases hj : j = k
          · subst hj; exact HK.out
          · exact H.out.1 j h (by omega), HB2.out⟩⟩
        case measure => simp [intOf]; omega
    · have d0 : decide ((k : Int) < (L.length : Int)) = false := decide_eq_false (by omega)
      have d0' : decide (k < L.length) = false := decide_eq_false hlt
      have HA := Lib.hid (show (L.all fun x => p x.k x.n) = true by
        rw [List.all_eq_true]; intro x hx
        obtain ⟨j, hj, rfl⟩ := List.getElem_of_mem hx
        exact H.out.1 j hj (by omega))
      go_wp2_with fail
      go_ret
      exact ⟨by rw [HA.out]; rfl, H.out.2⟩
end
section
variable (p : Int → Bool) (F : FuncId) (eg : ∀ args w, (callFunc F args).run Tryz.prog w = .ok (.enter F args) w) (hF : ∀ W n, Calls Tryz.prog F #[.int .i64 n] W fun e w' => e = .returned (.bool (p n)) ∧ Below W.heap.size W w')
include eg hF
set_option maxHeartbeats 1000000 in
theorem each_int (L : List Int) (g o c : Nat) (w : World) (hg : g < w.heap.size) (hL : L.length ≤ 100) (hc : ∀ j (h : j < L.length), w.cell? ⟨g, o + j, none⟩ = some (.int .i64 L[j])) :
    Calls Tryz.prog 263 #[.func (.func F) #[] #[], .slice (some ⟨g, o, none⟩) L.length c] w fun e w' => e = .returned (.bool (L.all p)) ∧ Below w.heap.size w w' := by
  have HF := Lib.hid hF
  have HC := Lib.hid hc
  clear hF hc
  go_enter Tryz.func263, Tryz.ntmps263
  go_wp2_with fail
  go_loopw [9] (fun iv wr => ∃ k : Nat, k ≤ L.length ∧ iv = .int .i64 k ∧ Hid ((∀ (j : Nat) (h : j < L.length), j < k → p L[j] = true) ∧ Below w.heap.size w wr)) (fun iv _ => L.length - (intOf iv).toNat)
  case atStart => exact ⟨0, by omega, rfl, Lib.hid ⟨fun j h h2 => by omega, Below.refl _ _⟩⟩
  case round =>
    obtain ⟨k, hk, rfl, H⟩ := hrel
    by_cases hlt : k < L.length
    · have d0 : decide ((k : Int) < (L.length : Int)) = true := decide_eq_true (by omega)
      have d0' : decide (k < L.length) = true := decide_eq_true hlt
      have hki : (k : Int) < (L.length : Int) := by omega
      have hwk : IntKind.i64.wrap ((k : Int) + 1) = (k : Int) + 1 := IntWalk.i64_in _ ⟨by omega, by omega⟩
      have c1 := HC.out k hlt
      obtain ⟨a, ha⟩ : ∃ a, a = L[k] := ⟨_, rfl⟩
      rw [← ha] at c1
      have HQ : Hid (p L[k] = p a) := Lib.hid (by rw [ha])
      have f1 : wr.cell? ⟨g, o + k, none⟩ = some (.int .i64 a) := (H.out.2.cell (p := ⟨g, o + k, none⟩) hg).trans c1
      have hgr : g < wr.heap.size := by have := H.out.2.size; omega
      have HSZ := Lib.hid H.out.2.size
      clear ha c1
      go_wp2_with fail
      refine (HF.out _ a).mono ?_
      rintro e w1 ⟨rfl, hb1⟩
      have HB2 := Lib.hid (H.out.2.trans (hb1.mono HSZ.out))
      clear hb1
      cases hp : p a
      · have HA := Lib.hid (show (L.all p) = false by
          rw [List.all_eq_false]; exact ⟨L[k], List.getElem_mem hlt, by rw [HQ.out, hp]; simp⟩)
        go_wp2_with fail
        go_ret
        exact ⟨by rw [HA.out]; rfl, HB2.out⟩
      · have HK := Lib.hid (HQ.out.trans hp)
        go_wp2_with fail
        go_roundw
        case rel => exact ⟨k + 1, by omega, by go_num, Lib.hid ⟨fun j h h2 => by
          by_cases hj : j = k
          · subst hj; exact HK.out
          · exact H.out.1 j h (by omega), HB2.out⟩⟩
        case measure => simp [intOf]; omega
    · have d0 : decide ((k : Int) < (L.length : Int)) = false := decide_eq_false (by omega)
      have d0' : decide (k < L.length) = false := decide_eq_false hlt
      have HA := Lib.hid (show (L.all p) = true by
        rw [List.all_eq_true]; intro x hx
        obtain ⟨j, hj, rfl⟩ := List.getElem_of_mem hx
        exact H.out.1 j hj (by omega))
      go_wp2_with fail
      go_ret
      exact ⟨by rw [HA.out]; rfl, H.out.2⟩
end
/-- What a rule says. -/
def wdL (s : Sty) : List Ln := [s.w, s.minw, s.maxw, s.basis]
def hgL (s : Sty) : List Ln := [s.h, s.minh, s.maxh]
def mgL (s : Sty) : List Ln := [s.m0, s.m1, s.m2, s.m3]
def bdL (s : Sty) : List Int := [s.b0, s.b1, s.b2, s.b3]
def pdL (s : Sty) : List Int := [s.p0, s.p1, s.p2, s.p3]
def ruleF (s : Sty) (nu : Nat) : Nat → Bool
  | 0 => decide (s.float ≤ 2)
  | 1 => decide (s.clear ≤ 3)
  | 2 => (wdL s).all fun x => mayF x.k x.n false
  | 3 => (hgL s).all fun x => tallF x.k x.n
  | 4 => (mgL s).all fun x => mayF x.k x.n true
  | 5 => (bdL s).all thickF
  | 6 => (pdL s).all thickF
  | 7 => decide (s.align ≤ 2)
  | 8 => decide (s.justify ≤ 3)
  | 9 => decide (s.items ≤ 3)
  | 10 => thickF s.line
  | 11 => decide (-1048576 ≤ s.order) && decide (s.order ≤ 1048576)
  | 12 => decide (0 ≤ s.grow) && decide (s.grow ≤ 60)
  | 13 => decide (0 ≤ s.shrink) && decide (s.shrink ≤ 60)
  | _ => nu == 0
/-- A rule answers so. -/
def RuleC (F : FuncId) (k : Nat) : Prop := ∀ (s : Sty) (g : Nat) (w : World) (Au : Option Addr) (nu cu : Nat), s.uv = .slice Au nu cu → Blk w g 67 (styCells s).toArray →
    Calls Tryz.prog F #[.pointer (some ⟨g, 0, none⟩)] w fun e w' => e = .returned (.bool (ruleF s nu k)) ∧ Below w.heap.size w w'
set_option maxRecDepth 100000 in
set_option maxHeartbeats 1000000 in
theorem rule0 : RuleC 253 0 := by
  intro s g w Au nu cu huv hb
  have c0 := hb.get _ (sty_a2 s)
  have lg := hb.lt
  obtain ⟨x, hx⟩ : ∃ x, x = s.float := ⟨_, rfl⟩
  rw [← hx] at c0
  have HR : Hid (ruleF s nu 0 = decide (x ≤ 2)) := Lib.hid (by rw [hx]; rfl)
  clear hx hb huv
  go_enter Tryz.func253, Tryz.ntmps253
  go_wp2_with fail
  go_ret
  exact ⟨by rw [HR.out] <;> rfl, Below.refl _ _⟩
set_option maxRecDepth 100000 in
set_option maxHeartbeats 1000000 in
theorem rule1 : RuleC 254 1 := by
  intro s g w Au nu cu huv hb
  have c0 := hb.get _ (sty_a3 s)
  have lg := hb.lt
  obtain ⟨x, hx⟩ : ∃ x, x = s.clear := ⟨_, rfl⟩
  rw [← hx] at c0
  have HR : Hid (ruleF s nu 1 = decide (x ≤ 3)) := Lib.hid (by rw [hx]; rfl)
  clear hx hb huv
  go_enter Tryz.func254, Tryz.ntmps254
  go_wp2_with fail
  go_ret
  exact ⟨by rw [HR.out] <;> rfl, Below.refl _ _⟩
theorem eachc_2 (s : Sty) (W : World) (j : Nat) (hj : j < (wdL s).length) : (W.alloc (.cells #[.int .u8 s.w.k, .int .i64 s.w.n, .int .u8 s.minw.k, .int .i64 s.minw.n, .int .u8 s.maxw.k, .int .i64 s.maxw.n, .int .u8 s.basis.k, .int .i64 s.basis.n] 62)).cell? ⟨W.heap.size, 0 + j * 2, none⟩ = some (.int .u8 (wdL s)[j].k) ∧ (W.alloc (.cells #[.int .u8 s.w.k, .int .i64 s.w.n, .int .u8 s.minw.k, .int .i64 s.minw.n, .int .u8 s.maxw.k, .int .i64 s.maxw.n, .int .u8 s.basis.k, .int .i64 s.basis.n] 62)).cell? ⟨W.heap.size, 0 + j * 2 + 1, none⟩ = some (.int .i64 (wdL s)[j].n) := by
  have hb := Blk.new W 62 #[.int .u8 s.w.k, .int .i64 s.w.n, .int .u8 s.minw.k, .int .i64 s.minw.n, .int .u8 s.maxw.k, .int .i64 s.maxw.n, .int .u8 s.basis.k, .int .i64 s.basis.n]
  have : j = 0 ∨ j = 1 ∨ j = 2 ∨ j = 3 := by simp [wdL] at hj; omega
  rcases this with rfl | rfl | rfl | rfl <;> exact ⟨hb.get _ rfl, hb.get _ rfl⟩
set_option maxRecDepth 100000 in
set_option maxHeartbeats 2000000 in
theorem rule2 : RuleC 255 2 := by
  intro s g w Au nu cu huv hb
  have HS0 : Hid (∀ W', Below w.heap.size w W' → (W'.cell? ⟨g, 4, none⟩ = some (.int .u8 s.w.k) ∧ W'.cell? ⟨g, 5, none⟩ = some (.int .i64 s.w.n) ∧ W'.cell? ⟨g, 8, none⟩ = some (.int .u8 s.minw.k) ∧ W'.cell? ⟨g, 9, none⟩ = some (.int .i64 s.minw.n) ∧ W'.cell? ⟨g, 10, none⟩ = some (.int .u8 s.maxw.k) ∧ W'.cell? ⟨g, 11, none⟩ = some (.int .i64 s.maxw.n) ∧ W'.cell? ⟨g, 40, none⟩ = some (.int .u8 s.basis.k) ∧ W'.cell? ⟨g, 41, none⟩ = some (.int .i64 s.basis.n) ∧ g < W'.heap.size ∧ Hid (Below w.heap.size w W'))) := Lib.hid (fun W' h => by
    have h2 := hb.below h hb.lt
    exact ⟨h2.get _ (sty_a4 s), h2.get _ (sty_a5 s), h2.get _ (sty_a8 s), h2.get _ (sty_a9 s), h2.get _ (sty_a10 s), h2.get _ (sty_a11 s), h2.get _ (sty_a40 s), h2.get _ (sty_a41 s), h2.lt, Lib.hid h⟩)
  have lg := hb.lt
  obtain ⟨b, hbb⟩ : ∃ b, b = ruleF s nu 2 := ⟨_, rfl⟩
  have HR := Lib.hid hbb
  clear hb huv hbb
  go_enter Tryz.func255, Tryz.ntmps255
  go_upto_region 1 with (fail)
  refine wp_region_held_drew (S := fun W' => W'.cell? ⟨g, 4, none⟩ = some (.int .u8 s.w.k) ∧ W'.cell? ⟨g, 5, none⟩ = some (.int .i64 s.w.n) ∧ W'.cell? ⟨g, 8, none⟩ = some (.int .u8 s.minw.k) ∧ W'.cell? ⟨g, 9, none⟩ = some (.int .i64 s.minw.n) ∧ W'.cell? ⟨g, 10, none⟩ = some (.int .u8 s.maxw.k) ∧ W'.cell? ⟨g, 11, none⟩ = some (.int .i64 s.maxw.n) ∧ W'.cell? ⟨g, 40, none⟩ = some (.int .u8 s.basis.k) ∧ W'.cell? ⟨g, 41, none⟩ = some (.int .i64 s.basis.n) ∧ g < W'.heap.size ∧ Hid (Below w.heap.size w W')) (by kernel_rfl) (HS0.out _ (below_drw _)) (fun hS => ?_)
  refine wpAnyH_take (i := 0) (v := ?_) rfl (by kernel_rfl) (by kernel_rfl) (by kernel_rfl) (fun _ _ _ h => h) (Or.inl ⟨by rfl, ?_⟩) hS ?_
  rotate_left
  · intro W' hS'
    go_simp
    rfl
  try simp only [Act.put, List.setIfInBounds_toArray, List.set_cons_zero, List.set_cons_succ, List.getElem_toArray, List.getElem_cons_zero, List.getElem_cons_succ]
  refine wpAnyH_take (i := 1) (v := ?_) rfl (by kernel_rfl) (by kernel_rfl) (by kernel_rfl) (fun _ _ _ h => h) (Or.inl ⟨by rfl, ?_⟩) hS ?_
  rotate_left
  · intro W' hS'
    go_simp
    rfl
  try simp only [Act.put, List.setIfInBounds_toArray, List.set_cons_zero, List.set_cons_succ, List.getElem_toArray, List.getElem_cons_zero, List.getElem_cons_succ]
  refine wpAnyH_take (i := 2) (v := ?_) rfl (by kernel_rfl) (by kernel_rfl) (by kernel_rfl) (fun _ _ _ h => h) (Or.inl ⟨by rfl, ?_⟩) hS ?_
  rotate_left
  · intro W' hS'
    go_simp
    rfl
  try simp only [Act.put, List.setIfInBounds_toArray, List.set_cons_zero, List.set_cons_succ, List.getElem_toArray, List.getElem_cons_zero, List.getElem_cons_succ]
  refine wpAnyH_take (i := 3) (v := ?_) rfl (by kernel_rfl) (by kernel_rfl) (by kernel_rfl) (fun _ _ _ h => h) (Or.inl ⟨by rfl, ?_⟩) hS ?_
  rotate_left
  · intro W' hS'
    go_simp
    rfl
  try simp only [Act.put, List.setIfInBounds_toArray, List.set_cons_zero, List.set_cons_succ, List.getElem_toArray, List.getElem_cons_zero, List.getElem_cons_succ]
  refine wpAnyH_take (i := 4) (v := ?_) rfl (by kernel_rfl) (by kernel_rfl) (by kernel_rfl) (fun _ _ _ h => h) (Or.inl ⟨by rfl, ?_⟩) hS ?_
  rotate_left
  · intro W' hS'
    go_simp
    rfl
  try simp only [Act.put, List.setIfInBounds_toArray, List.set_cons_zero, List.set_cons_succ, List.getElem_toArray, List.getElem_cons_zero, List.getElem_cons_succ]
  refine wpAnyH_take (i := 5) (v := ?_) rfl (by kernel_rfl) (by kernel_rfl) (by kernel_rfl) (fun _ _ _ h => h) (Or.inl ⟨by rfl, ?_⟩) hS ?_
  rotate_left
  · intro W' hS'
    go_simp
    rfl
  try simp only [Act.put, List.setIfInBounds_toArray, List.set_cons_zero, List.set_cons_succ, List.getElem_toArray, List.getElem_cons_zero, List.getElem_cons_succ]
  refine wpAnyH_take (i := 6) (v := ?_) rfl (by kernel_rfl) (by kernel_rfl) (by kernel_rfl) (fun _ _ _ h => h) (Or.inl ⟨by rfl, ?_⟩) hS ?_
  rotate_left
  · intro W' hS'
    go_simp
    rfl
  try simp only [Act.put, List.setIfInBounds_toArray, List.set_cons_zero, List.set_cons_succ, List.getElem_toArray, List.getElem_cons_zero, List.getElem_cons_succ]
  refine wpAnyH_take (i := 7) (v := ?_) rfl (by kernel_rfl) (by kernel_rfl) (by kernel_rfl) (fun _ _ _ h => h) (Or.inl ⟨by rfl, ?_⟩) hS ?_
  rotate_left
  · intro W' hS'
    go_simp
    rfl
  try simp only [Act.put, List.setIfInBounds_toArray, List.set_cons_zero, List.set_cons_succ, List.getElem_toArray, List.getElem_cons_zero, List.getElem_cons_succ]
  refine wpAnyH_take (i := 8) (v := ?_) rfl (by kernel_rfl) (by kernel_rfl) (by kernel_rfl) (fun _ _ _ h => h) (Or.inl ⟨by rfl, ?_⟩) hS ?_
  rotate_left
  · intro W' hS'
    go_simp
    rfl
  try simp only [Act.put, List.setIfInBounds_toArray, List.set_cons_zero, List.set_cons_succ, List.getElem_toArray, List.getElem_cons_zero, List.getElem_cons_succ]
  refine wpAnyH_take (i := 9) (v := ?_) rfl (by kernel_rfl) (by kernel_rfl) (by kernel_rfl) (fun _ _ _ h => h) (Or.inl ⟨by rfl, ?_⟩) hS ?_
  rotate_left
  · intro W' hS'
    go_simp
    rfl
  try simp only [Act.put, List.setIfInBounds_toArray, List.set_cons_zero, List.set_cons_succ, List.getElem_toArray, List.getElem_cons_zero, List.getElem_cons_succ]
  refine wpAnyH_take (i := 10) (v := ?_) rfl (by kernel_rfl) (by kernel_rfl) (by kernel_rfl) (fun _ _ _ h => h) (Or.inl ⟨by rfl, ?_⟩) hS ?_
  rotate_left
  · intro W' hS'
    go_simp
    rfl
  try simp only [Act.put, List.setIfInBounds_toArray, List.set_cons_zero, List.set_cons_succ, List.getElem_toArray, List.getElem_cons_zero, List.getElem_cons_succ]
  refine wpAnyH_take (i := 11) (v := ?_) rfl (by kernel_rfl) (by kernel_rfl) (by kernel_rfl) (fun _ _ _ h => h) (Or.inl ⟨by rfl, ?_⟩) hS ?_
  rotate_left
  · intro W' hS'
    go_simp
    rfl
  try simp only [Act.put, List.setIfInBounds_toArray, List.set_cons_zero, List.set_cons_succ, List.getElem_toArray, List.getElem_cons_zero, List.getElem_cons_succ]
  refine wpAnyH_take (i := 12) (v := ?_) rfl (by kernel_rfl) (by kernel_rfl) (by kernel_rfl) (fun _ _ _ h => h) (Or.inl ⟨by rfl, ?_⟩) hS ?_
  rotate_left
  · intro W' hS'
    go_simp
    rfl
  try simp only [Act.put, List.setIfInBounds_toArray, List.set_cons_zero, List.set_cons_succ, List.getElem_toArray, List.getElem_cons_zero, List.getElem_cons_succ]
  refine wpAnyH_take (i := 13) (v := ?_) rfl (by kernel_rfl) (by kernel_rfl) (by kernel_rfl) (fun _ _ _ h => h) (Or.inl ⟨by rfl, ?_⟩) hS ?_
  rotate_left
  · intro W' hS'
    go_simp
    rfl
  try simp only [Act.put, List.setIfInBounds_toArray, List.set_cons_zero, List.set_cons_succ, List.getElem_toArray, List.getElem_cons_zero, List.getElem_cons_succ]
  refine wpAnyH_take (i := 14) (v := ?_) rfl (by kernel_rfl) (by kernel_rfl) (by kernel_rfl) (fun _ _ _ h => h) (Or.inl ⟨by rfl, ?_⟩) hS ?_
  rotate_left
  · intro W' hS'
    go_simp
    rfl
  try simp only [Act.put, List.setIfInBounds_toArray, List.set_cons_zero, List.set_cons_succ, List.getElem_toArray, List.getElem_cons_zero, List.getElem_cons_succ]
  refine wpAnyH_take (i := 15) (v := ?_) rfl (by kernel_rfl) (by kernel_rfl) (by kernel_rfl) (fun _ _ _ h => h) (Or.inl ⟨by rfl, ?_⟩) hS ?_
  rotate_left
  · intro W' hS'
    go_simp
    rfl
  try simp only [Act.put, List.setIfInBounds_toArray, List.set_cons_zero, List.set_cons_succ, List.getElem_toArray, List.getElem_cons_zero, List.getElem_cons_succ]
  refine wpAnyH_ready (rs := [16]) (by kernel_rfl) (by simp) (AllReadyH.cons rfl (fun K hK => ?_) AllReadyH.nil)
  go_simp
  refine hK.out _ _ (HS0.out _ (hS.2.2.2.2.2.2.2.2.2.out.alloc hS.2.2.2.2.2.2.2.2.2.out.size (.cells #[.int .u8 s.w.k, .int .i64 s.w.n, .int .u8 s.minw.k, .int .i64 s.minw.n, .int .u8 s.maxw.k, .int .i64 s.maxw.n, .int .u8 s.basis.k, .int .i64 s.basis.n] 62))) (fun hS => ?_)
  try simp only [Act.put, List.setIfInBounds_toArray, List.set_cons_zero, List.set_cons_succ, List.getElem_toArray, List.getElem_cons_zero, List.getElem_cons_succ]
  clear hK
  refine wpAnyH_ready (rs := [17]) (by kernel_rfl) (by simp) (AllReadyH.cons rfl (fun K hK => ?_) AllReadyH.nil)
  go_simp
  refine (each_len (fun k n => mayF k n false) 257 (fun args w => by kernel_rfl) (fun W k n => pmay_any k n W) (wdL s) _ 0 4 _ (by simp) (show (4 : Nat) ≤ 100 by decide) ?_).mono ?_
  · intro j hj; exact eachc_2 s _ j hj
  rintro e w1 ⟨rfl, hw1⟩
  rw [show ((wdL s).all fun x => mayF x.k x.n false) = b from HR.out.symm]
  have HB1 := Lib.hid (hS.2.2.2.2.2.2.2.2.2.out.trans (hw1.mono hS.2.2.2.2.2.2.2.2.2.out.size))
  clear hw1
  refine hK.out _ _ (HS0.out _ HB1.out) (fun hS => ?_)
  try simp only [Act.put, List.setIfInBounds_toArray, List.set_cons_zero, List.set_cons_succ, List.getElem_toArray, List.getElem_cons_zero, List.getElem_cons_succ]
  clear hK
  refine wpAnyH_take (i := 18) (v := ?_) rfl (by kernel_rfl) (by kernel_rfl) (by kernel_rfl) (fun _ _ _ h => h) (Or.inl ⟨by rfl, ?_⟩) hS ?_
  rotate_left
  · intro W' hS'
    go_simp
    rfl
  try simp only [Act.put, List.setIfInBounds_toArray, List.set_cons_zero, List.set_cons_succ, List.getElem_toArray, List.getElem_cons_zero, List.getElem_cons_succ]
  refine wpAnyH_done (by kernel_rfl) ?_ _
  go_wp2_with fail
  go_ret
  exact ⟨by rw [← HR.out] <;> rfl, hS.2.2.2.2.2.2.2.2.2.out⟩
theorem eachc_3 (s : Sty) (W : World) (j : Nat) (hj : j < (hgL s).length) : (W.alloc (.cells #[.int .u8 s.h.k, .int .i64 s.h.n, .int .u8 s.minh.k, .int .i64 s.minh.n, .int .u8 s.maxh.k, .int .i64 s.maxh.n] 62)).cell? ⟨W.heap.size, 0 + j * 2, none⟩ = some (.int .u8 (hgL s)[j].k) ∧ (W.alloc (.cells #[.int .u8 s.h.k, .int .i64 s.h.n, .int .u8 s.minh.k, .int .i64 s.minh.n, .int .u8 s.maxh.k, .int .i64 s.maxh.n] 62)).cell? ⟨W.heap.size, 0 + j * 2 + 1, none⟩ = some (.int .i64 (hgL s)[j].n) := by
  have hb := Blk.new W 62 #[.int .u8 s.h.k, .int .i64 s.h.n, .int .u8 s.minh.k, .int .i64 s.minh.n, .int .u8 s.maxh.k, .int .i64 s.maxh.n]
  have : j = 0 ∨ j = 1 ∨ j = 2 := by simp [hgL] at hj; omega
  rcases this with rfl | rfl | rfl <;> exact ⟨hb.get _ rfl, hb.get _ rfl⟩
set_option maxRecDepth 100000 in
set_option maxHeartbeats 2000000 in
theorem rule3 : RuleC 258 3 := by
  intro s g w Au nu cu huv hb
  have HS0 : Hid (∀ W', Below w.heap.size w W' → (W'.cell? ⟨g, 6, none⟩ = some (.int .u8 s.h.k) ∧ W'.cell? ⟨g, 7, none⟩ = some (.int .i64 s.h.n) ∧ W'.cell? ⟨g, 12, none⟩ = some (.int .u8 s.minh.k) ∧ W'.cell? ⟨g, 13, none⟩ = some (.int .i64 s.minh.n) ∧ W'.cell? ⟨g, 14, none⟩ = some (.int .u8 s.maxh.k) ∧ W'.cell? ⟨g, 15, none⟩ = some (.int .i64 s.maxh.n) ∧ g < W'.heap.size ∧ Hid (Below w.heap.size w W'))) := Lib.hid (fun W' h => by
    have h2 := hb.below h hb.lt
    exact ⟨h2.get _ (sty_a6 s), h2.get _ (sty_a7 s), h2.get _ (sty_a12 s), h2.get _ (sty_a13 s), h2.get _ (sty_a14 s), h2.get _ (sty_a15 s), h2.lt, Lib.hid h⟩)
  have lg := hb.lt
  obtain ⟨b, hbb⟩ : ∃ b, b = ruleF s nu 3 := ⟨_, rfl⟩
  have HR := Lib.hid hbb
  clear hb huv hbb
  go_enter Tryz.func258, Tryz.ntmps258
  go_upto_region 1 with (fail)
  refine wp_region_held_drew (S := fun W' => W'.cell? ⟨g, 6, none⟩ = some (.int .u8 s.h.k) ∧ W'.cell? ⟨g, 7, none⟩ = some (.int .i64 s.h.n) ∧ W'.cell? ⟨g, 12, none⟩ = some (.int .u8 s.minh.k) ∧ W'.cell? ⟨g, 13, none⟩ = some (.int .i64 s.minh.n) ∧ W'.cell? ⟨g, 14, none⟩ = some (.int .u8 s.maxh.k) ∧ W'.cell? ⟨g, 15, none⟩ = some (.int .i64 s.maxh.n) ∧ g < W'.heap.size ∧ Hid (Below w.heap.size w W')) (by kernel_rfl) (HS0.out _ (below_drw _)) (fun hS => ?_)
  refine wpAnyH_take (i := 0) (v := ?_) rfl (by kernel_rfl) (by kernel_rfl) (by kernel_rfl) (fun _ _ _ h => h) (Or.inl ⟨by rfl, ?_⟩) hS ?_
  rotate_left
  · intro W' hS'
    go_simp
    rfl
  try simp only [Act.put, List.setIfInBounds_toArray, List.set_cons_zero, List.set_cons_succ, List.getElem_toArray, List.getElem_cons_zero, List.getElem_cons_succ]
  refine wpAnyH_take (i := 1) (v := ?_) rfl (by kernel_rfl) (by kernel_rfl) (by kernel_rfl) (fun _ _ _ h => h) (Or.inl ⟨by rfl, ?_⟩) hS ?_
  rotate_left
  · intro W' hS'
    go_simp
    rfl
  try simp only [Act.put, List.setIfInBounds_toArray, List.set_cons_zero, List.set_cons_succ, List.getElem_toArray, List.getElem_cons_zero, List.getElem_cons_succ]
  refine wpAnyH_take (i := 2) (v := ?_) rfl (by kernel_rfl) (by kernel_rfl) (by kernel_rfl) (fun _ _ _ h => h) (Or.inl ⟨by rfl, ?_⟩) hS ?_
  rotate_left
  · intro W' hS'
    go_simp
    rfl
  try simp only [Act.put, List.setIfInBounds_toArray, List.set_cons_zero, List.set_cons_succ, List.getElem_toArray, List.getElem_cons_zero, List.getElem_cons_succ]
  refine wpAnyH_take (i := 3) (v := ?_) rfl (by kernel_rfl) (by kernel_rfl) (by kernel_rfl) (fun _ _ _ h => h) (Or.inl ⟨by rfl, ?_⟩) hS ?_
  rotate_left
  · intro W' hS'
    go_simp
    rfl
  try simp only [Act.put, List.setIfInBounds_toArray, List.set_cons_zero, List.set_cons_succ, List.getElem_toArray, List.getElem_cons_zero, List.getElem_cons_succ]
  refine wpAnyH_take (i := 4) (v := ?_) rfl (by kernel_rfl) (by kernel_rfl) (by kernel_rfl) (fun _ _ _ h => h) (Or.inl ⟨by rfl, ?_⟩) hS ?_
  rotate_left
  · intro W' hS'
    go_simp
    rfl
  try simp only [Act.put, List.setIfInBounds_toArray, List.set_cons_zero, List.set_cons_succ, List.getElem_toArray, List.getElem_cons_zero, List.getElem_cons_succ]
  refine wpAnyH_take (i := 5) (v := ?_) rfl (by kernel_rfl) (by kernel_rfl) (by kernel_rfl) (fun _ _ _ h => h) (Or.inl ⟨by rfl, ?_⟩) hS ?_
  rotate_left
  · intro W' hS'
    go_simp
    rfl
  try simp only [Act.put, List.setIfInBounds_toArray, List.set_cons_zero, List.set_cons_succ, List.getElem_toArray, List.getElem_cons_zero, List.getElem_cons_succ]
  refine wpAnyH_take (i := 6) (v := ?_) rfl (by kernel_rfl) (by kernel_rfl) (by kernel_rfl) (fun _ _ _ h => h) (Or.inl ⟨by rfl, ?_⟩) hS ?_
  rotate_left
  · intro W' hS'
    go_simp
    rfl
  try simp only [Act.put, List.setIfInBounds_toArray, List.set_cons_zero, List.set_cons_succ, List.getElem_toArray, List.getElem_cons_zero, List.getElem_cons_succ]
  refine wpAnyH_take (i := 7) (v := ?_) rfl (by kernel_rfl) (by kernel_rfl) (by kernel_rfl) (fun _ _ _ h => h) (Or.inl ⟨by rfl, ?_⟩) hS ?_
  rotate_left
  · intro W' hS'
    go_simp
    rfl
  try simp only [Act.put, List.setIfInBounds_toArray, List.set_cons_zero, List.set_cons_succ, List.getElem_toArray, List.getElem_cons_zero, List.getElem_cons_succ]
  refine wpAnyH_take (i := 8) (v := ?_) rfl (by kernel_rfl) (by kernel_rfl) (by kernel_rfl) (fun _ _ _ h => h) (Or.inl ⟨by rfl, ?_⟩) hS ?_
  rotate_left
  · intro W' hS'
    go_simp
    rfl
  try simp only [Act.put, List.setIfInBounds_toArray, List.set_cons_zero, List.set_cons_succ, List.getElem_toArray, List.getElem_cons_zero, List.getElem_cons_succ]
  refine wpAnyH_take (i := 9) (v := ?_) rfl (by kernel_rfl) (by kernel_rfl) (by kernel_rfl) (fun _ _ _ h => h) (Or.inl ⟨by rfl, ?_⟩) hS ?_
  rotate_left
  · intro W' hS'
    go_simp
    rfl
  try simp only [Act.put, List.setIfInBounds_toArray, List.set_cons_zero, List.set_cons_succ, List.getElem_toArray, List.getElem_cons_zero, List.getElem_cons_succ]
  refine wpAnyH_take (i := 10) (v := ?_) rfl (by kernel_rfl) (by kernel_rfl) (by kernel_rfl) (fun _ _ _ h => h) (Or.inl ⟨by rfl, ?_⟩) hS ?_
  rotate_left
  · intro W' hS'
    go_simp
    rfl
  try simp only [Act.put, List.setIfInBounds_toArray, List.set_cons_zero, List.set_cons_succ, List.getElem_toArray, List.getElem_cons_zero, List.getElem_cons_succ]
  refine wpAnyH_take (i := 11) (v := ?_) rfl (by kernel_rfl) (by kernel_rfl) (by kernel_rfl) (fun _ _ _ h => h) (Or.inl ⟨by rfl, ?_⟩) hS ?_
  rotate_left
  · intro W' hS'
    go_simp
    rfl
  try simp only [Act.put, List.setIfInBounds_toArray, List.set_cons_zero, List.set_cons_succ, List.getElem_toArray, List.getElem_cons_zero, List.getElem_cons_succ]
  refine wpAnyH_ready (rs := [12]) (by kernel_rfl) (by simp) (AllReadyH.cons rfl (fun K hK => ?_) AllReadyH.nil)
  go_simp
  refine hK.out _ _ (HS0.out _ (hS.2.2.2.2.2.2.2.out.alloc hS.2.2.2.2.2.2.2.out.size (.cells #[.int .u8 s.h.k, .int .i64 s.h.n, .int .u8 s.minh.k, .int .i64 s.minh.n, .int .u8 s.maxh.k, .int .i64 s.maxh.n] 62))) (fun hS => ?_)
  try simp only [Act.put, List.setIfInBounds_toArray, List.set_cons_zero, List.set_cons_succ, List.getElem_toArray, List.getElem_cons_zero, List.getElem_cons_succ]
  clear hK
  refine wpAnyH_ready (rs := [13]) (by kernel_rfl) (by simp) (AllReadyH.cons rfl (fun K hK => ?_) AllReadyH.nil)
  go_simp
  refine (each_len tallF 259 (fun args w => by kernel_rfl) (fun W k n => ptall_any k n W) (hgL s) _ 0 3 _ (by simp) (show (3 : Nat) ≤ 100 by decide) ?_).mono ?_
  · intro j hj; exact eachc_3 s _ j hj
  rintro e w1 ⟨rfl, hw1⟩
  rw [show ((hgL s).all fun x => tallF x.k x.n) = b from HR.out.symm]
  have HB1 := Lib.hid (hS.2.2.2.2.2.2.2.out.trans (hw1.mono hS.2.2.2.2.2.2.2.out.size))
  clear hw1
  refine hK.out _ _ (HS0.out _ HB1.out) (fun hS => ?_)
  try simp only [Act.put, List.setIfInBounds_toArray, List.set_cons_zero, List.set_cons_succ, List.getElem_toArray, List.getElem_cons_zero, List.getElem_cons_succ]
  clear hK
  refine wpAnyH_take (i := 14) (v := ?_) rfl (by kernel_rfl) (by kernel_rfl) (by kernel_rfl) (fun _ _ _ h => h) (Or.inl ⟨by rfl, ?_⟩) hS ?_
  rotate_left
  · intro W' hS'
    go_simp
    rfl
  try simp only [Act.put, List.setIfInBounds_toArray, List.set_cons_zero, List.set_cons_succ, List.getElem_toArray, List.getElem_cons_zero, List.getElem_cons_succ]
  refine wpAnyH_done (by kernel_rfl) ?_ _
  go_wp2_with fail
  go_ret
  exact ⟨by rw [← HR.out] <;> rfl, hS.2.2.2.2.2.2.2.out⟩
set_option maxRecDepth 100000 in
set_option maxHeartbeats 1000000 in
theorem rule4 : RuleC 260 4 := by
  intro s g w Au nu cu huv hb
  have lg := hb.lt
  have HW := Lib.hid (each_len (fun k n => mayF k n true) 261 (fun args w => by kernel_rfl) (fun W k n => pmargin_any k n W) (mgL s) g 16 4 w lg (show (4 : Nat) ≤ 100 by decide) (fun j hj => by
    have : j = 0 ∨ j = 1 ∨ j = 2 ∨ j = 3 := by simp [mgL] at hj; omega
    rcases this with rfl | rfl | rfl | rfl
    all_goals exact ⟨hb.get _ rfl, hb.get _ rfl⟩))
  obtain ⟨b, hbb⟩ : ∃ b, b = ruleF s nu 4 := ⟨_, rfl⟩
  have HR := Lib.hid hbb
  clear hb huv hbb
  go_enter Tryz.func260, Tryz.ntmps260
  go_wp2_with fail
  refine HW.out.mono ?_
  rintro e w1 ⟨rfl, hw⟩
  rw [show ((mgL s).all fun x => mayF x.k x.n true) = b from HR.out.symm]
  have HB := Lib.hid hw
  clear hw
  go_wp2_with fail
  go_ret
  exact ⟨by rw [← HR.out] <;> rfl, HB.out⟩
set_option maxRecDepth 100000 in
set_option maxHeartbeats 1000000 in
theorem rule5 : RuleC 262 5 := by
  intro s g w Au nu cu huv hb
  have lg := hb.lt
  have HW := Lib.hid (each_int thickF 264 (fun args w => by kernel_rfl) (fun W n => thick_any n W) (bdL s) g 24 4 w lg (show (4 : Nat) ≤ 100 by decide) (fun j hj => by
    have : j = 0 ∨ j = 1 ∨ j = 2 ∨ j = 3 := by simp [bdL] at hj; omega
    rcases this with rfl | rfl | rfl | rfl
    all_goals exact hb.get _ rfl))
  obtain ⟨b, hbb⟩ : ∃ b, b = ruleF s nu 5 := ⟨_, rfl⟩
  have HR := Lib.hid hbb
  clear hb huv hbb
  go_enter Tryz.func262, Tryz.ntmps262
  go_wp2_with fail
  refine HW.out.mono ?_
  rintro e w1 ⟨rfl, hw⟩
  rw [show ((bdL s).all thickF) = b from HR.out.symm]
  have HB := Lib.hid hw
  clear hw
  go_wp2_with fail
  go_ret
  exact ⟨by rw [← HR.out] <;> rfl, HB.out⟩
set_option maxRecDepth 100000 in
set_option maxHeartbeats 1000000 in
theorem rule6 : RuleC 265 6 := by
  intro s g w Au nu cu huv hb
  have lg := hb.lt
  have HW := Lib.hid (each_int thickF 264 (fun args w => by kernel_rfl) (fun W n => thick_any n W) (pdL s) g 28 4 w lg (show (4 : Nat) ≤ 100 by decide) (fun j hj => by
    have : j = 0 ∨ j = 1 ∨ j = 2 ∨ j = 3 := by simp [pdL] at hj; omega
    rcases this with rfl | rfl | rfl | rfl
    all_goals exact hb.get _ rfl))
  obtain ⟨b, hbb⟩ : ∃ b, b = ruleF s nu 6 := ⟨_, rfl⟩
  have HR := Lib.hid hbb
  clear hb huv hbb
  go_enter Tryz.func265, Tryz.ntmps265
  go_wp2_with fail
  refine HW.out.mono ?_
  rintro e w1 ⟨rfl, hw⟩
  rw [show ((pdL s).all thickF) = b from HR.out.symm]
  have HB := Lib.hid hw
  clear hw
  go_wp2_with fail
  go_ret
  exact ⟨by rw [← HR.out] <;> rfl, HB.out⟩
set_option maxRecDepth 100000 in
set_option maxHeartbeats 1000000 in
theorem rule7 : RuleC 266 7 := by
  intro s g w Au nu cu huv hb
  have c0 := hb.get _ (sty_a32 s)
  have lg := hb.lt
  obtain ⟨x, hx⟩ : ∃ x, x = s.align := ⟨_, rfl⟩
  rw [← hx] at c0
  have HR : Hid (ruleF s nu 7 = decide (x ≤ 2)) := Lib.hid (by rw [hx]; rfl)
  clear hx hb huv
  go_enter Tryz.func266, Tryz.ntmps266
  go_wp2_with fail
  go_ret
  exact ⟨by rw [HR.out] <;> rfl, Below.refl _ _⟩
set_option maxRecDepth 100000 in
set_option maxHeartbeats 1000000 in
theorem rule8 : RuleC 267 8 := by
  intro s g w Au nu cu huv hb
  have c0 := hb.get _ (sty_a35 s)
  have lg := hb.lt
  obtain ⟨x, hx⟩ : ∃ x, x = s.justify := ⟨_, rfl⟩
  rw [← hx] at c0
  have HR : Hid (ruleF s nu 8 = decide (x ≤ 3)) := Lib.hid (by rw [hx]; rfl)
  clear hx hb huv
  go_enter Tryz.func267, Tryz.ntmps267
  go_wp2_with fail
  go_ret
  exact ⟨by rw [HR.out] <;> rfl, Below.refl _ _⟩
set_option maxRecDepth 100000 in
set_option maxHeartbeats 1000000 in
theorem rule9 : RuleC 268 9 := by
  intro s g w Au nu cu huv hb
  have c0 := hb.get _ (sty_a36 s)
  have lg := hb.lt
  obtain ⟨x, hx⟩ : ∃ x, x = s.items := ⟨_, rfl⟩
  rw [← hx] at c0
  have HR : Hid (ruleF s nu 9 = decide (x ≤ 3)) := Lib.hid (by rw [hx]; rfl)
  clear hx hb huv
  go_enter Tryz.func268, Tryz.ntmps268
  go_wp2_with fail
  go_ret
  exact ⟨by rw [HR.out] <;> rfl, Below.refl _ _⟩
set_option maxRecDepth 100000 in
set_option maxHeartbeats 1000000 in
theorem rule10 : RuleC 269 10 := by
  intro s g w Au nu cu huv hb
  have c0 := hb.get _ (sty_a33 s)
  have lg := hb.lt
  have HW := Lib.hid (thick_any s.line w)
  obtain ⟨b, hbb⟩ : ∃ b, b = ruleF s nu 10 := ⟨_, rfl⟩
  have HR := Lib.hid hbb
  clear hb huv hbb
  go_enter Tryz.func269, Tryz.ntmps269
  go_wp2_with fail
  refine HW.out.mono ?_
  rintro e w1 ⟨rfl, hw⟩
  have HB : Hid (Below w.heap.size w w1) := Lib.hid (by first | exact hw | (subst hw; exact Below.refl _ _))
  first
  | rw [show thickF s.line = b from HR.out.symm]
  | skip
  clear hw
  go_wp2_with fail
  go_ret
  exact ⟨by rw [← HR.out] <;> rfl, HB.out⟩
set_option maxRecDepth 100000 in
set_option maxHeartbeats 1000000 in
theorem rule11 : RuleC 270 11 := by
  intro s g w Au nu cu huv hb
  have c0 := hb.get _ (sty_a37 s)
  have lg := hb.lt
  obtain ⟨x, hx⟩ : ∃ x, x = s.order := ⟨_, rfl⟩
  rw [← hx] at c0
  have HR : Hid (ruleF s nu 11 = (decide (-1048576 ≤ x) && decide (x ≤ 1048576))) := Lib.hid (by rw [hx]; rfl)
  clear hx hb huv
  cases h1 : decide ((-1048576 : Int) ≤ x) <;> cases h2 : decide (x ≤ 1048576)
  all_goals
    go_enter Tryz.func270, Tryz.ntmps270
    go_wp2_with fail
    go_ret
    exact ⟨by rw [HR.out, h1, h2]; rfl, Below.refl _ _⟩
set_option maxRecDepth 100000 in
set_option maxHeartbeats 1000000 in
theorem rule12 : RuleC 271 12 := by
  intro s g w Au nu cu huv hb
  have c0 := hb.get _ (sty_a38 s)
  have lg := hb.lt
  have HW := Lib.hid (within_any s.grow 0 60 w)
  obtain ⟨b, hbb⟩ : ∃ b, b = ruleF s nu 12 := ⟨_, rfl⟩
  have HR := Lib.hid hbb
  clear hb huv hbb
  go_enter Tryz.func271, Tryz.ntmps271
  go_wp2_with fail
  refine HW.out.mono ?_
  rintro e w1 ⟨rfl, hw⟩
  have HB : Hid (Below w.heap.size w w1) := Lib.hid (by first | exact hw | (subst hw; exact Below.refl _ _))
  first
  | rw [show (decide (0 ≤ s.grow) && decide (s.grow ≤ 60)) = b from HR.out.symm]
  | skip
  clear hw
  go_wp2_with fail
  go_ret
  exact ⟨by rw [← HR.out] <;> rfl, HB.out⟩
set_option maxRecDepth 100000 in
set_option maxHeartbeats 1000000 in
theorem rule13 : RuleC 273 13 := by
  intro s g w Au nu cu huv hb
  have c0 := hb.get _ (sty_a39 s)
  have lg := hb.lt
  have HW := Lib.hid (within_any s.shrink 0 60 w)
  obtain ⟨b, hbb⟩ : ∃ b, b = ruleF s nu 13 := ⟨_, rfl⟩
  have HR := Lib.hid hbb
  clear hb huv hbb
  go_enter Tryz.func273, Tryz.ntmps273
  go_wp2_with fail
  refine HW.out.mono ?_
  rintro e w1 ⟨rfl, hw⟩
  have HB : Hid (Below w.heap.size w w1) := Lib.hid (by first | exact hw | (subst hw; exact Below.refl _ _))
  first
  | rw [show (decide (0 ≤ s.shrink) && decide (s.shrink ≤ 60)) = b from HR.out.symm]
  | skip
  clear hw
  go_wp2_with fail
  go_ret
  exact ⟨by rw [← HR.out] <;> rfl, HB.out⟩
set_option maxRecDepth 100000 in
set_option maxHeartbeats 1000000 in
theorem rule14 : RuleC 274 14 := by
  intro s g w Au nu cu huv hb
  have c0 := hb.get _ (sty_a42 s)
  rw [huv] at c0
  have lg := hb.lt
  have HR : Hid (ruleF s nu 14 = (nu == 0)) := Lib.hid rfl
  clear hb huv
  by_cases h : nu = 0
  · have e5 : ((nu : Int) == 0) = true := beq_iff_eq.2 (by omega)
    have e5' : (nu == 0) = true := beq_iff_eq.2 h
    clear h
    go_enter Tryz.func274, Tryz.ntmps274
    go_wp2_with fail
    go_ret
    exact ⟨by rw [HR.out, e5']; rfl, Below.refl _ _⟩
  · have e5 : ((nu : Int) == 0) = false := beq_eq_false_iff_ne.2 (by omega)
    have e5' : (nu == 0) = false := beq_eq_false_iff_ne.2 h
    clear h
    go_enter Tryz.func274, Tryz.ntmps274
    go_wp2_with fail
    go_ret
    exact ⟨by rw [HR.out, e5']; rfl, Below.refl _ _⟩
end Go.Proofs.YtjhfcpadnofdnaaGreat
