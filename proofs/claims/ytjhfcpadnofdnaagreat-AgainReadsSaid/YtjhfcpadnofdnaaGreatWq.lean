/- Wide numbers and widths: contracts that say no more of the world than that nothing has turned. -/
import Derived.Test.YtjhfcpadnofdnaaGreatCna
import Derived.Test.YtjhfcpadnofdnaaGreatText
import Derived.Test.YtjhfcpadnofdnaaGreatApp
import Derived.Shelf.Spec.BitsCarry
import Derived.BigQuiet
import Derived.Deep.RegionLaw
import Derived.Deep.DeepCutAuto
import Derived.Deep.CutRange
import Derived.Deep.QuietTactic
import Derived.Deep.RegionHeld3
import Derived.Lib.ItoaNum
import Derived.Test.YtjhfcpadnofdnaaGreatRgh
import Derived.Test.YtjhfcpadnofdnaaGreatBld
set_option linter.unusedSimpArgs false
set_option linter.unusedVariables false
namespace Go.Proofs.YtjhfcpadnofdnaaGreat
open Go.RowKit
attribute [local go_sem] block_of_add
/-- A length's number and whether it says one, in a containing width. -/
def resF (l : Ln) (c : Int) : Int × Bool := if l.k = 2 then (c * l.n / 10000, true) else if l.k = 1 then (l.n, true) else (0, false)
def clampF (s : Sty) (c w : Int) : Int :=
  let m := if (resF s.maxw c).2 then min w (resF s.maxw c).1 else w
  let l := if (resF s.minw c).2 then max m (resF s.minw c).1 else m
  max l 0
structure LnM (l : Ln) : Prop where
  b : -1099511627776 ≤ l.n ∧ l.n ≤ 1099511627776
  p : l.k = 2 → -100000 ≤ l.n ∧ l.n ≤ 100000
structure CB (c : Int) : Prop where
  b : 0 ≤ c ∧ c ≤ 1099511627776
theorem res_bd {l : Ln} {c : Int} (h : LnM l) (hc : CB c) : -10995116277760 ≤ (resF l c).1 ∧ (resF l c).1 ≤ 10995116277760 := by
  have hb := h.b
  have hcb := hc.b
  unfold resF
  split
  · rename_i hk
    have hp := h.p hk
    have h1 : c * l.n ≤ 1099511627776 * 100000 := by
      rcases Int.le_total 0 l.n with h0 | h0
      · exact Int.mul_le_mul hcb.2 hp.2 h0 (by decide)
      · exact Int.le_trans (Int.mul_nonpos_of_nonneg_of_nonpos hcb.1 h0) (by decide)
    have h2 : -(1099511627776 * 100000) ≤ c * l.n := by
      rcases Int.le_total 0 l.n with h0 | h0
      · exact Int.le_trans (by decide) (Int.mul_nonneg hcb.1 h0)
      · have := Int.mul_le_mul hcb.2 (show -l.n ≤ 100000 by omega) (by omega) (by decide)
        rw [Int.mul_neg] at this; omega
    show -10995116277760 ≤ c * l.n / 10000 ∧ c * l.n / 10000 ≤ 10995116277760
    omega
  · split
    · show -10995116277760 ≤ l.n ∧ l.n ≤ 10995116277760
      omega
    · show -10995116277760 ≤ (0 : Int) ∧ (0 : Int) ≤ 10995116277760
      omega
theorem part_floor (q r n Q R : Int) (hQ : Q = q * n) (hR : R = r * n) : (10000 * q + r) * n / 10000 = Q + R / 10000 := by
  rw [Int.add_mul, Int.mul_assoc, ← hQ, ← hR]; omega
theorem tdiv_pos (R : Int) (h : 0 ≤ R) : R.tdiv 10000 = R / 10000 ∧ R.tmod 10000 = R % 10000 := ⟨Int.tdiv_eq_ediv_of_nonneg h, Int.tmod_eq_emod_of_nonneg h⟩
theorem tdiv_neg' (R : Int) (h : R < 0) : R.tdiv 10000 = -((-R) / 10000) ∧ R.tmod 10000 = -((-R) % 10000) := by
  obtain ⟨m, rfl⟩ : ∃ m, R = -m := ⟨-R, by omega⟩
  rw [Int.neg_tdiv, Int.neg_tmod, Int.neg_neg, Int.tdiv_eq_ediv_of_nonneg (by omega), Int.tmod_eq_emod_of_nonneg (by omega)]
  exact ⟨rfl, rfl⟩
theorem quo_floor (R T M : Int) (hT : R.tdiv 10000 = T) (hM : R.tmod 10000 = M) : (-20000 ≤ M ∧ M ≤ 20000 ∧ (0 ≤ R → 0 ≤ T ∧ T ≤ R) ∧ (R < 0 → R ≤ T ∧ T ≤ 0)) ∧ (M < 0 → T - 1 = R / 10000) ∧ (¬ M < 0 → T = R / 10000) := by
  rcases Int.lt_or_le R 0 with h | h
  · obtain ⟨t1, t2⟩ := tdiv_neg' R h
    omega
  · obtain ⟨t1, t2⟩ := tdiv_pos R h
    omega
theorem small_mul (r n : Int) (hr : 0 ≤ r ∧ r ≤ 110000000) (hn : -100000 ≤ n ∧ n ≤ 100000) : -11000000000000 ≤ r * n ∧ r * n ≤ 11000000000000 := by
  have h1 : (r * n).natAbs ≤ 110000000 * 100000 := by rw [Int.natAbs_mul]; exact Nat.mul_le_mul (by omega) (by omega)
  omega
set_option maxRecDepth 100000 in
theorem part_any (c n : Int) (w : World) (hc : CB c) (hn : -100000 ≤ n ∧ n ≤ 100000) :
    Calls Tryz.prog 251 #[.int .i64 c, .int .i64 n] w fun e w' => e = .returned (.int .i64 (c * n / 10000)) ∧ w = w' := by
  have hcb := hc.b
  obtain ⟨q, hq⟩ : ∃ q, q = c.tdiv 10000 := ⟨_, rfl⟩
  obtain ⟨r, hr⟩ : ∃ r, r = c.tmod 10000 := ⟨_, rfl⟩
  have hq2 : q = c / 10000 := by rw [hq, Int.tdiv_eq_ediv_of_nonneg hcb.1]
  have hr2 : r = c % 10000 := by rw [hr, Int.tmod_eq_emod_of_nonneg hcb.1]
  obtain ⟨Q, hQ⟩ : ∃ Q, Q = q * n := ⟨_, rfl⟩
  obtain ⟨R, hR⟩ : ∃ R, R = r * n := ⟨_, rfl⟩
  have bQ := small_mul q n (by omega) hn
  have bR := small_mul r n (by omega) hn
  rw [← hQ] at bQ
  rw [← hR] at bR
  have E := part_floor q r n Q R hQ hR
  rw [show 10000 * q + r = c by omega] at E
  have HE := Lib.hid E
  have w1 : IntKind.i64.wrap (r * n) = R := by rw [← hR]; exact IntWalk.i64_in _ ⟨by omega, by omega⟩
  have w2 : IntKind.i64.wrap (q * n) = Q := by rw [← hQ]; exact IntWalk.i64_in _ ⟨by omega, by omega⟩
  have hq' := hq.symm
  have hr' := hr.symm
  have bq : 0 ≤ q ∧ q ≤ 110000000 := by omega
  have br : 0 ≤ r ∧ r ≤ 10000 := by omega
  clear hq hr hq2 hr2 hQ hR E hcb hc hn
  obtain ⟨T, hT⟩ : ∃ T, R.tdiv 10000 = T := ⟨_, rfl⟩
  obtain ⟨M, hM⟩ : ∃ M, R.tmod 10000 = M := ⟨_, rfl⟩
  obtain ⟨f1, f2, f3⟩ := quo_floor R T M hT hM
  have wT : IntKind.i64.wrap T = T := IntWalk.i64_in _ ⟨by omega, by omega⟩
  have wM : IntKind.i64.wrap M = M := IntWalk.i64_in _ ⟨by omega, by omega⟩
  have wq : IntKind.i64.wrap q = q := IntWalk.i64_in _ ⟨by omega, by omega⟩
  have wr : IntKind.i64.wrap r = r := IntWalk.i64_in _ ⟨by omega, by omega⟩
  have w3 : IntKind.i64.wrap (Q + T) = Q + T := IntWalk.i64_in _ ⟨by omega, by omega⟩
  have w4 : IntKind.i64.wrap (Q + T - 1) = Q + T - 1 := IntWalk.i64_in _ ⟨by omega, by omega⟩
  cases e1 : decide (M < 0)
  · have F : Hid (Q + T = Q + R / 10000) := Lib.hid (by have := f3 (of_decide_eq_false e1); omega)
    clear f1 f2 f3 bQ bR bq br
    go_enter Tryz.func251, Tryz.ntmps251
    go_wp2_with fail
    go_ret
    exact ⟨by rw [HE.out, ← F.out]; rfl, rfl⟩
  · have F : Hid (Q + T - 1 = Q + R / 10000) := Lib.hid (by have := f2 (of_decide_eq_true e1); omega)
    clear f1 f2 f3 bQ bR bq br
    go_enter Tryz.func251, Tryz.ntmps251
    go_wp2_with fail
    go_ret
    exact ⟨by rw [HE.out, ← F.out]; rfl, rfl⟩
set_option maxRecDepth 100000 in
theorem resolve_any (k n c : Int) (w : World) (hl : LnM ⟨k, n⟩) (hc : CB c) :
    Calls Tryz.prog 179 #[.agg #[.int .u8 k, .int .i64 n], .int .i64 c] w fun e w' => e = .returned (.tuple #[.int .i64 (resF ⟨k, n⟩ c).1, .bool (resF ⟨k, n⟩ c).2]) ∧ w.alloc (.cells #[.int .u8 k, .int .i64 n] 62) = w' := by
  have hmx : max c 0 = c := by have := hc.b; omega
  have hm2 : decide (c < 0) = false := decide_eq_false (by have := hc.b; omega)
  have hm3 : (if 0 ≤ c then c else 0) = c := if_pos hc.b.1
  by_cases h2 : k = 2
  · have e2 : (k == 2) = true := beq_iff_eq.2 h2
    have e1 : (k == 1) = false := by subst h2; rfl
    have HE : Hid (resF ⟨k, n⟩ c = (c * n / 10000, true)) := Lib.hid (if_pos h2)
    have HP := Lib.hid (hl.p h2)
    have HC := Lib.hid hc
    clear h2 hl hc
    go_enter Tryz.func179, Tryz.ntmps179
    go_wp2_with (go_at_call 251; refine (part_any c n _ HC.out HP.out).mono ?_; rintro e w' ⟨rfl, rfl⟩)
    go_ret2
    rw [HE.out]
    exact ⟨rfl, rfl⟩
  · have e2 : (k == 2) = false := beq_eq_false_iff_ne.2 h2
    by_cases h1 : k = 1
    · have e1 : (k == 1) = true := beq_iff_eq.2 h1
      have HE : Hid (resF ⟨k, n⟩ c = (n, true)) := Lib.hid (by unfold resF; rw [if_neg h2, if_pos h1])
      clear h2 h1 hl hc
      go_enter Tryz.func179, Tryz.ntmps179
      go_wp2_with fail
      go_ret2
      rw [HE.out]
      exact ⟨rfl, rfl⟩
    · have e1 : (k == 1) = false := beq_eq_false_iff_ne.2 h1
      have HE : Hid (resF ⟨k, n⟩ c = (0, false)) := Lib.hid (by unfold resF; rw [if_neg h2, if_neg h1])
      clear h2 h1 hl hc
      go_enter Tryz.func179, Tryz.ntmps179
      go_wp2_with fail
      go_ret2
      rw [HE.out]
      exact ⟨rfl, rfl⟩
set_option maxRecDepth 100000 in
set_option maxHeartbeats 800000 in
theorem clamp_any (s : Sty) (c v : Int) (w : World) (h1 : LnM s.maxw) (h2 : LnM s.minw) (hc : CB c) :
    Calls Tryz.prog 246 #[.agg (styCells s).toArray, .int .i64 c, .int .i64 v] w fun e w' => e = .returned (.int .i64 (clampF s c v)) ∧ ((w.alloc (.cells (styCells s).toArray 67)).alloc (.cells #[.int .u8 s.maxw.k, .int .i64 s.maxw.n] 62)).alloc (.cells #[.int .u8 s.minw.k, .int .i64 s.minw.n] 62) = w' := by
  have y8 : (styCells s)[8]'(by rw [sty_len]; omega) = .int .u8 s.minw.k := rfl
  have y9 : (styCells s)[9]'(by rw [sty_len]; omega) = .int .i64 s.minw.n := rfl
  have y10 : (styCells s)[10]'(by rw [sty_len]; omega) = .int .u8 s.maxw.k := rfl
  have y11 : (styCells s)[11]'(by rw [sty_len]; omega) = .int .i64 s.maxw.n := rfl
  have z := sty_size s
  have R1 := Lib.hid (fun W => resolve_any s.maxw.k s.maxw.n c W h1 hc)
  have R2 := Lib.hid (fun W => resolve_any s.minw.k s.minw.n c W h2 hc)
  obtain ⟨m, hm⟩ : ∃ m, m = (resF s.maxw c).1 := ⟨_, rfl⟩
  obtain ⟨b, hb⟩ : ∃ b, b = (resF s.maxw c).2 := ⟨_, rfl⟩
  obtain ⟨m2, hm2⟩ : ∃ m, m = (resF s.minw c).1 := ⟨_, rfl⟩
  obtain ⟨b2, hb2⟩ : ∃ b, b = (resF s.minw c).2 := ⟨_, rfl⟩
  have e0 : (⟨s.maxw.k, s.maxw.n⟩ : Ln) = s.maxw := rfl
  have e1 : (⟨s.minw.k, s.minw.n⟩ : Ln) = s.minw := rfl
  rw [e0, ← hm, ← hb] at R1
  rw [e1, ← hm2, ← hb2] at R2
  have HF : Hid (clampF s c v = max (if b2 then max (if b then min v m else v) m2 else (if b then min v m else v)) 0) := Lib.hid (by unfold clampF; rw [hm, hb, hm2, hb2])
  clear hm hb hm2 hb2 e0 e1 h1 h2 hc
  rw [HF.out]
  clear HF
  cases b <;> cases b2
  all_goals
    go_enter Tryz.func246, Tryz.ntmps246
    go_upto_region 2 with (go_at_call 179; refine (R1.out _).mono ?_; rintro e w' ⟨rfl, rfl⟩)
    go_wp2_with (go_at_call 179; refine (R2.out _).mono ?_; rintro e w' ⟨rfl, rfl⟩)
  all_goals
    go_ret
    refine ⟨?_, rfl⟩
    show Ending.returned (.int .i64 _) = _
    congr 2
    try simp only [if_true, if_false, Bool.false_eq_true]
    try (repeat' split)
    all_goals (try omega)
end Go.Proofs.YtjhfcpadnofdnaaGreat
namespace Go.Proofs.YtjhfcpadnofdnaaGreat
open Go.RowKit
theorem cel_alloc {W : World} {p : Addr} {v : Value} (h : W.cell? p = some v) (o : Obj) : (W.alloc o).cell? p = some v := (World.cell?_alloc_lt _ _ _ (World.block_lt_of_cell? W p h)).trans h
theorem cel_two0 (W : World) (t : TypeId) (x y : Value) : (W.alloc (.cells #[x, y] t)).cell? ⟨W.heap.size, 0, none⟩ = some x := (Blk.new W t #[x, y]).cell 0
theorem cel_two1 (W : World) (t : TypeId) (x y : Value) : (W.alloc (.cells #[x, y] t)).cell? ⟨W.heap.size, 1, none⟩ = some y := (Blk.new W t #[x, y]).cell 1
theorem bal {w w' : World} (h : Below w.heap.size w w') (o : Obj) : Below w.heap.size w (w'.alloc o) := h.alloc h.size _
end Go.Proofs.YtjhfcpadnofdnaaGreat
set_option linter.unusedSimpArgs false
set_option linter.unusedVariables false
namespace Go.Proofs.YtjhfcpadnofdnaaGreat
open Go.RowKit
end Go.Proofs.YtjhfcpadnofdnaaGreat
namespace Go.Proofs.YtjhfcpadnofdnaaGreat
open Go.RowKit
end Go.Proofs.YtjhfcpadnofdnaaGreat
namespace Go.Proofs.YtjhfcpadnofdnaaGreat
open Go.RowKit
/-- The first k have come up. -/
def preL (n k : Nat) : Array Bool := ((List.range n).map fun i => decide (i < k)).toArray
theorem preL_next (n k : Nat) : (preL n k).setIfInBounds k true = preL n (k + 1) := by
  unfold preL
  apply Array.ext_getElem?
  intro j
  rw [Array.getElem?_setIfInBounds]
  simp only [List.size_toArray, List.length_map, List.length_range, List.getElem?_toArray, List.getElem?_map]
  by_cases hj : j < n
  · rw [List.getElem?_range hj]
    by_cases e : k = j
    · subst e; simp [hj]
    · rw [if_neg e]
      simp only [Option.map_some, Option.some.injEq, decide_eq_decide]
      omega
  · rw [List.getElem?_eq_none (by rw [List.length_range]; omega)]
    by_cases e : k = j
    · subst e; simp [hj]
    · simp [e]
section
variable {P : Program} {ops : Array Oper} {Q : Exit → Act → World → Prop} {md : Region.Mode} {T : Bool → Bool → Value → World → Prop} {k m q : Nat}
theorem wpAnyS_pre {j n : Nat} {L : Array Bool} {a : Act} (hL : preL ops.size j = L) (h : ClosedL md ops (preL ops.size j) → wpAnyS P md ops Q (SK T k m q) n (preL ops.size j) a) (hcl : ClosedL md ops L) : wpAnyS P md ops Q (SK T k m q) n L a := by
  subst hL; exact h hcl
theorem wpAnyS_nx {j : Nat} {oi : Oper} {v : Value} {n : Nat} {a : Act} (hi : ops[j]? = some oi) (hs : Region.noSelect ops = true) (hf : Region.free md ops (preL ops.size j) j = true) (hr : (Region.ready md ops (preL ops.size j)).contains j = true)
    (hQ : ∀ c a w, Q (.panic c) (a.put oi.dst v) w → Q (.panic c) a w) (hk : ((j == k) || (j == m) || (oi.dst == some q)) = false) (hy : Gives P md ops (SK T k m q) j oi v a) (h : ClosedL md ops (preL ops.size (j + 1)) → wpAnyS P md ops Q (SK T k m q) n (preL ops.size (j + 1)) (a.put oi.dst v)) (hcl : ClosedL md ops (preL ops.size j)) : wpAnyS P md ops Q (SK T k m q) (n + 1) (preL ops.size j) a :=
  wpAnyS_take hi hs hf hr hQ hk hy (by rw [preL_next]; exact h) hcl
end
section
variable {P : Program} {ops : Array Oper} {Q : Exit → Act → World → Prop} {md : Region.Mode} {S : World → Prop}
theorem wpAnyH_pre {j n : Nat} {L : Array Bool} {a : Act} {w : World} (hL : preL ops.size j = L) (h : wpAnyH P md ops Q S n (preL ops.size j) a w) : wpAnyH P md ops Q S n L a w := by
  subst hL; exact h
theorem wpAnyH_nx {j : Nat} {oi : Oper} {v : Value} {n : Nat} {a : Act} {w : World} (hi : ops[j]? = some oi) (hs : Region.noSelect ops = true) (hf : Region.free md ops (preL ops.size j) j = true) (hr : (Region.ready md ops (preL ops.size j)).contains j = true)
    (hQ : ∀ c a w, Q (.panic c) (a.put oi.dst v) w → Q (.panic c) a w) (hy : YieldsIf P ops S oi v a) (hS : S w) (h : wpAnyH P md ops Q S n (preL ops.size (j + 1)) (a.put oi.dst v) w) : wpAnyH P md ops Q S (n + 1) (preL ops.size j) a w :=
  wpAnyH_take hi hs hf hr hQ hy hS (by rw [preL_next]; exact h)
end
end Go.Proofs.YtjhfcpadnofdnaaGreat
namespace Go.Proofs.YtjhfcpadnofdnaaGreat
open Go.RowKit
structure NaS (a : Int) (w W : World) : Prop where
  c0 : W.cell? ⟨w.heap.size, 0, none⟩ = some (hiOf a)
  c1 : W.cell? ⟨w.heap.size, 1, none⟩ = some (loOf a)
  b : Below w.heap.size w W
theorem NaS.al {a : Int} {w W : World} (h : NaS a w W) (o : Obj) : NaS a w (W.alloc o) := ⟨cel_alloc h.c0 o, cel_alloc h.c1 o, bal h.b o⟩
theorem NaS.drew {a : Int} {w W : World} (h : NaS a w W) : NaS a w W.drew := ⟨h.c0, h.c1, h.b.drew⟩
theorem NaS.new (a : Int) (w : World) : NaS a w (w.alloc (.cells #[hiOf a, loOf a] 307)).drew := ⟨cel_two0 _ _ _ _, cel_two1 _ _ _ _, (bal (Below.refl _ _) _).drew⟩
end Go.Proofs.YtjhfcpadnofdnaaGreat
namespace Go.Proofs.YtjhfcpadnofdnaaGreat
open Go.RowKit
theorem run_store_hi {P : Program} {w : World} {a : Addr} {m : Mode} (x : Int) : (store a (hiOf x) m).run P w = stored P w a (hiOf x) m := run_store P w a _ m rfl
theorem run_store_lo {P : Program} {w : World} {a : Addr} {m : Mode} (x : Int) : (store a (loOf x) m).run P w = stored P w a (loOf x) m := run_store P w a _ m rfl
attribute [local go_sem] run_store_hi run_store_lo
structure ShS (gR gA gW : Nat) (r a q : Int) (w W : World) : Prop where
  r : Blk W gR 307 #[hiOf r, loOf r]
  a : Blk W gA 307 #[hiOf a, loOf a]
  q : Blk W gW 307 #[hiOf q, loOf q]
  k : Kp (fun k => k = gR ∨ k = gW) w W
section
variable {gR gA gW : Nat} {r a q : Int} {w W : World}
theorem ShS.al (h : ShS gR gA gW r a q w W) (o : Obj) : ShS gR gA gW r a q w (W.alloc o) := ⟨h.r.alloc o, h.a.alloc o, h.q.alloc o, h.k.alloc o⟩
theorem ShS.drew (h : ShS gR gA gW r a q w W) : ShS gR gA gW r a q w W.drew := ⟨h.r.drew, h.a.drew, h.q.drew, h.k.drew⟩
end
end Go.Proofs.YtjhfcpadnofdnaaGreat
namespace Go.Proofs.YtjhfcpadnofdnaaGreat
open Go.RowKit
attribute [local go_sem] run_store_hi run_store_lo
structure ShI (g : Nat) (A f all q r : Int) (w wr : World) : Prop where
  a : Blk wr g 307 #[hiOf A, loOf A]
  f : Blk wr (g + 1) 307 #[hiOf f, loOf f]
  c : Blk wr (g + 3) 307 #[.int .i64 0, .int .u64 0]
  s : ShS (g + 1 + 1 + 1 + 1 + 1) (g + 1 + 1) (g + 1 + 1 + 1 + 1) r all q wr wr
  b : Below g w wr
end Go.Proofs.YtjhfcpadnofdnaaGreat
namespace Go.Proofs.YtjhfcpadnofdnaaGreat
open Go.RowKit
def AnsB (v : Value) (w : World) (e : Ending) (w' : World) : Prop := e = .returned v ∧ Below w.heap.size w w'
section
variable (w : World)
end
end Go.Proofs.YtjhfcpadnofdnaaGreat
