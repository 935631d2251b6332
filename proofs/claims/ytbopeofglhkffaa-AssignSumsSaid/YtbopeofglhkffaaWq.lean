/- Wide numbers and widths: contracts that say no more of the world than that nothing has turned. -/
import Derived.Test.YtbopeofglhkffaaWs
import Derived.Test.YtbopeofglhkffaaRowk
import Derived.Deep.MidRow
import Derived.Test.YtbopeofglhkffaaWi
import Derived.Test.YtbopeofglhkffaaRgh
set_option linter.unusedSimpArgs false
set_option linter.unusedVariables false
namespace Go.Proofs.Ytbopeofglhkffaa
open Go.RowKit
attribute [local go_sem] run_store_hi run_store_lo
/-- The quotient and the rest behind the highest bits of an amount. -/
theorem share_bit (A f all q r : Int) (bit : Int) (hall : 0 < all) (hf : 0 ≤ f) (hfa : f ≤ all) (hb : bit = 0 ∨ bit = 1) (hr : 0 ≤ r ∧ r < all) (hq : q * all + r = A * f) :
    let q1 := q + q
    let r2 := addRest r r all
    let q2 := addWhole r r all q1
    let r3 := if bit = 1 then addRest r2 f all else r2
    let q3 := if bit = 1 then addWhole r2 f all q2 else q2
    (0 ≤ r3 ∧ r3 < all) ∧ q3 * all + r3 = (2 * A + bit) * f := by
  have e2 : (2 * A + bit) * f = 2 * (A * f) + bit * f := by rw [Int.add_mul, Int.mul_assoc]
  intro q1 r2 q2 r3 q3
  have h2 : (0 ≤ r2 ∧ r2 < all) ∧ q2 * all + r2 = 2 * (A * f) := by
    show (0 ≤ addRest r r all ∧ addRest r r all < all) ∧ addWhole r r all (q + q) * all + addRest r r all = _
    unfold addRest addWhole
    by_cases h : all ≤ r + r
    · rw [if_pos h, if_pos h]
      have : (q + q + 1) * all = q * all + q * all + all := by rw [Int.add_mul, Int.add_mul, Int.one_mul]
      omega
    · rw [if_neg h, if_neg h]
      have : (q + q) * all = q * all + q * all := by rw [Int.add_mul]
      omega
  rw [e2]
  rcases hb with rfl | rfl
  · have : r3 = r2 := if_neg (by decide)
    have h3 : q3 = q2 := if_neg (by decide)
    rw [this, h3]; omega
  · have h4 : r3 = addRest r2 f all := if_pos rfl
    have h5 : q3 = addWhole r2 f all q2 := if_pos rfl
    rw [h4, h5]
    unfold addRest addWhole
    by_cases h : all ≤ r2 + f
    · rw [if_pos h, if_pos h]
      have : (q2 + 1) * all = q2 * all + all := by rw [Int.add_mul, Int.one_mul]
      omega
    · rw [if_neg h, if_neg h]; omega
theorem share_end (A f all q r : Int) (hr : 0 ≤ r ∧ r < all) (hq : q * all + r = A * f) : q = A * f / all := by
  rw [← hq, Int.add_comm, Int.add_mul_ediv_right _ _ (by omega), Int.ediv_eq_zero_of_lt hr.1 hr.2, Int.zero_add]
theorem len64_w (x : Int) (w : World) (h0 : 0 ≤ x) (h1 : x ≤ 18446744073709551615) : Calls Try.prog 101 #[.int .u64 x] w fun e w' => e = .returned (.int .i64 (Lib.bitLen x.toNat)) ∧ w = w' := (len64_any x w h0 h1).mono fun e w' h => ⟨h.1, h.2.symm⟩
theorem len_lo (x : Int) (h0 : 0 ≤ x) (h1 : x ≤ 18446744073709551615) : x < 2 ^ Lib.bitLen x.toNat ∧ Lib.bitLen x.toNat ≤ 64 := by
  have a := len8_lt x.toNat (by omega)
  have b := Lib.bitLen_le x.toNat 64 (by decide) (by omega)
  refine ⟨?_, b⟩
  obtain ⟨X, rfl⟩ := Int.eq_ofNat_of_zero_le h0
  rw [Int.toNat_natCast] at a ⊢
  exact_mod_cast a
theorem len_hi (A : Int) (h0 : 0 ≤ A / 18446744073709551616) (h1 : A / 18446744073709551616 ≤ 18446744073709551615) : A < 2 ^ (64 + Lib.bitLen (A / 18446744073709551616).toNat) ∧ 64 + Lib.bitLen (A / 18446744073709551616).toNat ≤ 128 := by
  obtain ⟨a, b⟩ := len_lo _ h0 h1
  refine ⟨?_, by omega⟩
  rw [Int.pow_add, show (2 : Int) ^ 64 = 18446744073709551616 by decide]
  generalize (2 : Int) ^ Lib.bitLen (A / 18446744073709551616).toNat = B at *
  omega
theorem share_q {A f all q r : Int} (hA : 0 ≤ A) (hf : 0 ≤ f ∧ f ≤ all) (hall : 0 < all) (hr : 0 ≤ r ∧ r < all) (hq : q * all + r = A * f) : 0 ≤ q ∧ q ≤ A := by
  have h := share_end A f all q r hr hq
  refine ⟨by rw [h]; exact Int.ediv_nonneg (Int.mul_nonneg hA hf.1) (by omega), ?_⟩
  rw [h]
  exact Int.ediv_le_of_le_mul hall (Int.mul_le_mul_of_nonneg_left hf.2 hA)
theorem and_one (x : Int) (h0 : 0 ≤ x) (h1 : x < 18446744073709551616) : bits .and .u64 x 1 = x % 2 := by
  have h := bits_mask .u64 64 (by decide) (fun n h0 h1 => by rw [u64_eq]; exact Int.emod_eq_of_lt h0 (by simpa using h1)) 1 (by decide) x h0 (by simpa using h1)
  simpa using h
theorem bit_lo (A : Int) (hA : 0 ≤ A) (j : Nat) (hj : j < 64) : bits .and .u64 (A % 18446744073709551616 / 2 ^ j) 1 = A / 2 ^ j % 2 := by
  have hp : (0 : Int) < 2 ^ j := Int.pow_pos (by decide)
  have h1 : A % 18446744073709551616 / 2 ^ j ≤ A % 18446744073709551616 := Int.ediv_le_self _ (by omega)
  rw [and_one _ (Int.ediv_nonneg (by omega) (by omega)) (by omega)]
  obtain ⟨h, l, hl0, hl1, rfl⟩ := split64 A
  rw [(split_hi h l hl0 hl1).2]
  have e : (18446744073709551616 : Int) = 2 ^ j * (2 * 2 ^ (63 - j)) := by
    rw [show (2 : Int) * 2 ^ (63 - j) = 2 ^ (64 - j) by rw [show 64 - j = (63 - j) + 1 by omega, Int.pow_succ, Int.mul_comm], ← Int.pow_add, show j + (64 - j) = 64 by omega]; decide
  have e2 : (18446744073709551616 * h + l) / 2 ^ j = 2 * (2 ^ (63 - j) * h) + l / 2 ^ j := by
    rw [e, Int.mul_assoc, Int.add_comm, Int.add_mul_ediv_left _ _ (by omega), Int.mul_assoc]; omega
  rw [e2]; omega
theorem bit_hi (A : Int) (hA : 0 ≤ A) (h2 : A < 340282366920938463463374607431768211456) (j : Nat) (hj : 64 ≤ j) : bits .and .u64 (A / 18446744073709551616 / 2 ^ (j - 64)) 1 = A / 2 ^ j % 2 := by
  have hp : (0 : Int) < 2 ^ (j - 64) := Int.pow_pos (by decide)
  have h1 : A / 18446744073709551616 / 2 ^ (j - 64) ≤ A / 18446744073709551616 := Int.ediv_le_self _ (by omega)
  rw [and_one _ (Int.ediv_nonneg (by omega) (by omega)) (by omega), Int.ediv_ediv_of_nonneg (by decide)]
  have e : (18446744073709551616 : Int) * 2 ^ (j - 64) = 2 ^ j := by
    rw [show (18446744073709551616 : Int) = 2 ^ 64 by decide, ← Int.pow_add, show 64 + (j - 64) = j by omega]
  rw [e]
theorem addRest_bd {r n a : Int} (h : 0 ≤ r) (hn : 0 ≤ n) (ha : r < a) (hna : n ≤ a) : 0 ≤ addRest r n a ∧ addRest r n a < a ∨ r + n = a + a := by unfold addRest; split <;> omega
theorem addWhole_bd (r n a q : Int) : q ≤ addWhole r n a q ∧ addWhole r n a q ≤ q + 1 := by unfold addWhole; split <;> omega
structure ShI (g : Nat) (A f all q r : Int) (w wr : World) : Prop where
  a : Blk wr g 87 #[hiOf A, loOf A]
  f : Blk wr (g + 1) 87 #[hiOf f, loOf f]
  c : Blk wr (g + 3) 87 #[.int .i64 0, .int .u64 0]
  s : ShS (g + 1 + 1 + 1 + 1 + 1) (g + 1 + 1) (g + 1 + 1 + 1 + 1) r all q wr wr
  b : Below g w wr
theorem ShI.step {g : Nat} {A f all q r q' r' : Int} {w wr w' : World} (h : ShI g A f all q r w wr) (k : ShS (g + 1 + 1 + 1 + 1 + 1) (g + 1 + 1) (g + 1 + 1 + 1 + 1) r' all q' wr w') : ShI g A f all q' r' w w' :=
  ⟨h.a.kp k.k (by omega), h.f.kp k.k (by omega), h.c.kp k.k (by omega), ⟨k.r, k.a, k.q, Kp.refl _ _⟩, h.b.trans (k.k.below (by intro k h; omega) (by have := h.a.lt; omega))⟩
set_option maxRecDepth 100000 in
set_option maxHeartbeats 2000000 in
theorem share_any (A f all : Int) (w : World) (hA : 0 ≤ A ∧ A < 85070591730234615865843651857942052864) (hf : 0 ≤ f ∧ f ≤ all) (hall : 0 < all ∧ all < 85070591730234615865843651857942052864) :
    Calls Try.prog 91 #[.agg #[hiOf A, loOf A], .agg #[hiOf f, loOf f], .agg #[hiOf all, loOf all]] w fun e w' => e = .returned (.agg #[hiOf (A * f / all), loOf (A * f / all)]) ∧ Below w.heap.size w w' := by
  go_enter Try.func91, Try.ntmps91
  go_upto_region 2 with (fail)
  have HI0 : Hid (ShI w.heap.size A f all 0 0 w ((((((w.alloc (.cells #[hiOf A, loOf A] 87)).alloc (.cells #[hiOf f, loOf f] 87)).alloc (.cells #[hiOf all, loOf all] 87)).alloc (.cells #[.int .i64 0, .int .u64 0] 87)).alloc (.cells #[.int .i64 0, .int .u64 0] 87)).alloc (.cells #[.int .i64 0, .int .u64 0] 87))) := Lib.hid ⟨((((((Blk.new _ _ _).alloc _).alloc _).alloc _).alloc _).alloc _), ((((Blk.at_ _ _ _ (by simp)).alloc _).alloc _).alloc _).alloc _, ((Blk.at_ _ _ _ (by simp)).alloc _).alloc _, ⟨Blk.at_ _ _ _ (by simp), (((Blk.at_ _ _ _ (by simp)).alloc _).alloc _).alloc _, (Blk.at_ _ _ _ (by simp)).alloc _, Kp.refl _ _⟩, bal (bal (bal (bal (bal (bal (Below.refl _ _) _) _) _) _) _) _⟩
  obtain ⟨w6, hw6⟩ : ∃ w6, w6 = ((((((w.alloc (.cells #[hiOf A, loOf A] 87)).alloc (.cells #[hiOf f, loOf f] 87)).alloc (.cells #[hiOf all, loOf all] 87)).alloc (.cells #[.int .i64 0, .int .u64 0] 87)).alloc (.cells #[.int .i64 0, .int .u64 0] 87)).alloc (.cells #[.int .i64 0, .int .u64 0] 87)) := ⟨_, rfl⟩
  rw [← hw6] at HI0 ⊢
  obtain ⟨g, hg⟩ : ∃ g, g = w.heap.size := ⟨_, rfl⟩
  rw [← hg] at HI0 ⊢
  have HG := Lib.hid hg
  clear hw6 hg
  have a2 := HI0.out.a.c2
  have al := HI0.out.a.lt
  have h0 : 0 ≤ A / 18446744073709551616 ∧ A / 18446744073709551616 ≤ 18446744073709551615 := by omega
  have h1 : 0 ≤ A % 18446744073709551616 ∧ A % 18446744073709551616 ≤ 18446744073709551615 := by omega
  have u0 : IntKind.u64.wrap (A / 18446744073709551616) = A / 18446744073709551616 := by rw [u64_eq]; omega
  unfold hiOf loOf at a2
  go_upto_if 19 with (go_at_call 101; refine (len64_w _ _ h1.1 h1.2).mono ?_; rintro e w' ⟨rfl, rfl⟩)
  go_cut [10] (fun s10 wx => ∃ n : Nat, s10 = .int .i64 n ∧ A < 2 ^ n ∧ n ≤ 128 ∧ w6 = wx)
  case first =>
    cases hz : (A / 18446744073709551616 == 0)
    · go_wp2_with (go_at_call 101; refine (len64_w _ _ h0.1 h0.2).mono ?_; rintro e w' ⟨rfl, rfl⟩)
      go_meet
      have := len_hi A h0.1 h0.2
      exact ⟨_, by congr 1; unfold wrap64; omega, this.1, this.2, rfl⟩
    · go_wp2_with fail
      go_meet
      have hz' : A % 18446744073709551616 = A := by
        have : A / 18446744073709551616 = 0 := by simpa using hz
        omega
      have := len_lo (A % 18446744073709551616) h1.1 h1.2
      exact ⟨_, rfl, by rw [hz'] at this ⊢; exact this.1, by omega, rfl⟩
  case rest =>
    obtain ⟨n, rfl, hn, hn2, rfl⟩ := hcut
    have hwn : IntKind.i64.wrap ((n : Int) - 1) = (n : Int) - 1 := IntWalk.i64_in _ ⟨by omega, by omega⟩
    clear a2 al
    go_wp2_with fail
    go_loopw [11, 12] (fun bv tv wr => ∃ (k : Nat) (q r : Int), k ≤ n ∧ bv = .int .i64 ((k : Int) - 1) ∧ (0 ≤ r ∧ r < all) ∧ q * all + r = A / 2 ^ k * f ∧ Hid (ShI g A f all q r w wr)) (fun bv _ _ => (intOf bv + 1).toNat)
    case atStart =>
      refine ⟨n, 0, 0, Nat.le_refl _, by go_num, ⟨by omega, hall.1⟩, ?_, HI0⟩
      rw [Int.ediv_eq_zero_of_lt hA.1 hn]; simp
    case round =>
      obtain ⟨k, q, r, hk, rfl, hr, hq, HI⟩ := hrel
      rcases k with _ | j
      · have q2 := HI.out.s.q.c2
        have c4 := HI.out.c.c2
        have f0 := HI.out.c.frozen 0
        have f1 := HI.out.c.frozen 1
        have E : Hid (q = A * f / all) := Lib.hid (share_end A f all q r hr (by rw [hq]; simp))
        have cl0 : g + 1 + 1 + 1 < wr.heap.size := by have := HI.out.c.lt; omega
        have cl1 : g + 1 + 1 + 1 < wr.heap.size + 1 := by have := HI.out.c.lt; omega
        have cl2 : g + 1 + 1 + 1 < wr.heap.size + 1 + 1 := by have := HI.out.c.lt; omega
        have cl3 : g + 1 + 1 + 1 < wr.heap.size + 1 + 1 + 1 := by have := HI.out.c.lt; omega
        have g0 : decide (0 ≤ ((0 : Nat) : Int) - 1) = false := by decide
        go_wp2_with fail
        refine bodyPost_ret (results_cell_row rfl _ _ (g + 1 + 1 + 1) 87 #[_, _] (0, 0) _ rfl ((HI.out.c.set_ 0 _).set_ 1 _) Try.underlying87 rfl (by kernel_rfl)) rfl ?_
        rw [← E.out]
        refine ⟨rfl, ?_⟩
        have hb := HI.out.b
        have hg := HG.out
        rw [← hg]
        exact (hb.setCell (p := ⟨g + 1 + 1 + 1, 0, none⟩) (by show g ≤ g + 1 + 1 + 1; omega) _).setCell (p := ⟨g + 1 + 1 + 1, 1, none⟩) (by show g ≤ g + 1 + 1 + 1; omega) _
      · obtain ⟨P, hP⟩ : ∃ P, P = A / 2 ^ j := ⟨_, rfl⟩
        have hP2 : A / 2 ^ (j + 1) = P / 2 := by rw [hP, Int.pow_succ, Int.ediv_ediv_of_nonneg (Int.le_of_lt (Int.pow_pos (by decide)))]
        have hP0 : 0 ≤ P ∧ P ≤ A := by rw [hP]; exact ⟨Int.ediv_nonneg hA.1 (Int.le_of_lt (Int.pow_pos (by decide))), Int.ediv_le_self _ hA.1⟩
        rw [hP2] at hq
        have hqb := share_q (A := P / 2) (by omega) hf hall.1 hr hq
        have ej : ((j + 1 : Nat) : Int) - 1 = (j : Int) := by omega
        rw [ej]
        have g0 : decide (0 ≤ (j : Int)) = true := decide_eq_true (by omega)
        have HP := Lib.hid hP
        have HQ := Lib.hid hq
        clear hP hP2 hq ej
        have hw1 : W128 (q + q) := ⟨by omega, by omega⟩
        have hw2 : W128 (q + q + 1) := ⟨by omega, by omega⟩
        have q2 := HI.out.s.q.c2
        have f0 := HI.out.s.q.frozen 0
        have f1 := HI.out.s.q.frozen 1
        have ql0 : g + 1 + 1 + 1 + 1 < wr.heap.size := by have := HI.out.s.q.lt; omega
        have ql1 : g + 1 + 1 + 1 + 1 < wr.heap.size + 1 := by have := HI.out.s.q.lt; omega
        have ql2 : g + 1 + 1 + 1 + 1 < wr.heap.size + 1 + 1 := by have := HI.out.s.q.lt; omega
        have ql3 : g + 1 + 1 + 1 + 1 < wr.heap.size + 1 + 1 + 1 := by have := HI.out.s.q.lt; omega
        go_upto_region 10 with (go_at_call 57; refine (plus_any _ _ _ hw1).mono ?_; rintro e w' ⟨rfl, rfl⟩)
        have HI1 := Lib.hid (HI.out.step ((((HI.out.s.setQ (by omega) (by omega) (q + q)).al (.cells #[hiOf q, loOf q] 87)).al (.cells #[hiOf q, loOf q] 87)).al (.cells #[hiOf (q + q), loOf (q + q)] 87)))
        obtain ⟨w1, hw⟩ : ∃ w1, w1 = ((((wr.setCell ⟨g + 1 + 1 + 1 + 1, 0, none⟩ (hiOf (q + q))).setCell ⟨g + 1 + 1 + 1 + 1, 1, none⟩ (loOf (q + q))).alloc (.cells #[hiOf q, loOf q] 87)).alloc (.cells #[hiOf q, loOf q] 87)).alloc (.cells #[hiOf (q + q), loOf (q + q)] 87) := ⟨_, rfl⟩
        rw [← hw] at HI1 ⊢
        clear hw q2 f0 f1 ql0 ql1 ql2 ql3
        have r2 := HI1.out.s.r.c2
        have HAD := Lib.hid (add_any _ _ _ r r all (q + q) w1 (by omega) (by omega) (by omega) ⟨hr.1, by omega⟩ ⟨hr.1, by omega⟩ ⟨by omega, by omega⟩ hw2 HI1.out.s)
        go_upto_region 11 with (go_at_call 100; refine HAD.out.mono ?_; rintro e w2 ⟨rfl, hk2⟩; have HK2 := Lib.hid hk2; clear hk2)
        have HI2 := Lib.hid (HI1.out.step HK2.out)
        clear HAD r2
        have a2 := HI2.out.a.c2
        have f2 := HI2.out.f.c2
        unfold hiOf loOf at a2
        obtain ⟨bit, hbit⟩ : ∃ bit, bit = P % 2 := ⟨_, rfl⟩
        have HB := Lib.hid hbit
        clear hbit
        go_upto_if 43 with (fail)
        go_cut [12] (fun s12 wx => s12 = .int .u64 bit ∧ w2 = wx)
        case first =>
          by_cases hj : 64 ≤ j
          · have g1 : decide (64 ≤ (j : Int)) = true := decide_eq_true (by omega)
            have eb := bit_hi A hA.1 (by omega) j hj
            go_wp2_with fail
            go_meet
            exact ⟨by congr 1; rw [HB.out, HP.out]; all_goals first | exact eb | (rw [ej]; exact eb), rfl⟩
          · have g1 : decide (64 ≤ (j : Int)) = false := decide_eq_false (by omega)
            have eb := bit_lo A hA.1 j (by omega)
            have ej : min j 64 = j := by omega
            go_wp2_with fail
            go_meet
            exact ⟨by congr 1; rw [HB.out, HP.out]; all_goals first | exact eb | (rw [ej]; exact eb), rfl⟩
        case rest =>
          obtain ⟨rfl, rfl⟩ := hcut
          have hbd := addRest_bd (r := r) (n := r) (a := all) (by omega) (by omega) (by omega) (by omega)
          obtain ⟨r2, hr2⟩ : ∃ r2, r2 = addRest r r all := ⟨_, rfl⟩
          obtain ⟨q2, hq2⟩ : ∃ q2, q2 = addWhole r r all (q + q) := ⟨_, rfl⟩
          have hqd := addWhole_bd r r all (q + q)
          rw [← hr2] at hbd HI2
          rw [← hq2] at hqd HI2
          have hr2b : 0 ≤ r2 ∧ r2 < all := by omega
          have hwj : IntKind.i64.wrap ((j : Int) - 1) = (j : Int) - 1 := IntWalk.i64_in _ ⟨by omega, by omega⟩
          have HSB := Lib.hid (share_bit (P / 2) f all q r bit hall.1 hf.1 hf.2 (by rw [HB.out]; omega) hr HQ.out)
          have hPe : 2 * (P / 2) + bit = P := by rw [HB.out]; omega
          have HR2 := Lib.hid (And.intro hr2 hq2)
          clear hr2 hq2
          by_cases hb1 : bit = 1
          · have e1 : (bit == 1) = true := beq_iff_eq.2 hb1
            have HAD := Lib.hid (add_any _ _ _ r2 f all q2 w2 (by omega) (by omega) (by omega) ⟨hr2b.1, by omega⟩ ⟨hf.1, by omega⟩ ⟨by omega, by omega⟩ ⟨by omega, by omega⟩ HI2.out.s)
            go_wp2_with (go_at_call 100; refine HAD.out.mono ?_; rintro e w3 ⟨rfl, hk3⟩; have HK3 := Lib.hid hk3; clear hk3)
            go_roundw
            case rel =>
              refine ⟨j, addWhole r2 f all q2, addRest r2 f all, by omega, by go_num, ?_⟩
              have h := HSB.out
              simp only [if_pos hb1] at h
              rw [hPe, HP.out] at h
              rw [HR2.out.1, HR2.out.2]
              refine ⟨h.1, h.2, Lib.hid ?_⟩
              have h3 := HI2.out.step HK3.out
              rw [HR2.out.1, HR2.out.2] at h3
              exact h3
            case measure => simp [intOf] <;> omega
          · have e1 : (bit == 1) = false := beq_eq_false_iff_ne.2 hb1
            go_wp2_with fail
            go_roundw
            case rel =>
              refine ⟨j, q2, r2, by omega, by go_num, ?_⟩
              have h := HSB.out
              simp only [if_neg hb1] at h
              rw [hPe, HP.out] at h
              refine ⟨hr2b, by have h2 := h.2; rw [← HR2.out.1, ← HR2.out.2] at h2; exact h2, Lib.hid HI2.out⟩
            case measure => simp [intOf] <;> omega
end Go.Proofs.Ytbopeofglhkffaa
namespace Go.Proofs.Ytbopeofglhkffaa
open Go.RowKit
theorem wpList_build {P : Program} {ops : Array Oper} {rest : List Oper} {o : Oper} {a : Act} {w : World} {Q : Exit → Act → World → Prop} (hgd : o.guard = none) (ty : TypeId) (parts : Array (Nat × Operand)) (ho : o.op = .build ty parts) (v : Value)
    (hrun : (Instr.build ty (parts.map fun (i, x) => (i, a.eval x))).run P w = .ok v w) (h : wpList P ops Q rest (a.put o.dst v) w) : wpList P ops Q (o :: rest) a w :=
  wpList_plain hgd fun K hK => by
    unfold Oper.wp execOp
    simp only [ho, Sem.run_bind, hrun, Result.andThen_ok, Sem.run_pure]
    exact hK _ _ h
theorem wpList_rows {P : Program} {ops : Array Oper} {rest : List Oper} {o : Oper} {a : Act} {w : World} {Q : Exit → Act → World → Prop} (hgd : o.guard = none) (ty : TypeId) (n : Nat) (parts : Array (Nat × Operand)) (ho : o.op = .buildSlice ty n parts) (v : Value) (w' : World)
    (hrun : (Instr.buildSlice ty n (parts.map fun (i, x) => (i, a.eval x))).run P w = .ok v w') (h : wpList P ops Q rest (a.put o.dst v) w') : wpList P ops Q (o :: rest) a w :=
  wpList_plain hgd fun K hK => by
    unfold Oper.wp execOp
    simp only [ho, Sem.run_bind, hrun, Result.andThen_ok, Sem.run_pure]
    exact hK _ _ h
/-- Loading a range out of a block whose first cells it is. -/
theorem blk_rng {W : World} {g : Nat} {t : TypeId} {cs : List Value} {o : Nat} {xs : List Value} (hb : Blk W g t cs.toArray) (hx : ∀ j v, xs[j]? = some v → cs[o + j]? = some v) : W.rangeAt g o xs := fun j v hv => hb.get (o + j) (by simpa using hx j v hv)
end Go.Proofs.Ytbopeofglhkffaa
namespace Go.Proofs.Ytbopeofglhkffaa
open Go.RowKit
def AnsB (v : Value) (w : World) (e : Ending) (w' : World) : Prop := e = .returned v ∧ Below w.heap.size w w'
section
variable (w : World)
theorem of_b (n : Int) (h0 : -9223372036854775808 ≤ n) (h1 : n < 9223372036854775808) : Calls Try.prog 58 #[.int .i64 n] w (AnsB (.agg #[hiOf n, loOf n]) w) :=
  (of_any n w h0 h1).mono fun _ _ ⟨he, hw⟩ => ⟨he, hw ▸ bal (Below.refl _ _) _⟩
theorem plus_b (a b : Int) (h : W128 (a + b)) : Calls Try.prog 57 #[.agg #[hiOf a, loOf a], .agg #[hiOf b, loOf b]] w (AnsB (.agg #[hiOf (a + b), loOf (a + b)]) w) :=
  (plus_any a b w h).mono fun _ _ ⟨he, hw⟩ => ⟨he, hw ▸ bal (bal (bal (Below.refl _ _) _) _) _⟩
theorem minus_b (a b : Int) (h : W128 (a - b)) : Calls Try.prog 60 #[.agg #[hiOf a, loOf a], .agg #[hiOf b, loOf b]] w (AnsB (.agg #[hiOf (a - b), loOf (a - b)]) w) :=
  (minus_any a b w h).mono fun _ _ ⟨he, hw⟩ => ⟨he, hw ▸ bal (bal (bal (Below.refl _ _) _) _) _⟩
theorem against_b (a b : Int) : Calls Try.prog 59 #[.agg #[hiOf a, loOf a], .agg #[hiOf b, loOf b]] w (AnsB (.int .i64 (cmpI a b)) w) :=
  (against_any a b w).mono fun _ _ ⟨he, hw⟩ => ⟨he, hw ▸ bal (bal (Below.refl _ _) _) _⟩
theorem times_b (a b : Int) (ha : -9223372036854775808 ≤ a ∧ a < 9223372036854775808) (hb : -9223372036854775808 ≤ b ∧ b < 9223372036854775808) : Calls Try.prog 61 #[.int .i64 a, .int .i64 b] w (AnsB (.agg #[hiOf (a * b), loOf (a * b)]) w) :=
  (times_any a b w ha hb).mono fun _ _ ⟨he, hw⟩ => ⟨he, hw ▸ bal (Below.refl _ _) _⟩
theorem resolve_b (l : Ln) (c : Int) (hl : LnM l) (hc : CB c) : Calls Try.prog 29 #[.agg #[.int .u8 l.k, .int .i64 l.n], .int .i64 c] w (AnsB (.tuple #[.int .i64 (resF l c).1, .bool (resF l c).2]) w) :=
  (resolve_any l.k l.n c w hl hc).mono fun _ _ ⟨he, hw⟩ => ⟨he, hw ▸ bal (Below.refl _ _) _⟩
theorem clamp_b (s : Sty) (c v : Int) (h1 : LnM s.maxw) (h2 : LnM s.minw) (hc : CB c) : Calls Try.prog 31 #[.agg (styCells s).toArray, .int .i64 c, .int .i64 v] w (AnsB (.int .i64 (clampF s c v)) w) :=
  (clamp_any s c v w h1 h2 hc).mono fun _ _ ⟨he, hw⟩ => ⟨he, hw ▸ bal (bal (bal (Below.refl _ _) _) _) _⟩
end
end Go.Proofs.Ytbopeofglhkffaa
