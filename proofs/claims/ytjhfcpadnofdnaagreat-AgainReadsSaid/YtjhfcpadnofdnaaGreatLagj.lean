/- The closed facts of the row of AgainReads, one by one. -/
import Derived.Test.YtjhfcpadnofdnaaGreatVoq
import Derived.Test.YtjhfcpadnofdnaaGreatVos
import Derived.Test.YtjhfcpadnofdnaaGreatRtr
import Derived.Test.YtjhfcpadnofdnaaGreatText
set_option linter.unusedSimpArgs false
set_option linter.unusedVariables false
namespace Go.Proofs.YtjhfcpadnofdnaaGreat
open Go.RowKit
attribute [local go_sem] block_of_add
theorem checkE_one (v : Int) (hv : 0 ≤ v ∧ v ≤ 1099511627776) : CheckE l1V [] v := by
  refine ⟨by decide, by decide, hv, by intro j h; simp at h, ?_⟩
  intro i h
  have hi : i = 0 := by simp only [l1V, List.length_cons, List.length_nil] at h; omega
  subst hi
  show NdE l1V 0 n1V
  clear h
  refine ⟨.inl ⟨rfl, rfl⟩, by decide, by decide, .inl ⟨.inl rfl, ?_⟩, fun _ => ⟨rfl, rfl, rfl⟩, fun p h0 => absurd h0 (by decide)⟩
  refine ⟨?_, ?_, ?_, by unfold SideX; decide, by unfold PlX; decide, by unfold GrS; decide, by unfold LnX; decide⟩
  · intro j hj
    rcases (by omega : j = 0 ∨ j = 1 ∨ j = 2 ∨ j = 3) with rfl | rfl | rfl | rfl <;> (unfold EdOk; decide)
  · intro j hj
    rcases (by omega : j = 0 ∨ j = 1 ∨ j = 2 ∨ j = 3) with rfl | rfl | rfl | rfl <;> decide
  · intro j hj
    rcases (by omega : j = 0 ∨ j = 1 ∨ j = 2) with rfl | rfl | rfl <;> (unfold HgX; decide)
section
variable {gN : Nat} {v : Int} {w : World}
theorem uvV : ∀ x ∈ l1V, ∃ Au cu, x.s.uv = .slice Au x.s.units.length cu := by
  intro x hx
  simp only [l1V, List.mem_cons, List.not_mem_nil, or_false] at hx
  subst hx
  exact ⟨none, 0, rfl⟩
theorem vcheck_one (hv : 0 ≤ v ∧ v ≤ 1099511627776) (W : World) (hn : Blk W gN 69 (ndsCells l1V).toArray) : Calls Tryz.prog 62 #[.agg #[.slice (some ⟨gN, 0, none⟩) 1 1, .slice none 0 0, .int .i64 v]] W fun e w' => (∃ n : Int, e = .returned (.tuple #[.int .i64 n, .int .i64 0])) ∧ Below W.heap.size W w' := by
  have h := pcheckX_any l1V [] (some ⟨gN, 0, none⟩) none 1 0 v W (Reads.of_blkC hn rfl) Reads.none_ (by simp) uvV
  refine h.mono fun e w' ⟨⟨n, r, he, hr⟩, hb⟩ => ⟨⟨n, ?_⟩, hb⟩
  rw [he, hr.2 (checkE_one v hv)]
theorem vmay_one (hv : 0 ≤ v ∧ v ≤ 1099511627776) (W : World) (hn : Blk W gN 69 (ndsCells l1V).toArray) : Calls Tryz.prog 35 #[.agg #[.slice (some ⟨gN, 0, none⟩) 1 1, .slice none 0 0, .int .i64 v]] W fun e w' => e = .returned (.bool true) ∧ Below W.heap.size W w' := by
  have h := amay_any l1V [] (some ⟨gN, 0, none⟩) none 1 0 v W (Reads.of_blkC hn rfl) Reads.none_ (by simp) uvV
  refine h.mono fun e w' ⟨⟨b, he, hb⟩, hb2⟩ => ⟨?_, hb2⟩
  rw [he, hb.2 (checkE_one v hv)]
theorem trO_one : TrO l1V := by
  have h1 : l1V.length = 1 := rfl
  exact ⟨fun j h0 h => by omega, fun j h0 h => by omega, fun j h0 h => by omega, fun j h h0 => by omega, fun _ => by decide⟩
theorem rd_one : rdF l1V 0 = [0] := by decide
theorem vreads_one (W : World) (hn : Blk W gN 69 (ndsCells l1V).toArray) : Calls Tryz.prog 37 #[.agg #[.slice (some ⟨gN, 0, none⟩) 1 1, .slice none 0 0, .int .i64 v], .int .i64 0] W fun e w' => (∃ g c, e = .returned (.slice (some ⟨g, 0, none⟩) 1 c) ∧ w'.cell? ⟨g, 0, none⟩ = some (.int .i64 0) ∧ g < w'.heap.size) ∧ Below W.heap.size W w' := by
  have h := areads_any l1V (some ⟨gN, 0, none⟩) none 1 0 0 v W 0 (by decide) (by decide) (Reads.of_blkC hn rfl) uvV trO_one (by decide)
  refine h.mono fun e w' h => ?_
  obtain ⟨⟨A, c, he, ho⟩, hb⟩ := h
  rw [rd_one] at he ho
  obtain ⟨g, rfl⟩ := own_addrV ho (by decide)
  exact ⟨⟨g, c, he, own_atV ho rfl, (own_lt ho g rfl).2⟩, hb⟩
theorem vReads_one (hv : 0 ≤ v ∧ v ≤ 1099511627776) (W : World) (hn : Blk W gN 69 (ndsCells l1V).toArray) : Calls Tryz.prog 16 #[.agg #[.slice (some ⟨gN, 0, none⟩) 1 1, .slice none 0 0, .int .i64 v], .int .i64 0] W fun e w' => (∃ g c, e = .returned (.slice (some ⟨g, 0, none⟩) 1 c) ∧ w'.cell? ⟨g, 0, none⟩ = some (.int .i64 0) ∧ g < w'.heap.size) ∧ Below W.heap.size W w' := by
  have h := aReads_any l1V [] (some ⟨gN, 0, none⟩) none 1 0 v W 0 (by decide) (Reads.of_blkC hn rfl) Reads.none_ (by simp) uvV
  refine h.mono fun e w' h => ?_
  obtain ⟨⟨A, n, c, he, ho⟩, hb⟩ := h
  rcases ho with ⟨-, -, hn, ho⟩ | ⟨hno, -⟩
  · subst hn
    rw [rd_one] at he ho
    obtain ⟨g, rfl⟩ := own_addrV ho (by decide)
    exact ⟨⟨g, c, he, own_atV ho rfl, (own_lt ho g rfl).2⟩, hb⟩
  · exact absurd ⟨checkE_one v hv, by decide⟩ hno
set_option maxRecDepth 100000 in
set_option maxHeartbeats 4000000 in
theorem num_one {ga gb ca cb : Nat} (ha : w.cell? ⟨ga, 0, none⟩ = some (.int .i64 0)) (hb : w.cell? ⟨gb, 0, none⟩ = some (.int .i64 0)) (la : ga < w.heap.size) (lb : gb < w.heap.size) : Calls Tryz.prog 33 #[.slice (some ⟨ga, 0, none⟩) 1 ca, .slice (some ⟨gb, 0, none⟩) 1 cb] w fun e w' => e = .returned (.bool true) ∧ Below w.heap.size w w' := by
  go_enter Tryz.func33, Tryz.ntmps33
  go_wp2_with fail
  refine wp_loop_rounds 2 ?_
  rw [rounds_succ]
  go_wp2_with fail
  go_quiet (fail)
  have HB := Lib.hid (below_drVN (Below.refl w.heap.size w) nq)
  generalize w.drewN nq = w1 at HB ⊢
  clear ha hb la lb
  go_wp2_with fail
  rw [rounds_succ]
  go_wp2_with fail
  go_ret
  exact ⟨rfl, HB.out⟩
set_option maxRecDepth 100000 in
set_option maxHeartbeats 4000000 in
theorem works30_any (w : World) : Calls Tryz.prog 14 #[] w fun e w' => e = .returned (.bool true) ∧ Below w.heap.size w w' := by
  go_enter Tryz.func14, Tryz.ntmps14
  go_upto_region 2 with (go_at_call 23; refine one_any.mono ?_; rintro e w1 ⟨⟨gN, gC, gU, gH, gF, rfl, hn, hT⟩, hb1⟩; have HN1 := Lib.hid hn; have HT1 := Lib.hid hT; have HB1 := Lib.hid hb1; clear hn hT hb1)
  obtain ⟨w2, hw2⟩ : ∃ W, W = (w1.alloc (.cells #[.slice (some ⟨gN, 0, none⟩) 1 1, .slice none 0 0, .int .i64 100] 25)).alloc (.cells #[.slice (some ⟨gC, 0, none⟩) 1 1, .slice (some ⟨gU, 0, none⟩) 1 1, .slice (some ⟨gH, 0, none⟩) 1 1, .slice (some ⟨gF, 0, none⟩) 1 1] 32) := ⟨_, rfl⟩
  obtain ⟨g1, hg1⟩ : ∃ g, g = w1.heap.size := ⟨_, rfl⟩
  have HA2 : Hid (Blk w2 g1 25 #[.slice (some ⟨gN, 0, none⟩) 1 1, .slice none 0 0, .int .i64 100]) := Lib.hid (by rw [hw2, hg1]; exact (Blk.new _ _ _).alloc _)
  have HX2 : Hid (Blk w2 (g1 + 1) 32 #[.slice (some ⟨gC, 0, none⟩) 1 1, .slice (some ⟨gU, 0, none⟩) 1 1, .slice (some ⟨gH, 0, none⟩) 1 1, .slice (some ⟨gF, 0, none⟩) 1 1]) := Lib.hid (by rw [hw2, hg1]; exact Blk.at_ _ _ _ (by simp))
  have hb12 : Below w1.heap.size w1 w2 := by rw [hw2]; exact ((Below.refl _ _).alloc (Nat.le_refl _) _).alloc (by simp) _
  have HB2 := Lib.hid (HB1.out.trans (hb12.mono HB1.out.size))
  have HN2 := Lib.hid (HN1.out.below hb12 HN1.out.lt)
  have HT2 := Lib.hid (HT1.out.below hb12)
  rw [← hw2, ← hg1]
  clear hw2 hg1 hb12
  have a0 := HA2.out.get 0 rfl
  have a1 := HA2.out.get 1 rfl
  have a2 := HA2.out.get 2 rfl
  have al := HA2.out.lt
  obtain ⟨w3, hw3⟩ : ∃ W, W = w2.alloc (.cells #[.slice (some ⟨gN, 0, none⟩) 1 1, .slice none 0 0, .int .i64 100] 25) := ⟨_, rfl⟩
  obtain ⟨g3, hg3⟩ : ∃ g, g = w2.heap.size := ⟨_, rfl⟩
  have HU3 : Hid (Blk w3 g3 25 #[.slice (some ⟨gN, 0, none⟩) 1 1, .slice none 0 0, .int .i64 100]) := Lib.hid (by rw [hw3, hg3]; exact Blk.new _ _ _)
  have hb23 : Below w2.heap.size w2 w3 := by rw [hw3]; exact (Below.refl _ _).alloc (Nat.le_refl _) _
  have HA3 := Lib.hid (HA2.out.below hb23 HA2.out.lt); have HX3 := Lib.hid (HX2.out.below hb23 HX2.out.lt); have HN3 := Lib.hid (HN2.out.below hb23 HN2.out.lt); have HT3 := Lib.hid (HT2.out.below hb23); have HB3 := Lib.hid (HB2.out.trans (hb23.mono HB2.out.size))
  have HG3 : Hid (w.heap.size ≤ g3) := Lib.hid (by rw [hg3]; exact HB2.out.size)
  go_upto_region 3 with (fail)
  rw [← hw3, ← hg3]
  have hne : g1 ≠ g3 ∧ g1 + 1 ≠ g3 := by rw [hg3]; have h1 := HA2.out.lt; have h2 := HX2.out.lt; omega
  clear hw3 hg3 hb23 a0 a1 a2 al
  have u2 := HU3.out.get 2 rfl
  have ul := HU3.out.lt
  have uf := HU3.out.frozen 2
  go_upto_region 4 with (fail)
  have HU4 : Hid (Blk (w3.setCell ⟨g3, 2, none⟩ (.int .i64 101)) g3 25 #[.slice (some ⟨gN, 0, none⟩) 1 1, .slice none 0 0, .int .i64 101]) := Lib.hid (by simpa using HU3.out.set_ 2 (.int .i64 101))
  have HA4 := Lib.hid (HA3.out.far (p := ⟨g3, 2, none⟩) hne.1 (.int .i64 101))
  have HX4 := Lib.hid (HX3.out.far (p := ⟨g3, 2, none⟩) hne.2 (.int .i64 101))
  have HN4 := Lib.hid (HN3.out.far (p := ⟨g3, 2, none⟩) (HN3.out.ne_ HU3.out (by decide)) (.int .i64 101))
  have HT4 : Hid (TabV gC gU gH gF 100 (w3.setCell ⟨g3, 2, none⟩ (.int .i64 101))) := Lib.hid ⟨HT3.out.c.far (HT3.out.c.ne_ HU3.out (by decide)) _, HT3.out.u.far (HT3.out.u.ne_ HU3.out (by decide)) _, HT3.out.h.far (HT3.out.h.ne_ HU3.out (by decide)) _, HT3.out.f.far (HT3.out.f.ne_ HU3.out (by decide)) _⟩
  have HB4 := Lib.hid (HB3.out.setCell (p := ⟨g3, 2, none⟩) HG3.out (.int .i64 101))
  clear u2 ul uf hne
  generalize World.setCell w3 _ _ = w4 at HU4 HA4 HX4 HN4 HT4 HB4 ⊢
  have a0 := HA4.out.get 0 rfl
  have a1 := HA4.out.get 1 rfl
  have a2 := HA4.out.get 2 rfl
  have al := HA4.out.lt
  have x0 := HX4.out.get 0 rfl
  have x1 := HX4.out.get 1 rfl
  have x2 := HX4.out.get 2 rfl
  have x3 := HX4.out.get 3 rfl
  have xl := HX4.out.lt
  have u0 := HU4.out.get 0 rfl
  have u1 := HU4.out.get 1 rfl
  have u2 := HU4.out.get 2 rfl
  have ul := HU4.out.lt
  have q4 := Lib.hid (alayout_ok (gN := gN) (gC := gC) (gU := gU) (gH := gH) (gF := gF) (v2 := 101) (w := w4) false (fun W hn => vmay_one (by decide) W hn) (fun W hn => slayout_one (fun W hn => vcheck_one (by decide) W hn) vw101 (by decide) hn) (fun gC' gU' gH' gF' W hW _ => asame_ne (by decide) (HN4.out.below hW HN4.out.lt)) HN4.out HT4.out)
  go_upto_region 5 with (go_at_call 32; refine q4.out.mono ?_; rintro e w5 ⟨⟨gC2, gU2, gH2, gF2, d5, rfl, hT, hd⟩, hb⟩; have HA5 := Lib.hid (HA4.out.below hb HA4.out.lt); have HX5 := Lib.hid (HX4.out.below hb HX4.out.lt); have HU5 := Lib.hid (HU4.out.below hb HU4.out.lt); have HN5 := Lib.hid (HN4.out.below hb HN4.out.lt); have HT5 := Lib.hid (HT4.out.below hb); have HB5 := Lib.hid (HB4.out.trans (hb.mono HB4.out.size)); have HY5 := Lib.hid hT; have HD5 := Lib.hid hd; clear hT hd hb; clear a0 a1 a2 al x0 x1 x2 x3 xl u0 u1 u2 ul)
  obtain ⟨gd, cd, cur, e5, hg5, hc5⟩ := HD5.out
  subst e5
  have HC5 : Hid (Blk w5 gd 3 cur ∧ cur[0]? = some (.int .i64 0)) := Lib.hid ⟨hg5, hc5⟩
  clear hg5 hc5 HD5
  obtain ⟨w6, hw6⟩ : ∃ W, W = w5.alloc (.cells #[.slice (some ⟨gC2, 0, none⟩) 1 1, .slice (some ⟨gU2, 0, none⟩) 1 1, .slice (some ⟨gH2, 0, none⟩) 1 1, .slice (some ⟨gF2, 0, none⟩) 1 1] 32) := ⟨_, rfl⟩
  obtain ⟨g6, hg6⟩ : ∃ g, g = w5.heap.size := ⟨_, rfl⟩
  have hb : Below w5.heap.size w5 w6 := by rw [hw6]; exact (Below.refl _ _).alloc (Nat.le_refl _) _
  have HZ6 : Hid (Blk w6 g6 32 #[.slice (some ⟨gC2, 0, none⟩) 1 1, .slice (some ⟨gU2, 0, none⟩) 1 1, .slice (some ⟨gH2, 0, none⟩) 1 1, .slice (some ⟨gF2, 0, none⟩) 1 1]) := Lib.hid (by rw [hw6, hg6]; exact Blk.new _ _ _)
  have HA6 := Lib.hid (HA5.out.below hb HA5.out.lt); have HX6 := Lib.hid (HX5.out.below hb HX5.out.lt); have HU6 := Lib.hid (HU5.out.below hb HU5.out.lt); have HN6 := Lib.hid (HN5.out.below hb HN5.out.lt); have HT6 := Lib.hid (HT5.out.below hb); have HY6 := Lib.hid (HY5.out.below hb); have HB6 := Lib.hid (HB5.out.trans (hb.mono HB5.out.size)); have HC6 := Lib.hid (And.intro (HC5.out.1.below hb HC5.out.1.lt) HC5.out.2)
  rw [← hw6, ← hg6]
  clear hw6 hg6 hb
  have a0 := HA6.out.get 0 rfl
  have a1 := HA6.out.get 1 rfl
  have a2 := HA6.out.get 2 rfl
  have al := HA6.out.lt
  have x0 := HX6.out.get 0 rfl
  have x1 := HX6.out.get 1 rfl
  have x2 := HX6.out.get 2 rfl
  have x3 := HX6.out.get 3 rfl
  have xl := HX6.out.lt
  have u0 := HU6.out.get 0 rfl
  have u1 := HU6.out.get 1 rfl
  have u2 := HU6.out.get 2 rfl
  have ul := HU6.out.lt
  have q6 := Lib.hid (alayout_ok (gN := gN) (gC := gC) (gU := gU) (gH := gH) (gF := gF) (v2 := 100) (w := w6) true (fun W hn => vmay_one (by decide) W hn) (fun W hn => slayout_one (fun W hn => vcheck_one (by decide) W hn) vw100 (by decide) hn) (fun gC' gU' gH' gF' W hW hY => asame_eq (fun W hn => vreads_one W hn) (HN6.out.below hW HN6.out.lt) (HT6.out.below hW) hY) HN6.out HT6.out)
  go_upto_region 6 with (go_at_call 32; refine q6.out.mono ?_; rintro e w7 ⟨⟨gC3, gU3, gH3, gF3, d7, rfl, hT, hd⟩, hb⟩; have HA7 := Lib.hid (HA6.out.below hb HA6.out.lt); have HX7 := Lib.hid (HX6.out.below hb HX6.out.lt); have HU7 := Lib.hid (HU6.out.below hb HU6.out.lt); have HN7 := Lib.hid (HN6.out.below hb HN6.out.lt); have HZ7 := Lib.hid (HZ6.out.below hb HZ6.out.lt); have HT7 := Lib.hid (HT6.out.below hb); have HY7 := Lib.hid (HY6.out.below hb); have HC7 := Lib.hid (And.intro (HC6.out.1.below hb HC6.out.1.lt) HC6.out.2); have HB7 := Lib.hid (HB6.out.trans (hb.mono HB6.out.size)); have HD7 : Hid (d7 = .slice none 0 0) := Lib.hid hd; clear hT hd hb; clear a0 a1 a2 al x0 x1 x2 x3 xl u0 u1 u2 ul)
  have e7 := HD7.out
  subst e7
  clear HD7
  obtain ⟨w8, hw8⟩ : ∃ W, W = w7.alloc (.cells #[.slice (some ⟨gC3, 0, none⟩) 1 1, .slice (some ⟨gU3, 0, none⟩) 1 1, .slice (some ⟨gH3, 0, none⟩) 1 1, .slice (some ⟨gF3, 0, none⟩) 1 1] 32) := ⟨_, rfl⟩
  obtain ⟨g8, hg8⟩ : ∃ g, g = w7.heap.size := ⟨_, rfl⟩
  have hb : Below w7.heap.size w7 w8 := by rw [hw8]; exact (Below.refl _ _).alloc (Nat.le_refl _) _
  have HA8 := Lib.hid (HA7.out.below hb HA7.out.lt); have HX8 := Lib.hid (HX7.out.below hb HX7.out.lt); have HU8 := Lib.hid (HU7.out.below hb HU7.out.lt); have HN8 := Lib.hid (HN7.out.below hb HN7.out.lt); have HZ8 := Lib.hid (HZ7.out.below hb HZ7.out.lt); have HT8 := Lib.hid (HT7.out.below hb); have HY8 := Lib.hid (HY7.out.below hb); have HB8 := Lib.hid (HB7.out.trans (hb.mono HB7.out.size)); have HC8 := Lib.hid (And.intro (HC7.out.1.below hb HC7.out.1.lt) HC7.out.2)
  rw [← hw8, ← hg8]
  clear hw8 hg8 hb
  have a0 := HA8.out.get 0 rfl
  have a1 := HA8.out.get 1 rfl
  have a2 := HA8.out.get 2 rfl
  have al := HA8.out.lt
  have x0 := HX8.out.get 0 rfl
  have x1 := HX8.out.get 1 rfl
  have x2 := HX8.out.get 2 rfl
  have x3 := HX8.out.get 3 rfl
  have xl := HX8.out.lt
  have u0 := HU8.out.get 0 rfl
  have u1 := HU8.out.get 1 rfl
  have u2 := HU8.out.get 2 rfl
  have ul := HU8.out.lt
  have q8 := Lib.hid (alayout_err (gN := gN) (gC := gC) (gU := gU) (gH := gH) (gF := gF) (v := 101) (v2 := 100) (w := w8) (fun W hn => vmay_one (by decide) W hn) vw101 (by decide) HN8.out HT8.out)
  go_upto_region 7 with (go_at_call 32; refine q8.out.mono ?_; rintro e w9 ⟨rfl, hb⟩; have HA9 := Lib.hid (HA8.out.below hb HA8.out.lt); have HN9 := Lib.hid (HN8.out.below hb HN8.out.lt); have HZ9 := Lib.hid (HZ8.out.below hb HZ8.out.lt); have HY9 := Lib.hid (HY8.out.below hb); have HC9 := Lib.hid (And.intro (HC8.out.1.below hb HC8.out.1.lt) HC8.out.2); have HB9 := Lib.hid (HB8.out.trans (hb.mono HB8.out.size)); clear hb; clear a0 a1 a2 al x0 x1 x2 x3 xl u0 u1 u2 ul)
  obtain ⟨w10, hw10⟩ : ∃ W, W = w9.alloc (.cells #[.slice none 0 0, .slice none 0 0, .slice none 0 0, .slice none 0 0] 32) := ⟨_, rfl⟩
  obtain ⟨g10, hg10⟩ : ∃ g, g = w9.heap.size := ⟨_, rfl⟩
  have hb : Below w9.heap.size w9 w10 := by rw [hw10]; exact (Below.refl _ _).alloc (Nat.le_refl _) _
  have HA10 := Lib.hid (HA9.out.below hb HA9.out.lt); have HN10 := Lib.hid (HN9.out.below hb HN9.out.lt); have HZ10 := Lib.hid (HZ9.out.below hb HZ9.out.lt); have HY10 := Lib.hid (HY9.out.below hb); have HB10 := Lib.hid (HB9.out.trans (hb.mono HB9.out.size)); have HC10 := Lib.hid (And.intro (HC9.out.1.below hb HC9.out.1.lt) HC9.out.2)
  rw [← hw10, ← hg10]
  clear hw10 hg10 hb
  obtain ⟨w11, hw11⟩ : ∃ W, W = w10.alloc (.cells #[.int .i64 0] 3) := ⟨_, rfl⟩
  have hb : Below w10.heap.size w10 w11 := by rw [hw11]; exact (Below.refl _ _).alloc (Nat.le_refl _) _
  have HE11 : Hid (Blk w11 w10.heap.size 3 #[.int .i64 0]) := Lib.hid (by rw [hw11]; exact Blk.new _ _ _)
  have HA11 := Lib.hid (HA10.out.below hb HA10.out.lt); have HN11 := Lib.hid (HN10.out.below hb HN10.out.lt); have HZ11 := Lib.hid (HZ10.out.below hb HZ10.out.lt); have HY11 := Lib.hid (HY10.out.below hb); have HB11 := Lib.hid (HB10.out.trans (hb.mono HB10.out.size)); have HC11 := Lib.hid (And.intro (HC10.out.1.below hb HC10.out.1.lt) HC10.out.2)
  clear hb
  have q11 := Lib.hid (num_one (w := w11) (ca := cd) (cb := 1) (HC11.out.1.get 0 HC11.out.2) (HE11.out.get 0 rfl) HC11.out.1.lt HE11.out.lt)
  have HRD := Lib.hid (fun W hn => vReads_one (gN := gN) (v := 100) (by decide) W hn)
  go_wp2_with (first
    | (go_at_call 33; rw [← hw11]; refine q11.out.mono ?_; rintro e w12 ⟨rfl, hb⟩; have HA12 := Lib.hid (HA11.out.below hb HA11.out.lt); have HN12 := Lib.hid (HN11.out.below hb HN11.out.lt); have HZ12 := Lib.hid (HZ11.out.below hb HZ11.out.lt); have HY12 := Lib.hid (HY11.out.below hb); have HB12 := Lib.hid (HB11.out.trans (hb.mono HB11.out.size)); clear hb hw11; have z1 := HZ12.out.get 1 rfl; have zl := HZ12.out.lt; have y0 := HY12.out.u.get 0 rfl; have yl := HY12.out.u.lt; have a0 := HA12.out.get 0 rfl; have a1 := HA12.out.get 1 rfl; have a2 := HA12.out.get 2 rfl; have al := HA12.out.lt)
    | (go_at_call 16; refine (HRD.out _ HN12.out).mono ?_; rintro e w13 ⟨⟨gr, cr, rfl, hr, lr⟩, hb⟩; have HR13 := Lib.hid (And.intro hr lr); have HB13 := Lib.hid (HB12.out.trans (hb.mono HB12.out.size)); clear hb hr lr z1 zl y0 yl a0 a1 a2 al)
    | (go_at_call 33; refine (num_one (w := w13.alloc (.cells #[.int .i64 0] 3)) (by have := HR13.out.1; rw [((Below.refl w13.heap.size w13).alloc (Nat.le_refl _) _).cell (p := ⟨gr, 0, none⟩) HR13.out.2]; exact this) ((Blk.new w13 3 #[.int .i64 0]).get 0 rfl) (by have := HR13.out.2; simp; omega) (by simp)).mono ?_; rintro e w14 ⟨rfl, hb⟩; have HB14 := Lib.hid ((HB13.out.alloc HB13.out.size (.cells #[.int .i64 0] 3)).trans (hb.mono (by have := HB13.out.size; simp; omega))); clear hb))
  go_ret
  exact ⟨rfl, HB14.out⟩
end
end Go.Proofs.YtjhfcpadnofdnaaGreat
namespace Go.Proofs.YtjhfcpadnofdnaaGreat
open Go.ChangeShapes Go.WideShapes Go.ChangeAt Go.RowKit
set_option maxRecDepth 100000
theorem andT {a b : Bool} (h : a = true) (k : b = true) : (a && b) = true := by rw [h, k]; rfl
theorem againReads_j0 : (Rows.againReadsRow.wf (OpenSpec.ofChange Rows.againReadsSpec)) = true := by kernel_rfl
theorem againReads_j1 : (laidOutB Tryz.pinned.checked.prog) = true := by kernel_rfl
theorem againReads_j2 : (mapsRowed Tryz.pinned.checked.prog) = true := by kernel_rfl
theorem againReads_j3 : (Tryz.f4.params.all (Tryz.pinned.checked.prog.readableRec ·)) = true := by kernel_rfl
theorem againReads_j4 : (namedTie Tryz.pinned.checked.prog Rows.againReadsRow.named Rows.againReadsSpec.vars) = true := by kernel_rfl
theorem againReads_j5 : ((Rows.againReadsRow.stops == [])) = true := by kernel_rfl
theorem againReads_j6 : ((Tryz.pinned.checked.prog.stops == [])) = true := by kernel_rfl
theorem againReads_j7 : ((Rows.againReadsRow.knobs == [])) = true := by kernel_rfl
theorem againReads_j8 : ((Tryz.pinned.checked.prog.stopKnobs == [])) = true := by kernel_rfl
theorem againReads_j9 : ((Rows.againReadsRow.inPlace == Tryz.pinned.checked.prog.inPlace 4)) = true := by kernel_rfl
theorem againReads_j10 : ((Rows.againReadsRow.unfollowed == Tryz.pinned.checked.prog.unfollowed 4)) = true := by kernel_rfl
theorem againReads_j11 : ((Rows.againReadsRow.recurses == Tryz.pinned.checked.prog.recurses 4)) = true := by kernel_rfl
theorem againReads_j12 : ((Rows.againReadsRow.named == Tryz.pinned.checked.prog.varsNamed 4)) = true := by kernel_rfl
theorem againReads_j13 : ((Rows.againReadsRow.maps == (Tryz.f4.params.toList ++ Rows.againReadsSpec.plain.varTypes Tryz.pinned.checked.prog).any (Tryz.pinned.checked.prog.mapsRec ·))) = true := by kernel_rfl
theorem againReads_j14 : ((Rows.againReadsRow.ifaces == (Tryz.f4.params.toList ++ Rows.againReadsSpec.plain.varTypes Tryz.pinned.checked.prog).any (Tryz.pinned.checked.prog.ifacesRec ·))) = true := by kernel_rfl
theorem againReads_j15 : ((Rows.againReadsRow.mapsOut == Tryz.pinned.checked.prog.mapsAmong Tryz.f4.resultTypes.toList)) = true := by kernel_rfl
theorem againReads_j16 : ((Rows.againReadsRow.loops == (Tryz.f4.params.toList ++ Rows.againReadsSpec.plain.varTypes Tryz.pinned.checked.prog).any (Tryz.pinned.checked.prog.loopsFrom ·))) = true := by kernel_rfl
theorem againReads_j17 : ((Rows.againReadsRow.wideKeys == (Tryz.f4.params.toList ++ Rows.againReadsSpec.plain.varTypes Tryz.pinned.checked.prog ++ Tryz.f4.resultTypes.toList).any (Tryz.pinned.checked.prog.wideKeysFrom ·))) = true := by kernel_rfl
theorem againReads_j18 : (Rows.againReadsSpec.vars.all (Tryz.pinned.checked.prog.varReadable ·)) = true := by kernel_rfl
theorem againReads_j19 : (Tryz.f4.resultTypes.all (fun t => Tryz.pinned.checked.prog.readableRec t && decide (t < Tryz.pinned.checked.prog.types.size))) = true := by kernel_rfl
theorem againReads_j20 : ((Rows.againReadsRow.ifacesOut == Tryz.f4.resultTypes.toList.any (Tryz.pinned.checked.prog.ifacesRec ·))) = true := by kernel_rfl
theorem againReads_j21 : ((Rows.againReadsRow.loopsOut == Tryz.f4.resultTypes.toList.any (Tryz.pinned.checked.prog.loopsFrom ·))) = true := by kernel_rfl
theorem againReads_j22 : ((Rows.againReadsRow.plainKeys == Tryz.pinned.checked.prog.plainKeys)) = true := by kernel_rfl
theorem againReads_j23 : (Rows.againReadsRow.shortTexts.isNone) = true := by kernel_rfl
theorem againReads_j24 : (Tryz.pinned.checked.prog.stopsHeard) = true := by kernel_rfl
theorem againReads_j25 : (Tryz.pinned.checked.prog.mayEnter) = true := by kernel_rfl
theorem againReads_j26 : ((Rows.againReadsRow.lifted == Tryz.pinned.checked.prog.liftsFinal)) = true := by kernel_rfl
theorem againReads_j27 : ((Tryz.pinned.checked.prog.make == some Rows.againReadsRow.make)) = true := by kernel_rfl
theorem againReads_j28 : ((Rows.againReadsRow.kinds == (if Rows.againReadsRow.domain.isEmpty then [] else Tryz.f4.params.toList.map fun t => match Tryz.pinned.checked.prog.underlying t with | some (.int k) => some k | _ => none))) = true := by kernel_rfl
theorem againReads_j29 : ((Rows.againReadsRow.pinned == Rows.againReadsRow.pinnedBy)) = true := by kernel_rfl
theorem againReads_j30 : ((Rows.againReadsRow.veiled == (Tryz.f4.params.toList ++ Rows.againReadsSpec.plain.varTypes Tryz.pinned.checked.prog ++ Tryz.f4.resultTypes.toList).any (Tryz.pinned.checked.prog.veiledRec ·))) = true := by kernel_rfl
theorem againReads_j31 : (Rows.againReadsRow.veiledFits Tryz.pinned.checked.prog Tryz.f4.params.toList (Tryz.f4.params.toList ++ Rows.againReadsSpec.plain.varTypes Tryz.pinned.checked.prog ++ Tryz.f4.resultTypes.toList)) = true := by kernel_rfl
theorem againReads_closed : joinedFacts Tryz.pinned.checked.prog 4 Tryz.f4 Rows.againReadsSpec Rows.againReadsRow = true := (andT (andT (andT (andT (andT (andT (andT (andT (andT (andT (andT (andT (andT (andT (andT (andT (andT (andT (andT (andT (andT (andT (andT (andT (andT (andT (andT (andT (andT (andT (andT againReads_j0 againReads_j1) againReads_j2) againReads_j3) againReads_j4) againReads_j5) againReads_j6) againReads_j7) againReads_j8) againReads_j9) againReads_j10) againReads_j11) againReads_j12) againReads_j13) againReads_j14) againReads_j15) againReads_j16) againReads_j17) againReads_j18) againReads_j19) againReads_j20) againReads_j21) againReads_j22) againReads_j23) againReads_j24) againReads_j25) againReads_j26) againReads_j27) againReads_j28) againReads_j29) againReads_j30) againReads_j31)
end Go.Proofs.YtjhfcpadnofdnaaGreat
