/- The law AssignPlays, walked. -/
import Derived.Test.YtbopeofglhkffaaMay
import Derived.Lib.MinMax
import Derived.Test.YtbopeofglhkffaaWs
set_option linter.unusedSimpArgs false
set_option linter.unusedVariables false
namespace Go.Proofs.Ytbopeofglhkffaa
open Go.RowKit
theorem eqU3p (a1 a2 a3 b1 b2 b3 : Int) (w : World) : (Op.equalIn 10000 27 (.agg #[.int .i64 a1, .int .i64 a2, .int .i64 a3]) (.agg #[.int .i64 b1, .int .i64 b2, .int .i64 b3])).run Try.prog w = .ok (a1 == b1 && a2 == b2 && a3 == b3) w := by
  have u2 := Try.underlying2
  have g2 := Try.isAgg2
  have z2 := Try.sizeOf2
  have hS : Try.prog.underlying 27 = some (.struct (Try.prog.fieldsOf 27)) := by kernel_rfl
  have hp : Try.prog.stoodInHeld 27 = false := by kernel_rfl
  rw [show (10000 : Nat) = 9999 + 1 from rfl, run_equalIn_agg w 9999 27 _ _ hS hp]
  simp only [Program.fieldsOf, Try.underlying27]
  go_simp
  by_cases h1 : a1 = b1 <;> by_cases h2 : a2 = b2 <;> by_cases h3 : a3 = b3 <;> simp [h1, h2, h3]
theorem guardU3p (op : BinOp) (x y : Operand) (xs ys : Array Value) (w : World) : (eqGuard op 27 x y (.agg xs) (.agg ys)).run Try.prog w = .ok () w := run_eqGuard_agg w op _ x y xs ys (by kernel_rfl)
attribute [local go_sem] block_of_add eqU3p guardU3p
theorem gAt_in2 {got : List Cn} (h : MayOk got) : ∀ x ∈ got, ((0 ≤ x.least ∧ x.least ≤ 1099511627776) ∧ 0 ≤ x.greatest ∧ x.greatest ≤ 1099511627776) := fun x hx => by
  obtain ⟨k, hk, rfl⟩ := List.mem_iff_getElem.1 hx
  have := h.b k hk
  exact ⟨this 0 (by omega), this 1 (by omega)⟩
theorem Reads.triP {W : World} {B n k : Nat} {A : Option Addr} {p : Nat → Int × Int × Int} (h : Reads W B 3 A n (triC p n)) (hk : k < n) :
    ∃ ad : Addr, A = some ad ∧ W.cell? (ad.add (k * 3)) = some (.int .i64 (p k).1) ∧ W.cell? ⟨ad.block, (ad.add (k * 3)).off + 1, none⟩ = some (.int .i64 (p k).2.1) ∧ W.cell? ⟨ad.block, (ad.add (k * 3)).off + 2, none⟩ = some (.int .i64 (p k).2.2) := by
  obtain ⟨ad, e, hb, hc⟩ := h.2 (by omega)
  have ha : ∀ i, i ≠ 0 → (⟨ad.block, (ad.add (k * 3)).off + i, none⟩ : Addr) = ad.add (k * 3 + i) := fun i hi => by
    rw [← add_of_add, show ∀ p : Addr, p.add i = ⟨p.block, p.off + i, none⟩ from fun p => by unfold Addr.add; rw [if_neg hi], block_of_add]
  refine ⟨ad, e, ?_, ?_, ?_⟩
  · exact hc _ _ (by have := triC_at p (r := 0) (by omega) hk; exact this)
  · rw [ha 1 (by omega)]; exact hc _ _ (by have := triC_at p (r := 1) (by omega) hk; exact this)
  · rw [ha 2 (by omega)]; exact hc _ _ (by have := triC_at p (r := 2) (by omega) hk; exact this)
theorem cnsCells_take {got : List Cn} (k : Nat) : (cnsCells got).take (k * 4) = cnsCells (got.take k) := by
  unfold cnsCells
  induction got generalizing k with
  | nil => simp
  | cons x xs ih =>
    rcases k with _ | k
    · simp
    · have hx : (cnCells x).length = 4 := rfl
      rw [List.flatMap_cons, List.take_succ_cons, List.flatMap_cons, List.take_append, hx, ← ih k, List.take_of_length_le (by rw [hx]; omega), show (k + 1) * 4 - 4 = k * 4 by omega]
theorem Reads.firstC {w : World} {B m k : Nat} {A : Option Addr} {got : List Cn} (h : Reads w B 4 A m (cnsCells got)) (hk : k ≤ m) (hm : m = got.length) : Reads w B 4 A k (cnsCells (got.take k)) := by
  subst hm
  refine ⟨by rw [cnsCells_len, List.length_take, Nat.min_eq_left hk], fun h0 => ?_⟩
  obtain ⟨ad, e, hb, hc⟩ := h.2 (by omega)
  refine ⟨ad, e, hb, fun j u hu => hc j u ?_⟩
  rw [← cnsCells_take] at hu
  rw [List.getElem?_take] at hu
  split at hu
  · exact hu
  · cases hu
/-- What the law's loop holds. -/
structure ApI (gT gU : Nat) (A : Option Addr) (n c ma c2 : Nat) (A2 : Option Addr) (view u1 u2 u3 : Int) (W : World) : Prop where
  t : Blk W gT 25 #[.slice A n c, .slice A2 ma c2, .int .i64 view]
  u : Blk W gU 27 #[.int .i64 u1, .int .i64 u2, .int .i64 u3]
set_option maxRecDepth 100000 in
set_option maxHeartbeats 4000000 in
theorem assignPlays_any (l : List Nd) (adv : List Int) (A A2 Ag : Option Addr) (c c2 cg : Nat) (view u1 u2 u3 : Int) (got : List Cn) (w : World)
    (hr : Reads w w.heap.size 44 A l.length (ndsCells l)) (ha : Reads w w.heap.size 1 A2 adv.length (i64s adv)) (hu : ∀ x ∈ l, ∃ Au cu, x.s.uv = .slice Au x.s.units.length cu) (hg : Reads w w.heap.size 4 Ag got.length (cnsCells got)) (hcg : got.length ≤ cg) :
    Calls Try.prog 3 #[.agg #[.slice A l.length c, .slice A2 adv.length c2, .int .i64 view], .agg #[.int .i64 u1, .int .i64 u2, .int .i64 u3], .slice Ag got.length cg] w fun e w' => e = .returned (.bool true) ∧ Below w.heap.size w w' := by
  have HSM := Lib.hid (fun W (hb : Below w.heap.size w W) => small_any l adv A A2 c c2 view W ((hr.below hb).more hb.size) ((ha.below hb).more hb.size) hu)
  have HMY := Lib.hid (fun W (hb : Below w.heap.size w W) => may_any17 got Ag cg W ((hg.below hb).more hb.size))
  have HKA := Lib.hid (fun (hn : l.length ≤ 65536) W (hb : Below w.heap.size w W) => kids_any l A A2 c adv.length c2 view W hn ((hr.below hb).more hb.size))
  have HR := Lib.hid hr
  have HG := Lib.hid hg
  have HU := Lib.hid hu
  clear hr ha hu hg
  obtain ⟨n, hne⟩ : ∃ n, n = l.length := ⟨_, rfl⟩
  rw [← hne] at HSM HKA HR ⊢
  have HN := Lib.hid hne
  clear hne
  obtain ⟨ma, hme⟩ : ∃ ma, ma = adv.length := ⟨_, rfl⟩
  rw [← hme] at HSM HKA ⊢
  clear hme
  obtain ⟨mg, hge⟩ : ∃ mg, mg = got.length := ⟨_, rfl⟩
  rw [← hge] at HMY HG ⊢
  have HMG := Lib.hid hge
  clear hge
  go_enter Try.func3, Try.ntmps3
  go_upto_region 1 with (fail)
  obtain ⟨gT, hgT⟩ : ∃ gT, gT = w.heap.size := ⟨_, rfl⟩
  obtain ⟨gU, hgU⟩ : ∃ gU, gU = w.heap.size + 1 := ⟨_, rfl⟩
  have H2 : Hid (Blk ((w.alloc (.cells #[.slice A n c, .slice A2 ma c2, .int .i64 view] 25)).alloc (.cells #[.int .i64 u1, .int .i64 u2, .int .i64 u3] 27)) gT 25 #[.slice A n c, .slice A2 ma c2, .int .i64 view] ∧ Blk ((w.alloc (.cells #[.slice A n c, .slice A2 ma c2, .int .i64 view] 25)).alloc (.cells #[.int .i64 u1, .int .i64 u2, .int .i64 u3] 27)) gU 27 #[.int .i64 u1, .int .i64 u2, .int .i64 u3] ∧ Below w.heap.size w ((w.alloc (.cells #[.slice A n c, .slice A2 ma c2, .int .i64 view] 25)).alloc (.cells #[.int .i64 u1, .int .i64 u2, .int .i64 u3] 27))) := Lib.hid
    ⟨(Blk.at_ _ _ _ hgT).alloc _, Blk.at_ _ _ _ (by rw [hgU]; simp), balW (balW (Below.refl _ _) _) _⟩
  obtain ⟨w2, hw2⟩ : ∃ w2, w2 = ((w.alloc (.cells #[.slice A n c, .slice A2 ma c2, .int .i64 view] 25)).alloc (.cells #[.int .i64 u1, .int .i64 u2, .int .i64 u3] 27)) := ⟨_, rfl⟩
  rw [← hw2] at H2 ⊢
  first | rw [← hgU] | skip
  rw [← hgT]
  try rw [show gT + 1 = gU by omega]
  clear hw2 hgT hgU
  have HBX : Hid (∀ W, Below w2.heap.size w2 W → (W.cell? ⟨gT, 0, none⟩ = some (.slice A n c) ∧ W.cell? ⟨gT, 1, none⟩ = some (.slice A2 ma c2) ∧ W.cell? ⟨gT, 2, none⟩ = some (.int .i64 view)) ∧ W.cell? ⟨gU, 0, none⟩ = some (.int .i64 u1) ∧ W.cell? ⟨gU, 1, none⟩ = some (.int .i64 u2) ∧ W.cell? ⟨gU, 2, none⟩ = some (.int .i64 u3)) := Lib.hid (fun W hb => by
    have h1 := H2.out.1.below hb H2.out.1.lt
    have h2 := H2.out.2.1.below hb H2.out.2.1.lt
    exact ⟨⟨h1.get 0 rfl, h1.get 1 rfl, h1.get 2 rfl⟩, h2.get 0 rfl, h2.get 1 rfl, h2.get 2 rfl⟩)
  have HB2 := Lib.hid H2.out.2.2
  clear H2
  obtain ⟨⟨t0, t1, t2⟩, v0, v1, v2⟩ := HBX.out w2 (Below.refl _ _)
  go_wp2_with fail
  refine (HSM.out w2 HB2.out).mono ?_
  rintro e w3 ⟨⟨b, rfl, hb⟩, hw3⟩
  have HS := Lib.hid hb
  have HB3 := Lib.hid (show Below w2.heap.size w2 w3 from hw3)
  clear hb hw3 t0 t1 t2 v0 v1 v2 HSM
  cases b
  · go_wp2_with (go_at_call 7; refine (works21_any _).mono ?_; rintro e w9 ⟨rfl, hb9⟩; have HB9 := Lib.hid ((HB2.out.trans (HB3.out.mono HB2.out.size)).trans (hb9.mono (HB2.out.trans (HB3.out.mono HB2.out.size)).size)); clear hb9)
    go_ret
    exact ⟨rfl, HB9.out⟩
  have HOK := Lib.hid (HS.out (by simp))
  clear HS
  have HBW3 := Lib.hid (HB2.out.trans (HB3.out.mono HB2.out.size))
  obtain ⟨-, v0, v1, v2⟩ := HBX.out w3 HB3.out
  go_wp2_with fail
  refine (HMY.out w3 HBW3.out).mono ?_
  rintro e w4 ⟨⟨b, rfl, hb⟩, hw4⟩
  have HS := Lib.hid hb
  have HB4 := Lib.hid (show Below w2.heap.size w2 w4 from HB3.out.trans (hw4.mono HB3.out.size))
  clear hb hw4 v0 v1 v2 HMY HB3 HBW3
  have HBW4 := Lib.hid (HB2.out.trans (HB4.out.mono HB2.out.size))
  cases b
  · go_wp2_with (go_at_call 7; refine (works21_any _).mono ?_; rintro e w9 ⟨rfl, hb9⟩; have HB9 := Lib.hid (HBW4.out.trans (hb9.mono HBW4.out.size)); clear hb9)
    go_ret
    exact ⟨rfl, HB9.out⟩
  have HMO := Lib.hid (HS.out (by simp))
  clear HS
  obtain ⟨⟨t0, t1, t2⟩, v0, v1, v2⟩ := HBX.out w4 HB4.out
  cases e1 : decide (u1 < 0)
  rotate_left
  · go_wp2_with (go_at_call 7; refine (works21_any _).mono ?_; rintro e w9 ⟨rfl, hb9⟩; have HB9 := Lib.hid (HBW4.out.trans (hb9.mono HBW4.out.size)); clear hb9)
    go_ret
    exact ⟨rfl, HB9.out⟩
  cases e2 : decide (1099511627776 < u1)
  rotate_left
  · go_wp2_with (go_at_call 7; refine (works21_any _).mono ?_; rintro e w9 ⟨rfl, hb9⟩; have HB9 := Lib.hid (HBW4.out.trans (hb9.mono HBW4.out.size)); clear hb9)
    go_ret
    exact ⟨rfl, HB9.out⟩
  have HC : Hid (CB u1) := Lib.hid ⟨by have h1 := of_decide_eq_false e1; have h2 := of_decide_eq_false e2; omega⟩
  have hn3 : n ≤ 300 := by rw [HN.out]; exact HOK.out.n
  go_upto_region 3 with (fail)
  clear v0 v1 v2 e1 e2
  as_aux_lemma =>
  have hl0 : 0 < l.length := HOK.out.ok.n.1
  have HRD : Hid (∀ W, Below w2.heap.size w2 W → Reads W W.heap.size 44 A n (ndsCells l) ∧ Reads W W.heap.size 4 Ag mg (cnsCells got)) := Lib.hid (fun W hb => by
    have h := HB2.out.trans (hb.mono HB2.out.size)
    exact ⟨(HR.out.below h).more h.size, (HG.out.below h).more h.size⟩)
  have HF1 := Lib.hid (fun W (hb : Below w2.heap.size w2 W) => afirst_any l hl0 (by rw [← HN.out]; omega) A A2 c ma c2 view W (by rw [← HN.out]; exact (HRD.out W hb).1) (lim_w2 (HOK.out.ok.nd 0 hl0).sty) ⟨HOK.out.ok.v⟩)
  have HF2 := Lib.hid (fun W (hb : Below w2.heap.size w2 W) => rfirst_any l hl0 (by rw [← HN.out]; omega) A A2 c ma c2 view W (by rw [← HN.out]; exact (HRD.out W hb).1) (lim_w2 (HOK.out.ok.nd 0 hl0).sty) ⟨HOK.out.ok.v⟩)
  rw [← HN.out] at HF1 HF2
  obtain ⟨a1, a2, a3, ab, hA⟩ : ∃ a1 a2 a3 ab, usedV (flowN l[0].s view) = .tuple #[.agg #[.int .i64 a1, .int .i64 a2, .int .i64 a3], .bool ab] := ⟨_, _, _, _, rfl⟩
  rw [hA] at HF1 HF2
  clear hA hl0
  go_upto_region 4 with (go_at_call 8; refine (HF1.out _ HB4.out).mono ?_; rintro e w5 ⟨rfl, hb5⟩; have H5 := Lib.hid (show Below w2.heap.size w2 w5 from HB4.out.trans (hb5.mono HB4.out.size)); clear hb5)
  obtain ⟨w6, hw6⟩ : ∃ w6, w6 = (((w5.alloc (.cells #[.int .i64 a1, .int .i64 a2, .int .i64 a3] 27))) : World) := ⟨_, rfl⟩
  obtain ⟨g1, hg1⟩ : ∃ g1, g1 = w5.heap.size := ⟨_, rfl⟩
  have H6 : Hid (Blk w6 g1 27 #[.int .i64 a1, .int .i64 a2, .int .i64 a3] ∧ Below w2.heap.size w2 w6) := Lib.hid (by rw [hw6]; exact ⟨Blk.at_ _ _ _ hg1, H5.out.alloc H5.out.size _⟩)
  rw [← hw6, ← hg1]
  clear hw6 hg1 H5 t0 t1 t2 HF1
  obtain ⟨⟨t0, t1, t2⟩, -, -, -⟩ := HBX.out w6 H6.out.2
  go_upto_region 5 with (go_at_call 9; refine (HF2.out _ H6.out.2).mono ?_; rintro e w7 ⟨rfl, hb7⟩; have H7 := Lib.hid (And.intro (H6.out.1.below hb7 H6.out.1.lt) (show Below w2.heap.size w2 w7 from H6.out.2.trans (hb7.mono H6.out.2.size))); clear hb7)
  obtain ⟨w8, hw8⟩ : ∃ w8, w8 = (((w7.alloc (.cells #[.int .i64 a1, .int .i64 a2, .int .i64 a3] 27))) : World) := ⟨_, rfl⟩
  obtain ⟨g2, hg2⟩ : ∃ g2, g2 = w7.heap.size := ⟨_, rfl⟩
  have H8 : Hid (Blk w8 g1 27 #[.int .i64 a1, .int .i64 a2, .int .i64 a3] ∧ Blk w8 g2 27 #[.int .i64 a1, .int .i64 a2, .int .i64 a3] ∧ Below w2.heap.size w2 w8) := Lib.hid (by rw [hw8]; exact ⟨H7.out.1.alloc _, Blk.at_ _ _ _ hg2, H7.out.2.alloc H7.out.2.size _⟩)
  rw [← hw8, ← hg2]
  clear hw8 hg2 H6 H7 t0 t1 t2 HF2 HB4
  have x0 := H8.out.1.get 0 rfl
  have x1 := H8.out.1.get 1 rfl
  have x2 := H8.out.1.get 2 rfl
  have y0 := H8.out.2.1.get 0 rfl
  have y1 := H8.out.2.1.get 1 rfl
  have y2 := H8.out.2.1.get 2 rfl
  have r1 : (a1 == a1) = true := by simp
  have r2 : (a2 == a2) = true := by simp
  have r3 : (a3 == a3) = true := by simp
  have r4 : (ab == ab) = true := by simp
  have r5 : (ab != ab) = false := by simp
  go_upto_region 7 with (fail)
  clear x0 x1 x2 y0 y1 y2 r1 r2 r3 r4 r5
  have HB8 := Lib.hid H8.out.2.2
  have HBW8 := Lib.hid (HB2.out.trans (HB8.out.mono HB2.out.size))
  clear H8
  obtain ⟨⟨t0, t1, t2⟩, -, -, -⟩ := HBX.out w8 HB8.out
  go_upto_region 8 with (go_at_call 10; refine (HKA.out (by omega) w8 HBW8.out).mono ?_; rintro e w5 ⟨⟨ga, rfl, hka⟩, hb5⟩; rw [← HN.out]; have H5 := Lib.hid (And.intro hka (show Below w2.heap.size w2 w5 from HB8.out.trans (hb5.mono HB8.out.size))); clear hka hb5)
  clear t0 t1 t2 HKA HB8 HBW8 HBW4
  as_aux_lemma =>
  have HBW5 := Lib.hid (HB2.out.trans (H5.out.2.mono HB2.out.size))
  have HBY : Hid (∀ W, Below w5.heap.size w5 W → (W.cell? ⟨gT, 0, none⟩ = some (.slice A n c) ∧ W.cell? ⟨gT, 1, none⟩ = some (.slice A2 ma c2) ∧ W.cell? ⟨gT, 2, none⟩ = some (.int .i64 view)) ∧ W.cell? ⟨gU, 0, none⟩ = some (.int .i64 u1) ∧ W.cell? ⟨gU, 1, none⟩ = some (.int .i64 u2) ∧ W.cell? ⟨gU, 2, none⟩ = some (.int .i64 u3)) := Lib.hid (fun W hb => HBX.out W (H5.out.2.trans (hb.mono H5.out.2.size)))
  have HRE : Hid (∀ W, Below w5.heap.size w5 W → Reads W W.heap.size 44 A n (ndsCells l) ∧ Reads W W.heap.size 4 Ag mg (cnsCells got)) := Lib.hid (fun W hb => HRD.out W (H5.out.2.trans (hb.mono H5.out.2.size)))
  have HKX : Hid (∀ p, p < n → ∃ Ar cr, (kidsF l p).length ≤ cr ∧ ∀ W, Below w5.heap.size w5 W → W.cell? ⟨ga, p, none⟩ = some (.slice Ar (kidsF l p).length cr) ∧ Reads W W.heap.size 1 Ar (kidsF l p).length (i64s (kidsF l p))) := Lib.hid (fun p hp => by
    obtain ⟨Ar, cr, h1, h2, h3, _⟩ := H5.out.1.at_ p (by rw [← HN.out]; exact hp)
    exact ⟨Ar, cr, h2, fun W hb => ⟨(hb.cell (p := ⟨ga, p, none⟩) H5.out.1.lt).trans h1, (h3.below hb).more hb.size⟩⟩)
  have HKL : Hid (∀ p, (kidsF l p).length ≤ n) := Lib.hid (fun p => by
    unfold kidsF
    rw [List.length_map, HN.out]
    exact Nat.le_trans (List.length_filter_le _ _) (by rw [List.length_range]; exact Nat.le_refl _))
  have HUV : Hid (∀ x ∈ l, ∃ Au nu cu, x.s.uv = .slice Au nu cu) := Lib.hid (fun x hx => by obtain ⟨Au, cu, e⟩ := HU.out x hx; exact ⟨Au, _, cu, e⟩)
  have hcg : mg ≤ cg := by rw [HMG.out]; exact hcg
  have hmg : mg ≤ 400 := by rw [HMG.out]; exact HMO.out.n
  have HBO : Hid (∀ (i : Nat) (hi : i < l.length) (p : Nat) (ks : List Int), ks = kidsF l i → p = ks.length → ∀ m, m ≤ mg → m ≤ p → ∃ (pU : Nat → Int × Int × Int) (pB : Nat → Bool),
      (∀ (W : World) (Ak Ag : Option Addr) (ck cg : Nat), Reads W W.heap.size 44 A n (ndsCells l) → Reads W W.heap.size 1 Ak p (i64s ks) → Reads W W.heap.size 4 Ag m (cnsCells (got.take m)) →
        Calls Try.prog 11 #[.agg #[.slice A n c, .slice A2 ma c2, .int .i64 view], .int .i64 (i : Int), .agg #[.int .i64 u1, .int .i64 u2, .int .i64 u3], .slice Ak p ck, .slice Ag m cg] W fun e w' => KA p pU pB W w' e) ∧
      (∀ (W : World) (Ak Ag : Option Addr) (ck cg : Nat), Reads W W.heap.size 44 A n (ndsCells l) → Reads W W.heap.size 1 Ak p (i64s ks) → Reads W W.heap.size 4 Ag m (cnsCells (got.take m)) →
        Calls Try.prog 12 #[.agg #[.slice A n c, .slice A2 ma c2, .int .i64 view], .int .i64 (i : Int), .agg #[.int .i64 u1, .int .i64 u2, .int .i64 u3], .slice Ak p ck, .slice Ag m cg] W fun e w' => KR p pU pB W w' e)) := Lib.hid (fun i hi p ks h1 h2 m h3 h4 =>
    both21 l adv view HOK.out HUV.out i hi p ks h1 h2 m (got.take m) (by rw [List.length_take, ← HMG.out]; omega) h4 (fun x hx => gAt_in2 HMO.out x (List.mem_of_mem_take hx)) n HN.out u1 u2 u3 HC.out A A2 c ma c2 view)
  clear HBX HR HG HU HUV HC H5 HB2 HRD HMO
  go_wp2_with fail
  go_loopw [12] (fun iv wr => ∃ i : Nat, i ≤ n ∧ iv = .int .i64 i ∧ Hid (Below w5.heap.size w5 wr)) (fun iv _ => n - (intOf iv).toNat)
  case atStart => exact ⟨0, by omega, rfl, Lib.hid (Below.refl _ _)⟩
  case round =>
    obtain ⟨i, hi, rfl, HJ⟩ := hrel
    obtain ⟨⟨t0, t1, t2⟩, v0, v1, v2⟩ := HBY.out wr HJ.out
    by_cases hlt : i < n
    rotate_left
    · as_aux_lemma =>
      have q0 : decide ((i : Int) < (n : Int)) = false := decide_eq_false (by omega)
      have q0' : decide (i < n) = false := decide_eq_false hlt
      have HBJ := Lib.hid (HBW5.out.trans (HJ.out.mono HBW5.out.size))
      go_wp2_with (go_at_call 7; refine (works21_any _).mono ?_; rintro e w9 ⟨rfl, hb9⟩; have HB9 := Lib.hid (HBJ.out.trans (hb9.mono HBJ.out.size)); clear hb9)
      go_ret
      exact ⟨rfl, HB9.out⟩
    as_aux_lemma =>
    have q0 : decide ((i : Int) < (n : Int)) = true := decide_eq_true (by omega)
    have q0' : decide (i < n) = true := decide_eq_true hlt
    have hii : (i : Int) < (n : Int) := by omega
    have hi0 : (0 : Int) ≤ (i : Int) := by omega
    have wi : IntKind.i64.wrap ((i : Int) + 1) = (i : Int) + 1 := IntWalk.i64_in _ ⟨by omega, by omega⟩
    have hil : i < l.length := by rw [← HN.out]; exact hlt
    obtain ⟨ks, hks⟩ : ∃ ks, ks = kidsF l i := ⟨_, rfl⟩
    obtain ⟨Ar, cr, hcr, hrow⟩ := HKX.out i hlt
    have hpl := HKL.out i
    rw [← hks] at hcr hrow hpl
    have HRW := Lib.hid hrow
    clear hrow
    obtain ⟨p, hp⟩ : ∃ p, p = ks.length := ⟨_, rfl⟩
    rw [← hp] at hcr HRW hpl
    obtain ⟨m, hm⟩ : ∃ m, m = min mg p := ⟨_, rfl⟩
    have hm1 : m ≤ mg := by omega
    have hm2 : m ≤ p := by omega
    have hmi : (min (mg : Int) (p : Int)) = (m : Int) := by omega
    have hm0 : (0 : Int) ≤ (m : Int) := by omega
    have hm3 : (m : Int) ≤ (cg : Int) := by omega
    have hm4 : m ≤ cg := by omega
    obtain ⟨pU, pB, hA, hB⟩ := HBO.out i hil p ks hks hp m hm1 hm2
    have HA := Lib.hid hA
    have HB := Lib.hid hB
    have HPK : Hid (p = ks.length) := Lib.hid hp
    clear hks hp hm hA hB
    have f1 := (HRW.out wr HJ.out).1
    obtain ⟨xs, hxs⟩ : ∃ xs, xs = got.take m := ⟨_, rfl⟩
    rw [← hxs] at HA HB
    have HXS : Hid (∀ W, Below w5.heap.size w5 W → Reads W W.heap.size 4 Ag m (cnsCells xs)) := Lib.hid (fun W hb => by rw [hxs]; exact (HRE.out W hb).2.firstC hm1 HMG.out)
    clear hxs
    go_upto_region 12 with (fail)
    clear f1 t0 t1 t2 v0 v1 v2 q0 q0'
    have HFX : Hid (∀ W, Below wr.heap.size wr W → ((W.cell? ⟨gT, 0, none⟩ = some (.slice A n c) ∧ W.cell? ⟨gT, 1, none⟩ = some (.slice A2 ma c2) ∧ W.cell? ⟨gT, 2, none⟩ = some (.int .i64 view)) ∧ (W.cell? ⟨gU, 0, none⟩ = some (.int .i64 u1) ∧ W.cell? ⟨gU, 1, none⟩ = some (.int .i64 u2) ∧ W.cell? ⟨gU, 2, none⟩ = some (.int .i64 u3)) ∧ W.cell? ⟨ga, i, none⟩ = some (.slice Ar p cr)) ∧ Reads W W.heap.size 44 A n (ndsCells l) ∧ Reads W W.heap.size 1 Ar p (i64s ks) ∧ Reads W W.heap.size 4 Ag m (cnsCells xs)) := Lib.hid (fun W hb => by
      have h := HJ.out.trans (hb.mono HJ.out.size)
      exact ⟨⟨(HBY.out W h).1, (HBY.out W h).2, (HRW.out W h).1⟩, (HRE.out W h).1, (HRW.out W h).2, HXS.out W h⟩)
    clear HBY HRE HXS HRW HKX HKL HBO
    go_cut [14, 15] (fun v q wx => ∃ gu gb, v = .slice (some ⟨gu, 0, none⟩) p p ∧ q = .slice (some ⟨gb, 0, none⟩) p p ∧ Hid (Blk wx gu 27 (triC pU p).toArray ∧ Blk wx gb 4 (booC pB p).toArray ∧ Below wr.heap.size wr wx))
    case first => as_aux_lemma =>
      have E0 : Below wr.heap.size wr wr.drew := (Below.refl _ _).drew
      refine wp_region_held_drew (S := fun W => Below wr.heap.size wr W) (by kernel_rfl) E0 (fun hS => ?_)
      refine wpAnyH_pre (j := 0) (by kernel_rfl) ?_
      iterate 3
        refine wpAnyH_nx (v := ?_) rfl (by kernel_rfl) (by kernel_rfl) (by kernel_rfl) (fun _ _ _ h => h) (Or.inl ⟨by rfl, ?_⟩) hS ?_
        rotate_left
        · intro W' hS'
          obtain ⟨⟨⟨t0, t1, t2⟩, ⟨v0, v1, v2⟩, f1⟩, -, -, -⟩ := HFX.out W' hS'; go_simp
          rfl
        try simp only [Act.put, List.setIfInBounds_toArray, List.set_cons_zero, List.set_cons_succ, List.getElem_toArray, List.getElem_cons_zero, List.getElem_cons_succ]
      refine wpAnyH_take (i := 4) (v := ?_) rfl (by kernel_rfl) (by kernel_rfl) (by kernel_rfl) (fun _ _ _ h => h) (Or.inl ⟨by rfl, ?_⟩) hS ?_
      rotate_left
      · intro W' hS'
        obtain ⟨⟨⟨t0, t1, t2⟩, ⟨v0, v1, v2⟩, f1⟩, -, -, -⟩ := HFX.out W' hS'; go_simp
        rfl
      try simp only [Act.put, List.setIfInBounds_toArray, List.set_cons_zero, List.set_cons_succ, List.getElem_toArray, List.getElem_cons_zero, List.getElem_cons_succ]
      refine wpAnyH_take (i := 5) (v := ?_) rfl (by kernel_rfl) (by kernel_rfl) (by kernel_rfl) (fun _ _ _ h => h) (Or.inl ⟨by rfl, ?_⟩) hS ?_
      rotate_left
      · intro W' hS'
        obtain ⟨⟨⟨t0, t1, t2⟩, ⟨v0, v1, v2⟩, f1⟩, -, -, -⟩ := HFX.out W' hS'; go_simp
        rfl
      try simp only [Act.put, List.setIfInBounds_toArray, List.set_cons_zero, List.set_cons_succ, List.getElem_toArray, List.getElem_cons_zero, List.getElem_cons_succ]
      refine wpAnyH_take (i := 6) (v := ?_) rfl (by kernel_rfl) (by kernel_rfl) (by kernel_rfl) (fun _ _ _ h => h) (Or.inl ⟨by rfl, ?_⟩) hS ?_
      rotate_left
      · intro W' hS'
        obtain ⟨⟨⟨t0, t1, t2⟩, ⟨v0, v1, v2⟩, f1⟩, -, -, -⟩ := HFX.out W' hS'; go_simp
        rfl
      try simp only [Act.put, List.setIfInBounds_toArray, List.set_cons_zero, List.set_cons_succ, List.getElem_toArray, List.getElem_cons_zero, List.getElem_cons_succ]
      refine wpAnyH_take (i := 7) (v := ?_) rfl (by kernel_rfl) (by kernel_rfl) (by kernel_rfl) (fun _ _ _ h => h) (Or.inl ⟨by rfl, ?_⟩) hS ?_
      rotate_left
      · intro W' hS'
        obtain ⟨⟨⟨t0, t1, t2⟩, ⟨v0, v1, v2⟩, f1⟩, -, -, -⟩ := HFX.out W' hS'; go_simp
        rfl
      try simp only [Act.put, List.setIfInBounds_toArray, List.set_cons_zero, List.set_cons_succ, List.getElem_toArray, List.getElem_cons_zero, List.getElem_cons_succ]
      refine wpAnyH_take (i := 10) (v := ?_) rfl (by kernel_rfl) (by kernel_rfl) (by kernel_rfl) (fun _ _ _ h => h) (Or.inl ⟨by rfl, ?_⟩) hS ?_
      rotate_left
      · intro W' hS'
        obtain ⟨⟨⟨t0, t1, t2⟩, ⟨v0, v1, v2⟩, f1⟩, -, -, -⟩ := HFX.out W' hS'; go_simp
        rfl
      try simp only [Act.put, List.setIfInBounds_toArray, List.set_cons_zero, List.set_cons_succ, List.getElem_toArray, List.getElem_cons_zero, List.getElem_cons_succ]
      refine wpAnyH_ready (rs := [3, 9]) (by kernel_rfl) (by simp) (AllReadyH.cons rfl (fun K hK => ?_) (AllReadyH.cons rfl (fun K hK => ?_) (AllReadyH.nil)))
      · go_simp
        refine hK.out _ _ (hS.alloc hS.size (.cells #[] 3)) (fun hS => ?_)
        try simp only [Act.put, List.setIfInBounds_toArray, List.set_cons_zero, List.set_cons_succ, List.getElem_toArray, List.getElem_cons_zero, List.getElem_cons_succ]
        clear hK
        refine wpAnyH_ready (rs := [8, 9]) (by kernel_rfl) (by simp) (AllReadyH.cons rfl (fun K hK => ?_) (AllReadyH.cons rfl (fun K hK => ?_) (AllReadyH.nil)))
        · refine step_copyN rfl _ _ rfl el_int2 _ rfl (i64s ks) rfl (HFX.out _ hS).2.2.1 (fun u hu => by obtain ⟨q, -, rfl⟩ := List.mem_map.1 hu; rfl) (by omega) (by decide) ?_
          intro A8 c8 w8 hr8 hb8
          have hS8 : Below wr.heap.size wr w8 := hS.trans (hb8.mono hS.size)
          have HQ8 := Lib.hid (fun W (hw : Below w8.heap.size w8 W) => (hr8.below hw).more hw.size)
          have HS8 := Lib.hid hS8
          clear hr8 hb8
          refine hK.out _ _ hS8 (fun hS => ?_)
          try simp only [Act.put, List.setIfInBounds_toArray, List.set_cons_zero, List.set_cons_succ, List.getElem_toArray, List.getElem_cons_zero, List.getElem_cons_succ]
          clear hK hS8
          have HB8 : Hid (Below w8.heap.size w8 w8) := Lib.hid (Below.refl _ _)
          refine wpAnyH_ready (rs := [9]) (by kernel_rfl) (by simp) (AllReadyH.cons rfl (fun K hK => ?_) (AllReadyH.nil))
          go_simp
          refine hK.out _ _ (hS.alloc hS.size (.cells #[] 45)) (fun hS => ?_)
          try simp only [Act.put, List.setIfInBounds_toArray, List.set_cons_zero, List.set_cons_succ, List.getElem_toArray, List.getElem_cons_zero, List.getElem_cons_succ]
          clear hK
          refine wpAnyH_ready (rs := [11]) (by kernel_rfl) (by simp) (AllReadyH.cons rfl (fun K hK => ?_) (AllReadyH.nil))
          refine step_copyN rfl _ _ rfl el_cn _ rfl (cnsCells xs) rfl (HFX.out _ hS).2.2.2 (cnsCells_one xs) (by omega) (by decide) ?_
          intro A11 c11 w11 hr11 hb11
          have hS11 : Below wr.heap.size wr w11 := hS.trans (hb11.mono hS.size)
          have HQ11 := Lib.hid hr11
          have HQB := Lib.hid hb11
          clear hr11 hb11
          refine hK.out _ _ hS11 (fun hS => ?_)
          try simp only [Act.put, List.setIfInBounds_toArray, List.set_cons_zero, List.set_cons_succ, List.getElem_toArray, List.getElem_cons_zero, List.getElem_cons_succ]
          clear hK hS11
          refine wpAnyH_ready (rs := [12]) (by kernel_rfl) (by simp) (AllReadyH.cons rfl (fun K hK => ?_) (AllReadyH.nil))
          go_simp
          refine (HA.out _ _ _ _ _ (HFX.out _ hS).2.1 (HQ8.out _ ((HB8.out.alloc (Nat.le_refl _) _).trans (HQB.out.mono (by simp)))) HQ11.out).mono ?_
          rintro e w12 ⟨⟨gu, gb, rfl, hu, hbo⟩, hbb⟩
          have hS12 : Below wr.heap.size wr w12 := hS.trans (hbb.mono hS.size)
          have HZ := Lib.hid (And.intro hu (And.intro hbo hS12))
          clear hu hbo hbb
          refine hK.out _ _ hS12 (fun hS => ?_)
          try simp only [Act.put, List.setIfInBounds_toArray, List.set_cons_zero, List.set_cons_succ, List.getElem_toArray, List.getElem_cons_zero, List.getElem_cons_succ]
          clear hK hS12
          refine wpAnyH_take (i := 13) (v := ?_) rfl (by kernel_rfl) (by kernel_rfl) (by kernel_rfl) (fun _ _ _ h => h) (Or.inl ⟨by rfl, ?_⟩) hS ?_
          rotate_left
          · intro W' hS'
            go_simp
            rfl
          try simp only [Act.put, List.setIfInBounds_toArray, List.set_cons_zero, List.set_cons_succ, List.getElem_toArray, List.getElem_cons_zero, List.getElem_cons_succ]
          refine wpAnyH_take (i := 14) (v := ?_) rfl (by kernel_rfl) (by kernel_rfl) (by kernel_rfl) (fun _ _ _ h => h) (Or.inl ⟨by rfl, ?_⟩) hS ?_
          rotate_left
          · intro W' hS'
            go_simp
            rfl
          try simp only [Act.put, List.setIfInBounds_toArray, List.set_cons_zero, List.set_cons_succ, List.getElem_toArray, List.getElem_cons_zero, List.getElem_cons_succ]
          refine wpAnyH_take (i := 15) (v := ?_) rfl (by kernel_rfl) (by kernel_rfl) (by kernel_rfl) (fun _ _ _ h => h) (Or.inl ⟨by rfl, ?_⟩) hS ?_
          rotate_left
          · intro W' hS'
            go_simp
            rfl
          try simp only [Act.put, List.setIfInBounds_toArray, List.set_cons_zero, List.set_cons_succ, List.getElem_toArray, List.getElem_cons_zero, List.getElem_cons_succ]
          refine wpAnyH_take (i := 16) (v := ?_) rfl (by kernel_rfl) (by kernel_rfl) (by kernel_rfl) (fun _ _ _ h => h) (Or.inl ⟨by rfl, ?_⟩) hS ?_
          rotate_left
          · intro W' hS'
            go_simp
            rfl
          try simp only [Act.put, List.setIfInBounds_toArray, List.set_cons_zero, List.set_cons_succ, List.getElem_toArray, List.getElem_cons_zero, List.getElem_cons_succ]
          refine wpAnyH_take (i := 17) (v := ?_) rfl (by kernel_rfl) (by kernel_rfl) (by kernel_rfl) (fun _ _ _ h => h) (Or.inl ⟨by rfl, ?_⟩) hS ?_
          rotate_left
          · intro W' hS'
            go_simp
            rfl
          try simp only [Act.put, List.setIfInBounds_toArray, List.set_cons_zero, List.set_cons_succ, List.getElem_toArray, List.getElem_cons_zero, List.getElem_cons_succ]
          refine wpAnyH_done (by kernel_rfl) ?_ _
          go_wp2_with fail
          go_meet
          case rel => exact ⟨gu, gb, rfl, rfl, HZ⟩
        · go_simp
          refine hK.out _ _ (hS.alloc hS.size (.cells #[] 45)) (fun hS => ?_)
          try simp only [Act.put, List.setIfInBounds_toArray, List.set_cons_zero, List.set_cons_succ, List.getElem_toArray, List.getElem_cons_zero, List.getElem_cons_succ]
          clear hK
          refine wpAnyH_ready (rs := [8]) (by kernel_rfl) (by simp) (AllReadyH.cons rfl (fun K hK => ?_) (AllReadyH.nil))
          refine step_copyN rfl _ _ rfl el_int2 _ rfl (i64s ks) rfl (HFX.out _ hS).2.2.1 (fun u hu => by obtain ⟨q, -, rfl⟩ := List.mem_map.1 hu; rfl) (by omega) (by decide) ?_
          intro A8 c8 w8 hr8 hb8
          have hS8 : Below wr.heap.size wr w8 := hS.trans (hb8.mono hS.size)
          have HQ8 := Lib.hid (fun W (hw : Below w8.heap.size w8 W) => (hr8.below hw).more hw.size)
          have HS8 := Lib.hid hS8
          clear hr8 hb8
          refine hK.out _ _ hS8 (fun hS => ?_)
          try simp only [Act.put, List.setIfInBounds_toArray, List.set_cons_zero, List.set_cons_succ, List.getElem_toArray, List.getElem_cons_zero, List.getElem_cons_succ]
          clear hK hS8
          have HB8 : Hid (Below w8.heap.size w8 w8) := Lib.hid (Below.refl _ _)
          refine wpAnyH_ready (rs := [11]) (by kernel_rfl) (by simp) (AllReadyH.cons rfl (fun K hK => ?_) (AllReadyH.nil))
          refine step_copyN rfl _ _ rfl el_cn _ rfl (cnsCells xs) rfl (HFX.out _ hS).2.2.2 (cnsCells_one xs) (by omega) (by decide) ?_
          intro A11 c11 w11 hr11 hb11
          have hS11 : Below wr.heap.size wr w11 := hS.trans (hb11.mono hS.size)
          have HQ11 := Lib.hid hr11
          have HQB := Lib.hid hb11
          clear hr11 hb11
          refine hK.out _ _ hS11 (fun hS => ?_)
          try simp only [Act.put, List.setIfInBounds_toArray, List.set_cons_zero, List.set_cons_succ, List.getElem_toArray, List.getElem_cons_zero, List.getElem_cons_succ]
          clear hK hS11
          refine wpAnyH_ready (rs := [12]) (by kernel_rfl) (by simp) (AllReadyH.cons rfl (fun K hK => ?_) (AllReadyH.nil))
          go_simp
          refine (HA.out _ _ _ _ _ (HFX.out _ hS).2.1 (HQ8.out _ (HB8.out.trans HQB.out)) HQ11.out).mono ?_
          rintro e w12 ⟨⟨gu, gb, rfl, hu, hbo⟩, hbb⟩
          have hS12 : Below wr.heap.size wr w12 := hS.trans (hbb.mono hS.size)
          have HZ := Lib.hid (And.intro hu (And.intro hbo hS12))
          clear hu hbo hbb
          refine hK.out _ _ hS12 (fun hS => ?_)
          try simp only [Act.put, List.setIfInBounds_toArray, List.set_cons_zero, List.set_cons_succ, List.getElem_toArray, List.getElem_cons_zero, List.getElem_cons_succ]
          clear hK hS12
          refine wpAnyH_take (i := 13) (v := ?_) rfl (by kernel_rfl) (by kernel_rfl) (by kernel_rfl) (fun _ _ _ h => h) (Or.inl ⟨by rfl, ?_⟩) hS ?_
          rotate_left
          · intro W' hS'
            go_simp
            rfl
          try simp only [Act.put, List.setIfInBounds_toArray, List.set_cons_zero, List.set_cons_succ, List.getElem_toArray, List.getElem_cons_zero, List.getElem_cons_succ]
          refine wpAnyH_take (i := 14) (v := ?_) rfl (by kernel_rfl) (by kernel_rfl) (by kernel_rfl) (fun _ _ _ h => h) (Or.inl ⟨by rfl, ?_⟩) hS ?_
          rotate_left
          · intro W' hS'
            go_simp
            rfl
          try simp only [Act.put, List.setIfInBounds_toArray, List.set_cons_zero, List.set_cons_succ, List.getElem_toArray, List.getElem_cons_zero, List.getElem_cons_succ]
          refine wpAnyH_take (i := 15) (v := ?_) rfl (by kernel_rfl) (by kernel_rfl) (by kernel_rfl) (fun _ _ _ h => h) (Or.inl ⟨by rfl, ?_⟩) hS ?_
          rotate_left
          · intro W' hS'
            go_simp
            rfl
          try simp only [Act.put, List.setIfInBounds_toArray, List.set_cons_zero, List.set_cons_succ, List.getElem_toArray, List.getElem_cons_zero, List.getElem_cons_succ]
          refine wpAnyH_take (i := 16) (v := ?_) rfl (by kernel_rfl) (by kernel_rfl) (by kernel_rfl) (fun _ _ _ h => h) (Or.inl ⟨by rfl, ?_⟩) hS ?_
          rotate_left
          · intro W' hS'
            go_simp
            rfl
          try simp only [Act.put, List.setIfInBounds_toArray, List.set_cons_zero, List.set_cons_succ, List.getElem_toArray, List.getElem_cons_zero, List.getElem_cons_succ]
          refine wpAnyH_take (i := 17) (v := ?_) rfl (by kernel_rfl) (by kernel_rfl) (by kernel_rfl) (fun _ _ _ h => h) (Or.inl ⟨by rfl, ?_⟩) hS ?_
          rotate_left
          · intro W' hS'
            go_simp
            rfl
          try simp only [Act.put, List.setIfInBounds_toArray, List.set_cons_zero, List.set_cons_succ, List.getElem_toArray, List.getElem_cons_zero, List.getElem_cons_succ]
          refine wpAnyH_done (by kernel_rfl) ?_ _
          go_wp2_with fail
          go_meet
          case rel => exact ⟨gu, gb, rfl, rfl, HZ⟩
      · go_simp
        refine hK.out _ _ (hS.alloc hS.size (.cells #[] 45)) (fun hS => ?_)
        try simp only [Act.put, List.setIfInBounds_toArray, List.set_cons_zero, List.set_cons_succ, List.getElem_toArray, List.getElem_cons_zero, List.getElem_cons_succ]
        clear hK
        refine wpAnyH_ready (rs := [3]) (by kernel_rfl) (by simp) (AllReadyH.cons rfl (fun K hK => ?_) (AllReadyH.nil))
        go_simp
        refine hK.out _ _ (hS.alloc hS.size (.cells #[] 3)) (fun hS => ?_)
        try simp only [Act.put, List.setIfInBounds_toArray, List.set_cons_zero, List.set_cons_succ, List.getElem_toArray, List.getElem_cons_zero, List.getElem_cons_succ]
        clear hK
        refine wpAnyH_ready (rs := [8]) (by kernel_rfl) (by simp) (AllReadyH.cons rfl (fun K hK => ?_) (AllReadyH.nil))
        refine step_copyN rfl _ _ rfl el_int2 _ rfl (i64s ks) rfl (HFX.out _ hS).2.2.1 (fun u hu => by obtain ⟨q, -, rfl⟩ := List.mem_map.1 hu; rfl) (by omega) (by decide) ?_
        intro A8 c8 w8 hr8 hb8
        have hS8 : Below wr.heap.size wr w8 := hS.trans (hb8.mono hS.size)
        have HQ8 := Lib.hid (fun W (hw : Below w8.heap.size w8 W) => (hr8.below hw).more hw.size)
        have HS8 := Lib.hid hS8
        clear hr8 hb8
        refine hK.out _ _ hS8 (fun hS => ?_)
        try simp only [Act.put, List.setIfInBounds_toArray, List.set_cons_zero, List.set_cons_succ, List.getElem_toArray, List.getElem_cons_zero, List.getElem_cons_succ]
        clear hK hS8
        have HB8 : Hid (Below w8.heap.size w8 w8) := Lib.hid (Below.refl _ _)
        refine wpAnyH_ready (rs := [11]) (by kernel_rfl) (by simp) (AllReadyH.cons rfl (fun K hK => ?_) (AllReadyH.nil))
        refine step_copyN rfl _ _ rfl el_cn _ rfl (cnsCells xs) rfl (HFX.out _ hS).2.2.2 (cnsCells_one xs) (by omega) (by decide) ?_
        intro A11 c11 w11 hr11 hb11
        have hS11 : Below wr.heap.size wr w11 := hS.trans (hb11.mono hS.size)
        have HQ11 := Lib.hid hr11
        have HQB := Lib.hid hb11
        clear hr11 hb11
        refine hK.out _ _ hS11 (fun hS => ?_)
        try simp only [Act.put, List.setIfInBounds_toArray, List.set_cons_zero, List.set_cons_succ, List.getElem_toArray, List.getElem_cons_zero, List.getElem_cons_succ]
        clear hK hS11
        refine wpAnyH_ready (rs := [12]) (by kernel_rfl) (by simp) (AllReadyH.cons rfl (fun K hK => ?_) (AllReadyH.nil))
        go_simp
        refine (HA.out _ _ _ _ _ (HFX.out _ hS).2.1 (HQ8.out _ (HB8.out.trans HQB.out)) HQ11.out).mono ?_
        rintro e w12 ⟨⟨gu, gb, rfl, hu, hbo⟩, hbb⟩
        have hS12 : Below wr.heap.size wr w12 := hS.trans (hbb.mono hS.size)
        have HZ := Lib.hid (And.intro hu (And.intro hbo hS12))
        clear hu hbo hbb
        refine hK.out _ _ hS12 (fun hS => ?_)
        try simp only [Act.put, List.setIfInBounds_toArray, List.set_cons_zero, List.set_cons_succ, List.getElem_toArray, List.getElem_cons_zero, List.getElem_cons_succ]
        clear hK hS12
        refine wpAnyH_take (i := 13) (v := ?_) rfl (by kernel_rfl) (by kernel_rfl) (by kernel_rfl) (fun _ _ _ h => h) (Or.inl ⟨by rfl, ?_⟩) hS ?_
        rotate_left
        · intro W' hS'
          go_simp
          rfl
        try simp only [Act.put, List.setIfInBounds_toArray, List.set_cons_zero, List.set_cons_succ, List.getElem_toArray, List.getElem_cons_zero, List.getElem_cons_succ]
        refine wpAnyH_take (i := 14) (v := ?_) rfl (by kernel_rfl) (by kernel_rfl) (by kernel_rfl) (fun _ _ _ h => h) (Or.inl ⟨by rfl, ?_⟩) hS ?_
        rotate_left
        · intro W' hS'
          go_simp
          rfl
        try simp only [Act.put, List.setIfInBounds_toArray, List.set_cons_zero, List.set_cons_succ, List.getElem_toArray, List.getElem_cons_zero, List.getElem_cons_succ]
        refine wpAnyH_take (i := 15) (v := ?_) rfl (by kernel_rfl) (by kernel_rfl) (by kernel_rfl) (fun _ _ _ h => h) (Or.inl ⟨by rfl, ?_⟩) hS ?_
        rotate_left
        · intro W' hS'
          go_simp
          rfl
        try simp only [Act.put, List.setIfInBounds_toArray, List.set_cons_zero, List.set_cons_succ, List.getElem_toArray, List.getElem_cons_zero, List.getElem_cons_succ]
        refine wpAnyH_take (i := 16) (v := ?_) rfl (by kernel_rfl) (by kernel_rfl) (by kernel_rfl) (fun _ _ _ h => h) (Or.inl ⟨by rfl, ?_⟩) hS ?_
        rotate_left
        · intro W' hS'
          go_simp
          rfl
        try simp only [Act.put, List.setIfInBounds_toArray, List.set_cons_zero, List.set_cons_succ, List.getElem_toArray, List.getElem_cons_zero, List.getElem_cons_succ]
        refine wpAnyH_take (i := 17) (v := ?_) rfl (by kernel_rfl) (by kernel_rfl) (by kernel_rfl) (fun _ _ _ h => h) (Or.inl ⟨by rfl, ?_⟩) hS ?_
        rotate_left
        · intro W' hS'
          go_simp
          rfl
        try simp only [Act.put, List.setIfInBounds_toArray, List.set_cons_zero, List.set_cons_succ, List.getElem_toArray, List.getElem_cons_zero, List.getElem_cons_succ]
        refine wpAnyH_done (by kernel_rfl) ?_ _
        go_wp2_with fail
        go_meet
        case rel => exact ⟨gu, gb, rfl, rfl, HZ⟩
    case rest => as_aux_lemma =>
    obtain ⟨gu, gb, rfl, rfl, H13⟩ := hcut
    obtain ⟨w13, hw13⟩ : ∃ w13, w13 = wc := ⟨_, rfl⟩
    rw [← hw13] at H13 ⊢
    clear hw13
    go_upto_region 13 with (fail)
    have E0 : Below wr.heap.size wr w13.drew := H13.out.2.2.drew
    refine wp_region_held_drew (S := fun W => Below wr.heap.size wr W ∧ Below w13.heap.size w13 W) (by kernel_rfl) ⟨E0, (Below.refl _ _).drew⟩ (fun hS => ?_)
    refine wpAnyH_pre (j := 0) (by kernel_rfl) ?_
    iterate 8
      refine wpAnyH_nx (v := ?_) rfl (by kernel_rfl) (by kernel_rfl) (by kernel_rfl) (fun _ _ _ h => h) (Or.inl ⟨by rfl, ?_⟩) hS ?_
      rotate_left
      · intro W' hS'
        obtain ⟨⟨⟨t0, t1, t2⟩, ⟨v0, v1, v2⟩, f1⟩, -, -, -⟩ := HFX.out W' hS'.1; go_simp
        rfl
      try simp only [Act.put, List.setIfInBounds_toArray, List.set_cons_zero, List.set_cons_succ, List.getElem_toArray, List.getElem_cons_zero, List.getElem_cons_succ]
    refine wpAnyH_ready (rs := [8]) (by kernel_rfl) (by simp) (AllReadyH.cons rfl (fun K hK => ?_) AllReadyH.nil)
    go_simp
    refine (HB.out _ _ _ _ _ (HFX.out _ hS.1).2.1 (HFX.out _ hS.1).2.2.1 (HFX.out _ hS.1).2.2.2).mono ?_
    rintro e w14 ⟨⟨Au, cu, Ab, cb, rfl, hu, hbo⟩, hbb⟩
    have hS14 : Below w13.heap.size w13 w14 := hS.2.trans (hbb.mono hS.2.size)
    have hS15 : Below wr.heap.size wr w14 := hS.1.trans (hbb.mono hS.1.size)
    have HZ := Lib.hid (And.intro (H13.out.1.below hS14 H13.out.1.lt) (And.intro (H13.out.2.1.below hS14 H13.out.2.1.lt) (And.intro hu (And.intro hbo hS15))))
    clear hu hbo hbb
    refine hK.out _ _ ⟨hS15, hS14⟩ (fun hS => ?_)
    try simp only [Act.put, List.setIfInBounds_toArray, List.set_cons_zero, List.set_cons_succ, List.getElem_toArray, List.getElem_cons_zero, List.getElem_cons_succ]
    clear hK
    clear hS14 hS15
    refine wpAnyH_pre (j := 9) (by kernel_rfl) ?_
    iterate 5
      refine wpAnyH_nx (v := ?_) rfl (by kernel_rfl) (by kernel_rfl) (by kernel_rfl) (fun _ _ _ h => h) (Or.inl ⟨by rfl, ?_⟩) hS ?_
      rotate_left
      · intro W' hS'
        go_simp
        rfl
      try simp only [Act.put, List.setIfInBounds_toArray, List.set_cons_zero, List.set_cons_succ, List.getElem_toArray, List.getElem_cons_zero, List.getElem_cons_succ]
    refine wpAnyH_done (by kernel_rfl) ?_ _
    have H14 : Hid (Blk w14 gu 27 (triC pU p).toArray ∧ Blk w14 gb 4 (booC pB p).toArray ∧ Reads w14 w14.heap.size 3 Au p (triC pU p) ∧ Reads w14 w14.heap.size 1 Ab p (booC pB p) ∧ Below wr.heap.size wr w14) := Lib.hid (HZ.out)
    clear HZ hS E0 H13 HA HB HFX
    go_upto_region 16 with (fail)
    as_aux_lemma =>
    go_wp2_with fail
    obtain ⟨wx, rfl⟩ : ∃ wx, wx = wr := ⟨_, rfl⟩
    go_loopw [18] (fun kv wr => ∃ k : Nat, k ≤ p ∧ kv = .int .i64 k ∧ Hid (Below w14.heap.size w14 wr)) (fun kv _ => p - (intOf kv).toNat)
    case atStart => exact ⟨0, by omega, rfl, Lib.hid (Below.refl _ _)⟩
    case round =>
      obtain ⟨k, hk, rfl, HJ2⟩ := hrel
      by_cases hl2 : k < p
      rotate_left
      · as_aux_lemma =>
        have q0 : decide ((k : Int) < (p : Int)) = false := decide_eq_false (by omega)
        have q0' : decide (k < p) = false := decide_eq_false hl2
        go_wp2_with fail
        go_roundw
        case rel => exact ⟨i + 1, by omega, by go_num, Lib.hid (HJ.out.trans ((H14.out.2.2.2.2.trans (HJ2.out.mono H14.out.2.2.2.2.size)).mono HJ.out.size))⟩
        case measure => simp [intOf] <;> omega
      as_aux_lemma =>
      have q0 : decide ((k : Int) < (p : Int)) = true := decide_eq_true (by omega)
      have q0' : decide (k < p) = true := decide_eq_true hl2
      have hki : (k : Int) < (p : Int) := by omega
      have hk0 : (0 : Int) ≤ (k : Int) := by omega
      have wk : IntKind.i64.wrap ((k : Int) + 1) = (k : Int) + 1 := IntWalk.i64_in _ ⟨by omega, by omega⟩
      obtain ⟨t1, ht1⟩ : ∃ t, t = (pU k).1 := ⟨_, rfl⟩
      obtain ⟨t2, ht2⟩ : ∃ t, t = (pU k).2.1 := ⟨_, rfl⟩
      obtain ⟨t3, ht3⟩ : ∃ t, t = (pU k).2.2 := ⟨_, rfl⟩
      obtain ⟨bb, hbb⟩ : ∃ t, t = pB k := ⟨_, rfl⟩
      have x0 : wr.cell? ⟨gu, k * 3, none⟩ = some (.int .i64 t1) := by rw [ht1]; exact (H14.out.1.below HJ2.out H14.out.1.lt).get (k * 3) (triC_g0 _ hl2)
      have x1 : wr.cell? ⟨gu, k * 3 + 1, none⟩ = some (.int .i64 t2) := by rw [ht2]; exact (H14.out.1.below HJ2.out H14.out.1.lt).get (k * 3 + 1) (triC_g1 _ hl2)
      have x2 : wr.cell? ⟨gu, k * 3 + 2, none⟩ = some (.int .i64 t3) := by rw [ht3]; exact (H14.out.1.below HJ2.out H14.out.1.lt).get (k * 3 + 2) (triC_g2 _ hl2)
      have x3 : wr.cell? ⟨gb, k, none⟩ = some (.bool bb) := by rw [hbb]; exact (H14.out.2.1.below HJ2.out H14.out.2.1.lt).get k (by rw [List.getElem?_toArray]; exact booC_at _ hl2)
      obtain ⟨au, rfl, y0, y1, y2⟩ := (H14.out.2.2.1.below HJ2.out).triP hl2
      obtain ⟨ax, z3, rfl, _, hx3, y3⟩ := (H14.out.2.2.2.1.below HJ2.out).at_ hl2
      have e3 : z3 = .bool bb := by rw [hbb]; simpa [booC, hl2] using hx3.symm
      subst e3
      rw [← ht1] at y0
      rw [← ht2] at y1
      rw [← ht3] at y2
      clear ht1 ht2 ht3 hbb hx3
      have r1 : (t1 == t1) = true := by simp
      have r2 : (t2 == t2) = true := by simp
      have r3 : (t3 == t3) = true := by simp
      go_upto_region 19 with (fail)
      cases bb
      · go_quiet (fail)
        go_wp2_with fail
        go_roundw
        case rel => exact ⟨k + 1, by omega, by go_num, Lib.hid (below_dr HJ2.out _)⟩
        case measure => simp [intOf] <;> omega
      · go_quiet (fail)
        go_wp2_with fail
        go_roundw
        case rel => exact ⟨k + 1, by omega, by go_num, Lib.hid (below_dr HJ2.out _)⟩
        case measure => simp [intOf] <;> omega
end Go.Proofs.Ytbopeofglhkffaa
