/- The law AssignSums, walked. -/
import Derived.Test.YtbopeofglhkffaaAsh
import Derived.Test.YtbopeofglhkffaaWs
set_option linter.unusedSimpArgs false
set_option linter.unusedVariables false
namespace Go.Proofs.Ytbopeofglhkffaa
open Go.RowKit
attribute [local go_sem] block_of_add eqU3s guardU3s
attribute [local go_sem high] run_max3
set_option maxRecDepth 100000 in
set_option maxHeartbeats 20000000 in
theorem assignSums_any (l : List Nd) (adv : List Int) (A A2 : Option Addr) (c c2 : Nat) (view : Int) (w : World) (ht : TrI w A A2 l adv) :
    Calls Try.prog 4 #[.agg #[.slice A l.length c, .slice A2 adv.length c2, .int .i64 view]] w fun e w' => e = .returned (.bool true) ∧ Below w.heap.size w w' := by
  have HT := Lib.hid ht
  have HSM := Lib.hid (fun W (hb : Below w.heap.size w W) => small_any l adv A A2 c c2 view W ((ht.nd.below hb).more hb.size) ((ht.ad.below hb).more hb.size) (fun x hx => by obtain ⟨Au, cu, h1, _⟩ := ht.un x hx; exact ⟨Au, cu, h1⟩))
  have HKA := Lib.hid (fun (hn : l.length ≤ 65536) W (hb : Below w.heap.size w W) => kids_any l A A2 c adv.length c2 view W hn ((ht.nd.below hb).more hb.size))
  have HUP := Lib.hid (fun (hok : SmallOk l adv view) W (hb : Below w.heap.size w W) => up_any l adv A A2 c c2 view W (((ht.trhS hok).below hb).more hb.size) (fun i h => (hok.ok.nd i h).sty.b) (by have := hok.u; omega) hok.ok.n.1)
  clear ht
  obtain ⟨n, hne⟩ : ∃ n, n = l.length := ⟨_, rfl⟩
  rw [← hne] at HSM HKA HUP ⊢
  have HN := Lib.hid hne
  clear hne
  obtain ⟨ma, hme⟩ : ∃ ma, ma = adv.length := ⟨_, rfl⟩
  rw [← hme] at HSM HKA HUP ⊢
  clear hme
  go_enter Try.func4, Try.ntmps4
  go_upto_region 1 with (fail)
  obtain ⟨gT, hgT⟩ : ∃ gT, gT = w.heap.size := ⟨_, rfl⟩
  obtain ⟨w2, hw2⟩ : ∃ w2, w2 = w.alloc (.cells #[.slice A n c, .slice A2 ma c2, .int .i64 view] 25) := ⟨_, rfl⟩
  have H2 : Hid (Blk w2 gT 25 #[.slice A n c, .slice A2 ma c2, .int .i64 view] ∧ Below w.heap.size w w2) := Lib.hid (by rw [hw2]; exact ⟨Blk.at_ _ _ _ hgT, balW (Below.refl _ _) _⟩)
  rw [← hw2, ← hgT]
  clear hw2 hgT
  have HBX : Hid (∀ W, Below w2.heap.size w2 W → W.cell? ⟨gT, 0, none⟩ = some (.slice A n c) ∧ W.cell? ⟨gT, 1, none⟩ = some (.slice A2 ma c2) ∧ W.cell? ⟨gT, 2, none⟩ = some (.int .i64 view)) := Lib.hid (fun W hb => by
    have h1 := H2.out.1.below hb H2.out.1.lt
    exact ⟨h1.get 0 rfl, h1.get 1 rfl, h1.get 2 rfl⟩)
  have HB2 := Lib.hid H2.out.2
  clear H2
  obtain ⟨t0, t1, t2⟩ := HBX.out w2 (Below.refl _ _)
  go_wp2_with fail
  refine (HSM.out w2 HB2.out).mono ?_
  rintro e w3 ⟨⟨b, rfl, hb⟩, hw3⟩
  have HS := Lib.hid hb
  have HB3 := Lib.hid (show Below w2.heap.size w2 w3 from hw3)
  have HBJ := Lib.hid (HB2.out.trans (HB3.out.mono HB2.out.size))
  clear hb hw3 t0 t1 t2 HSM
  cases b
  · go_wp2_with (go_at_call 7; refine (works21_any _).mono ?_; rintro e w9 ⟨rfl, hb9⟩; have HB9 := Lib.hid (HBJ.out.trans (hb9.mono HBJ.out.size)); clear hb9)
    go_ret
    exact ⟨rfl, HB9.out⟩
  have HOK := Lib.hid (HS.out (by simp))
  clear HS
  obtain ⟨t0, t1, t2⟩ := HBX.out w3 HB3.out
  have hn3 : n ≤ 300 := by rw [HN.out]; exact HOK.out.n
  have hn0 : 0 < n := by rw [HN.out]; exact HOK.out.ok.n.1
  go_upto_region 4 with (go_at_call 10; refine (HKA.out (by omega) w3 HBJ.out).mono ?_; rintro e w4 ⟨⟨ga, rfl, hka⟩, hb5⟩; rw [← HN.out]; have H4 := Lib.hid (And.intro hka (show Below w2.heap.size w2 w4 from HB3.out.trans (hb5.mono HB3.out.size))); clear hka hb5)
  clear t0 t1 t2 HKA HB3 HBJ
  have HBJ := Lib.hid (HB2.out.trans (H4.out.2.mono HB2.out.size))
  obtain ⟨t0, t1, t2⟩ := HBX.out w4 H4.out.2
  go_upto_region 5 with (go_at_call 13; refine (HUP.out HOK.out w4 HBJ.out).mono ?_; rintro e w5 ⟨⟨go, gy, out, bey, rfl, ho, hy, hk⟩, hw2⟩; rw [← HN.out]; have H5 := Lib.hid (And.intro ho (And.intro hk (show Below w4.heap.size w4 w5 from hw2))); clear ho hy hk hw2)
  clear t0 t1 t2 HUP HBJ
  as_aux_lemma =>
  have HB5 := Lib.hid (H4.out.2.trans (H5.out.2.2.mono H4.out.2.size))
  have HBW5 := Lib.hid (HB2.out.trans (HB5.out.mono HB2.out.size))
  have HKA5 := Lib.hid ((H4.out.1.below H5.out.2.2).more H5.out.2.2.size)
  have HADV : Hid (∀ x ∈ adv, 0 ≤ x) := Lib.hid (fun x hx => by
    obtain ⟨k, hk, rfl⟩ := List.mem_iff_getElem.1 hx
    exact (HOK.out.ok.a k hk).1)
  have HCN : Hid (∀ i, i < l.length → (0 ≤ (cAt out i).least ∧ (cAt out i).least ≤ 1099511627776) ∧ 0 ≤ (cAt out i).greatest ∧ (cAt out i).greatest ≤ 1099511627776) := Lib.hid (fun i h => by
    have h := up_ok H5.out.2.1 HADV.out (fun i h => (HOK.out.ok.nd i h).sty.b) l.length i (by omega) h
    obtain ⟨h1, h2, h3, _⟩ := h
    omega)
  have HOL : Hid (out.length = l.length) := Lib.hid H5.out.2.1.lo
  have HOB := Lib.hid H5.out.1
  clear H5 HADV
  have HBY : Hid (∀ W, Below w5.heap.size w5 W → W.cell? ⟨gT, 0, none⟩ = some (.slice A n c) ∧ W.cell? ⟨gT, 1, none⟩ = some (.slice A2 ma c2) ∧ W.cell? ⟨gT, 2, none⟩ = some (.int .i64 view)) := Lib.hid (fun W hb => HBX.out W (HB5.out.trans (hb.mono HB5.out.size)))
  have HRE : Hid (∀ W, Below w5.heap.size w5 W → Reads W W.heap.size 44 A n (ndsCells l)) := Lib.hid (fun W hb => by
    have h := HBW5.out.trans (hb.mono HBW5.out.size)
    rw [HN.out]
    exact (HT.out.nd.below h).more h.size)
  have HUV : Hid (∀ x ∈ l, ∃ Au nu cu, x.s.uv = .slice Au nu cu) := Lib.hid (fun x hx => by obtain ⟨Au, cu, e, _⟩ := HT.out.un x hx; exact ⟨Au, _, cu, e⟩)
  have hl0 : 0 < l.length := by rw [← HN.out]; exact hn0
  obtain ⟨ad, hA, -⟩ := (HRE.out w5 (Below.refl _ _)).nd HN.out hl0
  subst hA
  have HF1 := Lib.hid (fun W (hb : Below w5.heap.size w5 W) => afirst_any l hl0 (by rw [← HN.out]; omega) (some ad) A2 c ma c2 view W (by rw [← HN.out]; exact HRE.out W hb) (lim_w2 (HOK.out.ok.nd 0 hl0).sty) ⟨HOK.out.ok.v⟩)
  rw [← HN.out] at HF1
  have HFP : Hid (0 ≤ cutF (flowN l[0].s view).1 ∧ cutF (flowN l[0].s view).1 ≤ 1099511627776) := Lib.hid ⟨cutF_posK (flowN_pos _ _), (cutF_bdK _).2⟩
  obtain ⟨a1, a2, a3, ab, hA, ha1⟩ : ∃ a1 a2 a3 ab, usedV (flowN l[0].s view) = .tuple #[.agg #[.int .i64 a1, .int .i64 a2, .int .i64 a3], .bool ab] ∧ cutF (flowN l[0].s view).1 = a1 := ⟨_, _, _, _, rfl, rfl⟩
  rw [hA] at HF1
  rw [ha1] at HFP
  clear hA hl0 ha1
  have HKX : Hid (∀ p, p < n → ∃ Ar cr, (kidsF l p).length ≤ cr ∧ ∀ W, Below w5.heap.size w5 W → W.cell? ⟨ga, p, none⟩ = some (.slice Ar (kidsF l p).length cr) ∧ Reads W W.heap.size 1 Ar (kidsF l p).length (i64s (kidsF l p))) := Lib.hid (fun p hp => by
    obtain ⟨Ar, cr, h1, h2, h3, _⟩ := HKA5.out.at_ p (by rw [← HN.out]; exact hp)
    exact ⟨Ar, cr, h2, fun W hb => ⟨(hb.cell (p := ⟨ga, p, none⟩) HKA5.out.lt).trans h1, (h3.below hb).more hb.size⟩⟩)
  have HKL : Hid (∀ p, (kidsF l p).length ≤ n) := Lib.hid (fun p => by rw [HN.out]; exact kidsF_len l p)
  have HCO : Hid (∀ W, Below w5.heap.size w5 W → ∀ q x, q < n → x = cAt out q → W.cell? ⟨go, q * 4, none⟩ = some (.int .i64 x.least) ∧ W.cell? ⟨go, q * 4 + 1, none⟩ = some (.int .i64 x.greatest) ∧ W.cell? ⟨go, q * 4 + 2, none⟩ = some (.int .i64 x.ol) ∧ W.cell? ⟨go, q * 4 + 3, none⟩ = some (.int .i64 x.og)) := Lib.hid (fun W hb q x hq hx => by
    have h := HOB.out.below hb HOB.out.lt
    have hqo : q < out.length := by rw [HOL.out, ← HN.out]; exact hq
    have hoc : ∀ t v, t < 4 → (cnCells x)[t]? = some v → (cnsCells out).toArray[q * 4 + t]? = some v := fun t v ht hv => by
      have := cnsCells_at out q t hqo ht
      have e : out[q] = x := by rw [hx]; unfold cAt; rw [Int.toNat_natCast, List.getElem?_eq_getElem hqo]; rfl
      rw [e] at this
      rw [List.getElem?_toArray, this]; exact hv
    exact ⟨h.get (q * 4) (hoc 0 _ (by omega) rfl), h.get (q * 4 + 1) (hoc 1 _ (by omega) rfl), h.get (q * 4 + 2) (hoc 2 _ (by omega) rfl), h.get (q * 4 + 3) (hoc 3 _ (by omega) rfl)⟩)
  have HSU : Hid (∀ (i : Nat) (hi : i < l.length) (p : Nat) (ks : List Int), ks = kidsF l i → p = ks.length → ∀ (xs : List Cn), xs = ks.map (cAt out) → ∀ uw ul ur, CB uw → ∃ (pU : Nat → Int × Int × Int) (pB : Nat → Bool),
      (∀ (W : World) (Ak Ag : Option Addr) (ck cg : Nat), Reads W W.heap.size 44 (some ad) n (ndsCells l) → Reads W W.heap.size 1 Ak p (i64s ks) → Reads W W.heap.size 4 Ag p (cnsCells xs) →
        Calls Try.prog 11 #[.agg #[.slice (some ad) n c, .slice A2 ma c2, .int .i64 view], .int .i64 (i : Int), .agg #[.int .i64 uw, .int .i64 ul, .int .i64 ur], .slice Ak p ck, .slice Ag p cg] W fun e w' => KG p pU pB W w' e) ∧
      ∀ k, k < p → KidG (sD l (ksAt ks k)) l[i].s.kind uw (gAt xs k).least (pU k) (pB k) ∧ (l[i].s.kind = 2 → (sD l (ksAt ks k)).float = 0)) := Lib.hid (fun i hi p ks h1 h2 xs h3 uw ul ur hc =>
    sums21 l adv view HOK.out HUV.out i hi p ks h1 h2 xs (by rw [h3, List.length_map, h2]) (fun x hx => by
      rw [h3] at hx
      obtain ⟨k, hk, rfl⟩ := List.mem_map.1 hx
      rw [h1] at hk
      obtain ⟨q, hq, rfl, _⟩ := kid_of hk
      exact HCN.out q hq) n HN.out uw ul ur hc (some ad) A2 c ma c2 view)
  have HRG : Hid (∀ (i : Nat) (hi : i < l.length), StyR l[i].s ∧ (∃ Au nu cu, l[i].s.uv = .slice Au nu cu)) := Lib.hid (fun i hi => ⟨(HOK.out.ok.nd i hi).sty, HUV.out _ (List.getElem_mem hi)⟩)
  clear HBX H4 HKA5 HT HB2 HB5 HCN HOK HUV HOB
  have hmk1 := fun W => make_useds n (by omega) W
  have hmk2 := fun W => make_bools n (by omega) W
  obtain ⟨t0, t1, t2⟩ := HBY.out w5 (Below.refl _ _)
  have hgT5 : gT < w5.heap.size := World.block_lt_of_cell? w5 ⟨gT, 0, none⟩ t0
  go_upto_region 7 with (fail)
  clear hmk1 hmk2 t0 t1 t2 hgT5
  obtain ⟨gu, hgu⟩ : ∃ gu, gu = w5.heap.size := ⟨_, rfl⟩
  obtain ⟨gb, hgb⟩ : ∃ gb, gb = w5.heap.size + 1 := ⟨_, rfl⟩
  obtain ⟨w6, hw6⟩ : ∃ w6, w6 = ((w5.alloc (.cells (triC (fun _ => (0, 0, 0)) n).toArray 27)).alloc (.cells (booC (fun _ => false) n).toArray 4)) := ⟨_, rfl⟩
  have H6 : Hid (SmI w5 gu gb n (fun _ => (0, 0, 0)) (fun _ => false) w6) := Lib.hid (by
    rw [hw6]
    exact ⟨(Blk.at_ _ _ _ hgu).alloc _, Blk.at_ _ _ _ (by rw [hgb]; simp), balW (balW (Below.refl _ _) _) _, by omega, by omega⟩)
  rw [← hw6]
  try rw [← hgb]
  rw [← hgu]
  try rw [show gu + 1 = gb by omega]
  clear hw6 hgu hgb
  obtain ⟨t0, t1, t2⟩ := HBY.out w6 H6.out.l
  have hn0i : (0 : Int) < (n : Int) := by omega
  go_upto_region 8 with (go_at_call 8; refine (HF1.out _ H6.out.l).mono ?_; rintro e w7 ⟨rfl, hb7⟩; have H7 := Lib.hid (H6.out.bel hb7); clear hb7; have z0 := H7.out.u.get (0 * 3) (triC_g0 _ hn0); have z1 := H7.out.u.get (0 * 3 + 1) (triC_g1 _ hn0); have z2 := H7.out.u.get (0 * 3 + 2) (triC_g2 _ hn0); have z3 := H7.out.b.get 0 (by rw [List.getElem?_toArray]; exact booC_at _ hn0); have zf := H7.out.u.frozen; have zg := H7.out.b.frozen; have zn : ¬ gb = gu := H7.out.b.ne_ H7.out.u (by decide); have zm : ¬ gu = gb := fun e => zn e.symm)
  clear t0 t1 t2 z0 z1 z2 z3 zf zg zn zm HF1
  obtain ⟨w8, hw8⟩ : ∃ w8, w8 = ((((w7.setCell ⟨gu, 0, none⟩ (.int .i64 a1)).setCell ⟨gu, 1, none⟩ (.int .i64 a2)).setCell ⟨gu, 2, none⟩ (.int .i64 a3)).setCell ⟨gb, 0, none⟩ (.bool ab)) := ⟨_, rfl⟩
  have H8 : Hid (∃ pu pb, SmI w5 gu gb n pu pb w8 ∧ ∀ q, CB (pu q).1) := Lib.hid (by
    rw [hw8]
    have h := (H7.out.putU hn0 a1 a2 a3).putB hn0 ab
    rw [Nat.zero_mul, Nat.zero_add, Nat.zero_add] at h
    refine ⟨_, _, h, fun q => ?_⟩
    unfold updT
    split
    · exact ⟨HFP.out⟩
    · exact ⟨by show (0 : Int) ≤ 0 ∧ (0 : Int) ≤ 1099511627776; decide⟩)
  rw [← hw8]
  clear hw8 H7 H6 HFP hn0 hn0i
  as_aux_lemma =>
  go_wp2_with fail
  go_loopw [8] (fun iv wr => ∃ i : Nat, i ≤ n ∧ iv = .int .i64 i ∧ Hid (∃ pu pb, SmI w5 gu gb n pu pb wr ∧ ∀ q, CB (pu q).1)) (fun iv _ => n - (intOf iv).toNat)
  case atStart => exact ⟨0, by omega, rfl, H8⟩
  case round =>
    obtain ⟨i, hi, rfl, HJ0⟩ := hrel
    obtain ⟨wi, hwi⟩ : ∃ wi, wi = wr := ⟨_, rfl⟩
    rw [← hwi] at HJ0 ⊢
    clear hwi wr
    obtain ⟨pu, pb, hj, hcb⟩ := HJ0.out
    have HJ := Lib.hid hj
    have HCB := Lib.hid hcb
    clear HJ0 hj hcb H8
    obtain ⟨t0, t1, t2⟩ := HBY.out wi HJ.out.l
    by_cases hlt : i < n
    rotate_left
    · as_aux_lemma =>
      have q0 : decide ((i : Int) < (n : Int)) = false := decide_eq_false (by omega)
      have q0' : decide (i < n) = false := decide_eq_false hlt
      have HBJ := Lib.hid (HBW5.out.trans (HJ.out.l.mono HBW5.out.size))
      go_wp2_with (go_at_call 7; refine (works21_any _).mono ?_; rintro e w9 ⟨rfl, hb9⟩; have HB9 := Lib.hid (HBJ.out.trans (hb9.mono HBJ.out.size)); clear hb9)
      go_ret
      exact ⟨rfl, HB9.out⟩
    as_aux_lemma =>
    have q0 : decide ((i : Int) < (n : Int)) = true := decide_eq_true (by omega)
    have q0' : decide (i < n) = true := decide_eq_true hlt
    have hii : (i : Int) < (n : Int) := by omega
    have hi0 : (0 : Int) ≤ (i : Int) := by omega
    have wi1 : IntKind.i64.wrap ((i : Int) + 1) = (i : Int) + 1 := IntWalk.i64_in _ ⟨by omega, by omega⟩
    have hil : i < l.length := by rw [← HN.out]; exact hlt
    obtain ⟨ks, hks⟩ : ∃ ks, ks = kidsF l i := ⟨_, rfl⟩
    obtain ⟨Ar, cr, hcr, hrow⟩ := HKX.out i hlt
    have hpl := HKL.out i
    rw [← hks] at hcr hrow hpl
    have HRW := Lib.hid hrow
    clear hrow
    obtain ⟨p, hp⟩ : ∃ p, p = ks.length := ⟨_, rfl⟩
    rw [← hp] at hcr HRW hpl
    obtain ⟨xs, hxs⟩ : ∃ xs, xs = ks.map (cAt out) := ⟨_, rfl⟩
    obtain ⟨uw, ul, ur, hpu⟩ : ∃ uw ul ur, pu i = (uw, ul, ur) := ⟨_, _, _, rfl⟩
    have hcu := HCB.out i
    rw [hpu] at hcu
    obtain ⟨pU, pB, hA, hG⟩ := HSU.out i hil p ks hks hp xs hxs uw ul ur hcu
    have HA := Lib.hid hA
    have HG := Lib.hid hG
    have HPK : Hid (p = ks.length) := Lib.hid hp
    have HXS := Lib.hid hxs
    have HPU := Lib.hid hpu
    have HCU := Lib.hid hcu
    have HMEM : Hid (∀ k, (h : k < ks.length) → ∃ q : Nat, ks[k] = q ∧ q < n ∧ i < q) := Lib.hid (fun k h => by
      have hm : ks[k] ∈ kidsF l i := by rw [← hks]; exact List.getElem_mem h
      obtain ⟨q, hq, e, _, _, h5⟩ := kid_of hm
      exact ⟨q, e, by rw [HN.out]; exact hq, h5⟩)
    clear hks hp hA hG hxs hpu hcu HSU HKX HKL
    have HFI : Hid (∀ W, Below wi.heap.size wi W → (W.cell? ⟨gT, 0, none⟩ = some (.slice (some ad) n c) ∧ W.cell? ⟨gT, 1, none⟩ = some (.slice A2 ma c2) ∧ W.cell? ⟨gT, 2, none⟩ = some (.int .i64 view)) ∧ W.cell? ⟨ga, i, none⟩ = some (.slice Ar p cr) ∧ Reads W W.heap.size 1 Ar p (i64s ks)) := Lib.hid (fun W hb => by
      have h := HJ.out.l.trans (hb.mono HJ.out.l.size)
      exact ⟨HBY.out W h, (HRW.out W h).1, (HRW.out W h).2⟩)
    go_wp2_with fail
    clear q0 q0' t0 t1 t2
    go_loopw [9, 10] (fun v9 jv wx => ∃ j : Nat, j ≤ p ∧ jv = .int .i64 j ∧ Hid (Below wi.heap.size wi wx ∧ wx.ownsRow wi.heap.size 45 4 v9 j (cnsCells (xs.take j)))) (fun _ jv _ => p - (intOf jv).toNat)
    case atStart => exact ⟨0, by omega, rfl, Lib.hid ⟨Below.refl _ _, rfl, .inl ⟨rfl, rfl⟩⟩⟩
    case round =>
      obtain ⟨j, hj, rfl, H9⟩ := hrel
      obtain ⟨A9, c9, h9⟩ := own_form H9.out.2
      subst h9
      by_cases hjl : j < p
      · as_aux_lemma =>
        have g0 : decide ((j : Int) < (p : Int)) = true := decide_eq_true (by omega)
        have g0' : decide (j < p) = true := decide_eq_true hjl
        have hwj : IntKind.i64.wrap ((j : Int) + 1) = (j : Int) + 1 := IntWalk.i64_in _ ⟨by omega, by omega⟩
        obtain ⟨-, hk1, hrd⟩ := HFI.out wr H9.out.1
        obtain ⟨adk, u, hAk, hab, hx, hc⟩ := hrd.at_ hjl
        subst hAk
        have hjk : j < ks.length := by rw [← HPK.out]; exact hjl
        obtain ⟨q, hq, hqn, hqi⟩ := HMEM.out j hjk
        have hu : u = .int .i64 (q : Int) := by rw [← hq]; simpa [i64s, hjk] using hx.symm
        subst hu
        have g1 : decide ((q : Int) < (n : Int)) = true := decide_eq_true (by omega)
        have hqi' : (q : Int) < (n : Int) := by omega
        have hjp : (j : Int) < (p : Int) := by omega
        have hj0 : (0 : Int) ≤ (j : Int) := by omega
        have hq0 : (0 : Int) ≤ (q : Int) := by omega
        obtain ⟨x, hxc⟩ : ∃ x, x = cAt out q := ⟨_, rfl⟩
        obtain ⟨k0, k1, k2, k3⟩ := HCO.out wr (HJ.out.l.trans (H9.out.1.mono HJ.out.l.size)) q x hqn hxc
        have HTK : Hid (xs.take (j + 1) = xs.take j ++ [x]) := Lib.hid (by
          have hjx : j < xs.length := by rw [HXS.out, List.length_map]; exact hjk
          rw [List.take_add_one, List.getElem?_eq_getElem hjx]
          have : xs[j] = x := by simp only [HXS.out, List.getElem_map, hq, hxc]
          rw [this]; rfl)
        have hj9 : j + 1 ≤ 4294967296 := by omega
        clear hx hxc hq hqi hrd hjk hab
        go_wp2_with (at_builtin; refine wpList_app (m := 1) rfl _ _ rfl el_cn H9.out.2 H9.out.1.size rfl [_, _, _, _] rfl (by simp) (by simp [Value.oneCell']) hj9 (by omega) ?_; intro A6 c6 w6 hown6 hB6 hg6 hob6; have HO6 := Lib.hid (And.intro (hB6 _ _ (Nat.le_refl _) H9.out.1) hown6); clear hown6 hB6 hg6 hob6)
        go_roundw
        case rel => exact ⟨j + 1, by omega, by go_num, Lib.hid ⟨HO6.out.1, by rw [HTK.out, cnsCells_app]; exact HO6.out.2⟩⟩
        case measure => simp [intOf]; omega
      as_aux_lemma =>
      have g0 : decide ((j : Int) < (p : Int)) = false := decide_eq_false (by omega)
      have g0' : decide (j < p) = false := decide_eq_false hjl
      obtain rfl : j = p := by omega
      have HXT : Hid (xs.take j = xs) := Lib.hid (List.take_of_length_le (by rw [HXS.out, List.length_map, ← HPK.out]; omega))
      rw [HXT.out] at H9
      have hk1 := (HFI.out wr H9.out.1).2.1
      go_upto_region 16 with (fail)
      clear hk1 g0 g0' hj hjl HXT
      obtain ⟨w9, hw9⟩ : ∃ w9, w9 = wr := ⟨_, rfl⟩
      rw [← hw9] at H9 ⊢
      clear hw9 wr
      have HJ9 := Lib.hid (HJ.out.bel H9.out.1)
      have HFX : Hid (∀ W, Below w9.heap.size w9 W → ((W.cell? ⟨gT, 0, none⟩ = some (.slice (some ad) n c) ∧ W.cell? ⟨gT, 1, none⟩ = some (.slice A2 ma c2) ∧ W.cell? ⟨gT, 2, none⟩ = some (.int .i64 view)) ∧ (W.cell? ⟨gu, i * 3, none⟩ = some (.int .i64 uw) ∧ W.cell? ⟨gu, i * 3 + 1, none⟩ = some (.int .i64 ul) ∧ W.cell? ⟨gu, i * 3 + 2, none⟩ = some (.int .i64 ur)) ∧ W.cell? ⟨ga, i, none⟩ = some (.slice Ar j cr)) ∧ Reads W W.heap.size 44 (some ad) n (ndsCells l) ∧ Reads W W.heap.size 1 Ar j (i64s ks) ∧ Reads W W.heap.size 4 A9 j (cnsCells xs)) := Lib.hid (fun W hb => by
        have h := H9.out.1.trans (hb.mono H9.out.1.size)
        have hs := HJ9.out.bel hb
        have x0 := hs.u.get (i * 3) (triC_g0 _ hlt)
        have x1 := hs.u.get (i * 3 + 1) (triC_g1 _ hlt)
        have x2 := hs.u.get (i * 3 + 2) (triC_g2 _ hlt)
        rw [HPU.out] at x0 x1 x2
        exact ⟨⟨(HFI.out W h).1, ⟨x0, x1, x2⟩, (HFI.out W h).2.1⟩, HRE.out W hs.l, (HFI.out W h).2.2, Reads.of_own (own_below H9.out.2 hb)⟩)
      have E0 : Below w9.heap.size w9 w9.drew := (Below.refl _ _).drew
      refine wp_region_held_drew (S := fun W => Below w9.heap.size w9 W) (by kernel_rfl) E0 (fun hS => ?_)
      refine wpAnyH_pre (j := 0) (by kernel_rfl) ?_
      iterate 11
        refine wpAnyH_nx (v := ?_) rfl (by kernel_rfl) (by kernel_rfl) (by kernel_rfl) (fun _ _ _ h => h) (Or.inl ⟨by rfl, ?_⟩) hS ?_
        rotate_left
        · intro W' hS'
          obtain ⟨⟨⟨t0, t1, t2⟩, ⟨v0, v1, v2⟩, f1⟩, -, -, -⟩ := HFX.out W' hS'; go_simp
          rfl
        try simp only [Act.put, List.setIfInBounds_toArray, List.set_cons_zero, List.set_cons_succ, List.getElem_toArray, List.getElem_cons_zero, List.getElem_cons_succ]
      refine wpAnyH_ready (rs := [11]) (by kernel_rfl) (by simp) (AllReadyH.cons rfl (fun K hK => ?_) AllReadyH.nil)
      go_simp
      refine (HA.out _ _ _ _ _ (HFX.out _ hS).2.1 (HFX.out _ hS).2.2.1 (HFX.out _ hS).2.2.2).mono ?_
      rintro e w11 ⟨⟨gq, gr, rfl, hu, hbo, hg1, hg2⟩, hbb⟩
      have hS11 : Below w9.heap.size w9 w11 := hS.trans (hbb.mono hS.size)
      have HZ := Lib.hid (And.intro hu (And.intro hbo hS11))
      have HGQ : Hid (w9.heap.size ≤ gq ∧ w9.heap.size ≤ gr) := Lib.hid ⟨Nat.le_trans hS.size hg1, Nat.le_trans hS.size hg2⟩
      clear hu hbo hbb hg1 hg2
      refine hK.out _ _ hS11 (fun hS => ?_)
      try simp only [Act.put, List.setIfInBounds_toArray, List.set_cons_zero, List.set_cons_succ, List.getElem_toArray, List.getElem_cons_zero, List.getElem_cons_succ]
      clear hK
      clear hS11
      refine wpAnyH_pre (j := 12) (by kernel_rfl) ?_
      iterate 5
        refine wpAnyH_nx (v := ?_) rfl (by kernel_rfl) (by kernel_rfl) (by kernel_rfl) (fun _ _ _ h => h) (Or.inl ⟨by rfl, ?_⟩) hS ?_
        rotate_left
        · intro W' hS'
          go_simp
          rfl
        try simp only [Act.put, List.setIfInBounds_toArray, List.set_cons_zero, List.set_cons_succ, List.getElem_toArray, List.getElem_cons_zero, List.getElem_cons_succ]
      refine wpAnyH_done (by kernel_rfl) ?_ _
      have H11 : Hid (SmJ w5 gu gb n wi.heap.size gq gr j (.slice A9 j c9) xs pU pB pu pb w11) := Lib.hid (by
        have hs := HZ.out.2.2
        have z1 := HJ.out.u.lt
        have z2 := HJ.out.b.lt
        have z3 := H9.out.1.size
        exact ⟨HJ9.out.bel hs, HZ.out.1, HZ.out.2.1, own_below H9.out.2 hs, by omega, by omega, by have := HGQ.out.1; omega, by have := HGQ.out.2; omega⟩)
      have HBI : Hid (Below wi.heap.size wi w11) := Lib.hid (H9.out.1.trans (HZ.out.2.2.mono H9.out.1.size))
      clear HZ HGQ hS E0 HFX HJ9 H9 HA
      have hk1 := (HFI.out w11 HBI.out).2.1
      go_upto_region 19 with (fail)
      clear hk1
      as_aux_lemma =>
      go_wp2_with fail
      go_loopw [13] (fun kv wr => ∃ k : Nat, k ≤ j ∧ kv = .int .i64 k ∧ Hid (∃ pu' pb', SmJ w5 gu gb n wi.heap.size gq gr j (.slice A9 j c9) xs pU pB pu' pb' wr ∧ (∀ q, CB (pu' q).1) ∧ pu' i = (uw, ul, ur))) (fun kv _ => j - (intOf kv).toNat)
      case atStart => exact ⟨0, by omega, rfl, Lib.hid ⟨pu, pb, H11.out, HCB.out, HPU.out⟩⟩
      case round =>
        obtain ⟨k, hk, rfl, HK0⟩ := hrel
        obtain ⟨pv, pc, hk1, hk2, hk3⟩ := HK0.out
        have HK := Lib.hid hk1
        have HCV := Lib.hid hk2
        have HPV := Lib.hid hk3
        clear HK0 hk1 hk2 hk3 HPU HCB H11 HBI
        obtain ⟨tt, hk1, hrd⟩ : ((wr.cell? ⟨gT, 0, none⟩ = some (.slice (some ad) n c) ∧ wr.cell? ⟨gT, 1, none⟩ = some (.slice A2 ma c2) ∧ wr.cell? ⟨gT, 2, none⟩ = some (.int .i64 view)) ∧ wr.cell? ⟨ga, i, none⟩ = some (.slice Ar j cr) ∧ Reads wr wr.heap.size 1 Ar j (i64s ks)) :=
          ⟨HBY.out wr HK.out.s.l, (HRW.out wr HK.out.s.l).1, (HRW.out wr HK.out.s.l).2⟩
        by_cases hl2 : k < j
        rotate_left
        · as_aux_lemma =>
          have q0 : decide ((k : Int) < (j : Int)) = false := decide_eq_false (by omega)
          have q0' : decide (k < j) = false := decide_eq_false hl2
          go_wp2_with fail
          go_roundw
          case rel => exact ⟨i + 1, by omega, by go_num, Lib.hid ⟨pv, pc, HK.out.s, HCV.out⟩⟩
          case measure => simp [intOf] <;> omega
        as_aux_lemma =>
        have q0 : decide ((k : Int) < (j : Int)) = true := decide_eq_true (by omega)
        have q0' : decide (k < j) = true := decide_eq_true hl2
        have hki : (k : Int) < (j : Int) := by omega
        have hk0 : (0 : Int) ≤ (k : Int) := by omega
        have wk : IntKind.i64.wrap ((k : Int) + 1) = (k : Int) + 1 := IntWalk.i64_in _ ⟨by omega, by omega⟩
        have hkl : k < ks.length := by rw [← HPK.out]; exact hl2
        obtain ⟨adk, u, hAk, hab, hx, hc⟩ := hrd.at_ hl2
        subst hAk
        obtain ⟨q, hq, hqn, hqi⟩ := HMEM.out k hkl
        have hu : u = .int .i64 (q : Int) := by rw [← hq]; simpa [i64s, hkl] using hx.symm
        subst hu
        have hql : q < l.length := by rw [← HN.out]; exact hqn
        have hq0 : (0 : Int) ≤ (q : Int) := by omega
        have hqi' : (q : Int) < (n : Int) := by omega
        obtain ⟨x1, x2, x3, hU⟩ : ∃ x1 x2 x3, pU k = (x1, x2, x3) := ⟨_, _, _, rfl⟩
        obtain ⟨bb, hB⟩ : ∃ bb, pB k = bb := ⟨_, rfl⟩
        obtain ⟨bi, hbi⟩ : ∃ bi, pc i = bi := ⟨_, rfl⟩
        obtain ⟨s, hs⟩ : ∃ s, s = l[q].s := ⟨_, rfl⟩
        obtain ⟨si, hsi⟩ : ∃ si, si = l[i].s := ⟨_, rfl⟩
        obtain ⟨y, hy⟩ : ∃ y, y = cAt out q := ⟨_, rfl⟩
        have hsD : sD l (ksAt ks k) = s := by unfold ksAt sD; rw [List.getElem?_eq_getElem hkl, hq]; simp only [Option.getD_some]; rw [Int.toNat_natCast, List.getElem?_eq_getElem hql, hs]; rfl
        have hgy : gAt xs k = y := by
          have hjx : k < xs.length := by rw [HXS.out, List.length_map]; exact hkl
          unfold gAt; rw [List.getElem?_eq_getElem hjx]
          simp only [Option.getD_some, HXS.out, List.getElem_map, hq, hy]
        have hkg := HG.out k hl2
        rw [hsD, hgy, hU, hB, ← hsi] at hkg
        have HKG := Lib.hid hkg
        have hST := HRG.out q hql
        rw [← hs] at hST
        have HST := Lib.hid hST
        have HSB : Hid (StyB s) := Lib.hid hST.1.b
        have HO := Lib.hid (show (styCells s).toArray.all (·.oneCell') = true from by obtain ⟨Au, nu, cu, e⟩ := hST.2; exact Sty.one s e)
        have HHS : Hid (s = l[q].s ∧ si = l[i].s ∧ y = cAt out q) := Lib.hid ⟨hs, hsi, hy⟩
        have hwb := hkg.1.w
        have hlb := hkg.1.l
        have hrb := hkg.1.r
        have hqne : q ≠ i := by omega
        have KSQ : Hid (ks[k] = (q : Int)) := Lib.hid hq
        have z0 := HK.out.q.get (k * 3) (triC_g0 _ hl2)
        have z1 := HK.out.q.get (k * 3 + 1) (triC_g1 _ hl2)
        have z2 := HK.out.q.get (k * 3 + 2) (triC_g2 _ hl2)
        have z3 := HK.out.r.get k (by rw [List.getElem?_toArray]; exact booC_at _ hl2)
        have y0 := HK.out.s.u.get (q * 3) (triC_g0 _ hqn)
        have y1 := HK.out.s.u.get (q * 3 + 1) (triC_g1 _ hqn)
        have y2 := HK.out.s.u.get (q * 3 + 2) (triC_g2 _ hqn)
        have yf := HK.out.s.u.frozen
        rw [hU] at z0 z1 z2
        rw [hB] at z3
        have HZQ : Hid (∀ W, (∃ p' b', SmJ w5 gu gb n wi.heap.size gq gr j (.slice A9 j c9) xs pU pB p' b' W) → W.cell? ⟨gq, k * 3, none⟩ = some (.int .i64 x1) ∧ W.cell? ⟨gq, k * 3 + 1, none⟩ = some (.int .i64 x2) ∧ W.cell? ⟨gq, k * 3 + 2, none⟩ = some (.int .i64 x3) ∧ W.cell? ⟨gr, k, none⟩ = some (.bool bb)) := Lib.hid (fun W ⟨p', b', h⟩ => by
          have z0 := h.q.get (k * 3) (triC_g0 _ hl2)
          have z1 := h.q.get (k * 3 + 1) (triC_g1 _ hl2)
          have z2 := h.q.get (k * 3 + 2) (triC_g2 _ hl2)
          have z3 := h.r.get k (by rw [List.getElem?_toArray]; exact booC_at _ hl2)
          rw [hU] at z0 z1 z2
          rw [hB] at z3
          exact ⟨z0, z1, z2, z3⟩)
        have HBI2 := Lib.hid hbi
        clear hx hab hrd hU hB hbi hs hsi hy hsD hgy hkg hST hq tt
        go_upto_region 24 with (fail)
        clear z0 z1 z2 z3 y0 y1 y2 yf hk1 hc
        obtain ⟨w23, hw23⟩ : ∃ w23, w23 = ((wr.setCell ⟨gu, q * 3, none⟩ (.int .i64 x1)).setCell ⟨gu, q * 3 + 1, none⟩ (.int .i64 x2)).setCell ⟨gu, q * 3 + 2, none⟩ (.int .i64 x3) := ⟨_, rfl⟩
        have H23 : Hid (SmJ w5 gu gb n wi.heap.size gq gr j (.slice A9 j c9) xs pU pB (updT pv q (x1, x2, x3)) pc w23) := Lib.hid (by rw [hw23]; exact HK.out.putU hqn x1 x2 x3)
        rw [← hw23]
        have HCW : Hid ((∀ t, CB ((updT pv q (x1, x2, x3)) t).1) ∧ updT pv q (x1, x2, x3) i = (uw, ul, ur)) := Lib.hid ⟨fun t => by
          unfold updT
          split
          · exact ⟨hwb⟩
          · exact HCV.out t, by unfold updT; rw [if_neg (by omega)]; exact HPV.out⟩
        clear hw23 HK HCV HPV
        obtain ⟨-, -, -, z3⟩ := HZQ.out w23 ⟨_, _, H23.out⟩
        have y3 := H23.out.s.b.get q (by rw [List.getElem?_toArray]; exact booC_at _ hqn)
        have y4 := H23.out.s.b.get i (by rw [List.getElem?_toArray]; exact booC_at _ hlt)
        rw [HBI2.out] at y4
        have yg := H23.out.s.b.frozen
        obtain ⟨bo, hbo⟩ : ∃ bo, bo = (bb || bi) := ⟨_, rfl⟩
        have HBO := Lib.hid hbo
        clear hbo
        go_cut [125] (fun v wx => Hid (∃ p' b', SmJ w5 gu gb n wi.heap.size gq gr j (.slice A9 j c9) xs pU pB p' b' wx ∧ (∀ t, CB (p' t).1) ∧ p' i = (uw, ul, ur) ∧ b' q = bo))
        case first => as_aux_lemma =>
          cases bb
          · have hbb : bo = bi := HBO.out
            go_wp2_with fail
            go_meet
            exact Lib.hid ⟨_, _, H23.out.putB hqn bi, HCW.out.1, HCW.out.2, by rw [if_pos rfl, hbb]⟩
          · have hbb : bo = true := HBO.out
            go_wp2_with fail
            go_meet
            exact Lib.hid ⟨_, _, H23.out.putB hqn true, HCW.out.1, HCW.out.2, by rw [if_pos rfl, hbb]⟩
        case rest => as_aux_lemma =>
        clear z3 y3 y4 yg H23 HCW
        obtain ⟨w24, hw24⟩ : ∃ w24, w24 = wc := ⟨_, rfl⟩
        rw [← hw24] at hcut ⊢
        clear hw24
        obtain ⟨pw, pd, hm, hcv, hpv, hpq⟩ := hcut.out
        have HM := Lib.hid hm
        have HCV := Lib.hid hcv
        have HPV := Lib.hid hpv
        have HPQ := Lib.hid hpq
        clear hcut hm hcv hpv hpq
        obtain ⟨t0, t1, t2⟩ := HBY.out w24 HM.out.s.l
        have HRNG : Hid (w24.rangeAt ad.block ((ad.add (q * 44)).off + 1) (styCells s)) := Lib.hid (by
          obtain ⟨ad2, e, hnd⟩ := (HRE.out w24 HM.out.s.l).nd HN.out hql
          injection e with e
          subst e
          have g := hnd.range
          rw [block_of_add] at g
          rw [HHS.out.1]; exact g)
        go_upto_region 26 with (first
          | refine wpList_load_mid rfl 52 (.tmp 148) rfl ad.block ((ad.add (q * 44)).off + 1) rfl (styCells s) _ HRNG.out Try.underlying52 rfl (by kernel_rfl) ?_
          | refine wpList_store_new rfl 52 _ _ rfl _ rfl (styCells s).toArray rfl rfl 52 _ (by kernel_rfl) rfl HO.out ?_)
        clear t0 t1 t2 HRNG
        obtain ⟨g15, hg15⟩ : ∃ g, g = w24.heap.size := ⟨_, rfl⟩
        obtain ⟨w25, hw25⟩ : ∃ w25, w25 = w24.alloc (.cells (styCells s).toArray 52) := ⟨_, rfl⟩
        have H25 : Hid (Blk w25 g15 52 (styCells s).toArray ∧ Below w24.heap.size w24 w25) := Lib.hid (by rw [hw25]; exact ⟨Blk.at_ _ _ _ hg15, balW (Below.refl _ _) _⟩)
        rw [← hw25, ← hg15]
        clear hw25 hg15
        have HM25 := Lib.hid (HM.out.bel H25.out.2)
        obtain ⟨kd, hkd⟩ : ∃ kd, kd = s.kind := ⟨_, rfl⟩
        have c0 : w25.cell? ⟨g15, 0, none⟩ = some (.int .u8 kd) := by rw [hkd]; exact H25.out.1.get 0 rfl
        by_cases hk3 : kd = 3
        · as_aux_lemma =>
          have hx0 := HKG.out.1.text (by rw [← hkd]; exact hk3)
          obtain ⟨e1, e2, e3⟩ : x1 = 0 ∧ x2 = 0 ∧ x3 = 0 := by injection hx0 with a b; injection b with b c; exact ⟨a, b, c⟩
          subst hk3
          obtain ⟨z0, z1, z2, -⟩ := HZQ.out w25 ⟨_, _, HM25.out⟩
          rw [e1] at z0
          rw [e2] at z1
          rw [e3] at z2
          clear hkd hx0 hwb hlb hrb
          clear e1 e2 e3
          go_wp2_with fail
          go_roundw
          case rel => exact ⟨k + 1, by omega, by go_num, Lib.hid ⟨pw, pd, HM25.out, HCV.out, HPV.out⟩⟩
          case measure => simp [intOf] <;> omega
        as_aux_lemma =>
        have ek3 : (kd == 3) = false := beq_eq_false_iff_ne.2 hk3
        have hk3s : s.kind ≠ 3 := by rw [← hkd]; exact hk3
        have HK3 := Lib.hid hk3s
        clear hk3s hkd
        have HRNB : Hid (w25.rangeAt g15 0 (styCells s)) := Lib.hid (blk_rng H25.out.1 fun t v hv => by rw [Nat.zero_add]; exact hv)
        go_upto_region 30 with (first
          | refine wpList_load_mid rfl 52 (.tmp 15) rfl g15 0 rfl (styCells s) _ HRNB.out Try.underlying52 rfl (by kernel_rfl) ?_
          | (go_at_call 14; refine (rframe_any s _ HSB.out).mono ?_; rintro e w26 ⟨⟨d, rfl⟩, hb⟩; have HB26 := Lib.hid (show Below w25.heap.size w25 w26 from hb); clear hb))
        clear c0 ek3 hk3 HRNB
        obtain ⟨fr, hfr⟩ : ∃ fr, fr = frameF s := ⟨_, rfl⟩
        have hfb : 0 ≤ fr ∧ fr ≤ 4398046511104 := by
          have h := HSB.out
          have := h.b1; have := h.b3; have := h.p1; have := h.p3
          rw [hfr]; unfold frameF; omega
        have HFR := Lib.hid hfr
        rw [← hfr]
        clear hfr
        have HM26 := Lib.hid (HM25.out.bel HB26.out)
        have HBS := Lib.hid (H25.out.1.below HB26.out H25.out.1.lt)
        obtain ⟨z0, z1, z2, -⟩ := HZQ.out w26 ⟨_, _, HM26.out⟩
        have y5 := HM26.out.s.b.get q (by rw [List.getElem?_toArray]; exact booC_at _ hqn)
        rw [HPQ.out] at y5
        have dx : decide (x1 < 0) = false := decide_eq_false (by omega)
        clear HM HM25 H25 HB26
        cases bo
        rotate_left
        · as_aux_lemma =>
          go_wp2_with fail
          go_roundw
          case rel => exact ⟨k + 1, by omega, by go_num, Lib.hid ⟨pw, pd, HM26.out, HCV.out, HPV.out⟩⟩
          case measure => simp [intOf] <;> omega
        as_aux_lemma =>
        go_upto_region 33 with (fail)
        clear y5
        have HBB : Hid (bb = false) := Lib.hid (by
          have h : false = (bb || bi) := HBO.out
          cases bb with
          | false => rfl
          | true => rw [Bool.true_or] at h; exact absurd h (by decide))
        obtain ⟨t0, t1, t2⟩ := HBY.out w26 HM26.out.s.l
        obtain ⟨ki, hki⟩ : ∃ ki, ki = si.kind := ⟨_, rfl⟩
        obtain ⟨fl, hfl⟩ : ∃ fl, fl = s.float := ⟨_, rfl⟩
        obtain ⟨wk_, hwk⟩ : ∃ a, a = s.w.k := ⟨_, rfl⟩
        obtain ⟨mk_, hmk⟩ : ∃ a, a = s.minw.k := ⟨_, rfl⟩
        obtain ⟨yl, hyl⟩ : ∃ a, a = y.least := ⟨_, rfl⟩
        have HFLOW : Hid (ki = 1 → fl = 0 → x2 + fr + x1 + x3 = uw) := Lib.hid (fun h1 h2 => by
          have := HKG.out.1.flow HK3.out (by rw [← hki]; exact h1) (by rw [← hfl]; exact h2) HBB.out
          rw [HFR.out]; exact this)
        have HFLT : Hid (fl ≠ 0 → wk_ = 0 → mk_ = 0 → x1 ≤ max (uw - fr - x2 - x3) (max yl 0)) := Lib.hid (fun h1 h2 h3 => by
          have hne : si.kind ≠ 2 := fun h => h1 (by rw [hfl]; exact HKG.out.2 h)
          have := HKG.out.1.float HK3.out hne (by rw [← hfl]; exact h1) HBB.out (by rw [← hwk]; exact h2) (by rw [← hmk]; exact h3)
          rw [HFR.out, hyl]; exact this)
        have hub := HCU.out.b
        have HND : Hid (∀ W, Below w5.heap.size w5 W → W.cell? ⟨ad.block, (ad.add (i * 44)).off + 1, none⟩ = some (.int .u8 ki)) := Lib.hid (fun W hb => by
          obtain ⟨ad2, e, hnd⟩ := (HRE.out W hb).nd HN.out hil
          injection e with e
          subst e
          rw [hki, HHS.out.2.1, ← block_of_add ad (i * 44)]; exact hnd.cs 0 _ rfl)
        have HYL : Hid (∀ W pw pd, SmJ w5 gu gb n wi.heap.size gq gr j (.slice A9 j c9) xs pU pB pw pd W → ∃ ag, A9 = some ag ∧ W.cell? (ag.add (k * 4)) = some (.int .i64 yl)) := Lib.hid (fun W pw pd h => by
          obtain ⟨ag, e, hb, hc⟩ := (Reads.of_own h.o).2 (by omega)
          refine ⟨ag, e, hc (k * 4) _ ?_⟩
          have hkl2 : k < xs.length := by rw [HXS.out, List.length_map]; exact hkl
          have := cnsCells_at xs k 0 hkl2 (by omega)
          rw [Nat.add_zero] at this
          rw [this]
          have e2 : xs[k] = y := by simp only [HXS.out, List.getElem_map, HHS.out.2.2, KSQ.out]
          rw [e2, hyl]; rfl)
        have c2 : w26.cell? ⟨g15, 2, none⟩ = some (.int .u8 fl) := by rw [hfl]; exact HBS.out.get 2 rfl
        have HCS : Hid (∀ W, Below w26.heap.size w26 W → W.cell? ⟨g15, 2, none⟩ = some (.int .u8 fl) ∧ W.cell? ⟨g15, 4, none⟩ = some (.int .u8 wk_) ∧ W.cell? ⟨g15, 8, none⟩ = some (.int .u8 mk_)) := Lib.hid (fun W hb => by
          have h := HBS.out.below hb HBS.out.lt
          rw [hfl, hwk, hmk]
          exact ⟨h.get 2 rfl, h.get 4 rfl, h.get 8 rfl⟩)
        have k1 := HND.out w26 HM26.out.s.l
        have v0 : w26.cell? ⟨gu, i * 3, none⟩ = some (.int .i64 uw) := by
          have h := HM26.out.s.u.get (i * 3) (triC_g0 _ hlt)
          rw [HPV.out] at h; exact h
        obtain ⟨ag, hag, -⟩ := HYL.out _ _ _ HM26.out
        subst hag
        clear hki hfl hwk hmk hyl HKG HFR
        have wra : IntKind.i64.wrap (x2 + fr) = x2 + fr := IntWalk.i64_in _ ⟨by omega, by omega⟩
        have wrb : IntKind.i64.wrap (x2 + fr + x1) = x2 + fr + x1 := IntWalk.i64_in _ ⟨by omega, by omega⟩
        have wrc : IntKind.i64.wrap (x2 + fr + x1 + x3) = x2 + fr + x1 + x3 := IntWalk.i64_in _ ⟨by omega, by omega⟩
        have hadb : ad.block < w26.heap.size := World.block_lt_of_cell? w26 ⟨ad.block, (ad.add (i * 44)).off + 1, none⟩ k1
        go_cut [221] (fun v wx => v = .bool false ∧ Hid (Below w26.heap.size w26 wx))
        case first => as_aux_lemma =>
          by_cases hk1' : ki = 1
          · have e1 : (ki == 1) = true := beq_iff_eq.2 hk1'
            by_cases hf : fl = 0
            · have e2 : (fl == 0) = true := beq_iff_eq.2 hf
              have e3 : (x2 + fr + x1 + x3 != uw) = false := by rw [HFLOW.out hk1' hf]; simp
              clear hk1' hf
              go_quiet (fail)
              go_wp2_with fail
              go_meet
              exact ⟨rfl, Lib.hid (below_dr (Below.refl _ _) _)⟩
            · have e2 : (fl == 0) = false := beq_eq_false_iff_ne.2 hf
              clear hk1' hf
              go_quiet (fail)
              go_wp2_with fail
              go_meet
              exact ⟨rfl, Lib.hid (below_dr (Below.refl _ _) _)⟩
          · have e1 : (ki == 1) = false := beq_eq_false_iff_ne.2 hk1'
            clear hk1'
            go_quiet (fail)
            go_wp2_with fail
            go_meet
            exact ⟨rfl, Lib.hid (below_dr (Below.refl _ _) _)⟩
        case rest => as_aux_lemma =>
        clear z0 z1 z2 c2 k1 v0 wra wrb wrc t0 t1 t2
        obtain ⟨rfl, hb33⟩ := hcut
        obtain ⟨w33, hw33⟩ : ∃ w33, w33 = wc := ⟨_, rfl⟩
        rw [← hw33] at hb33 ⊢
        clear hw33
        have HM33 := Lib.hid (HM26.out.bel hb33.out)
        go_upto_region 35 with (fail)
        have wra : IntKind.i64.wrap (uw - fr) = uw - fr := IntWalk.i64_in _ ⟨by omega, by omega⟩
        have wrb : IntKind.i64.wrap (uw - fr - x2) = uw - fr - x2 := IntWalk.i64_in _ ⟨by omega, by omega⟩
        have wrc : IntKind.i64.wrap (uw - fr - x2 - x3) = uw - fr - x2 - x3 := IntWalk.i64_in _ ⟨by omega, by omega⟩
        have E0 : Below w33.heap.size w33 w33.drew := (Below.refl _ _).drew
        have HF35 : Hid (∀ W, Below w33.heap.size w33 W → (W.cell? ⟨g15, 2, none⟩ = some (.int .u8 fl) ∧ W.cell? ⟨g15, 4, none⟩ = some (.int .u8 wk_) ∧ W.cell? ⟨g15, 8, none⟩ = some (.int .u8 mk_)) ∧ (W.cell? ⟨gq, k * 3, none⟩ = some (.int .i64 x1) ∧ W.cell? ⟨gq, k * 3 + 1, none⟩ = some (.int .i64 x2) ∧ W.cell? ⟨gq, k * 3 + 2, none⟩ = some (.int .i64 x3)) ∧ W.cell? ⟨gu, i * 3, none⟩ = some (.int .i64 uw) ∧ W.cell? (ag.add (k * 4)) = some (.int .i64 yl)) := Lib.hid (fun W hb => by
          have h := HM33.out.bel hb
          obtain ⟨z0, z1, z2, -⟩ := HZQ.out W ⟨_, _, h⟩
          have v0 := h.s.u.get (i * 3) (triC_g0 _ hlt)
          rw [HPV.out] at v0
          obtain ⟨ag2, e, hy⟩ := HYL.out _ _ _ h
          injection e with e
          subst e
          exact ⟨HCS.out W (hb33.out.trans (hb.mono hb33.out.size)), ⟨z0, z1, z2⟩, v0, hy⟩)
        by_cases hf : fl = 0
        · as_aux_lemma =>
          have e1 : (fl != 0) = false := by rw [hf]; rfl
          clear hf
          refine wp_region_S (fun _ _ _ W => Below w33.heap.size w33 W) 1000 1000 100000 true true (by kernel_rfl) (by kernel_rfl) (by kernel_rfl) (E0) ?_
          refine wpAnyS_pre (j := 0) (by kernel_rfl) ?_
          iterate 4
            refine wpAnyS_nx (v := ?_) rfl (by kernel_rfl) (by kernel_rfl) (by kernel_rfl) (fun _ _ _ h => h) (by rfl) (gives_pure (by rfl) ?_) ?_
            rotate_left
            · intro b' d' u' W' hS'
              obtain ⟨⟨s2, s4, s8⟩, ⟨z0, z1, z2⟩, v0, yy⟩ := HF35.out W' hS'
              go_simp
              rfl
            try simp only [Act.put, List.setIfInBounds_toArray, List.set_cons_zero, List.set_cons_succ, List.getElem_toArray, List.getElem_cons_zero, List.getElem_cons_succ]
          refine wpAnyS_take (i := 4) (v := undef) rfl (by kernel_rfl) (by kernel_rfl) (by kernel_rfl) (fun _ _ _ h => h) (by rfl) (gives_unwanted (by rfl)) ?_
          try simp only [Act.put, List.setIfInBounds_toArray, List.set_cons_zero, List.set_cons_succ, List.getElem_toArray, List.getElem_cons_zero, List.getElem_cons_succ]
          refine wpAnyS_take (i := 5) (v := undef) rfl (by kernel_rfl) (by kernel_rfl) (by kernel_rfl) (fun _ _ _ h => h) (by rfl) (gives_unwanted (by rfl)) ?_
          try simp only [Act.put, List.setIfInBounds_toArray, List.set_cons_zero, List.set_cons_succ, List.getElem_toArray, List.getElem_cons_zero, List.getElem_cons_succ]
          refine wpAnyS_take (i := 6) (v := undef) rfl (by kernel_rfl) (by kernel_rfl) (by kernel_rfl) (fun _ _ _ h => h) (by rfl) (gives_unwanted (by rfl)) ?_
          try simp only [Act.put, List.setIfInBounds_toArray, List.set_cons_zero, List.set_cons_succ, List.getElem_toArray, List.getElem_cons_zero, List.getElem_cons_succ]
          refine wpAnyS_take (i := 7) (v := undef) rfl (by kernel_rfl) (by kernel_rfl) (by kernel_rfl) (fun _ _ _ h => h) (by rfl) (gives_unwanted (by rfl)) ?_
          try simp only [Act.put, List.setIfInBounds_toArray, List.set_cons_zero, List.set_cons_succ, List.getElem_toArray, List.getElem_cons_zero, List.getElem_cons_succ]
          refine wpAnyS_pre (j := 8) (by kernel_rfl) ?_
          iterate 2
            refine wpAnyS_nx (v := ?_) rfl (by kernel_rfl) (by kernel_rfl) (by kernel_rfl) (fun _ _ _ h => h) (by rfl) (gives_pure (by rfl) ?_) ?_
            rotate_left
            · intro b' d' u' W' hS'
              obtain ⟨⟨s2, s4, s8⟩, ⟨z0, z1, z2⟩, v0, yy⟩ := HF35.out W' hS'
              go_simp
              rfl
            try simp only [Act.put, List.setIfInBounds_toArray, List.set_cons_zero, List.set_cons_succ, List.getElem_toArray, List.getElem_cons_zero, List.getElem_cons_succ]
          refine wpAnyS_take (i := 10) (v := undef) rfl (by kernel_rfl) (by kernel_rfl) (by kernel_rfl) (fun _ _ _ h => h) (by rfl) (gives_unwanted (by rfl)) ?_
          try simp only [Act.put, List.setIfInBounds_toArray, List.set_cons_zero, List.set_cons_succ, List.getElem_toArray, List.getElem_cons_zero, List.getElem_cons_succ]
          refine wpAnyS_take (i := 11) (v := undef) rfl (by kernel_rfl) (by kernel_rfl) (by kernel_rfl) (fun _ _ _ h => h) (by rfl) (gives_unwanted (by rfl)) ?_
          try simp only [Act.put, List.setIfInBounds_toArray, List.set_cons_zero, List.set_cons_succ, List.getElem_toArray, List.getElem_cons_zero, List.getElem_cons_succ]
          refine wpAnyS_take (i := 12) (v := undef) rfl (by kernel_rfl) (by kernel_rfl) (by kernel_rfl) (fun _ _ _ h => h) (by rfl) (gives_unwanted (by rfl)) ?_
          try simp only [Act.put, List.setIfInBounds_toArray, List.set_cons_zero, List.set_cons_succ, List.getElem_toArray, List.getElem_cons_zero, List.getElem_cons_succ]
          refine wpAnyS_take (i := 13) (v := undef) rfl (by kernel_rfl) (by kernel_rfl) (by kernel_rfl) (fun _ _ _ h => h) (by rfl) (gives_unwanted (by rfl)) ?_
          try simp only [Act.put, List.setIfInBounds_toArray, List.set_cons_zero, List.set_cons_succ, List.getElem_toArray, List.getElem_cons_zero, List.getElem_cons_succ]
          refine wpAnyS_pre (j := 14) (by kernel_rfl) ?_
          iterate 2
            refine wpAnyS_nx (v := ?_) rfl (by kernel_rfl) (by kernel_rfl) (by kernel_rfl) (fun _ _ _ h => h) (by rfl) (gives_pure (by rfl) ?_) ?_
            rotate_left
            · intro b' d' u' W' hS'
              obtain ⟨⟨s2, s4, s8⟩, ⟨z0, z1, z2⟩, v0, yy⟩ := HF35.out W' hS'
              go_simp
              rfl
            try simp only [Act.put, List.setIfInBounds_toArray, List.set_cons_zero, List.set_cons_succ, List.getElem_toArray, List.getElem_cons_zero, List.getElem_cons_succ]
          refine wpAnyS_take (i := 16) (v := undef) rfl (by kernel_rfl) (by kernel_rfl) (by kernel_rfl) (fun _ _ _ h => h) (by rfl) (gives_unwanted (by rfl)) ?_
          try simp only [Act.put, List.setIfInBounds_toArray, List.set_cons_zero, List.set_cons_succ, List.getElem_toArray, List.getElem_cons_zero, List.getElem_cons_succ]
          refine wpAnyS_take (i := 17) (v := undef) rfl (by kernel_rfl) (by kernel_rfl) (by kernel_rfl) (fun _ _ _ h => h) (by rfl) (gives_unwanted (by rfl)) ?_
          try simp only [Act.put, List.setIfInBounds_toArray, List.set_cons_zero, List.set_cons_succ, List.getElem_toArray, List.getElem_cons_zero, List.getElem_cons_succ]
          refine wpAnyS_take (i := 18) (v := undef) rfl (by kernel_rfl) (by kernel_rfl) (by kernel_rfl) (fun _ _ _ h => h) (by rfl) (gives_unwanted (by rfl)) ?_
          try simp only [Act.put, List.setIfInBounds_toArray, List.set_cons_zero, List.set_cons_succ, List.getElem_toArray, List.getElem_cons_zero, List.getElem_cons_succ]
          refine wpAnyS_take (i := 19) (v := undef) rfl (by kernel_rfl) (by kernel_rfl) (by kernel_rfl) (fun _ _ _ h => h) (by rfl) (gives_unwanted (by rfl)) ?_
          try simp only [Act.put, List.setIfInBounds_toArray, List.set_cons_zero, List.set_cons_succ, List.getElem_toArray, List.getElem_cons_zero, List.getElem_cons_succ]
          refine wpAnyS_take (i := 20) (v := undef) rfl (by kernel_rfl) (by kernel_rfl) (by kernel_rfl) (fun _ _ _ h => h) (by rfl) (gives_unwanted (by rfl)) ?_
          try simp only [Act.put, List.setIfInBounds_toArray, List.set_cons_zero, List.set_cons_succ, List.getElem_toArray, List.getElem_cons_zero, List.getElem_cons_succ]
          refine wpAnyS_take (i := 21) (v := undef) rfl (by kernel_rfl) (by kernel_rfl) (by kernel_rfl) (fun _ _ _ h => h) (by rfl) (gives_unwanted (by rfl)) ?_
          try simp only [Act.put, List.setIfInBounds_toArray, List.set_cons_zero, List.set_cons_succ, List.getElem_toArray, List.getElem_cons_zero, List.getElem_cons_succ]
          refine wpAnyS_take (i := 22) (v := undef) rfl (by kernel_rfl) (by kernel_rfl) (by kernel_rfl) (fun _ _ _ h => h) (by rfl) (gives_unwanted (by rfl)) ?_
          try simp only [Act.put, List.setIfInBounds_toArray, List.set_cons_zero, List.set_cons_succ, List.getElem_toArray, List.getElem_cons_zero, List.getElem_cons_succ]
          refine wpAnyS_take (i := 23) (v := undef) rfl (by kernel_rfl) (by kernel_rfl) (by kernel_rfl) (fun _ _ _ h => h) (by rfl) (gives_unwanted (by rfl)) ?_
          try simp only [Act.put, List.setIfInBounds_toArray, List.set_cons_zero, List.set_cons_succ, List.getElem_toArray, List.getElem_cons_zero, List.getElem_cons_succ]
          refine wpAnyS_take (i := 24) (v := undef) rfl (by kernel_rfl) (by kernel_rfl) (by kernel_rfl) (fun _ _ _ h => h) (by rfl) (gives_unwanted (by rfl)) ?_
          try simp only [Act.put, List.setIfInBounds_toArray, List.set_cons_zero, List.set_cons_succ, List.getElem_toArray, List.getElem_cons_zero, List.getElem_cons_succ]
          refine wpAnyS_take (i := 25) (v := undef) rfl (by kernel_rfl) (by kernel_rfl) (by kernel_rfl) (fun _ _ _ h => h) (by rfl) (gives_unwanted (by rfl)) ?_
          try simp only [Act.put, List.setIfInBounds_toArray, List.set_cons_zero, List.set_cons_succ, List.getElem_toArray, List.getElem_cons_zero, List.getElem_cons_succ]
          refine wpAnyS_take (i := 26) (v := undef) rfl (by kernel_rfl) (by kernel_rfl) (by kernel_rfl) (fun _ _ _ h => h) (by rfl) (gives_unwanted (by rfl)) ?_
          try simp only [Act.put, List.setIfInBounds_toArray, List.set_cons_zero, List.set_cons_succ, List.getElem_toArray, List.getElem_cons_zero, List.getElem_cons_succ]
          refine wpAnyS_take (i := 27) (v := undef) rfl (by kernel_rfl) (by kernel_rfl) (by kernel_rfl) (fun _ _ _ h => h) (by rfl) (gives_unwanted (by rfl)) ?_
          try simp only [Act.put, List.setIfInBounds_toArray, List.set_cons_zero, List.set_cons_succ, List.getElem_toArray, List.getElem_cons_zero, List.getElem_cons_succ]
          refine wpAnyS_take (i := 28) (v := undef) rfl (by kernel_rfl) (by kernel_rfl) (by kernel_rfl) (fun _ _ _ h => h) (by rfl) (gives_unwanted (by rfl)) ?_
          try simp only [Act.put, List.setIfInBounds_toArray, List.set_cons_zero, List.set_cons_succ, List.getElem_toArray, List.getElem_cons_zero, List.getElem_cons_succ]
          refine wpAnyS_take (i := 29) (v := undef) rfl (by kernel_rfl) (by kernel_rfl) (by kernel_rfl) (fun _ _ _ h => h) (by rfl) (gives_unwanted (by rfl)) ?_
          try simp only [Act.put, List.setIfInBounds_toArray, List.set_cons_zero, List.set_cons_succ, List.getElem_toArray, List.getElem_cons_zero, List.getElem_cons_succ]
          refine wpAnyS_take (i := 30) (v := undef) rfl (by kernel_rfl) (by kernel_rfl) (by kernel_rfl) (fun _ _ _ h => h) (by rfl) (gives_unwanted (by rfl)) ?_
          try simp only [Act.put, List.setIfInBounds_toArray, List.set_cons_zero, List.set_cons_succ, List.getElem_toArray, List.getElem_cons_zero, List.getElem_cons_succ]
          refine wpAnyS_take (i := 31) (v := undef) rfl (by kernel_rfl) (by kernel_rfl) (by kernel_rfl) (fun _ _ _ h => h) (by rfl) (gives_unwanted (by rfl)) ?_
          try simp only [Act.put, List.setIfInBounds_toArray, List.set_cons_zero, List.set_cons_succ, List.getElem_toArray, List.getElem_cons_zero, List.getElem_cons_succ]
          refine wpAnyS_take (i := 32) (v := undef) rfl (by kernel_rfl) (by kernel_rfl) (by kernel_rfl) (fun _ _ _ h => h) (by rfl) (gives_unwanted (by rfl)) ?_
          try simp only [Act.put, List.setIfInBounds_toArray, List.set_cons_zero, List.set_cons_succ, List.getElem_toArray, List.getElem_cons_zero, List.getElem_cons_succ]
          refine wpAnyS_take (i := 33) (v := undef) rfl (by kernel_rfl) (by kernel_rfl) (by kernel_rfl) (fun _ _ _ h => h) (by rfl) (gives_unwanted (by rfl)) ?_
          try simp only [Act.put, List.setIfInBounds_toArray, List.set_cons_zero, List.set_cons_succ, List.getElem_toArray, List.getElem_cons_zero, List.getElem_cons_succ]
          refine wpAnyS_take (i := 34) (v := undef) rfl (by kernel_rfl) (by kernel_rfl) (by kernel_rfl) (fun _ _ _ h => h) (by rfl) (gives_unwanted (by rfl)) ?_
          try simp only [Act.put, List.setIfInBounds_toArray, List.set_cons_zero, List.set_cons_succ, List.getElem_toArray, List.getElem_cons_zero, List.getElem_cons_succ]
          refine wpAnyS_take (i := 35) (v := undef) rfl (by kernel_rfl) (by kernel_rfl) (by kernel_rfl) (fun _ _ _ h => h) (by rfl) (gives_unwanted (by rfl)) ?_
          try simp only [Act.put, List.setIfInBounds_toArray, List.set_cons_zero, List.set_cons_succ, List.getElem_toArray, List.getElem_cons_zero, List.getElem_cons_succ]
          refine wpAnyS_take (i := 36) (v := undef) rfl (by kernel_rfl) (by kernel_rfl) (by kernel_rfl) (fun _ _ _ h => h) (by rfl) (gives_unwanted (by rfl)) ?_
          try simp only [Act.put, List.setIfInBounds_toArray, List.set_cons_zero, List.set_cons_succ, List.getElem_toArray, List.getElem_cons_zero, List.getElem_cons_succ]
          refine wpAnyS_take (i := 37) (v := undef) rfl (by kernel_rfl) (by kernel_rfl) (by kernel_rfl) (fun _ _ _ h => h) (by rfl) (gives_unwanted (by rfl)) ?_
          try simp only [Act.put, List.setIfInBounds_toArray, List.set_cons_zero, List.set_cons_succ, List.getElem_toArray, List.getElem_cons_zero, List.getElem_cons_succ]
          refine wpAnyS_take (i := 38) (v := undef) rfl (by kernel_rfl) (by kernel_rfl) (by kernel_rfl) (fun _ _ _ h => h) (by rfl) (gives_unwanted (by rfl)) ?_
          try simp only [Act.put, List.setIfInBounds_toArray, List.set_cons_zero, List.set_cons_succ, List.getElem_toArray, List.getElem_cons_zero, List.getElem_cons_succ]
          refine wpAnyS_take (i := 39) (v := undef) rfl (by kernel_rfl) (by kernel_rfl) (by kernel_rfl) (fun _ _ _ h => h) (by rfl) (gives_unwanted (by rfl)) ?_
          try simp only [Act.put, List.setIfInBounds_toArray, List.set_cons_zero, List.set_cons_succ, List.getElem_toArray, List.getElem_cons_zero, List.getElem_cons_succ]
          refine wpAnyS_take (i := 40) (v := undef) rfl (by kernel_rfl) (by kernel_rfl) (by kernel_rfl) (fun _ _ _ h => h) (by rfl) (gives_unwanted (by rfl)) ?_
          try simp only [Act.put, List.setIfInBounds_toArray, List.set_cons_zero, List.set_cons_succ, List.getElem_toArray, List.getElem_cons_zero, List.getElem_cons_succ]
          refine wpAnyS_take (i := 41) (v := undef) rfl (by kernel_rfl) (by kernel_rfl) (by kernel_rfl) (fun _ _ _ h => h) (by rfl) (gives_unwanted (by rfl)) ?_
          try simp only [Act.put, List.setIfInBounds_toArray, List.set_cons_zero, List.set_cons_succ, List.getElem_toArray, List.getElem_cons_zero, List.getElem_cons_succ]
          refine wpAnyS_take (i := 42) (v := undef) rfl (by kernel_rfl) (by kernel_rfl) (by kernel_rfl) (fun _ _ _ h => h) (by rfl) (gives_unwanted (by rfl)) ?_
          try simp only [Act.put, List.setIfInBounds_toArray, List.set_cons_zero, List.set_cons_succ, List.getElem_toArray, List.getElem_cons_zero, List.getElem_cons_succ]
          refine wpAnyS_take (i := 43) (v := undef) rfl (by kernel_rfl) (by kernel_rfl) (by kernel_rfl) (fun _ _ _ h => h) (by rfl) (gives_unwanted (by rfl)) ?_
          try simp only [Act.put, List.setIfInBounds_toArray, List.set_cons_zero, List.set_cons_succ, List.getElem_toArray, List.getElem_cons_zero, List.getElem_cons_succ]
          refine wpAnyS_take (i := 44) (v := undef) rfl (by kernel_rfl) (by kernel_rfl) (by kernel_rfl) (fun _ _ _ h => h) (by rfl) (gives_unwanted (by rfl)) ?_
          try simp only [Act.put, List.setIfInBounds_toArray, List.set_cons_zero, List.set_cons_succ, List.getElem_toArray, List.getElem_cons_zero, List.getElem_cons_succ]
          refine wpAnyS_take (i := 45) (v := undef) rfl (by kernel_rfl) (by kernel_rfl) (by kernel_rfl) (fun _ _ _ h => h) (by rfl) (gives_unwanted (by rfl)) ?_
          try simp only [Act.put, List.setIfInBounds_toArray, List.set_cons_zero, List.set_cons_succ, List.getElem_toArray, List.getElem_cons_zero, List.getElem_cons_succ]
          refine wpAnyS_take (i := 46) (v := undef) rfl (by kernel_rfl) (by kernel_rfl) (by kernel_rfl) (fun _ _ _ h => h) (by rfl) (gives_unwanted (by rfl)) ?_
          try simp only [Act.put, List.setIfInBounds_toArray, List.set_cons_zero, List.set_cons_succ, List.getElem_toArray, List.getElem_cons_zero, List.getElem_cons_succ]
          refine wpAnyS_take (i := 47) (v := ?_) rfl (by kernel_rfl) (by kernel_rfl) (by kernel_rfl) (fun _ _ _ h => h) (by rfl) (gives_pure (by rfl) ?_) ?_
          rotate_left
          · intro b' d' u' W' hS'
            obtain ⟨⟨s2, s4, s8⟩, ⟨z0, z1, z2⟩, v0, yy⟩ := HF35.out W' hS'
            go_simp
            rfl
          try simp only [Act.put, List.setIfInBounds_toArray, List.set_cons_zero, List.set_cons_succ, List.getElem_toArray, List.getElem_cons_zero, List.getElem_cons_succ]
          refine wpAnyS_done (b := true) (d := true) (by kernel_rfl) (by kernel_rfl) (by kernel_rfl) rfl (fun wS hS => ?_) _
          go_wp2_with fail
          go_roundw
          case rel => exact ⟨k + 1, by omega, by go_num, Lib.hid ⟨pw, pd, (HM33.out.bel hS), HCV.out, HPV.out⟩⟩
          case measure => simp [intOf] <;> omega
        by_cases hw0 : wk_ = 0
        rotate_left
        · as_aux_lemma =>
          have e1 : (fl != 0) = true := by rw [bne, beq_eq_false_iff_ne.2 hf]; rfl
          have e2 : (wk_ == 0) = false := beq_eq_false_iff_ne.2 hw0
          clear hf hw0
          refine wp_region_S (fun _ _ _ W => Below w33.heap.size w33 W) 1000 1000 100000 true true (by kernel_rfl) (by kernel_rfl) (by kernel_rfl) (E0) ?_
          refine wpAnyS_pre (j := 0) (by kernel_rfl) ?_
          iterate 10
            refine wpAnyS_nx (v := ?_) rfl (by kernel_rfl) (by kernel_rfl) (by kernel_rfl) (fun _ _ _ h => h) (by rfl) (gives_pure (by rfl) ?_) ?_
            rotate_left
            · intro b' d' u' W' hS'
              obtain ⟨⟨s2, s4, s8⟩, ⟨z0, z1, z2⟩, v0, yy⟩ := HF35.out W' hS'
              go_simp
              rfl
            try simp only [Act.put, List.setIfInBounds_toArray, List.set_cons_zero, List.set_cons_succ, List.getElem_toArray, List.getElem_cons_zero, List.getElem_cons_succ]
          refine wpAnyS_take (i := 10) (v := undef) rfl (by kernel_rfl) (by kernel_rfl) (by kernel_rfl) (fun _ _ _ h => h) (by rfl) (gives_unwanted (by rfl)) ?_
          try simp only [Act.put, List.setIfInBounds_toArray, List.set_cons_zero, List.set_cons_succ, List.getElem_toArray, List.getElem_cons_zero, List.getElem_cons_succ]
          refine wpAnyS_take (i := 11) (v := undef) rfl (by kernel_rfl) (by kernel_rfl) (by kernel_rfl) (fun _ _ _ h => h) (by rfl) (gives_unwanted (by rfl)) ?_
          try simp only [Act.put, List.setIfInBounds_toArray, List.set_cons_zero, List.set_cons_succ, List.getElem_toArray, List.getElem_cons_zero, List.getElem_cons_succ]
          refine wpAnyS_take (i := 12) (v := undef) rfl (by kernel_rfl) (by kernel_rfl) (by kernel_rfl) (fun _ _ _ h => h) (by rfl) (gives_unwanted (by rfl)) ?_
          try simp only [Act.put, List.setIfInBounds_toArray, List.set_cons_zero, List.set_cons_succ, List.getElem_toArray, List.getElem_cons_zero, List.getElem_cons_succ]
          refine wpAnyS_take (i := 13) (v := undef) rfl (by kernel_rfl) (by kernel_rfl) (by kernel_rfl) (fun _ _ _ h => h) (by rfl) (gives_unwanted (by rfl)) ?_
          try simp only [Act.put, List.setIfInBounds_toArray, List.set_cons_zero, List.set_cons_succ, List.getElem_toArray, List.getElem_cons_zero, List.getElem_cons_succ]
          refine wpAnyS_pre (j := 14) (by kernel_rfl) ?_
          iterate 2
            refine wpAnyS_nx (v := ?_) rfl (by kernel_rfl) (by kernel_rfl) (by kernel_rfl) (fun _ _ _ h => h) (by rfl) (gives_pure (by rfl) ?_) ?_
            rotate_left
            · intro b' d' u' W' hS'
              obtain ⟨⟨s2, s4, s8⟩, ⟨z0, z1, z2⟩, v0, yy⟩ := HF35.out W' hS'
              go_simp
              rfl
            try simp only [Act.put, List.setIfInBounds_toArray, List.set_cons_zero, List.set_cons_succ, List.getElem_toArray, List.getElem_cons_zero, List.getElem_cons_succ]
          refine wpAnyS_take (i := 16) (v := undef) rfl (by kernel_rfl) (by kernel_rfl) (by kernel_rfl) (fun _ _ _ h => h) (by rfl) (gives_unwanted (by rfl)) ?_
          try simp only [Act.put, List.setIfInBounds_toArray, List.set_cons_zero, List.set_cons_succ, List.getElem_toArray, List.getElem_cons_zero, List.getElem_cons_succ]
          refine wpAnyS_take (i := 17) (v := undef) rfl (by kernel_rfl) (by kernel_rfl) (by kernel_rfl) (fun _ _ _ h => h) (by rfl) (gives_unwanted (by rfl)) ?_
          try simp only [Act.put, List.setIfInBounds_toArray, List.set_cons_zero, List.set_cons_succ, List.getElem_toArray, List.getElem_cons_zero, List.getElem_cons_succ]
          refine wpAnyS_take (i := 18) (v := undef) rfl (by kernel_rfl) (by kernel_rfl) (by kernel_rfl) (fun _ _ _ h => h) (by rfl) (gives_unwanted (by rfl)) ?_
          try simp only [Act.put, List.setIfInBounds_toArray, List.set_cons_zero, List.set_cons_succ, List.getElem_toArray, List.getElem_cons_zero, List.getElem_cons_succ]
          refine wpAnyS_take (i := 19) (v := undef) rfl (by kernel_rfl) (by kernel_rfl) (by kernel_rfl) (fun _ _ _ h => h) (by rfl) (gives_unwanted (by rfl)) ?_
          try simp only [Act.put, List.setIfInBounds_toArray, List.set_cons_zero, List.set_cons_succ, List.getElem_toArray, List.getElem_cons_zero, List.getElem_cons_succ]
          refine wpAnyS_take (i := 20) (v := undef) rfl (by kernel_rfl) (by kernel_rfl) (by kernel_rfl) (fun _ _ _ h => h) (by rfl) (gives_unwanted (by rfl)) ?_
          try simp only [Act.put, List.setIfInBounds_toArray, List.set_cons_zero, List.set_cons_succ, List.getElem_toArray, List.getElem_cons_zero, List.getElem_cons_succ]
          refine wpAnyS_take (i := 21) (v := undef) rfl (by kernel_rfl) (by kernel_rfl) (by kernel_rfl) (fun _ _ _ h => h) (by rfl) (gives_unwanted (by rfl)) ?_
          try simp only [Act.put, List.setIfInBounds_toArray, List.set_cons_zero, List.set_cons_succ, List.getElem_toArray, List.getElem_cons_zero, List.getElem_cons_succ]
          refine wpAnyS_take (i := 22) (v := undef) rfl (by kernel_rfl) (by kernel_rfl) (by kernel_rfl) (fun _ _ _ h => h) (by rfl) (gives_unwanted (by rfl)) ?_
          try simp only [Act.put, List.setIfInBounds_toArray, List.set_cons_zero, List.set_cons_succ, List.getElem_toArray, List.getElem_cons_zero, List.getElem_cons_succ]
          refine wpAnyS_take (i := 23) (v := undef) rfl (by kernel_rfl) (by kernel_rfl) (by kernel_rfl) (fun _ _ _ h => h) (by rfl) (gives_unwanted (by rfl)) ?_
          try simp only [Act.put, List.setIfInBounds_toArray, List.set_cons_zero, List.set_cons_succ, List.getElem_toArray, List.getElem_cons_zero, List.getElem_cons_succ]
          refine wpAnyS_take (i := 24) (v := undef) rfl (by kernel_rfl) (by kernel_rfl) (by kernel_rfl) (fun _ _ _ h => h) (by rfl) (gives_unwanted (by rfl)) ?_
          try simp only [Act.put, List.setIfInBounds_toArray, List.set_cons_zero, List.set_cons_succ, List.getElem_toArray, List.getElem_cons_zero, List.getElem_cons_succ]
          refine wpAnyS_take (i := 25) (v := undef) rfl (by kernel_rfl) (by kernel_rfl) (by kernel_rfl) (fun _ _ _ h => h) (by rfl) (gives_unwanted (by rfl)) ?_
          try simp only [Act.put, List.setIfInBounds_toArray, List.set_cons_zero, List.set_cons_succ, List.getElem_toArray, List.getElem_cons_zero, List.getElem_cons_succ]
          refine wpAnyS_take (i := 26) (v := undef) rfl (by kernel_rfl) (by kernel_rfl) (by kernel_rfl) (fun _ _ _ h => h) (by rfl) (gives_unwanted (by rfl)) ?_
          try simp only [Act.put, List.setIfInBounds_toArray, List.set_cons_zero, List.set_cons_succ, List.getElem_toArray, List.getElem_cons_zero, List.getElem_cons_succ]
          refine wpAnyS_take (i := 27) (v := undef) rfl (by kernel_rfl) (by kernel_rfl) (by kernel_rfl) (fun _ _ _ h => h) (by rfl) (gives_unwanted (by rfl)) ?_
          try simp only [Act.put, List.setIfInBounds_toArray, List.set_cons_zero, List.set_cons_succ, List.getElem_toArray, List.getElem_cons_zero, List.getElem_cons_succ]
          refine wpAnyS_take (i := 28) (v := undef) rfl (by kernel_rfl) (by kernel_rfl) (by kernel_rfl) (fun _ _ _ h => h) (by rfl) (gives_unwanted (by rfl)) ?_
          try simp only [Act.put, List.setIfInBounds_toArray, List.set_cons_zero, List.set_cons_succ, List.getElem_toArray, List.getElem_cons_zero, List.getElem_cons_succ]
          refine wpAnyS_take (i := 29) (v := undef) rfl (by kernel_rfl) (by kernel_rfl) (by kernel_rfl) (fun _ _ _ h => h) (by rfl) (gives_unwanted (by rfl)) ?_
          try simp only [Act.put, List.setIfInBounds_toArray, List.set_cons_zero, List.set_cons_succ, List.getElem_toArray, List.getElem_cons_zero, List.getElem_cons_succ]
          refine wpAnyS_take (i := 30) (v := undef) rfl (by kernel_rfl) (by kernel_rfl) (by kernel_rfl) (fun _ _ _ h => h) (by rfl) (gives_unwanted (by rfl)) ?_
          try simp only [Act.put, List.setIfInBounds_toArray, List.set_cons_zero, List.set_cons_succ, List.getElem_toArray, List.getElem_cons_zero, List.getElem_cons_succ]
          refine wpAnyS_take (i := 31) (v := undef) rfl (by kernel_rfl) (by kernel_rfl) (by kernel_rfl) (fun _ _ _ h => h) (by rfl) (gives_unwanted (by rfl)) ?_
          try simp only [Act.put, List.setIfInBounds_toArray, List.set_cons_zero, List.set_cons_succ, List.getElem_toArray, List.getElem_cons_zero, List.getElem_cons_succ]
          refine wpAnyS_take (i := 32) (v := undef) rfl (by kernel_rfl) (by kernel_rfl) (by kernel_rfl) (fun _ _ _ h => h) (by rfl) (gives_unwanted (by rfl)) ?_
          try simp only [Act.put, List.setIfInBounds_toArray, List.set_cons_zero, List.set_cons_succ, List.getElem_toArray, List.getElem_cons_zero, List.getElem_cons_succ]
          refine wpAnyS_take (i := 33) (v := undef) rfl (by kernel_rfl) (by kernel_rfl) (by kernel_rfl) (fun _ _ _ h => h) (by rfl) (gives_unwanted (by rfl)) ?_
          try simp only [Act.put, List.setIfInBounds_toArray, List.set_cons_zero, List.set_cons_succ, List.getElem_toArray, List.getElem_cons_zero, List.getElem_cons_succ]
          refine wpAnyS_take (i := 34) (v := undef) rfl (by kernel_rfl) (by kernel_rfl) (by kernel_rfl) (fun _ _ _ h => h) (by rfl) (gives_unwanted (by rfl)) ?_
          try simp only [Act.put, List.setIfInBounds_toArray, List.set_cons_zero, List.set_cons_succ, List.getElem_toArray, List.getElem_cons_zero, List.getElem_cons_succ]
          refine wpAnyS_take (i := 35) (v := undef) rfl (by kernel_rfl) (by kernel_rfl) (by kernel_rfl) (fun _ _ _ h => h) (by rfl) (gives_unwanted (by rfl)) ?_
          try simp only [Act.put, List.setIfInBounds_toArray, List.set_cons_zero, List.set_cons_succ, List.getElem_toArray, List.getElem_cons_zero, List.getElem_cons_succ]
          refine wpAnyS_take (i := 36) (v := undef) rfl (by kernel_rfl) (by kernel_rfl) (by kernel_rfl) (fun _ _ _ h => h) (by rfl) (gives_unwanted (by rfl)) ?_
          try simp only [Act.put, List.setIfInBounds_toArray, List.set_cons_zero, List.set_cons_succ, List.getElem_toArray, List.getElem_cons_zero, List.getElem_cons_succ]
          refine wpAnyS_take (i := 37) (v := undef) rfl (by kernel_rfl) (by kernel_rfl) (by kernel_rfl) (fun _ _ _ h => h) (by rfl) (gives_unwanted (by rfl)) ?_
          try simp only [Act.put, List.setIfInBounds_toArray, List.set_cons_zero, List.set_cons_succ, List.getElem_toArray, List.getElem_cons_zero, List.getElem_cons_succ]
          refine wpAnyS_take (i := 38) (v := undef) rfl (by kernel_rfl) (by kernel_rfl) (by kernel_rfl) (fun _ _ _ h => h) (by rfl) (gives_unwanted (by rfl)) ?_
          try simp only [Act.put, List.setIfInBounds_toArray, List.set_cons_zero, List.set_cons_succ, List.getElem_toArray, List.getElem_cons_zero, List.getElem_cons_succ]
          refine wpAnyS_take (i := 39) (v := undef) rfl (by kernel_rfl) (by kernel_rfl) (by kernel_rfl) (fun _ _ _ h => h) (by rfl) (gives_unwanted (by rfl)) ?_
          try simp only [Act.put, List.setIfInBounds_toArray, List.set_cons_zero, List.set_cons_succ, List.getElem_toArray, List.getElem_cons_zero, List.getElem_cons_succ]
          refine wpAnyS_take (i := 40) (v := undef) rfl (by kernel_rfl) (by kernel_rfl) (by kernel_rfl) (fun _ _ _ h => h) (by rfl) (gives_unwanted (by rfl)) ?_
          try simp only [Act.put, List.setIfInBounds_toArray, List.set_cons_zero, List.set_cons_succ, List.getElem_toArray, List.getElem_cons_zero, List.getElem_cons_succ]
          refine wpAnyS_take (i := 41) (v := undef) rfl (by kernel_rfl) (by kernel_rfl) (by kernel_rfl) (fun _ _ _ h => h) (by rfl) (gives_unwanted (by rfl)) ?_
          try simp only [Act.put, List.setIfInBounds_toArray, List.set_cons_zero, List.set_cons_succ, List.getElem_toArray, List.getElem_cons_zero, List.getElem_cons_succ]
          refine wpAnyS_take (i := 42) (v := undef) rfl (by kernel_rfl) (by kernel_rfl) (by kernel_rfl) (fun _ _ _ h => h) (by rfl) (gives_unwanted (by rfl)) ?_
          try simp only [Act.put, List.setIfInBounds_toArray, List.set_cons_zero, List.set_cons_succ, List.getElem_toArray, List.getElem_cons_zero, List.getElem_cons_succ]
          refine wpAnyS_take (i := 43) (v := undef) rfl (by kernel_rfl) (by kernel_rfl) (by kernel_rfl) (fun _ _ _ h => h) (by rfl) (gives_unwanted (by rfl)) ?_
          try simp only [Act.put, List.setIfInBounds_toArray, List.set_cons_zero, List.set_cons_succ, List.getElem_toArray, List.getElem_cons_zero, List.getElem_cons_succ]
          refine wpAnyS_take (i := 44) (v := undef) rfl (by kernel_rfl) (by kernel_rfl) (by kernel_rfl) (fun _ _ _ h => h) (by rfl) (gives_unwanted (by rfl)) ?_
          try simp only [Act.put, List.setIfInBounds_toArray, List.set_cons_zero, List.set_cons_succ, List.getElem_toArray, List.getElem_cons_zero, List.getElem_cons_succ]
          refine wpAnyS_take (i := 45) (v := undef) rfl (by kernel_rfl) (by kernel_rfl) (by kernel_rfl) (fun _ _ _ h => h) (by rfl) (gives_unwanted (by rfl)) ?_
          try simp only [Act.put, List.setIfInBounds_toArray, List.set_cons_zero, List.set_cons_succ, List.getElem_toArray, List.getElem_cons_zero, List.getElem_cons_succ]
          refine wpAnyS_take (i := 46) (v := undef) rfl (by kernel_rfl) (by kernel_rfl) (by kernel_rfl) (fun _ _ _ h => h) (by rfl) (gives_unwanted (by rfl)) ?_
          try simp only [Act.put, List.setIfInBounds_toArray, List.set_cons_zero, List.set_cons_succ, List.getElem_toArray, List.getElem_cons_zero, List.getElem_cons_succ]
          refine wpAnyS_take (i := 47) (v := ?_) rfl (by kernel_rfl) (by kernel_rfl) (by kernel_rfl) (fun _ _ _ h => h) (by rfl) (gives_pure (by rfl) ?_) ?_
          rotate_left
          · intro b' d' u' W' hS'
            obtain ⟨⟨s2, s4, s8⟩, ⟨z0, z1, z2⟩, v0, yy⟩ := HF35.out W' hS'
            go_simp
            rfl
          try simp only [Act.put, List.setIfInBounds_toArray, List.set_cons_zero, List.set_cons_succ, List.getElem_toArray, List.getElem_cons_zero, List.getElem_cons_succ]
          refine wpAnyS_done (b := true) (d := true) (by kernel_rfl) (by kernel_rfl) (by kernel_rfl) rfl (fun wS hS => ?_) _
          go_wp2_with fail
          go_roundw
          case rel => exact ⟨k + 1, by omega, by go_num, Lib.hid ⟨pw, pd, (HM33.out.bel hS), HCV.out, HPV.out⟩⟩
          case measure => simp [intOf] <;> omega
        by_cases hm0 : mk_ = 0
        rotate_left
        · as_aux_lemma =>
          have e1 : (fl != 0) = true := by rw [bne, beq_eq_false_iff_ne.2 hf]; rfl
          have e2 : (wk_ == 0) = true := by rw [hw0]; rfl
          have e3 : (mk_ == 0) = false := beq_eq_false_iff_ne.2 hm0
          clear hf hw0 hm0
          refine wp_region_S (fun _ _ _ W => Below w33.heap.size w33 W) 1000 1000 100000 true true (by kernel_rfl) (by kernel_rfl) (by kernel_rfl) (E0) ?_
          refine wpAnyS_pre (j := 0) (by kernel_rfl) ?_
          iterate 16
            refine wpAnyS_nx (v := ?_) rfl (by kernel_rfl) (by kernel_rfl) (by kernel_rfl) (fun _ _ _ h => h) (by rfl) (gives_pure (by rfl) ?_) ?_
            rotate_left
            · intro b' d' u' W' hS'
              obtain ⟨⟨s2, s4, s8⟩, ⟨z0, z1, z2⟩, v0, yy⟩ := HF35.out W' hS'
              go_simp
              rfl
            try simp only [Act.put, List.setIfInBounds_toArray, List.set_cons_zero, List.set_cons_succ, List.getElem_toArray, List.getElem_cons_zero, List.getElem_cons_succ]
          refine wpAnyS_take (i := 16) (v := undef) rfl (by kernel_rfl) (by kernel_rfl) (by kernel_rfl) (fun _ _ _ h => h) (by rfl) (gives_unwanted (by rfl)) ?_
          try simp only [Act.put, List.setIfInBounds_toArray, List.set_cons_zero, List.set_cons_succ, List.getElem_toArray, List.getElem_cons_zero, List.getElem_cons_succ]
          refine wpAnyS_take (i := 17) (v := undef) rfl (by kernel_rfl) (by kernel_rfl) (by kernel_rfl) (fun _ _ _ h => h) (by rfl) (gives_unwanted (by rfl)) ?_
          try simp only [Act.put, List.setIfInBounds_toArray, List.set_cons_zero, List.set_cons_succ, List.getElem_toArray, List.getElem_cons_zero, List.getElem_cons_succ]
          refine wpAnyS_take (i := 18) (v := undef) rfl (by kernel_rfl) (by kernel_rfl) (by kernel_rfl) (fun _ _ _ h => h) (by rfl) (gives_unwanted (by rfl)) ?_
          try simp only [Act.put, List.setIfInBounds_toArray, List.set_cons_zero, List.set_cons_succ, List.getElem_toArray, List.getElem_cons_zero, List.getElem_cons_succ]
          refine wpAnyS_take (i := 19) (v := undef) rfl (by kernel_rfl) (by kernel_rfl) (by kernel_rfl) (fun _ _ _ h => h) (by rfl) (gives_unwanted (by rfl)) ?_
          try simp only [Act.put, List.setIfInBounds_toArray, List.set_cons_zero, List.set_cons_succ, List.getElem_toArray, List.getElem_cons_zero, List.getElem_cons_succ]
          refine wpAnyS_take (i := 20) (v := undef) rfl (by kernel_rfl) (by kernel_rfl) (by kernel_rfl) (fun _ _ _ h => h) (by rfl) (gives_unwanted (by rfl)) ?_
          try simp only [Act.put, List.setIfInBounds_toArray, List.set_cons_zero, List.set_cons_succ, List.getElem_toArray, List.getElem_cons_zero, List.getElem_cons_succ]
          refine wpAnyS_take (i := 21) (v := undef) rfl (by kernel_rfl) (by kernel_rfl) (by kernel_rfl) (fun _ _ _ h => h) (by rfl) (gives_unwanted (by rfl)) ?_
          try simp only [Act.put, List.setIfInBounds_toArray, List.set_cons_zero, List.set_cons_succ, List.getElem_toArray, List.getElem_cons_zero, List.getElem_cons_succ]
          refine wpAnyS_take (i := 22) (v := undef) rfl (by kernel_rfl) (by kernel_rfl) (by kernel_rfl) (fun _ _ _ h => h) (by rfl) (gives_unwanted (by rfl)) ?_
          try simp only [Act.put, List.setIfInBounds_toArray, List.set_cons_zero, List.set_cons_succ, List.getElem_toArray, List.getElem_cons_zero, List.getElem_cons_succ]
          refine wpAnyS_take (i := 23) (v := undef) rfl (by kernel_rfl) (by kernel_rfl) (by kernel_rfl) (fun _ _ _ h => h) (by rfl) (gives_unwanted (by rfl)) ?_
          try simp only [Act.put, List.setIfInBounds_toArray, List.set_cons_zero, List.set_cons_succ, List.getElem_toArray, List.getElem_cons_zero, List.getElem_cons_succ]
          refine wpAnyS_take (i := 24) (v := undef) rfl (by kernel_rfl) (by kernel_rfl) (by kernel_rfl) (fun _ _ _ h => h) (by rfl) (gives_unwanted (by rfl)) ?_
          try simp only [Act.put, List.setIfInBounds_toArray, List.set_cons_zero, List.set_cons_succ, List.getElem_toArray, List.getElem_cons_zero, List.getElem_cons_succ]
          refine wpAnyS_take (i := 25) (v := undef) rfl (by kernel_rfl) (by kernel_rfl) (by kernel_rfl) (fun _ _ _ h => h) (by rfl) (gives_unwanted (by rfl)) ?_
          try simp only [Act.put, List.setIfInBounds_toArray, List.set_cons_zero, List.set_cons_succ, List.getElem_toArray, List.getElem_cons_zero, List.getElem_cons_succ]
          refine wpAnyS_take (i := 26) (v := undef) rfl (by kernel_rfl) (by kernel_rfl) (by kernel_rfl) (fun _ _ _ h => h) (by rfl) (gives_unwanted (by rfl)) ?_
          try simp only [Act.put, List.setIfInBounds_toArray, List.set_cons_zero, List.set_cons_succ, List.getElem_toArray, List.getElem_cons_zero, List.getElem_cons_succ]
          refine wpAnyS_take (i := 27) (v := undef) rfl (by kernel_rfl) (by kernel_rfl) (by kernel_rfl) (fun _ _ _ h => h) (by rfl) (gives_unwanted (by rfl)) ?_
          try simp only [Act.put, List.setIfInBounds_toArray, List.set_cons_zero, List.set_cons_succ, List.getElem_toArray, List.getElem_cons_zero, List.getElem_cons_succ]
          refine wpAnyS_take (i := 28) (v := undef) rfl (by kernel_rfl) (by kernel_rfl) (by kernel_rfl) (fun _ _ _ h => h) (by rfl) (gives_unwanted (by rfl)) ?_
          try simp only [Act.put, List.setIfInBounds_toArray, List.set_cons_zero, List.set_cons_succ, List.getElem_toArray, List.getElem_cons_zero, List.getElem_cons_succ]
          refine wpAnyS_take (i := 29) (v := undef) rfl (by kernel_rfl) (by kernel_rfl) (by kernel_rfl) (fun _ _ _ h => h) (by rfl) (gives_unwanted (by rfl)) ?_
          try simp only [Act.put, List.setIfInBounds_toArray, List.set_cons_zero, List.set_cons_succ, List.getElem_toArray, List.getElem_cons_zero, List.getElem_cons_succ]
          refine wpAnyS_take (i := 30) (v := undef) rfl (by kernel_rfl) (by kernel_rfl) (by kernel_rfl) (fun _ _ _ h => h) (by rfl) (gives_unwanted (by rfl)) ?_
          try simp only [Act.put, List.setIfInBounds_toArray, List.set_cons_zero, List.set_cons_succ, List.getElem_toArray, List.getElem_cons_zero, List.getElem_cons_succ]
          refine wpAnyS_take (i := 31) (v := undef) rfl (by kernel_rfl) (by kernel_rfl) (by kernel_rfl) (fun _ _ _ h => h) (by rfl) (gives_unwanted (by rfl)) ?_
          try simp only [Act.put, List.setIfInBounds_toArray, List.set_cons_zero, List.set_cons_succ, List.getElem_toArray, List.getElem_cons_zero, List.getElem_cons_succ]
          refine wpAnyS_take (i := 32) (v := undef) rfl (by kernel_rfl) (by kernel_rfl) (by kernel_rfl) (fun _ _ _ h => h) (by rfl) (gives_unwanted (by rfl)) ?_
          try simp only [Act.put, List.setIfInBounds_toArray, List.set_cons_zero, List.set_cons_succ, List.getElem_toArray, List.getElem_cons_zero, List.getElem_cons_succ]
          refine wpAnyS_take (i := 33) (v := undef) rfl (by kernel_rfl) (by kernel_rfl) (by kernel_rfl) (fun _ _ _ h => h) (by rfl) (gives_unwanted (by rfl)) ?_
          try simp only [Act.put, List.setIfInBounds_toArray, List.set_cons_zero, List.set_cons_succ, List.getElem_toArray, List.getElem_cons_zero, List.getElem_cons_succ]
          refine wpAnyS_take (i := 34) (v := undef) rfl (by kernel_rfl) (by kernel_rfl) (by kernel_rfl) (fun _ _ _ h => h) (by rfl) (gives_unwanted (by rfl)) ?_
          try simp only [Act.put, List.setIfInBounds_toArray, List.set_cons_zero, List.set_cons_succ, List.getElem_toArray, List.getElem_cons_zero, List.getElem_cons_succ]
          refine wpAnyS_take (i := 35) (v := undef) rfl (by kernel_rfl) (by kernel_rfl) (by kernel_rfl) (fun _ _ _ h => h) (by rfl) (gives_unwanted (by rfl)) ?_
          try simp only [Act.put, List.setIfInBounds_toArray, List.set_cons_zero, List.set_cons_succ, List.getElem_toArray, List.getElem_cons_zero, List.getElem_cons_succ]
          refine wpAnyS_take (i := 36) (v := undef) rfl (by kernel_rfl) (by kernel_rfl) (by kernel_rfl) (fun _ _ _ h => h) (by rfl) (gives_unwanted (by rfl)) ?_
          try simp only [Act.put, List.setIfInBounds_toArray, List.set_cons_zero, List.set_cons_succ, List.getElem_toArray, List.getElem_cons_zero, List.getElem_cons_succ]
          refine wpAnyS_take (i := 37) (v := undef) rfl (by kernel_rfl) (by kernel_rfl) (by kernel_rfl) (fun _ _ _ h => h) (by rfl) (gives_unwanted (by rfl)) ?_
          try simp only [Act.put, List.setIfInBounds_toArray, List.set_cons_zero, List.set_cons_succ, List.getElem_toArray, List.getElem_cons_zero, List.getElem_cons_succ]
          refine wpAnyS_take (i := 38) (v := undef) rfl (by kernel_rfl) (by kernel_rfl) (by kernel_rfl) (fun _ _ _ h => h) (by rfl) (gives_unwanted (by rfl)) ?_
          try simp only [Act.put, List.setIfInBounds_toArray, List.set_cons_zero, List.set_cons_succ, List.getElem_toArray, List.getElem_cons_zero, List.getElem_cons_succ]
          refine wpAnyS_take (i := 39) (v := undef) rfl (by kernel_rfl) (by kernel_rfl) (by kernel_rfl) (fun _ _ _ h => h) (by rfl) (gives_unwanted (by rfl)) ?_
          try simp only [Act.put, List.setIfInBounds_toArray, List.set_cons_zero, List.set_cons_succ, List.getElem_toArray, List.getElem_cons_zero, List.getElem_cons_succ]
          refine wpAnyS_take (i := 40) (v := undef) rfl (by kernel_rfl) (by kernel_rfl) (by kernel_rfl) (fun _ _ _ h => h) (by rfl) (gives_unwanted (by rfl)) ?_
          try simp only [Act.put, List.setIfInBounds_toArray, List.set_cons_zero, List.set_cons_succ, List.getElem_toArray, List.getElem_cons_zero, List.getElem_cons_succ]
          refine wpAnyS_take (i := 41) (v := undef) rfl (by kernel_rfl) (by kernel_rfl) (by kernel_rfl) (fun _ _ _ h => h) (by rfl) (gives_unwanted (by rfl)) ?_
          try simp only [Act.put, List.setIfInBounds_toArray, List.set_cons_zero, List.set_cons_succ, List.getElem_toArray, List.getElem_cons_zero, List.getElem_cons_succ]
          refine wpAnyS_take (i := 42) (v := undef) rfl (by kernel_rfl) (by kernel_rfl) (by kernel_rfl) (fun _ _ _ h => h) (by rfl) (gives_unwanted (by rfl)) ?_
          try simp only [Act.put, List.setIfInBounds_toArray, List.set_cons_zero, List.set_cons_succ, List.getElem_toArray, List.getElem_cons_zero, List.getElem_cons_succ]
          refine wpAnyS_take (i := 43) (v := undef) rfl (by kernel_rfl) (by kernel_rfl) (by kernel_rfl) (fun _ _ _ h => h) (by rfl) (gives_unwanted (by rfl)) ?_
          try simp only [Act.put, List.setIfInBounds_toArray, List.set_cons_zero, List.set_cons_succ, List.getElem_toArray, List.getElem_cons_zero, List.getElem_cons_succ]
          refine wpAnyS_take (i := 44) (v := undef) rfl (by kernel_rfl) (by kernel_rfl) (by kernel_rfl) (fun _ _ _ h => h) (by rfl) (gives_unwanted (by rfl)) ?_
          try simp only [Act.put, List.setIfInBounds_toArray, List.set_cons_zero, List.set_cons_succ, List.getElem_toArray, List.getElem_cons_zero, List.getElem_cons_succ]
          refine wpAnyS_take (i := 45) (v := undef) rfl (by kernel_rfl) (by kernel_rfl) (by kernel_rfl) (fun _ _ _ h => h) (by rfl) (gives_unwanted (by rfl)) ?_
          try simp only [Act.put, List.setIfInBounds_toArray, List.set_cons_zero, List.set_cons_succ, List.getElem_toArray, List.getElem_cons_zero, List.getElem_cons_succ]
          refine wpAnyS_take (i := 46) (v := undef) rfl (by kernel_rfl) (by kernel_rfl) (by kernel_rfl) (fun _ _ _ h => h) (by rfl) (gives_unwanted (by rfl)) ?_
          try simp only [Act.put, List.setIfInBounds_toArray, List.set_cons_zero, List.set_cons_succ, List.getElem_toArray, List.getElem_cons_zero, List.getElem_cons_succ]
          refine wpAnyS_take (i := 47) (v := ?_) rfl (by kernel_rfl) (by kernel_rfl) (by kernel_rfl) (fun _ _ _ h => h) (by rfl) (gives_pure (by rfl) ?_) ?_
          rotate_left
          · intro b' d' u' W' hS'
            obtain ⟨⟨s2, s4, s8⟩, ⟨z0, z1, z2⟩, v0, yy⟩ := HF35.out W' hS'
            go_simp
            rfl
          try simp only [Act.put, List.setIfInBounds_toArray, List.set_cons_zero, List.set_cons_succ, List.getElem_toArray, List.getElem_cons_zero, List.getElem_cons_succ]
          refine wpAnyS_done (b := true) (d := true) (by kernel_rfl) (by kernel_rfl) (by kernel_rfl) rfl (fun wS hS => ?_) _
          go_wp2_with fail
          go_roundw
          case rel => exact ⟨k + 1, by omega, by go_num, Lib.hid ⟨pw, pd, (HM33.out.bel hS), HCV.out, HPV.out⟩⟩
          case measure => simp [intOf] <;> omega
        as_aux_lemma =>
        have hle := HFLT.out hf hw0 hm0
        have e1 : (fl != 0) = true := by rw [bne, beq_eq_false_iff_ne.2 hf]; rfl
        have e2 : (wk_ == 0) = true := by rw [hw0]; rfl
        have e3 : (mk_ == 0) = true := by rw [hm0]; rfl
        obtain ⟨mx, hmx⟩ : ∃ mx, max (max (uw - fr - x2 - x3) yl) 0 = mx := ⟨_, rfl⟩
        have e4 : decide (mx < x1) = false := decide_eq_false (by omega)
        clear hf hw0 hm0 hle
        refine wp_region_S (fun _ _ _ W => Below w33.heap.size w33 W) 1000 1000 100000 true true (by kernel_rfl) (by kernel_rfl) (by kernel_rfl) (E0) ?_
        refine wpAnyS_pre (j := 0) (by kernel_rfl) ?_
        iterate 48
          refine wpAnyS_nx (v := ?_) rfl (by kernel_rfl) (by kernel_rfl) (by kernel_rfl) (fun _ _ _ h => h) (by rfl) (gives_pure (by rfl) ?_) ?_
          rotate_left
          · intro b' d' u' W' hS'
            obtain ⟨⟨s2, s4, s8⟩, ⟨z0, z1, z2⟩, v0, yy⟩ := HF35.out W' hS'
            go_simp
            rfl
          try simp only [Act.put, List.setIfInBounds_toArray, List.set_cons_zero, List.set_cons_succ, List.getElem_toArray, List.getElem_cons_zero, List.getElem_cons_succ]
        refine wpAnyS_done (b := true) (d := true) (by kernel_rfl) (by kernel_rfl) (by kernel_rfl) rfl (fun wS hS => ?_) _
        go_wp2_with fail
        go_roundw
        case rel => exact ⟨k + 1, by omega, by go_num, Lib.hid ⟨pw, pd, (HM33.out.bel hS), HCV.out, HPV.out⟩⟩
        case measure => simp [intOf] <;> omega
end Go.Proofs.Ytbopeofglhkffaa
