/- The law MainsFill, walked. -/
import Derived.Test.YtdnpobfnkdllmaaFil
import Derived.Test.YtdnpobfnkdllmaaRso
import Derived.Test.YtdnpobfnkdllmaaRwi
set_option linter.unusedSimpArgs false
set_option linter.unusedVariables false
namespace Go.Proofs.Ytdnpobfnkdllmaa
open Go.RowKit
attribute [local go_sem] block_of_add

set_option maxRecDepth 100000 in
set_option maxHeartbeats 8000000 in
theorem mainsFill_any (s : Sty) (c : Int) (l : List Sty) (got : List Cn) (A Ag : Option Addr) (ck cg : Nat) (w : World) (hr : Reads w w.heap.size 43 A l.length (stysCells l)) (huv : ∀ s ∈ l, ∃ Au nu cu, s.uv = .slice Au nu cu) (hsv : ∃ Au nu cu, s.uv = .slice Au nu cu) (hg : Reads w w.heap.size 4 Ag got.length (cnsCells got)) :
    Calls Try.prog 6 #[.agg (caseCells s c A l.length ck Ag got.length cg).toArray] w fun e w' => e = .returned (.bool true) ∧ Below w.heap.size w w' := by
  have HMAY := Lib.hid (fun W (hb : Below w.heap.size w W) => may19_any s c l got A Ag ck cg W ((hr.below hb).more hb.size) huv ((hg.below hb).more hb.size))
  have HR := Lib.hid hr
  have HG := Lib.hid hg
  have HUV := Lib.hid huv
  clear hr hg huv
  have HC0 : Hid (Blk (w.alloc (.cells (caseCells s c A l.length ck Ag got.length cg).toArray 45)) w.heap.size 45 (caseCells s c A l.length ck Ag got.length cg).toArray) := Lib.hid (Blk.new _ _ _)
  have HCB : Hid (Below w.heap.size w (w.alloc (.cells (caseCells s c A l.length ck Ag got.length cg).toArray 45))) := Lib.hid (bal (Below.refl _ _) _)
  obtain ⟨n, hne⟩ : ∃ n, n = l.length := ⟨_, rfl⟩
  rw [← hne] at HR HC0 HCB HMAY ⊢
  have HN := Lib.hid hne
  clear hne
  obtain ⟨m, hme⟩ : ∃ m, m = got.length := ⟨_, rfl⟩
  rw [← hme] at HG HC0 HCB HMAY ⊢
  have HM := Lib.hid hme
  clear hme
  go_enter Try.func6, Try.ntmps6
  go_upto_region 1 with (fail)
  obtain ⟨gc, hgc⟩ : ∃ gc, gc = w.heap.size := ⟨_, rfl⟩
  obtain ⟨w1, hw1⟩ : ∃ w1, w1 = w.alloc (.cells (caseCells s c A n ck Ag m cg).toArray 45) := ⟨_, rfl⟩
  have HZ : Hid (w1.heap.size = gc + 1 ∧ gc = w.heap.size) := Lib.hid ⟨by rw [hw1, hgc]; simp, hgc⟩
  have HE : Hid (w.alloc (.cells (caseCells s c A n ck Ag m cg).toArray 45) = w1) := Lib.hid hw1.symm
  rw [← hw1] at HC0 HCB
  rw [← hgc] at HC0
  rw [← hgc]
  first | rw [HE.out] | (rw [show (w.alloc _) = w1 from HE.out])
  clear HE hw1 hgc
  have HRG1 : Hid (w1.rangeAt gc 0 (caseCells s c A n ck Ag m cg)) := Lib.hid (blk_rng HC0.out fun j v hv => by rw [Nat.zero_add]; exact hv)
  go_wp2_with (refine wpList_load_mid rfl 45 (.tmp 1) rfl gc 0 rfl (caseCells s c A n ck Ag m cg) _ HRG1.out Try.underlying45 rfl (by kernel_rfl) ?_)
  refine (HMAY.out _ HCB.out).mono ?_
  rintro e w2 ⟨⟨b, rfl, hb⟩, hb2⟩
  have HMB := Lib.hid hb
  have H2 := Lib.hid (And.intro (HC0.out.below hb2 HC0.out.lt) (HCB.out.trans (hb2.mono HCB.out.size)))
  have HZ2 := Lib.hid (show gc + 1 ≤ w2.heap.size by rw [← HZ.out.1]; exact hb2.size)
  clear hb hb2 HMAY HRG1
  cases b
  · go_wp2_with (go_at_call 12; refine (works19_any _).mono ?_; rintro e w' ⟨rfl, hb9⟩; have HB9 := Lib.hid (H2.out.2.trans (hb9.mono H2.out.2.size)); clear hb9)
    go_ret
    exact ⟨rfl, HB9.out⟩
  have HMY := Lib.hid (HMB.out rfl)
  have hn60 : n ≤ 60 := by rw [HN.out]; exact HMY.out.n
  clear hsv
  have HCS := Lib.hid H2.out.1
  have HBw2 := Lib.hid (Below.refl w2.heap.size w2)
  have HBX := Lib.hid H2.out.2
  have HSX : Hid (∀ x ∈ l, StX x) := Lib.hid (fun k hk => by obtain ⟨j, hj, rfl⟩ := List.mem_iff_getElem.1 hk; exact (HMY.out.l j hj).x)
  have HCBC := Lib.hid HMY.out.c
  have HRO : Hid (∀ W, Below w2.heap.size w2 W → Calls Try.prog 19 #[.agg (styCells s).toArray, .int .i64 c, .slice A n ck, .slice Ag m cg] W fun e w' => RowsAns s c l (itM l c got) W w' e) := Lib.hid (fun W hb2 => by
    have hb := H2.out.2.trans (hb2.mono H2.out.2.size)
    have h := rows_any s c l got A Ag ck cg W (by rw [← HN.out]; omega) (by rw [← HN.out]; exact (HR.out.below hb).more hb.size) HUV.out (by rw [← HM.out]; exact (HG.out.below hb).more hb.size) HMY.out.c (fun x hx => (HSX.out x hx).m) HMY.out.g
    rw [← HN.out, ← HM.out] at h; exact h)
  have HMA : Hid (∀ W, Below w2.heap.size w2 W → Calls Try.prog 14 #[.agg (styCells s).toArray, .int .i64 c, .slice A n ck, .slice Ag m cg] W fun e w' => MainsAns s c l got W w' e) := Lib.hid (fun W hb2 => by
    have hb := H2.out.2.trans (hb2.mono H2.out.2.size)
    have h := mains_any s c l got A Ag ck cg W (by rw [← HN.out]; omega) (by rw [← HN.out]; exact (HR.out.below hb).more hb.size) HUV.out (by rw [← HM.out]; exact (HG.out.below hb).more hb.size) HMY.out.c HSX.out HMY.out.g
    rw [← HN.out, ← HM.out] at h; exact h)
  have HIT : Hid (∀ W, Below w2.heap.size w2 W → Calls Try.prog 22 #[.int .i64 c, .slice A n ck, .slice Ag m cg] W fun e w' => (∃ v, e = .returned v ∧ w'.ownsRow W.heap.size 57 51 v n (risC (itM l c got) n)) ∧ Below W.heap.size W w') := Lib.hid (fun W hb2 => by
    have hb := H2.out.2.trans (hb2.mono H2.out.2.size)
    have h := ritems_any c l got A Ag ck cg W (by rw [← HN.out]; omega) (by rw [← HN.out]; exact (HR.out.below hb).more hb.size) HUV.out (by rw [← HM.out]; exact (HG.out.below hb).more hb.size) HMY.out.c (fun x hx => (HSX.out x hx).m) HMY.out.g
    rw [← HN.out, ← HM.out] at h; exact h)
  have HIB : Hid (∀ k, k < n → ItB (itM l c got k)) := Lib.hid (fun k hk => itM_itB (fun x hx => (HSX.out x hx).m) HMY.out.c HMY.out.g k (by rw [← HN.out]; exact hk))
  have HFI := Lib.hid (fill_ans s c l got n HN.out)
  have HMS : Hid (∀ k, k < n → (itM l c got k).s = stK l k) := Lib.hid (fun k _ => rfl)
  have hcb := HMY.out.c.b
  clear H2 HMY HC0 HCB HG
  have HRNGw2 : Hid (w2.rangeAt gc 0 (styCells s)) := Lib.hid (blk_rng (HCS.out.below HBw2.out HCS.out.lt) fun q v hv => by
    rw [Nat.zero_add]
    unfold caseCells
    rw [List.getElem?_append_left (by have := (List.getElem?_eq_some_iff.1 hv).1; exact this)]; exact hv)
  have c43 : w2.cell? ⟨gc, 43, none⟩ = some (.int .i64 c) := (HCS.out.below HBw2.out HCS.out.lt).get 43 rfl
  have c44 : w2.cell? ⟨gc, 44, none⟩ = some (.slice A n ck) := (HCS.out.below HBw2.out HCS.out.lt).get 44 rfl
  have c45 : w2.cell? ⟨gc, 45, none⟩ = some (.slice Ag m cg) := (HCS.out.below HBw2.out HCS.out.lt).get 45 rfl
  go_upto_region 4 with (first
    | refine wpList_load_mid rfl 32 (.tmp 26) rfl gc 0 rfl (styCells s) _ HRNGw2.out Try.underlying32 rfl (by kernel_rfl) ?_
    | (go_at_call 19; refine (HRO.out _ HBw2.out).mono ?_; rintro e w3 ⟨⟨v1, rfl, hra⟩, hb⟩; obtain ⟨Av, cv, hv, _⟩ := hra.ex; subst hv; have H3 := Lib.hid (And.intro hra.x (show Below w2.heap.size w2 w3 from hb)); clear hra hb))
  clear c43 c44 c45 HRNGw2

  have HBw3 := Lib.hid H3.out.2
  have HRNGw3 : Hid (w3.rangeAt gc 0 (styCells s)) := Lib.hid (blk_rng (HCS.out.below HBw3.out HCS.out.lt) fun q v hv => by
    rw [Nat.zero_add]
    unfold caseCells
    rw [List.getElem?_append_left (by have := (List.getElem?_eq_some_iff.1 hv).1; exact this)]; exact hv)
  have c43 : w3.cell? ⟨gc, 43, none⟩ = some (.int .i64 c) := (HCS.out.below HBw3.out HCS.out.lt).get 43 rfl
  have c44 : w3.cell? ⟨gc, 44, none⟩ = some (.slice A n ck) := (HCS.out.below HBw3.out HCS.out.lt).get 44 rfl
  have c45 : w3.cell? ⟨gc, 45, none⟩ = some (.slice Ag m cg) := (HCS.out.below HBw3.out HCS.out.lt).get 45 rfl
  go_upto_region 5 with (first
    | refine wpList_load_mid rfl 32 (.tmp 36) rfl gc 0 rfl (styCells s) _ HRNGw3.out Try.underlying32 rfl (by kernel_rfl) ?_
    | (go_at_call 14; refine (HMA.out _ HBw3.out).mono ?_; rintro e w4 ⟨⟨gu, gb, he, hu, hbo, hge1, hge2⟩, hb⟩; rw [← HN.out] at he hu hbo; subst he; have H4 := Lib.hid (And.intro hu (And.intro hbo (show Below w3.heap.size w3 w4 from hb))); clear hu hbo hge1 hge2 hb))
  clear c43 c44 c45 HRNGw3

  have HBw4 := Lib.hid (HBw3.out.trans (H4.out.2.2.mono HBw3.out.size))
  have HRNGw4 : Hid (w4.rangeAt gc 0 (styCells s)) := Lib.hid (blk_rng (HCS.out.below HBw4.out HCS.out.lt) fun q v hv => by
    rw [Nat.zero_add]
    unfold caseCells
    rw [List.getElem?_append_left (by have := (List.getElem?_eq_some_iff.1 hv).1; exact this)]; exact hv)
  have c43 : w4.cell? ⟨gc, 43, none⟩ = some (.int .i64 c) := (HCS.out.below HBw4.out HCS.out.lt).get 43 rfl
  have c44 : w4.cell? ⟨gc, 44, none⟩ = some (.slice A n ck) := (HCS.out.below HBw4.out HCS.out.lt).get 44 rfl
  have c45 : w4.cell? ⟨gc, 45, none⟩ = some (.slice Ag m cg) := (HCS.out.below HBw4.out HCS.out.lt).get 45 rfl
  go_upto_region 6 with (first
    | refine wpList_load_mid rfl 32 (.tmp 0) rfl gc 0 rfl (styCells s) _ HRNGw4.out Try.underlying32 rfl (by kernel_rfl) ?_
    | (go_at_call 22; refine (HIT.out _ HBw4.out).mono ?_; rintro e w5 ⟨⟨v2, rfl, hown⟩, hb⟩; obtain ⟨Ai, ci, hv2⟩ := own_form hown; subst hv2; have H5 := Lib.hid (And.intro (Reads.of_own hown) (show Below w4.heap.size w4 w5 from hb)); clear hown hb))
  clear c43 c44 c45 HRNGw4

  as_aux_lemma =>
  obtain ⟨M, hM⟩ : ∃ M, M = itM l c got := ⟨_, rfl⟩
  obtain ⟨U, hU⟩ : ∃ U, U = mainsM s c l got := ⟨_, rfl⟩
  rw [← hM] at H3 H5 HIB HFI HMS ⊢
  rw [← hU] at H4 HFI
  clear hM hU
  obtain ⟨R, hR⟩ : ∃ R, R = rowsF s.wrap c (ownM M) (orderF (ordF l) l.length) := ⟨_, rfl⟩
  rw [← hR] at H3 HFI ⊢
  clear hR HRO HMA HIT
  have HF : Hid (RowsX w5 w5.heap.size Av R ∧ Reads w5 w5.heap.size 51 Ai n (risC M n) ∧ Blk w5 gu 39 (triC (fun k => usedT (U k)) n).toArray ∧ Blk w5 gb 4 (booC (fun k => usedB (U k)) n).toArray ∧ Blk w5 gc 45 (caseCells s c A n ck Ag m cg).toArray ∧ Below w.heap.size w w5) := Lib.hid (by
    have b45 := H5.out.2
    have b35 : Below w3.heap.size w3 w5 := H4.out.2.2.trans (b45.mono H4.out.2.2.size)
    have b25 : Below w2.heap.size w2 w5 := H3.out.2.trans (b35.mono H3.out.2.size)
    refine ⟨?_, H5.out.1, H4.out.1.below b45 H4.out.1.lt, H4.out.2.1.below b45 H4.out.2.1.lt, HCS.out.below b25 HCS.out.lt, HBX.out.trans (b25.mono HBX.out.size)⟩
    have := H3.out.1.below b35
    exact ⟨fun r hr => by obtain ⟨g, Ar, cr, h1, h2, h3, h4⟩ := this.at_ r hr; exact ⟨g, Ar, cr, h1, Nat.lt_of_lt_of_le h2 b35.size, h3, h4.more b35.size⟩⟩)
  clear H3 H4 H5 HBw2 HBw3 HBw4 HBX HCS
  have hcn := HFI.out.cnt
  have HCA : Hid (∀ W, Below w5.heap.size w5 W → W.cell? ⟨gc, 43, none⟩ = some (.int .i64 c) ∧ W.cell? ⟨gc, 44, none⟩ = some (.slice A n ck) ∧ W.cell? ⟨gc, 34, none⟩ = some (.bool s.wrap)) := Lib.hid (fun W hb => by
    have h := HF.out.2.2.2.2.1.below hb HF.out.2.2.2.2.1.lt
    exact ⟨h.get 43 rfl, h.get 44 rfl, h.get 34 rfl⟩)
  have HKD : Hid (∀ W, Below w5.heap.size w5 W → Reads W w.heap.size 43 A n (stysCells l)) := Lib.hid (fun W hb => (HR.out.below HF.out.2.2.2.2.2).below (hb.mono HF.out.2.2.2.2.2.size))
  obtain ⟨fu, hfu⟩ : ∃ fu : Nat → Int, fu = fun k => (usedT (U k)).1 + (M k).sides := ⟨_, rfl⟩
  obtain ⟨fg, hfg⟩ : ∃ fg : Nat → Int, fg = fun k => (M k).guess + (M k).sides := ⟨_, rfl⟩
  have HFU : Hid (∀ k, fu k = (usedT (U k)).1 + (M k).sides) := Lib.hid (fun k => by rw [hfu])
  have HFG : Hid (∀ k, fg k = (M k).guess + (M k).sides) := Lib.hid (fun k => by rw [hfg])
  have HSU : Hid (∀ r i, (-(3000000000000000 : Int) ≤ (((rowAt R r).take i).map fu).sum ∧ (((rowAt R r).take i).map fu).sum ≤ 3000000000000000) ∧ (-(3000000000000000 : Int) ≤ (((rowAt R r).take i).map fg).sum ∧ (((rowAt R r).take i).map fg).sum ≤ 3000000000000000)) := Lib.hid (fun r i => by
    have hk : ∀ k ∈ (rowAt R r).take i, k < n := fun k hk => by
      obtain ⟨j, hj, rfl⟩ := List.mem_iff_getElem.1 (List.mem_of_mem_take hk)
      exact HFI.out.mem r j hj
    have h1 := sum_abs ((rowAt R r).take i) fu 50000000000000 (fun k hm => by
      have := HIB.out k (hk k hm)
      have h1 := this.sides
      have h2 := cutF_bd2 (numF (U k).width)
      rw [HFU.out]
      have : (usedT (U k)).1 = cutF (numF (U k).width) := rfl
      omega)
    have h4 := sum_abs ((rowAt R r).take i) fg 50000000000000 (fun k hm => by
      have := HIB.out k (hk k hm)
      have h1 := this.sides
      have h2 := this.guess
      rw [HFG.out]
      omega)
    have h2 := HFI.out.rl r
    have h3 : ((rowAt R r).take i).length ≤ (rowAt R r).length := by rw [List.length_take]; omega
    omega)
  have HFL : Hid (∀ r, r < R.length → (∀ k ∈ rowAt R r, usedB (U k) = false) → ∀ k ∈ rowAt R r, betwF (stK l k) c (usedT (U k)).1 → (usedT (U k)).1 ≠ (M k).base → ((rowAt R r).map fu).sum = c) := Lib.hid (by
    have h := HFI.out.fill
    intro r h1 h2 k h3 h4 h5
    rw [hfu]; exact h r h1 h2 k h3 h4 h5)
  clear hfu hfg
  go_upto_region 6 with (fail)
  go_cut [76] (fun sx wx => sx = .bool false ∧ w5 = wx)
  case first =>
    have c34 := (HCA.out w5 (Below.refl _ _)).2.2
    by_cases h1 : 1 < R.length
    · have d1 : decide ((1 : Int) < (R.length : Int)) = true := decide_eq_true (by omega)
      have d1' : decide (1 < R.length) = true := decide_eq_true h1
      have hw : s.wrap = true := by
        cases h : s.wrap
        · have := HFI.out.one h; omega
        · rfl
      rw [hw] at c34
      clear h1 hw
      go_wp2_with fail
      go_meet
      exact ⟨rfl, rfl⟩
    · have d1 : decide ((1 : Int) < (R.length : Int)) = false := decide_eq_false (by omega)
      have d1' : decide (1 < R.length) = false := decide_eq_false h1
      clear h1 c34
      go_wp2_with fail
      go_meet
      exact ⟨rfl, rfl⟩
  case rest => as_aux_lemma =>
  obtain ⟨rfl, rfl⟩ := hcut
  go_wp2_with fail
  go_loopw [7, 8, 9] (fun sv lv rv wr => ∃ r : Nat, r ≤ R.length ∧ rv = .int .i64 r ∧ sv = .int .i64 (posR R r : Nat) ∧ lv = .int .i64 (lastE R.flatten (posR R r)) ∧ Hid (Below w5.heap.size w5 wr)) (fun _ _ rv _ => R.length - (intOf rv).toNat)
  case atStart => exact ⟨0, by omega, rfl, rfl, rfl, Lib.hid (Below.refl _ _)⟩
  case round =>
    obtain ⟨r, hr, rfl, rfl, rfl, HJ⟩ := hrel
    by_cases hlt : r < R.length
    rotate_left
    · as_aux_lemma =>
      have g1 : decide ((r : Int) < (R.length : Int)) = false := decide_eq_false (by omega)
      have g1' : decide (r < R.length) = false := decide_eq_false hlt
      have HPN : Hid (posR R r = n) := Lib.hid (by rw [show r = R.length by omega, posR_all, HFI.out.flat])
      rw [HPN.out]
      go_wp2_with (go_at_call 12; refine (works19_any _).mono ?_; rintro e w' ⟨rfl, hb9⟩; have HB9 := Lib.hid ((HF.out.2.2.2.2.2.trans (HJ.out.mono HF.out.2.2.2.2.2.size)).trans (hb9.mono ((HF.out.2.2.2.2.2.trans (HJ.out.mono HF.out.2.2.2.2.2.size)).size))); clear hb9)
      go_ret
      exact ⟨rfl, HB9.out⟩
    have g1 : decide ((r : Int) < (R.length : Int)) = true := decide_eq_true (by omega)
    have g1' : decide (r < R.length) = true := decide_eq_true hlt
    have hki : (r : Int) < (R.length : Int) := by omega
    have hk0 : (0 : Int) ≤ (r : Int) := by omega
    have wk : IntKind.i64.wrap ((r : Int) + 1) = (r : Int) + 1 := IntWalk.i64_in _ ⟨by omega, by omega⟩
    obtain ⟨ga, Ar, cr, rfl, gab, f1, rd1⟩ := HF.out.1.at_ r hlt
    obtain ⟨L, hL⟩ : ∃ L, L = (rowAt R r).length := ⟨_, rfl⟩
    have hLn : L ≤ n := by rw [hL]; exact HFI.out.rl r
    have hL0 : 0 < L := by rw [hL]; exact HFI.out.ne r hlt
    rw [← hL] at f1 rd1
    have HFF := Lib.hid (And.intro f1 rd1)
    have HLL := Lib.hid hL
    clear f1 rd1 hL
    obtain ⟨p, hp⟩ : ∃ p, p = posR R r := ⟨_, rfl⟩
    rw [← hp]
    have HPP : Hid (posR R (r + 1) = p + L ∧ p + L ≤ n ∧ ∀ (i : Nat) (h : i < (rowAt R r).length), R.flatten[p + i]? = some (rowAt R r)[i]) := Lib.hid (by
      have h1 := posR_succ hlt
      rw [← hp, ← HLL.out] at h1
      refine ⟨h1, ?_, fun i h => by rw [hp]; exact flat_at hlt h⟩
      have h2 := flat_at hlt (show L - 1 < (rowAt R r).length by rw [← HLL.out]; omega)
      have h3 := (List.getElem?_eq_some_iff.1 h2).1
      rw [HFI.out.flat, ← hp] at h3
      omega)
    have hpb := HPP.out.2.1
    clear hp
    go_wp2_with fail
    obtain ⟨wx, rfl⟩ : ∃ wx, wx = wr := ⟨_, rfl⟩
    go_loopw [7, 8, 10, 11, 12, 13] (fun sv lv uv gv cv2 kv wr => ∃ i : Nat, i ≤ L ∧ kv = .int .i64 i ∧ sv = .int .i64 ((p + i : Nat) : Int) ∧ lv = .int .i64 (lastE R.flatten (p + i)) ∧ uv = .int .i64 ((((rowAt R r).take i).map fu).sum) ∧ gv = .int .i64 ((((rowAt R r).take i).map fg).sum) ∧ cv2 = .bool (((rowAt R r).take i).any fun k => usedB (U k)) ∧ Hid (Below w5.heap.size w5 wr)) (fun _ _ _ _ _ kv _ => L - (intOf kv).toNat)
    case atStart => exact ⟨0, by omega, rfl, rfl, rfl, rfl, rfl, rfl, HJ⟩
    case round => as_aux_lemma =>
      obtain ⟨i, hi, rfl, rfl, rfl, rfl, rfl, rfl, HJ⟩ := hrel
      have f1 : wr.cell? ⟨ga, r, none⟩ = some (.slice Ar L cr) := (HJ.out.cell (p := ⟨ga, r, none⟩) gab).trans HFF.out.1
      obtain ⟨SU, hSU⟩ : ∃ SU, SU = (((rowAt R r).take i).map fu).sum := ⟨_, rfl⟩
      obtain ⟨SG, hSG⟩ : ∃ SG, SG = (((rowAt R r).take i).map fg).sum := ⟨_, rfl⟩
      obtain ⟨cu, hcu⟩ : ∃ cu, cu = (((rowAt R r).take i).any fun k => usedB (U k)) := ⟨_, rfl⟩
      rw [← hSU, ← hSG, ← hcu]
      by_cases hlt2 : i < L
      rotate_left
      · as_aux_lemma =>
        have q0 : decide ((i : Int) < (L : Int)) = false := decide_eq_false (by omega)
        have q0' : decide (i < L) = false := decide_eq_false hlt2
        have HTK : Hid ((rowAt R r).take i = rowAt R r) := Lib.hid (List.take_of_length_le (by rw [← HLL.out]; omega))
        have HSE : Hid (SU = ((rowAt R r).map fu).sum ∧ (cu = false → ∀ k ∈ rowAt R r, usedB (U k) = false)) := Lib.hid ⟨by rw [hSU, HTK.out], fun h k hk => by
          rw [hcu, HTK.out] at h
          cases hb : usedB (U k)
          · rfl
          · have : (rowAt R r).any (fun k => usedB (U k)) = true := List.any_eq_true.2 ⟨k, hk, hb⟩
            rw [h] at this; cases this⟩
        have HPI : Hid (p + i = posR R (r + 1)) := Lib.hid (by rw [HPP.out.1]; omega)
        have hgb : -(3000000000000000 : Int) ≤ SG ∧ SG ≤ 3000000000000000 := by rw [hSG]; exact (HSU.out r i).2
        clear hSU hSG hcu
        have hL0' : ((L : Int) == 0) = false := beq_eq_false_iff_ne.2 (by omega)
        go_wp2_with fail
        obtain ⟨wy, rfl⟩ : ∃ wy, wy = wr := ⟨_, rfl⟩
        clear q0 q0' f1
        go_loopw [15] (fun kv wr => ∃ i : Nat, i ≤ L ∧ kv = .int .i64 i ∧ Hid (Below w5.heap.size w5 wr)) (fun kv _ => L - (intOf kv).toNat)
        case atStart => exact ⟨0, by omega, rfl, HJ⟩
        case round =>
          obtain ⟨q, hq, rfl, HJ⟩ := hrel
          have f1 : wr.cell? ⟨ga, r, none⟩ = some (.slice Ar L cr) := (HJ.out.cell (p := ⟨ga, r, none⟩) gab).trans HFF.out.1
          by_cases hq2 : q < L
          rotate_left
          · have q0 : decide ((q : Int) < (L : Int)) = false := decide_eq_false (by omega)
            have q0' : decide (q < L) = false := decide_eq_false hq2
            go_wp2_with fail
            go_roundw
            case rel => exact ⟨r + 1, by omega, by go_num, by rw [← HPI.out], by rw [← HPI.out], HJ⟩
            case measure => simp [intOf] <;> omega
          have q0 : decide ((q : Int) < (L : Int)) = true := decide_eq_true (by omega)
          have q0' : decide (q < L) = true := decide_eq_true hq2
          cases hcu : cu
          rotate_left
          · clear hcu
            go_wp2_with fail
            go_roundw
            case rel => exact ⟨r + 1, by omega, by go_num, by rw [← HPI.out], by rw [← HPI.out], HJ⟩
            case measure => simp [intOf] <;> omega
          have hii : (q : Int) < (L : Int) := by omega
          have hi0 : (0 : Int) ≤ (q : Int) := by omega
          have wi : IntKind.i64.wrap ((q : Int) + 1) = (q : Int) + 1 := IntWalk.i64_in _ ⟨by omega, by omega⟩
          obtain ⟨a1, u1, rfl, ha1, hx1, hc1⟩ := (HFF.out.2.below HJ.out).at_ hq2
          have hb1 : q < (rowAt R r).length := by rw [← HLL.out]; exact hq2
          obtain ⟨k, hk⟩ : ∃ k, k = (rowAt R r)[q] := ⟨_, rfl⟩
          have e1 : u1 = .int .i64 (k : Int) := by rw [hk]; simpa [nCells, hb1] using hx1.symm
          subst e1
          have hkn : k < n := by rw [hk]; exact HFI.out.mem r q hb1
          have HKM : Hid (k ∈ rowAt R r) := Lib.hid (by rw [hk]; exact List.getElem_mem hb1)
          clear hx1 hk
          have hkn2 : (k : Int) < (n : Int) := by omega
          have hkn3 : (0 : Int) ≤ (k : Int) := by omega
          obtain ⟨ad, hA, hab, _⟩ := (HKD.out wr HJ.out).ord HN.out (show k < l.length by rw [← HN.out]; exact hkn)
          subst hA
          obtain ⟨x, hx⟩ : ∃ x, x = l[k]'(by rw [← HN.out]; exact hkn) := ⟨_, rfl⟩
          have HXS : Hid (stK l k = x ∧ StX x) := Lib.hid (by rw [hx]; exact ⟨stK_at _, HSX.out _ (List.getElem_mem _)⟩)
          have HST : Hid (∀ W, Below w5.heap.size w5 W → ∀ i u, (styCells x)[i + 1]? = some u → W.cell? ⟨ad.block, (ad.add (k * 43)).off + (i + 1), none⟩ = some u) := Lib.hid (fun W hb i u hu => by
            obtain ⟨ad2, e2, s1⟩ := (HKD.out W hb).st HN.out (show k < l.length by rw [← HN.out]; exact hkn)
            injection e2 with e2
            subst e2
            rw [← hx] at s1
            have h1 := s1.cs i u hu
            rw [block_of_add] at h1; exact h1)
          clear hx
          obtain ⟨most, hmost⟩ : ∃ most, most = (resF x.maxw c).1 := ⟨_, rfl⟩
          obtain ⟨is, his⟩ : ∃ is, is = (resF x.maxw c).2 := ⟨_, rfl⟩
          obtain ⟨least, hleast⟩ : ∃ least, least = (resF x.minw c).1 := ⟨_, rfl⟩
          obtain ⟨isl, hisl⟩ : ∃ isl, isl = (resF x.minw c).2 := ⟨_, rfl⟩
          obtain ⟨mk, mn, hmw⟩ : ∃ mk mn, x.maxw = ⟨mk, mn⟩ := ⟨_, _, rfl⟩
          obtain ⟨lk, ln, hlw⟩ : ∃ lk ln, x.minw = ⟨lk, ln⟩ := ⟨_, _, rfl⟩
          have HR1 : Hid (∀ W, Calls Try.prog 24 #[.agg #[.int .u8 mk, .int .i64 mn], .int .i64 c] W (AnsB (.tuple #[.int .i64 most, .bool is]) W)) := Lib.hid (fun W => by
            have h := res_b x.maxw c W HXS.out.2.m.maxw HCBC.out
            rw [← hmost, ← his, hmw] at h; exact h)
          have HR2 : Hid (∀ W, Calls Try.prog 24 #[.agg #[.int .u8 lk, .int .i64 ln], .int .i64 c] W (AnsB (.tuple #[.int .i64 least, .bool isl]) W)) := Lib.hid (fun W => by
            have h := res_b x.minw c W HXS.out.2.m.minw HCBC.out
            rw [← hleast, ← hisl, hlw] at h; exact h)
          have HSC : Hid (∀ W, Below w5.heap.size w5 W → W.cell? ⟨ad.block, (ad.add (k * 43)).off + 10, none⟩ = some (.int .u8 mk) ∧ W.cell? ⟨ad.block, (ad.add (k * 43)).off + 11, none⟩ = some (.int .i64 mn) ∧ W.cell? ⟨ad.block, (ad.add (k * 43)).off + 8, none⟩ = some (.int .u8 lk) ∧ W.cell? ⟨ad.block, (ad.add (k * 43)).off + 9, none⟩ = some (.int .i64 ln) ∧ W.cell? ⟨ad.block, (ad.add (k * 43)).off + 38, none⟩ = some (.int .i64 x.grow) ∧ W.cell? ⟨ad.block, (ad.add (k * 43)).off + 39, none⟩ = some (.int .i64 x.shrink)) := Lib.hid (fun W hb =>
            ⟨(HST.out W hb 9 _ rfl).trans (by rw [hmw]), (HST.out W hb 10 _ rfl).trans (by rw [hmw]), (HST.out W hb 7 _ rfl).trans (by rw [hlw]), (HST.out W hb 8 _ rfl).trans (by rw [hlw]), HST.out W hb 37 _ rfl, HST.out W hb 38 _ rfl⟩)
          obtain ⟨t, ht⟩ : ∃ t, t = (usedT (U k)).1 := ⟨_, rfl⟩
          obtain ⟨bs, hbs⟩ : ∃ bs, bs = (M k).base := ⟨_, rfl⟩
          have HXB : Hid (∀ W, Below w5.heap.size w5 W → W.cell? ⟨gu, k * 3, none⟩ = some (.int .i64 t)) := Lib.hid (fun W h => by
            rw [ht]; exact (HF.out.2.2.1.below h HF.out.2.2.1.lt).get (k * 3) (triC_g0 _ hkn))
          obtain ⟨ai, hAi, _, _⟩ := (HF.out.2.1.below HJ.out).ri hkn
          subst hAi
          have HIB : Hid (∀ W, Below w5.heap.size w5 W → W.cell? ⟨ai.block, (ai.add (k * 51)).off + 46, none⟩ = some (.int .i64 bs)) := Lib.hid (fun W h => by rw [hbs]; exact (HF.out.2.1.below h).rib hkn)
          obtain ⟨bt, hbt⟩ : ∃ bt, bt = (decide (max least 0 < t) && (!is || decide (t < most))) := ⟨_, rfl⟩
          have HKEY : Hid (bt = true → ¬ t = bs → SU = c) := Lib.hid (fun h1 h2 => by
            rw [HSE.out.1]
            refine HFL.out r hlt (HSE.out.2 hcu) k HKM.out ?_ (by rw [← ht, ← hbs]; exact h2)
            rw [← ht, HXS.out.1]
            exact betw_b x c t (by rw [← hleast, ← his, ← hmost, ← hbt]; exact h1))
          have HBT := Lib.hid hbt
          obtain ⟨gr, hgr⟩ : ∃ gr, gr = x.grow := ⟨_, rfl⟩
          obtain ⟨sh, hsh⟩ : ∃ sh, sh = x.shrink := ⟨_, rfl⟩
          rw [← hgr, ← hsh] at HSC
          clear hmost his hleast hisl hmw hlw ht hbs hbt hcu hgr hsh HST
          go_upto_region 35 with (fail)
          clear f1 hc1
          have E0 : Below w5.heap.size w5 wr.drew := HJ.out.drew
          refine wp_region_S (fun _ _ _ W => Below w5.heap.size w5 W) 1000 1000 100000 true true (by kernel_rfl) (by kernel_rfl) (by kernel_rfl) (E0) ?_
          refine wpAnyS_take (i := 0) (v := ?_) rfl (by kernel_rfl) (by kernel_rfl) (by kernel_rfl) (fun _ _ _ h => h) (by rfl) (gives_pure (by rfl) ?_) ?_
          rotate_left
          · intro b' d' u' W' hS'
            have c43 := (HCA.out W' hS').1
            have c44 := (HCA.out W' hS').2.1
            have m1 := (HSC.out W' hS').1
            have m2 := (HSC.out W' hS').2.1
            have m3 := (HSC.out W' hS').2.2.1
            have m4 := (HSC.out W' hS').2.2.2.1
            go_simp
            rfl
          try simp only [Act.put, List.setIfInBounds_toArray, List.set_cons_zero, List.set_cons_succ, List.getElem_toArray, List.getElem_cons_zero, List.getElem_cons_succ]
          refine wpAnyS_take (i := 1) (v := ?_) rfl (by kernel_rfl) (by kernel_rfl) (by kernel_rfl) (fun _ _ _ h => h) (by rfl) (gives_pure (by rfl) ?_) ?_
          rotate_left
          · intro b' d' u' W' hS'
            have c43 := (HCA.out W' hS').1
            have c44 := (HCA.out W' hS').2.1
            have m1 := (HSC.out W' hS').1
            have m2 := (HSC.out W' hS').2.1
            have m3 := (HSC.out W' hS').2.2.1
            have m4 := (HSC.out W' hS').2.2.2.1
            go_simp
            rfl
          try simp only [Act.put, List.setIfInBounds_toArray, List.set_cons_zero, List.set_cons_succ, List.getElem_toArray, List.getElem_cons_zero, List.getElem_cons_succ]
          refine wpAnyS_take (i := 2) (v := ?_) rfl (by kernel_rfl) (by kernel_rfl) (by kernel_rfl) (fun _ _ _ h => h) (by rfl) (gives_pure (by rfl) ?_) ?_
          rotate_left
          · intro b' d' u' W' hS'
            have c43 := (HCA.out W' hS').1
            have c44 := (HCA.out W' hS').2.1
            have m1 := (HSC.out W' hS').1
            have m2 := (HSC.out W' hS').2.1
            have m3 := (HSC.out W' hS').2.2.1
            have m4 := (HSC.out W' hS').2.2.2.1
            go_simp
            rfl
          try simp only [Act.put, List.setIfInBounds_toArray, List.set_cons_zero, List.set_cons_succ, List.getElem_toArray, List.getElem_cons_zero, List.getElem_cons_succ]
          refine wpAnyS_take (i := 3) (v := ?_) rfl (by kernel_rfl) (by kernel_rfl) (by kernel_rfl) (fun _ _ _ h => h) (by rfl) (gives_pure (by rfl) ?_) ?_
          rotate_left
          · intro b' d' u' W' hS'
            have c43 := (HCA.out W' hS').1
            have c44 := (HCA.out W' hS').2.1
            have m1 := (HSC.out W' hS').1
            have m2 := (HSC.out W' hS').2.1
            have m3 := (HSC.out W' hS').2.2.1
            have m4 := (HSC.out W' hS').2.2.2.1
            go_simp
            rfl
          try simp only [Act.put, List.setIfInBounds_toArray, List.set_cons_zero, List.set_cons_succ, List.getElem_toArray, List.getElem_cons_zero, List.getElem_cons_succ]
          refine wpAnyS_take (i := 4) (v := ?_) rfl (by kernel_rfl) (by kernel_rfl) (by kernel_rfl) (fun _ _ _ h => h) (by rfl) (gives_pure (by rfl) ?_) ?_
          rotate_left
          · intro b' d' u' W' hS'
            have c43 := (HCA.out W' hS').1
            have c44 := (HCA.out W' hS').2.1
            have m1 := (HSC.out W' hS').1
            have m2 := (HSC.out W' hS').2.1
            have m3 := (HSC.out W' hS').2.2.1
            have m4 := (HSC.out W' hS').2.2.2.1
            go_simp
            rfl
          try simp only [Act.put, List.setIfInBounds_toArray, List.set_cons_zero, List.set_cons_succ, List.getElem_toArray, List.getElem_cons_zero, List.getElem_cons_succ]
          refine wpAnyS_take (i := 5) (v := ?_) rfl (by kernel_rfl) (by kernel_rfl) (by kernel_rfl) (fun _ _ _ h => h) (by rfl) (gives_pure (by rfl) ?_) ?_
          rotate_left
          · intro b' d' u' W' hS'
            have c43 := (HCA.out W' hS').1
            have c44 := (HCA.out W' hS').2.1
            have m1 := (HSC.out W' hS').1
            have m2 := (HSC.out W' hS').2.1
            have m3 := (HSC.out W' hS').2.2.1
            have m4 := (HSC.out W' hS').2.2.2.1
            go_simp
            rfl
          try simp only [Act.put, List.setIfInBounds_toArray, List.set_cons_zero, List.set_cons_succ, List.getElem_toArray, List.getElem_cons_zero, List.getElem_cons_succ]
          refine wpAnyS_take (i := 6) (v := ?_) rfl (by kernel_rfl) (by kernel_rfl) (by kernel_rfl) (fun _ _ _ h => h) (by rfl) (gives_pure (by rfl) ?_) ?_
          rotate_left
          · intro b' d' u' W' hS'
            have c43 := (HCA.out W' hS').1
            have c44 := (HCA.out W' hS').2.1
            have m1 := (HSC.out W' hS').1
            have m2 := (HSC.out W' hS').2.1
            have m3 := (HSC.out W' hS').2.2.1
            have m4 := (HSC.out W' hS').2.2.2.1
            go_simp
            rfl
          try simp only [Act.put, List.setIfInBounds_toArray, List.set_cons_zero, List.set_cons_succ, List.getElem_toArray, List.getElem_cons_zero, List.getElem_cons_succ]
          refine wpAnyS_take (i := 7) (v := ?_) rfl (by kernel_rfl) (by kernel_rfl) (by kernel_rfl) (fun _ _ _ h => h) (by rfl) (gives_pure (by rfl) ?_) ?_
          rotate_left
          · intro b' d' u' W' hS'
            have c43 := (HCA.out W' hS').1
            have c44 := (HCA.out W' hS').2.1
            have m1 := (HSC.out W' hS').1
            have m2 := (HSC.out W' hS').2.1
            have m3 := (HSC.out W' hS').2.2.1
            have m4 := (HSC.out W' hS').2.2.2.1
            go_simp
            rfl
          try simp only [Act.put, List.setIfInBounds_toArray, List.set_cons_zero, List.set_cons_succ, List.getElem_toArray, List.getElem_cons_zero, List.getElem_cons_succ]
          refine wpAnyS_take (i := 8) (v := .tuple #[.int .i64 most, .bool is]) rfl (by kernel_rfl) (by kernel_rfl) (by kernel_rfl) (fun _ _ _ h => h) (by rfl) (gives_call (by rfl) _ _ ?_ (fun b' d' u' W' hS' => (HR1.out W').mono (fun _ _ h => ⟨h.1, hS'.trans (h.2.mono hS'.size)⟩))) ?_
          · intro W'
            first | rfl | kernel_rfl
          try simp only [Act.put, List.setIfInBounds_toArray, List.set_cons_zero, List.set_cons_succ, List.getElem_toArray, List.getElem_cons_zero, List.getElem_cons_succ]
          refine wpAnyS_take (i := 9) (v := ?_) rfl (by kernel_rfl) (by kernel_rfl) (by kernel_rfl) (fun _ _ _ h => h) (by rfl) (gives_pure (by rfl) ?_) ?_
          rotate_left
          · intro b' d' u' W' hS'
            have c43 := (HCA.out W' hS').1
            have c44 := (HCA.out W' hS').2.1
            have m1 := (HSC.out W' hS').1
            have m2 := (HSC.out W' hS').2.1
            have m3 := (HSC.out W' hS').2.2.1
            have m4 := (HSC.out W' hS').2.2.2.1
            go_simp
            rfl
          try simp only [Act.put, List.setIfInBounds_toArray, List.set_cons_zero, List.set_cons_succ, List.getElem_toArray, List.getElem_cons_zero, List.getElem_cons_succ]
          refine wpAnyS_take (i := 10) (v := ?_) rfl (by kernel_rfl) (by kernel_rfl) (by kernel_rfl) (fun _ _ _ h => h) (by rfl) (gives_pure (by rfl) ?_) ?_
          rotate_left
          · intro b' d' u' W' hS'
            have c43 := (HCA.out W' hS').1
            have c44 := (HCA.out W' hS').2.1
            have m1 := (HSC.out W' hS').1
            have m2 := (HSC.out W' hS').2.1
            have m3 := (HSC.out W' hS').2.2.1
            have m4 := (HSC.out W' hS').2.2.2.1
            go_simp
            rfl
          try simp only [Act.put, List.setIfInBounds_toArray, List.set_cons_zero, List.set_cons_succ, List.getElem_toArray, List.getElem_cons_zero, List.getElem_cons_succ]
          refine wpAnyS_take (i := 11) (v := ?_) rfl (by kernel_rfl) (by kernel_rfl) (by kernel_rfl) (fun _ _ _ h => h) (by rfl) (gives_pure (by rfl) ?_) ?_
          rotate_left
          · intro b' d' u' W' hS'
            have c43 := (HCA.out W' hS').1
            have c44 := (HCA.out W' hS').2.1
            have m1 := (HSC.out W' hS').1
            have m2 := (HSC.out W' hS').2.1
            have m3 := (HSC.out W' hS').2.2.1
            have m4 := (HSC.out W' hS').2.2.2.1
            go_simp
            rfl
          try simp only [Act.put, List.setIfInBounds_toArray, List.set_cons_zero, List.set_cons_succ, List.getElem_toArray, List.getElem_cons_zero, List.getElem_cons_succ]
          refine wpAnyS_take (i := 12) (v := ?_) rfl (by kernel_rfl) (by kernel_rfl) (by kernel_rfl) (fun _ _ _ h => h) (by rfl) (gives_pure (by rfl) ?_) ?_
          rotate_left
          · intro b' d' u' W' hS'
            have c43 := (HCA.out W' hS').1
            have c44 := (HCA.out W' hS').2.1
            have m1 := (HSC.out W' hS').1
            have m2 := (HSC.out W' hS').2.1
            have m3 := (HSC.out W' hS').2.2.1
            have m4 := (HSC.out W' hS').2.2.2.1
            go_simp
            rfl
          try simp only [Act.put, List.setIfInBounds_toArray, List.set_cons_zero, List.set_cons_succ, List.getElem_toArray, List.getElem_cons_zero, List.getElem_cons_succ]
          refine wpAnyS_take (i := 13) (v := ?_) rfl (by kernel_rfl) (by kernel_rfl) (by kernel_rfl) (fun _ _ _ h => h) (by rfl) (gives_pure (by rfl) ?_) ?_
          rotate_left
          · intro b' d' u' W' hS'
            have c43 := (HCA.out W' hS').1
            have c44 := (HCA.out W' hS').2.1
            have m1 := (HSC.out W' hS').1
            have m2 := (HSC.out W' hS').2.1
            have m3 := (HSC.out W' hS').2.2.1
            have m4 := (HSC.out W' hS').2.2.2.1
            go_simp
            rfl
          try simp only [Act.put, List.setIfInBounds_toArray, List.set_cons_zero, List.set_cons_succ, List.getElem_toArray, List.getElem_cons_zero, List.getElem_cons_succ]
          refine wpAnyS_done (b := true) (d := true) (by kernel_rfl) (by kernel_rfl) (by kernel_rfl) rfl (fun wS hS => ?_) _
          have HS := Lib.hid hS
          clear hS E0
          go_upto_region 36 with (fail)
          have E0 : Below w5.heap.size w5 wS.drew := HS.out.drew
          refine wp_region_S (fun _ _ _ W => Below w5.heap.size w5 W) 1000 1000 100000 true true (by kernel_rfl) (by kernel_rfl) (by kernel_rfl) (E0) ?_
          refine wpAnyS_take (i := 0) (v := ?_) rfl (by kernel_rfl) (by kernel_rfl) (by kernel_rfl) (fun _ _ _ h => h) (by rfl) (gives_pure (by rfl) ?_) ?_
          rotate_left
          · intro b' d' u' W' hS'
            have c43 := (HCA.out W' hS').1
            have c44 := (HCA.out W' hS').2.1
            have m1 := (HSC.out W' hS').1
            have m2 := (HSC.out W' hS').2.1
            have m3 := (HSC.out W' hS').2.2.1
            have m4 := (HSC.out W' hS').2.2.2.1
            go_simp
            rfl
          try simp only [Act.put, List.setIfInBounds_toArray, List.set_cons_zero, List.set_cons_succ, List.getElem_toArray, List.getElem_cons_zero, List.getElem_cons_succ]
          refine wpAnyS_take (i := 1) (v := ?_) rfl (by kernel_rfl) (by kernel_rfl) (by kernel_rfl) (fun _ _ _ h => h) (by rfl) (gives_pure (by rfl) ?_) ?_
          rotate_left
          · intro b' d' u' W' hS'
            have c43 := (HCA.out W' hS').1
            have c44 := (HCA.out W' hS').2.1
            have m1 := (HSC.out W' hS').1
            have m2 := (HSC.out W' hS').2.1
            have m3 := (HSC.out W' hS').2.2.1
            have m4 := (HSC.out W' hS').2.2.2.1
            go_simp
            rfl
          try simp only [Act.put, List.setIfInBounds_toArray, List.set_cons_zero, List.set_cons_succ, List.getElem_toArray, List.getElem_cons_zero, List.getElem_cons_succ]
          refine wpAnyS_take (i := 2) (v := ?_) rfl (by kernel_rfl) (by kernel_rfl) (by kernel_rfl) (fun _ _ _ h => h) (by rfl) (gives_pure (by rfl) ?_) ?_
          rotate_left
          · intro b' d' u' W' hS'
            have c43 := (HCA.out W' hS').1
            have c44 := (HCA.out W' hS').2.1
            have m1 := (HSC.out W' hS').1
            have m2 := (HSC.out W' hS').2.1
            have m3 := (HSC.out W' hS').2.2.1
            have m4 := (HSC.out W' hS').2.2.2.1
            go_simp
            rfl
          try simp only [Act.put, List.setIfInBounds_toArray, List.set_cons_zero, List.set_cons_succ, List.getElem_toArray, List.getElem_cons_zero, List.getElem_cons_succ]
          refine wpAnyS_take (i := 3) (v := ?_) rfl (by kernel_rfl) (by kernel_rfl) (by kernel_rfl) (fun _ _ _ h => h) (by rfl) (gives_pure (by rfl) ?_) ?_
          rotate_left
          · intro b' d' u' W' hS'
            have c43 := (HCA.out W' hS').1
            have c44 := (HCA.out W' hS').2.1
            have m1 := (HSC.out W' hS').1
            have m2 := (HSC.out W' hS').2.1
            have m3 := (HSC.out W' hS').2.2.1
            have m4 := (HSC.out W' hS').2.2.2.1
            go_simp
            rfl
          try simp only [Act.put, List.setIfInBounds_toArray, List.set_cons_zero, List.set_cons_succ, List.getElem_toArray, List.getElem_cons_zero, List.getElem_cons_succ]
          refine wpAnyS_take (i := 4) (v := ?_) rfl (by kernel_rfl) (by kernel_rfl) (by kernel_rfl) (fun _ _ _ h => h) (by rfl) (gives_pure (by rfl) ?_) ?_
          rotate_left
          · intro b' d' u' W' hS'
            have c43 := (HCA.out W' hS').1
            have c44 := (HCA.out W' hS').2.1
            have m1 := (HSC.out W' hS').1
            have m2 := (HSC.out W' hS').2.1
            have m3 := (HSC.out W' hS').2.2.1
            have m4 := (HSC.out W' hS').2.2.2.1
            go_simp
            rfl
          try simp only [Act.put, List.setIfInBounds_toArray, List.set_cons_zero, List.set_cons_succ, List.getElem_toArray, List.getElem_cons_zero, List.getElem_cons_succ]
          refine wpAnyS_take (i := 5) (v := ?_) rfl (by kernel_rfl) (by kernel_rfl) (by kernel_rfl) (fun _ _ _ h => h) (by rfl) (gives_pure (by rfl) ?_) ?_
          rotate_left
          · intro b' d' u' W' hS'
            have c43 := (HCA.out W' hS').1
            have c44 := (HCA.out W' hS').2.1
            have m1 := (HSC.out W' hS').1
            have m2 := (HSC.out W' hS').2.1
            have m3 := (HSC.out W' hS').2.2.1
            have m4 := (HSC.out W' hS').2.2.2.1
            go_simp
            rfl
          try simp only [Act.put, List.setIfInBounds_toArray, List.set_cons_zero, List.set_cons_succ, List.getElem_toArray, List.getElem_cons_zero, List.getElem_cons_succ]
          refine wpAnyS_take (i := 6) (v := ?_) rfl (by kernel_rfl) (by kernel_rfl) (by kernel_rfl) (fun _ _ _ h => h) (by rfl) (gives_pure (by rfl) ?_) ?_
          rotate_left
          · intro b' d' u' W' hS'
            have c43 := (HCA.out W' hS').1
            have c44 := (HCA.out W' hS').2.1
            have m1 := (HSC.out W' hS').1
            have m2 := (HSC.out W' hS').2.1
            have m3 := (HSC.out W' hS').2.2.1
            have m4 := (HSC.out W' hS').2.2.2.1
            go_simp
            rfl
          try simp only [Act.put, List.setIfInBounds_toArray, List.set_cons_zero, List.set_cons_succ, List.getElem_toArray, List.getElem_cons_zero, List.getElem_cons_succ]
          refine wpAnyS_take (i := 7) (v := ?_) rfl (by kernel_rfl) (by kernel_rfl) (by kernel_rfl) (fun _ _ _ h => h) (by rfl) (gives_pure (by rfl) ?_) ?_
          rotate_left
          · intro b' d' u' W' hS'
            have c43 := (HCA.out W' hS').1
            have c44 := (HCA.out W' hS').2.1
            have m1 := (HSC.out W' hS').1
            have m2 := (HSC.out W' hS').2.1
            have m3 := (HSC.out W' hS').2.2.1
            have m4 := (HSC.out W' hS').2.2.2.1
            go_simp
            rfl
          try simp only [Act.put, List.setIfInBounds_toArray, List.set_cons_zero, List.set_cons_succ, List.getElem_toArray, List.getElem_cons_zero, List.getElem_cons_succ]
          refine wpAnyS_take (i := 8) (v := .tuple #[.int .i64 least, .bool isl]) rfl (by kernel_rfl) (by kernel_rfl) (by kernel_rfl) (fun _ _ _ h => h) (by rfl) (gives_call (by rfl) _ _ ?_ (fun b' d' u' W' hS' => (HR2.out W').mono (fun _ _ h => ⟨h.1, hS'.trans (h.2.mono hS'.size)⟩))) ?_
          · intro W'
            first | rfl | kernel_rfl
          try simp only [Act.put, List.setIfInBounds_toArray, List.set_cons_zero, List.set_cons_succ, List.getElem_toArray, List.getElem_cons_zero, List.getElem_cons_succ]
          refine wpAnyS_take (i := 9) (v := ?_) rfl (by kernel_rfl) (by kernel_rfl) (by kernel_rfl) (fun _ _ _ h => h) (by rfl) (gives_pure (by rfl) ?_) ?_
          rotate_left
          · intro b' d' u' W' hS'
            have c43 := (HCA.out W' hS').1
            have c44 := (HCA.out W' hS').2.1
            have m1 := (HSC.out W' hS').1
            have m2 := (HSC.out W' hS').2.1
            have m3 := (HSC.out W' hS').2.2.1
            have m4 := (HSC.out W' hS').2.2.2.1
            go_simp
            rfl
          try simp only [Act.put, List.setIfInBounds_toArray, List.set_cons_zero, List.set_cons_succ, List.getElem_toArray, List.getElem_cons_zero, List.getElem_cons_succ]
          refine wpAnyS_take (i := 10) (v := ?_) rfl (by kernel_rfl) (by kernel_rfl) (by kernel_rfl) (fun _ _ _ h => h) (by rfl) (gives_pure (by rfl) ?_) ?_
          rotate_left
          · intro b' d' u' W' hS'
            have c43 := (HCA.out W' hS').1
            have c44 := (HCA.out W' hS').2.1
            have m1 := (HSC.out W' hS').1
            have m2 := (HSC.out W' hS').2.1
            have m3 := (HSC.out W' hS').2.2.1
            have m4 := (HSC.out W' hS').2.2.2.1
            go_simp
            rfl
          try simp only [Act.put, List.setIfInBounds_toArray, List.set_cons_zero, List.set_cons_succ, List.getElem_toArray, List.getElem_cons_zero, List.getElem_cons_succ]
          refine wpAnyS_take (i := 11) (v := ?_) rfl (by kernel_rfl) (by kernel_rfl) (by kernel_rfl) (fun _ _ _ h => h) (by rfl) (gives_pure (by rfl) ?_) ?_
          rotate_left
          · intro b' d' u' W' hS'
            have c43 := (HCA.out W' hS').1
            have c44 := (HCA.out W' hS').2.1
            have m1 := (HSC.out W' hS').1
            have m2 := (HSC.out W' hS').2.1
            have m3 := (HSC.out W' hS').2.2.1
            have m4 := (HSC.out W' hS').2.2.2.1
            go_simp
            rfl
          try simp only [Act.put, List.setIfInBounds_toArray, List.set_cons_zero, List.set_cons_succ, List.getElem_toArray, List.getElem_cons_zero, List.getElem_cons_succ]
          refine wpAnyS_take (i := 12) (v := ?_) rfl (by kernel_rfl) (by kernel_rfl) (by kernel_rfl) (fun _ _ _ h => h) (by rfl) (gives_pure (by rfl) ?_) ?_
          rotate_left
          · intro b' d' u' W' hS'
            have c43 := (HCA.out W' hS').1
            have c44 := (HCA.out W' hS').2.1
            have m1 := (HSC.out W' hS').1
            have m2 := (HSC.out W' hS').2.1
            have m3 := (HSC.out W' hS').2.2.1
            have m4 := (HSC.out W' hS').2.2.2.1
            go_simp
            rfl
          try simp only [Act.put, List.setIfInBounds_toArray, List.set_cons_zero, List.set_cons_succ, List.getElem_toArray, List.getElem_cons_zero, List.getElem_cons_succ]
          refine wpAnyS_take (i := 13) (v := ?_) rfl (by kernel_rfl) (by kernel_rfl) (by kernel_rfl) (fun _ _ _ h => h) (by rfl) (gives_pure (by rfl) ?_) ?_
          rotate_left
          · intro b' d' u' W' hS'
            have c43 := (HCA.out W' hS').1
            have c44 := (HCA.out W' hS').2.1
            have m1 := (HSC.out W' hS').1
            have m2 := (HSC.out W' hS').2.1
            have m3 := (HSC.out W' hS').2.2.1
            have m4 := (HSC.out W' hS').2.2.2.1
            go_simp
            rfl
          try simp only [Act.put, List.setIfInBounds_toArray, List.set_cons_zero, List.set_cons_succ, List.getElem_toArray, List.getElem_cons_zero, List.getElem_cons_succ]
          refine wpAnyS_done (b := true) (d := true) (by kernel_rfl) (by kernel_rfl) (by kernel_rfl) rfl (fun wT hT => ?_) _
          have HT := Lib.hid hT
          clear hT E0
          go_upto_region 37 with (fail)
          go_cut [21] (fun sx wx => sx = .bool bt ∧ wT = wx)
          case first => as_aux_lemma =>
            have xu := HXB.out wT HT.out
            have hb := HBT.out
            rcases Int.lt_trichotomy least 0 with hl | hl | hl
            · have hm : max least 0 = 0 := by omega
              rw [hm] at hb
              clear hm
              cases d1 : decide (0 < t)
              · simp only [d1, Bool.false_and] at hb
                have HB9 := Lib.hid hb
                clear hb
                go_wp2_with fail
                go_meet
                exact ⟨by rw [HB9.out], rfl⟩
              · simp only [d1, Bool.true_and] at hb
                cases is
                · simp only [Bool.not_false, Bool.true_or] at hb
                  have HB9 := Lib.hid hb
                  clear hb
                  go_wp2_with fail
                  go_meet
                  exact ⟨by rw [HB9.out], rfl⟩
                · simp only [Bool.not_true, Bool.false_or] at hb
                  cases d2 : decide (t < most)
                  · rw [d2] at hb
                    have HB9 := Lib.hid hb
                    clear hb
                    go_wp2_with fail
                    go_meet
                    exact ⟨by rw [HB9.out], rfl⟩
                  · rw [d2] at hb
                    have HB9 := Lib.hid hb
                    clear hb
                    go_wp2_with fail
                    go_meet
                    exact ⟨by rw [HB9.out], rfl⟩
            · subst hl
              have hm : max (0 : Int) 0 = 0 := by omega
              rw [hm] at hb
              clear hm
              cases d1 : decide (0 < t)
              · simp only [d1, Bool.false_and] at hb
                have HB9 := Lib.hid hb
                clear hb
                go_wp2_with fail
                go_meet
                exact ⟨by rw [HB9.out], rfl⟩
              · simp only [d1, Bool.true_and] at hb
                cases is
                · simp only [Bool.not_false, Bool.true_or] at hb
                  have HB9 := Lib.hid hb
                  clear hb
                  go_wp2_with fail
                  go_meet
                  exact ⟨by rw [HB9.out], rfl⟩
                · simp only [Bool.not_true, Bool.false_or] at hb
                  cases d2 : decide (t < most)
                  · rw [d2] at hb
                    have HB9 := Lib.hid hb
                    clear hb
                    go_wp2_with fail
                    go_meet
                    exact ⟨by rw [HB9.out], rfl⟩
                  · rw [d2] at hb
                    have HB9 := Lib.hid hb
                    clear hb
                    go_wp2_with fail
                    go_meet
                    exact ⟨by rw [HB9.out], rfl⟩
            · have hm : max least 0 = least := by omega
              rw [hm] at hb
              clear hm
              cases d1 : decide (least < t)
              · simp only [d1, Bool.false_and] at hb
                have HB9 := Lib.hid hb
                clear hb
                go_wp2_with fail
                go_meet
                exact ⟨by rw [HB9.out], rfl⟩
              · simp only [d1, Bool.true_and] at hb
                cases is
                · simp only [Bool.not_false, Bool.true_or] at hb
                  have HB9 := Lib.hid hb
                  clear hb
                  go_wp2_with fail
                  go_meet
                  exact ⟨by rw [HB9.out], rfl⟩
                · simp only [Bool.not_true, Bool.false_or] at hb
                  cases d2 : decide (t < most)
                  · rw [d2] at hb
                    have HB9 := Lib.hid hb
                    clear hb
                    go_wp2_with fail
                    go_meet
                    exact ⟨by rw [HB9.out], rfl⟩
                  · rw [d2] at hb
                    have HB9 := Lib.hid hb
                    clear hb
                    go_wp2_with fail
                    go_meet
                    exact ⟨by rw [HB9.out], rfl⟩
          case rest => as_aux_lemma =>
          obtain ⟨rfl, rfl⟩ := hcut
          go_upto_region 38 with (fail)
          go_cut [313] (fun sx wx => sx = .bool false ∧ Hid (Below w5.heap.size w5 wx))
          case first => as_aux_lemma =>
            have c43 := (HCA.out wT HT.out).1
            have c44 := (HCA.out wT HT.out).2.1
            have xg := (HSC.out wT HT.out).2.2.2.2.1
            have xh := (HSC.out wT HT.out).2.2.2.2.2
            have xu := HXB.out wT HT.out
            have xb := HIB.out wT HT.out
            cases d0 : decide (SG < c)
            · skip
              go_quiet (fail)
              go_wp2_with fail
              go_meet
              exact ⟨rfl, Lib.hid (below_dr HT.out _)⟩
            · skip
              have HB2 := Lib.hid HKEY.out
              clear HKEY
              cases bt
              · skip
                go_quiet (fail)
                go_wp2_with fail
                go_meet
                exact ⟨rfl, Lib.hid (below_dr HT.out _)⟩
              · skip
                cases d2 : decide ((0 : Int) < gr)
                · skip
                  go_quiet (fail)
                  go_wp2_with fail
                  go_meet
                  exact ⟨rfl, Lib.hid (below_dr HT.out _)⟩
                · skip
                  cases d3 : (t != bs)
                  · skip
                    go_quiet (fail)
                    go_wp2_with fail
                    go_meet
                    exact ⟨rfl, Lib.hid (below_dr HT.out _)⟩
                  · skip
                    have dz : (SU != c) = false := by rw [HB2.out rfl (by simpa using d3)]; simp
                    go_quiet (fail)
                    go_wp2_with fail
                    go_meet
                    exact ⟨rfl, Lib.hid (below_dr HT.out _)⟩
          case rest => as_aux_lemma =>
          obtain ⟨rfl, HU⟩ := hcut
          obtain ⟨wf, rfl⟩ : ∃ wf, wf = wc := ⟨_, rfl⟩
          go_upto_region 40 with (fail)
          go_cut [356] (fun sx wx => sx = .bool false ∧ Hid (Below w5.heap.size w5 wx))
          case first => as_aux_lemma =>
            have c43 := (HCA.out wf HU.out).1
            have c44 := (HCA.out wf HU.out).2.1
            have xg := (HSC.out wf HU.out).2.2.2.2.1
            have xh := (HSC.out wf HU.out).2.2.2.2.2
            have xu := HXB.out wf HU.out
            have xb := HIB.out wf HU.out
            cases d0 : decide (c < SG)
            · skip
              go_quiet (fail)
              go_wp2_with fail
              go_meet
              exact ⟨rfl, Lib.hid (below_dr HU.out _)⟩
            · skip
              have HB2 := Lib.hid HKEY.out
              clear HKEY
              cases bt
              · skip
                go_quiet (fail)
                go_wp2_with fail
                go_meet
                exact ⟨rfl, Lib.hid (below_dr HU.out _)⟩
              · skip
                cases d2 : decide ((0 : Int) < sh)
                · skip
                  go_quiet (fail)
                  go_wp2_with fail
                  go_meet
                  exact ⟨rfl, Lib.hid (below_dr HU.out _)⟩
                · skip
                  cases d3 : decide ((0 : Int) < bs)
                  · skip
                    go_quiet (fail)
                    go_wp2_with fail
                    go_meet
                    exact ⟨rfl, Lib.hid (below_dr HU.out _)⟩
                  · skip
                    cases d4 : (t != bs)
                    · skip
                      go_quiet (fail)
                      go_wp2_with fail
                      go_meet
                      exact ⟨rfl, Lib.hid (below_dr HU.out _)⟩
                    · skip
                      have dz : (SU != c) = false := by rw [HB2.out rfl (by simpa using d4)]; simp
                      go_quiet (fail)
                      go_wp2_with fail
                      go_meet
                      exact ⟨rfl, Lib.hid (below_dr HU.out _)⟩
          case rest => as_aux_lemma =>
          obtain ⟨rfl, HV⟩ := hcut
          go_wp2_with fail
          go_roundw
          case rel => exact ⟨q + 1, by omega, by go_num, HV⟩
          case measure => simp [intOf] <;> omega
      have q0 : decide ((i : Int) < (L : Int)) = true := decide_eq_true (by omega)
      have q0' : decide (i < L) = true := decide_eq_true hlt2
      have hii : (i : Int) < (L : Int) := by omega
      have hi0 : (0 : Int) ≤ (i : Int) := by omega
      have wi : IntKind.i64.wrap ((i : Int) + 1) = (i : Int) + 1 := IntWalk.i64_in _ ⟨by omega, by omega⟩
      obtain ⟨a1, u1, rfl, ha1, hx1, hc1⟩ := (HFF.out.2.below HJ.out).at_ hlt2
      have hb1 : i < (rowAt R r).length := by rw [← HLL.out]; exact hlt2
      obtain ⟨k, hk⟩ : ∃ k, k = (rowAt R r)[i] := ⟨_, rfl⟩
      have e1 : u1 = .int .i64 (k : Int) := by rw [hk]; simpa [nCells, hb1] using hx1.symm
      subst e1
      have hkn : k < n := by rw [hk]; exact HFI.out.mem r i hb1
      have HS1 : Hid ((((rowAt R r).take (i + 1)).map fu).sum = SU + fu k ∧ (((rowAt R r).take (i + 1)).map fg).sum = SG + fg k ∧ (((rowAt R r).take (i + 1)).any fun k => usedB (U k)) = (cu || usedB (U k))) := Lib.hid (by
        rw [List.take_succ_eq_append_getElem hb1, List.map_append, List.sum_append, List.map_append, List.sum_append, List.any_append, hSU, hSG, hcu, hk]; simp)
      have hSb : (-(3000000000000000 : Int) ≤ SU ∧ SU ≤ 3000000000000000) ∧ (-(3000000000000000 : Int) ≤ SG ∧ SG ≤ 3000000000000000) := by rw [hSU, hSG]; exact HSU.out r i
      have HLK : Hid (R.flatten[p + i]? = some k) := Lib.hid (by rw [hk]; exact HPP.out.2.2 i hb1)
      clear hx1 hk hSU hSG hcu
      have hkn2 : (k : Int) < (n : Int) := by omega
      have hkn3 : (0 : Int) ≤ (k : Int) := by omega
      have k1 : decide ((k : Int) < 0) = false := decide_eq_false (by omega)
      have k2 : decide ((n : Int) ≤ (k : Int)) = false := decide_eq_false (by omega)
      have k2' : decide (n ≤ k) = false := decide_eq_false (by omega)
      obtain ⟨ad, hA, hab, ok⟩ := (HKD.out wr HJ.out).ord HN.out (show k < l.length by rw [← HN.out]; exact hkn)
      subst hA
      have c44 := (HCA.out wr HJ.out).2.1
      go_upto_region 20 with (fail)
      go_cut [8, 145] (fun s8 sx wx => s8 = .int .i64 (lastE R.flatten (p + i)) ∧ sx = .bool false ∧ Hid (Below w5.heap.size w5 wx))
      case first => as_aux_lemma =>
        by_cases hz : p + i = 0
        · have HLE : Hid (lastE R.flatten (p + i) = -1) := Lib.hid (by rw [hz]; rfl)
          rw [HLE.out]
          have e0 : decide ((0 : Int) ≤ -1) = false := by decide
          clear hz
          go_quiet (fail)
          go_wp2_with fail
          go_meet
          exact ⟨by rw [HLE.out], rfl, Lib.hid (below_dr HJ.out _)⟩
        · obtain ⟨q, hq⟩ : ∃ q, p + i = q + 1 := ⟨p + i - 1, by omega⟩
          have hqf : q < R.flatten.length := by rw [HFI.out.flat]; omega
          obtain ⟨e, he⟩ : ∃ e, R.flatten[q]? = some e := ⟨_, List.getElem?_eq_getElem hqf⟩
          have HLE : Hid (lastE R.flatten (p + i) = (e : Int)) := Lib.hid (by rw [hq]; exact lastE_succ he)
          have hen : e < n := by
            have hm : e ∈ R.flatten := List.mem_of_getElem? he
            obtain ⟨row, hrow, her⟩ := List.mem_flatten.1 hm
            obtain ⟨r2, hr2, rfl⟩ := List.mem_iff_getElem.1 hrow
            obtain ⟨j, hj, rfl⟩ := List.mem_iff_getElem.1 her
            have := HFI.out.mem r2 j (by rw [rowAt_eq hr2]; exact hj)
            simp only [rowAt_eq hr2] at this; exact this
          have hord := HFI.out.srt q e k he (by rw [← hq]; exact HLK.out)
          rw [HLE.out]
          have hen2 : (e : Int) < (n : Int) := by omega
          have hen3 : (0 : Int) ≤ (e : Int) := by omega
          have d0 : decide ((0 : Int) ≤ (e : Int)) = true := decide_eq_true (by omega)
          obtain ⟨ad2, hA2, _, oe⟩ := (HKD.out wr HJ.out).ord HN.out (show e < l.length by rw [← HN.out]; exact hen)
          obtain rfl : ad = ad2 := by injection hA2
          have d1 : decide (ordF l k < ordF l e) = false := decide_eq_false (by omega)
          have HOE := Lib.hid (And.intro hord (And.intro hq he))
          clear hA2 hz hq he hqf
          rcases HOE.out.1 with ho | ⟨ho, ho2⟩
          · have d2 : (ordF l e == ordF l k) = false := beq_eq_false_iff_ne.2 (by omega)
            clear hord ho
            go_quiet (fail)
            go_wp2_with fail
            go_meet
            exact ⟨by rw [HLE.out], rfl, Lib.hid (below_dr HJ.out _)⟩
          · have d2 : (ordF l e == ordF l k) = true := beq_iff_eq.2 ho
            have d3 : decide ((k : Int) ≤ (e : Int)) = false := decide_eq_false (by omega)
            have d3' : decide (k ≤ e) = false := decide_eq_false (by omega)
            clear hord ho ho2
            go_quiet (fail)
            go_wp2_with fail
            go_meet
            exact ⟨by rw [HLE.out], rfl, Lib.hid (below_dr HJ.out _)⟩
      case rest => as_aux_lemma =>
        obtain ⟨rfl, rfl, HC⟩ := hcut
        obtain ⟨wd, rfl⟩ : ∃ wd, wd = wc := ⟨_, rfl⟩
        clear ok c44 f1 hc1 HJ
        obtain ⟨ai, rfl, x45, x47⟩ := (HF.out.2.1.below HC.out).ri hkn
        have hib := HIB.out k hkn
        obtain ⟨sd, hsd⟩ : ∃ sd, sd = (M k).sides := ⟨_, rfl⟩
        obtain ⟨ge, hge⟩ : ∃ ge, ge = (M k).guess := ⟨_, rfl⟩
        obtain ⟨t, ht⟩ : ∃ t, t = (usedT (U k)).1 := ⟨_, rfl⟩
        obtain ⟨b, hb⟩ : ∃ b, b = usedB (U k) := ⟨_, rfl⟩
        have hs1 := hib.sides
        have hg1 := hib.guess
        have htb : -1099511627776 ≤ t ∧ t ≤ 1099511627776 := by rw [ht]; exact cutF_bd2 _
        have xu : wd.cell? ⟨gu, k * 3, none⟩ = some (.int .i64 t) := by rw [ht]; exact (HF.out.2.2.1.below HC.out HF.out.2.2.1.lt).get (k * 3) (triC_g0 _ hkn)
        have HXB : Hid (∀ W, Below w5.heap.size w5 W → W.cell? ⟨gb, k, none⟩ = some (.bool b) ∧ W.cell? ⟨gu, k * 3, none⟩ = some (.int .i64 t)) := Lib.hid (fun W h => by
          refine ⟨?_, ?_⟩
          · rw [hb]; exact (HF.out.2.2.2.1.below h HF.out.2.2.2.1.lt).get k (by rw [List.getElem?_toArray]; exact booC_at _ hkn)
          · rw [ht]; exact (HF.out.2.2.1.below h HF.out.2.2.1.lt).get (k * 3) (triC_g0 _ hkn))
        rw [← hsd] at hs1 x45
        rw [← hge] at hg1 x47
        have HEQ : Hid (fu k = t + sd ∧ fg k = ge + sd ∧ usedB (U k) = b ∧ (b = false → clampF (stK l k) c t = t)) := Lib.hid ⟨by rw [HFU.out, ht, hsd], by rw [HFG.out, hge, hsd], hb.symm, fun h => by rw [ht]; exact HFI.out.clamp k hkn (by rw [← hb]; exact h)⟩
        clear hib hsd hge ht hb
        have w6 : IntKind.i64.wrap (((p + i : Nat) : Int) + 1) = ((p + (i + 1) : Nat) : Int) := by rw [IntWalk.i64_in _ ⟨by omega, by omega⟩]; omega
        have w7 : IntKind.i64.wrap (SU + t) = SU + t := IntWalk.i64_in _ ⟨by omega, by omega⟩
        have w8 : IntKind.i64.wrap (SU + t + sd) = SU + t + sd := IntWalk.i64_in _ ⟨by omega, by omega⟩
        have w9 : IntKind.i64.wrap (SG + ge) = SG + ge := IntWalk.i64_in _ ⟨by omega, by omega⟩
        have w10 : IntKind.i64.wrap (SG + ge + sd) = SG + ge + sd := IntWalk.i64_in _ ⟨by omega, by omega⟩
        go_upto_region 24 with (fail)
        go_quiet (fail)
        obtain ⟨n1, hn1⟩ : ∃ n1, n1 = nq := ⟨_, rfl⟩
        rw [← hn1]
        clear hn1
        go_upto_region 25 with (fail)
        go_quiet (fail)
        go_upto_region 26 with (fail)
        obtain ⟨we, hwe⟩ : ∃ we, we = (wd.drewN n1).drewN nq := ⟨_, rfl⟩
        have HE : Hid (Below w5.heap.size w5 we) := Lib.hid (by rw [hwe]; exact below_dr (below_dr HC.out _) _)
        rw [← hwe]
        clear hwe x45 x47 xu HC
        have cbk := (HXB.out we HE.out).1
        go_cut [12] (fun sx wx => sx = .bool (cu || b) ∧ we = wx)
        case first => as_aux_lemma =>
          cases cu
          · go_wp2_with fail
            go_meet
            exact ⟨rfl, rfl⟩
          · go_wp2_with fail
            go_meet
            exact ⟨rfl, rfl⟩
        case rest => as_aux_lemma =>
        obtain ⟨rfl, rfl⟩ := hcut
        clear cbk
        obtain ⟨cu2, hcu2⟩ : ∃ cu2, cu2 = (cu || b) := ⟨_, rfl⟩
        rw [← hcu2]
        have HCU := Lib.hid hcu2
        clear hcu2
        obtain ⟨x, hx⟩ : ∃ x, x = l[k]'(by rw [← HN.out]; exact hkn) := ⟨_, rfl⟩
        have HXS : Hid (stK l k = x ∧ StX x) := Lib.hid (by rw [hx]; exact ⟨stK_at _, HSX.out _ (List.getElem_mem _)⟩)
        have HLD : Hid (∀ W, Below w5.heap.size w5 W → ∀ j u, (styCells x)[j]? = some u → W.cell? ((ad.add (k * 43)).add j) = some u) := Lib.hid (fun W hb j u hu => by
          obtain ⟨ad', e, _, hcc⟩ := (HKD.out W hb).2 (by omega)
          injection e with e; subst e
          have hj : j < 43 := by have := (List.getElem?_eq_some_iff.1 hu).1; rw [sty_len] at this; exact this
          rw [add_of_add]
          exact hcc _ u (by rw [stysCells_at l k j (by rw [← HN.out]; exact hkn) hj, ← hx]; exact hu))
        clear hx
        go_upto_region 27 with (fail)
        go_cut [207] (fun sx wx => sx = .bool false ∧ Hid (Below w5.heap.size w5 wx))
        case first => as_aux_lemma =>
          have cbk := (HXB.out we HE.out).1
          cases hbb : b
          · rw [hbb] at cbk
            have HCT : Hid (clampF x c t = t) := Lib.hid (by have h := HEQ.out.2.2.2 hbb; rw [HXS.out.1] at h; exact h)
            have HBB := Lib.hid hbb
            clear hbb cbk
            have E0 : Below w5.heap.size w5 we.drew := HE.out.drew
            refine wp_region_S (fun _ _ _ W => Below w5.heap.size w5 W) 1000 1000 100000 true true (by kernel_rfl) (by kernel_rfl) (by kernel_rfl) (E0) ?_
            refine wpAnyS_take (i := 0) (v := ?_) rfl (by kernel_rfl) (by kernel_rfl) (by kernel_rfl) (fun _ _ _ h => h) (by rfl) (gives_pure (by rfl) ?_) ?_
            rotate_left
            · intro b' d' u' W' hS'
              have c43 := (HCA.out W' hS').1
              have c44 := (HCA.out W' hS').2.1
              have xu := (HXB.out W' hS').2
              have cbk := (HXB.out W' hS').1
              rw [HBB.out] at cbk
              go_simp
              rfl
            try simp only [Act.put, List.setIfInBounds_toArray, List.set_cons_zero, List.set_cons_succ, List.getElem_toArray, List.getElem_cons_zero, List.getElem_cons_succ]
            refine wpAnyS_take (i := 1) (v := ?_) rfl (by kernel_rfl) (by kernel_rfl) (by kernel_rfl) (fun _ _ _ h => h) (by rfl) (gives_pure (by rfl) ?_) ?_
            rotate_left
            · intro b' d' u' W' hS'
              have c43 := (HCA.out W' hS').1
              have c44 := (HCA.out W' hS').2.1
              have xu := (HXB.out W' hS').2
              have cbk := (HXB.out W' hS').1
              rw [HBB.out] at cbk
              go_simp
              rfl
            try simp only [Act.put, List.setIfInBounds_toArray, List.set_cons_zero, List.set_cons_succ, List.getElem_toArray, List.getElem_cons_zero, List.getElem_cons_succ]
            refine wpAnyS_take (i := 2) (v := ?_) rfl (by kernel_rfl) (by kernel_rfl) (by kernel_rfl) (fun _ _ _ h => h) (by rfl) (gives_pure (by rfl) ?_) ?_
            rotate_left
            · intro b' d' u' W' hS'
              have c43 := (HCA.out W' hS').1
              have c44 := (HCA.out W' hS').2.1
              have xu := (HXB.out W' hS').2
              have cbk := (HXB.out W' hS').1
              rw [HBB.out] at cbk
              go_simp
              rfl
            try simp only [Act.put, List.setIfInBounds_toArray, List.set_cons_zero, List.set_cons_succ, List.getElem_toArray, List.getElem_cons_zero, List.getElem_cons_succ]
            refine wpAnyS_take (i := 3) (v := ?_) rfl (by kernel_rfl) (by kernel_rfl) (by kernel_rfl) (fun _ _ _ h => h) (by rfl) (gives_pure (by rfl) ?_) ?_
            rotate_left
            · intro b' d' u' W' hS'
              have c43 := (HCA.out W' hS').1
              have c44 := (HCA.out W' hS').2.1
              have xu := (HXB.out W' hS').2
              have cbk := (HXB.out W' hS').1
              rw [HBB.out] at cbk
              go_simp
              rfl
            try simp only [Act.put, List.setIfInBounds_toArray, List.set_cons_zero, List.set_cons_succ, List.getElem_toArray, List.getElem_cons_zero, List.getElem_cons_succ]
            refine wpAnyS_take (i := 4) (v := ?_) rfl (by kernel_rfl) (by kernel_rfl) (by kernel_rfl) (fun _ _ _ h => h) (by rfl) (gives_pure (by rfl) ?_) ?_
            rotate_left
            · intro b' d' u' W' hS'
              have c43 := (HCA.out W' hS').1
              have c44 := (HCA.out W' hS').2.1
              have xu := (HXB.out W' hS').2
              have cbk := (HXB.out W' hS').1
              rw [HBB.out] at cbk
              go_simp
              rfl
            try simp only [Act.put, List.setIfInBounds_toArray, List.set_cons_zero, List.set_cons_succ, List.getElem_toArray, List.getElem_cons_zero, List.getElem_cons_succ]
            refine wpAnyS_take (i := 5) (v := ?_) rfl (by kernel_rfl) (by kernel_rfl) (by kernel_rfl) (fun _ _ _ h => h) (by rfl) (gives_pure (by rfl) ?_) ?_
            rotate_left
            · intro b' d' u' W' hS'
              have c43 := (HCA.out W' hS').1
              have c44 := (HCA.out W' hS').2.1
              have xu := (HXB.out W' hS').2
              have cbk := (HXB.out W' hS').1
              rw [HBB.out] at cbk
              go_simp
              rfl
            try simp only [Act.put, List.setIfInBounds_toArray, List.set_cons_zero, List.set_cons_succ, List.getElem_toArray, List.getElem_cons_zero, List.getElem_cons_succ]
            refine wpAnyS_take (i := 6) (v := ?_) rfl (by kernel_rfl) (by kernel_rfl) (by kernel_rfl) (fun _ _ _ h => h) (by rfl) (gives_pure (by rfl) ?_) ?_
            rotate_left
            · intro b' d' u' W' hS'
              have c43 := (HCA.out W' hS').1
              have c44 := (HCA.out W' hS').2.1
              have xu := (HXB.out W' hS').2
              have cbk := (HXB.out W' hS').1
              rw [HBB.out] at cbk
              go_simp
              rfl
            try simp only [Act.put, List.setIfInBounds_toArray, List.set_cons_zero, List.set_cons_succ, List.getElem_toArray, List.getElem_cons_zero, List.getElem_cons_succ]
            refine wpAnyS_take (i := 7) (v := ?_) rfl (by kernel_rfl) (by kernel_rfl) (by kernel_rfl) (fun _ _ _ h => h) (by rfl) (gives_pure (by rfl) ?_) ?_
            rotate_left
            · intro b' d' u' W' hS'
              have c43 := (HCA.out W' hS').1
              have c44 := (HCA.out W' hS').2.1
              have xu := (HXB.out W' hS').2
              have cbk := (HXB.out W' hS').1
              rw [HBB.out] at cbk
              go_simp
              rfl
            try simp only [Act.put, List.setIfInBounds_toArray, List.set_cons_zero, List.set_cons_succ, List.getElem_toArray, List.getElem_cons_zero, List.getElem_cons_succ]
            refine wpAnyS_take (i := 8) (v := ?_) rfl (by kernel_rfl) (by kernel_rfl) (by kernel_rfl) (fun _ _ _ h => h) (by rfl) (gives_pure (by rfl) ?_) ?_
            rotate_left
            · intro b' d' u' W' hS'
              have c43 := (HCA.out W' hS').1
              have c44 := (HCA.out W' hS').2.1
              have xu := (HXB.out W' hS').2
              have cbk := (HXB.out W' hS').1
              rw [HBB.out] at cbk
              go_simp
              rfl
            try simp only [Act.put, List.setIfInBounds_toArray, List.set_cons_zero, List.set_cons_succ, List.getElem_toArray, List.getElem_cons_zero, List.getElem_cons_succ]
            refine wpAnyS_take (i := 9) (v := ?_) rfl (by kernel_rfl) (by kernel_rfl) (by kernel_rfl) (fun _ _ _ h => h) (by rfl) (gives_pure (by rfl) ?_) ?_
            rotate_left
            · intro b' d' u' W' hS'
              have c43 := (HCA.out W' hS').1
              have c44 := (HCA.out W' hS').2.1
              have xu := (HXB.out W' hS').2
              have cbk := (HXB.out W' hS').1
              rw [HBB.out] at cbk
              go_simp
              rfl
            try simp only [Act.put, List.setIfInBounds_toArray, List.set_cons_zero, List.set_cons_succ, List.getElem_toArray, List.getElem_cons_zero, List.getElem_cons_succ]
            refine wpAnyS_take (i := 10) (v := .agg (styCells x).toArray) rfl (by kernel_rfl) (by kernel_rfl) (by kernel_rfl) (fun _ _ _ h => h) (by rfl) (gives_yields ?_) ?_
            · refine yieldsIf_load_at (by rfl) 32 (.tmp 191) rfl (ad.add (k * 43)) rfl (styCells x) _ ?_ Try.underlying32 rfl (by kernel_rfl)
              rintro W' ⟨b', d', u', hS'⟩
              exact HLD.out W' hS'
            try simp only [Act.put, List.setIfInBounds_toArray, List.set_cons_zero, List.set_cons_succ, List.getElem_toArray, List.getElem_cons_zero, List.getElem_cons_succ]
            refine wpAnyS_take (i := 11) (v := ?_) rfl (by kernel_rfl) (by kernel_rfl) (by kernel_rfl) (fun _ _ _ h => h) (by rfl) (gives_pure (by rfl) ?_) ?_
            rotate_left
            · intro b' d' u' W' hS'
              have c43 := (HCA.out W' hS').1
              have c44 := (HCA.out W' hS').2.1
              have xu := (HXB.out W' hS').2
              have cbk := (HXB.out W' hS').1
              rw [HBB.out] at cbk
              go_simp
              rfl
            try simp only [Act.put, List.setIfInBounds_toArray, List.set_cons_zero, List.set_cons_succ, List.getElem_toArray, List.getElem_cons_zero, List.getElem_cons_succ]
            refine wpAnyS_take (i := 12) (v := ?_) rfl (by kernel_rfl) (by kernel_rfl) (by kernel_rfl) (fun _ _ _ h => h) (by rfl) (gives_pure (by rfl) ?_) ?_
            rotate_left
            · intro b' d' u' W' hS'
              have c43 := (HCA.out W' hS').1
              have c44 := (HCA.out W' hS').2.1
              have xu := (HXB.out W' hS').2
              have cbk := (HXB.out W' hS').1
              rw [HBB.out] at cbk
              go_simp
              rfl
            try simp only [Act.put, List.setIfInBounds_toArray, List.set_cons_zero, List.set_cons_succ, List.getElem_toArray, List.getElem_cons_zero, List.getElem_cons_succ]
            refine wpAnyS_take (i := 13) (v := ?_) rfl (by kernel_rfl) (by kernel_rfl) (by kernel_rfl) (fun _ _ _ h => h) (by rfl) (gives_pure (by rfl) ?_) ?_
            rotate_left
            · intro b' d' u' W' hS'
              have c43 := (HCA.out W' hS').1
              have c44 := (HCA.out W' hS').2.1
              have xu := (HXB.out W' hS').2
              have cbk := (HXB.out W' hS').1
              rw [HBB.out] at cbk
              go_simp
              rfl
            try simp only [Act.put, List.setIfInBounds_toArray, List.set_cons_zero, List.set_cons_succ, List.getElem_toArray, List.getElem_cons_zero, List.getElem_cons_succ]
            refine wpAnyS_take (i := 14) (v := ?_) rfl (by kernel_rfl) (by kernel_rfl) (by kernel_rfl) (fun _ _ _ h => h) (by rfl) (gives_pure (by rfl) ?_) ?_
            rotate_left
            · intro b' d' u' W' hS'
              have c43 := (HCA.out W' hS').1
              have c44 := (HCA.out W' hS').2.1
              have xu := (HXB.out W' hS').2
              have cbk := (HXB.out W' hS').1
              rw [HBB.out] at cbk
              go_simp
              rfl
            try simp only [Act.put, List.setIfInBounds_toArray, List.set_cons_zero, List.set_cons_succ, List.getElem_toArray, List.getElem_cons_zero, List.getElem_cons_succ]
            refine wpAnyS_take (i := 15) (v := ?_) rfl (by kernel_rfl) (by kernel_rfl) (by kernel_rfl) (fun _ _ _ h => h) (by rfl) (gives_pure (by rfl) ?_) ?_
            rotate_left
            · intro b' d' u' W' hS'
              have c43 := (HCA.out W' hS').1
              have c44 := (HCA.out W' hS').2.1
              have xu := (HXB.out W' hS').2
              have cbk := (HXB.out W' hS').1
              rw [HBB.out] at cbk
              go_simp
              rfl
            try simp only [Act.put, List.setIfInBounds_toArray, List.set_cons_zero, List.set_cons_succ, List.getElem_toArray, List.getElem_cons_zero, List.getElem_cons_succ]
            refine wpAnyS_take (i := 16) (v := ?_) rfl (by kernel_rfl) (by kernel_rfl) (by kernel_rfl) (fun _ _ _ h => h) (by rfl) (gives_pure (by rfl) ?_) ?_
            rotate_left
            · intro b' d' u' W' hS'
              have c43 := (HCA.out W' hS').1
              have c44 := (HCA.out W' hS').2.1
              have xu := (HXB.out W' hS').2
              have cbk := (HXB.out W' hS').1
              rw [HBB.out] at cbk
              go_simp
              rfl
            try simp only [Act.put, List.setIfInBounds_toArray, List.set_cons_zero, List.set_cons_succ, List.getElem_toArray, List.getElem_cons_zero, List.getElem_cons_succ]
            refine wpAnyS_take (i := 17) (v := ?_) rfl (by kernel_rfl) (by kernel_rfl) (by kernel_rfl) (fun _ _ _ h => h) (by rfl) (gives_pure (by rfl) ?_) ?_
            rotate_left
            · intro b' d' u' W' hS'
              have c43 := (HCA.out W' hS').1
              have c44 := (HCA.out W' hS').2.1
              have xu := (HXB.out W' hS').2
              have cbk := (HXB.out W' hS').1
              rw [HBB.out] at cbk
              go_simp
              rfl
            try simp only [Act.put, List.setIfInBounds_toArray, List.set_cons_zero, List.set_cons_succ, List.getElem_toArray, List.getElem_cons_zero, List.getElem_cons_succ]
            refine wpAnyS_take (i := 18) (v := .int .i64 t) rfl (by kernel_rfl) (by kernel_rfl) (by kernel_rfl) (fun _ _ _ h => h) (by rfl) (gives_call (by rfl) _ _ ?_ (fun b' d' u' W' hS' => (rcl_b x c t W' HXS.out.2.m.maxw HXS.out.2.m.minw HCBC.out).mono (fun _ _ h => ⟨h.1.trans (by rw [HCT.out]), hS'.trans (h.2.mono hS'.size)⟩))) ?_
            · intro W'
              first | rfl | kernel_rfl
            try simp only [Act.put, List.setIfInBounds_toArray, List.set_cons_zero, List.set_cons_succ, List.getElem_toArray, List.getElem_cons_zero, List.getElem_cons_succ]
            refine wpAnyS_take (i := 19) (v := ?_) rfl (by kernel_rfl) (by kernel_rfl) (by kernel_rfl) (fun _ _ _ h => h) (by rfl) (gives_pure (by rfl) ?_) ?_
            rotate_left
            · intro b' d' u' W' hS'
              have c43 := (HCA.out W' hS').1
              have c44 := (HCA.out W' hS').2.1
              have xu := (HXB.out W' hS').2
              have cbk := (HXB.out W' hS').1
              rw [HBB.out] at cbk
              go_simp
              rfl
            try simp only [Act.put, List.setIfInBounds_toArray, List.set_cons_zero, List.set_cons_succ, List.getElem_toArray, List.getElem_cons_zero, List.getElem_cons_succ]
            refine wpAnyS_take (i := 20) (v := ?_) rfl (by kernel_rfl) (by kernel_rfl) (by kernel_rfl) (fun _ _ _ h => h) (by rfl) (gives_pure (by rfl) ?_) ?_
            rotate_left
            · intro b' d' u' W' hS'
              have c43 := (HCA.out W' hS').1
              have c44 := (HCA.out W' hS').2.1
              have xu := (HXB.out W' hS').2
              have cbk := (HXB.out W' hS').1
              rw [HBB.out] at cbk
              go_simp
              rfl
            try simp only [Act.put, List.setIfInBounds_toArray, List.set_cons_zero, List.set_cons_succ, List.getElem_toArray, List.getElem_cons_zero, List.getElem_cons_succ]
            refine wpAnyS_take (i := 21) (v := ?_) rfl (by kernel_rfl) (by kernel_rfl) (by kernel_rfl) (fun _ _ _ h => h) (by rfl) (gives_pure (by rfl) ?_) ?_
            rotate_left
            · intro b' d' u' W' hS'
              have c43 := (HCA.out W' hS').1
              have c44 := (HCA.out W' hS').2.1
              have xu := (HXB.out W' hS').2
              have cbk := (HXB.out W' hS').1
              rw [HBB.out] at cbk
              go_simp
              rfl
            try simp only [Act.put, List.setIfInBounds_toArray, List.set_cons_zero, List.set_cons_succ, List.getElem_toArray, List.getElem_cons_zero, List.getElem_cons_succ]
            refine wpAnyS_take (i := 22) (v := ?_) rfl (by kernel_rfl) (by kernel_rfl) (by kernel_rfl) (fun _ _ _ h => h) (by rfl) (gives_pure (by rfl) ?_) ?_
            rotate_left
            · intro b' d' u' W' hS'
              have c43 := (HCA.out W' hS').1
              have c44 := (HCA.out W' hS').2.1
              have xu := (HXB.out W' hS').2
              have cbk := (HXB.out W' hS').1
              rw [HBB.out] at cbk
              go_simp
              rfl
            try simp only [Act.put, List.setIfInBounds_toArray, List.set_cons_zero, List.set_cons_succ, List.getElem_toArray, List.getElem_cons_zero, List.getElem_cons_succ]
            refine wpAnyS_take (i := 23) (v := ?_) rfl (by kernel_rfl) (by kernel_rfl) (by kernel_rfl) (fun _ _ _ h => h) (by rfl) (gives_pure (by rfl) ?_) ?_
            rotate_left
            · intro b' d' u' W' hS'
              have c43 := (HCA.out W' hS').1
              have c44 := (HCA.out W' hS').2.1
              have xu := (HXB.out W' hS').2
              have cbk := (HXB.out W' hS').1
              rw [HBB.out] at cbk
              go_simp
              rfl
            try simp only [Act.put, List.setIfInBounds_toArray, List.set_cons_zero, List.set_cons_succ, List.getElem_toArray, List.getElem_cons_zero, List.getElem_cons_succ]
            refine wpAnyS_take (i := 24) (v := ?_) rfl (by kernel_rfl) (by kernel_rfl) (by kernel_rfl) (fun _ _ _ h => h) (by rfl) (gives_pure (by rfl) ?_) ?_
            rotate_left
            · intro b' d' u' W' hS'
              have c43 := (HCA.out W' hS').1
              have c44 := (HCA.out W' hS').2.1
              have xu := (HXB.out W' hS').2
              have cbk := (HXB.out W' hS').1
              rw [HBB.out] at cbk
              go_simp
              rfl
            try simp only [Act.put, List.setIfInBounds_toArray, List.set_cons_zero, List.set_cons_succ, List.getElem_toArray, List.getElem_cons_zero, List.getElem_cons_succ]
            refine wpAnyS_take (i := 25) (v := ?_) rfl (by kernel_rfl) (by kernel_rfl) (by kernel_rfl) (fun _ _ _ h => h) (by rfl) (gives_pure (by rfl) ?_) ?_
            rotate_left
            · intro b' d' u' W' hS'
              have c43 := (HCA.out W' hS').1
              have c44 := (HCA.out W' hS').2.1
              have xu := (HXB.out W' hS').2
              have cbk := (HXB.out W' hS').1
              rw [HBB.out] at cbk
              go_simp
              rfl
            try simp only [Act.put, List.setIfInBounds_toArray, List.set_cons_zero, List.set_cons_succ, List.getElem_toArray, List.getElem_cons_zero, List.getElem_cons_succ]
            refine wpAnyS_done (b := true) (d := true) (by kernel_rfl) (by kernel_rfl) (by kernel_rfl) rfl (fun wS hS => ?_) _
            have HS := Lib.hid hS
            clear hS E0
            go_wp2_with fail
            go_meet
            exact ⟨rfl, HS⟩
          · rw [hbb] at cbk
            clear hbb
            go_quiet (fail)
            go_wp2_with fail
            go_meet
            exact ⟨rfl, Lib.hid (below_dr HE.out _)⟩
        case rest => as_aux_lemma =>
        obtain ⟨rfl, HD⟩ := hcut
        go_wp2_with fail
        go_roundw
        case rel => exact ⟨i + 1, by omega, by go_num, by congr 1, by rw [show p + (i + 1) = p + i + 1 by omega, lastE_succ HLK.out], by rw [HS1.out.1, HEQ.out.1]; congr 1; omega, by rw [HS1.out.2.1, HEQ.out.2.1]; congr 1; omega, by rw [HS1.out.2.2, HEQ.out.2.2.1, HCU.out], HD⟩
        case measure => simp [intOf] <;> omega
end Go.Proofs.Ytdnpobfnkdllmaa
