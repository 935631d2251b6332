/- The law MainsWrap, walked. -/
import Derived.Test.YtdnpobfnkdllmaaWra
set_option linter.unusedSimpArgs false
set_option linter.unusedVariables false
namespace Go.Proofs.Ytdnpobfnkdllmaa
open Go.RowKit
attribute [local go_sem] block_of_add

theorem case_wrap (s : Sty) (c : Int) (A : Option Addr) (n ck : Nat) (Ag : Option Addr) (m cg : Nat) : (caseCells s c A n ck Ag m cg).toArray.setIfInBounds 34 (.bool true) = (caseCells { s with wrap := true } c A n ck Ag m cg).toArray := rfl
/-- The sum of the row before. -/
def lastS (own : Nat → Int) (R : List (List Nat)) (r : Nat) : Int := if r = 0 then 0 else ((rowAt R (r - 1)).map own).sum
theorem lastS_pos (own : Nat → Int) (R : List (List Nat)) {r : Nat} (h : ¬ r = 0) : lastS own R r = ((rowAt R (r - 1)).map own).sum := if_neg h
set_option maxRecDepth 100000 in
set_option maxHeartbeats 4000000 in
theorem mainsWrap_any (s : Sty) (c : Int) (l : List Sty) (got : List Cn) (A Ag : Option Addr) (ck cg : Nat) (w : World) (hr : Reads w w.heap.size 43 A l.length (stysCells l)) (huv : ∀ s ∈ l, ∃ Au nu cu, s.uv = .slice Au nu cu) (hsv : ∃ Au nu cu, s.uv = .slice Au nu cu) (hg : Reads w w.heap.size 4 Ag got.length (cnsCells got)) :
    Calls Try.prog 7 #[.agg (caseCells s c A l.length ck Ag got.length cg).toArray] w fun e w' => e = .returned (.bool true) ∧ Below w.heap.size w w' := by
  have HMAY := Lib.hid (fun W (hb : Below w.heap.size w W) => may19_any s c l got A Ag ck cg W ((hr.below hb).more hb.size) huv ((hg.below hb).more hb.size))
  have HR := Lib.hid hr
  have HG := Lib.hid hg
  have HUV := Lib.hid huv
  clear hr hg huv
  have HC0 : Hid (Blk (w.alloc (.cells (caseCells s c A l.length ck Ag got.length cg).toArray 45)) w.heap.size 45 (caseCells s c A l.length ck Ag got.length cg).toArray) := Lib.hid (Blk.new _ _ _)
  have HCB : Hid (Below w.heap.size w (w.alloc (.cells (caseCells s c A l.length ck Ag got.length cg).toArray 45))) := Lib.hid (bal (Below.refl _ _) _)
  obtain ⟨n, hne⟩ : ∃ n, n = l.length := ⟨_, rfl⟩
  rw [← hne] at HR HC0 HCB HMAY ⊢
  have HN := Lib.hid hne
  clear hne
  obtain ⟨m, hme⟩ : ∃ m, m = got.length := ⟨_, rfl⟩
  rw [← hme] at HG HC0 HCB HMAY ⊢
  have HM := Lib.hid hme
  clear hme
  go_enter Try.func7, Try.ntmps7
  go_upto_region 1 with (fail)
  obtain ⟨gc, hgc⟩ : ∃ gc, gc = w.heap.size := ⟨_, rfl⟩
  obtain ⟨w1, hw1⟩ : ∃ w1, w1 = w.alloc (.cells (caseCells s c A n ck Ag m cg).toArray 45) := ⟨_, rfl⟩
  have HZ : Hid (w1.heap.size = gc + 1 ∧ gc = w.heap.size) := Lib.hid ⟨by rw [hw1, hgc]; simp, hgc⟩
  have HE : Hid (w.alloc (.cells (caseCells s c A n ck Ag m cg).toArray 45) = w1) := Lib.hid hw1.symm
  rw [← hw1] at HC0 HCB
  rw [← hgc] at HC0
  rw [← hgc]
  first | rw [HE.out] | (rw [show (w.alloc _) = w1 from HE.out])
  clear HE hw1 hgc
  have HRG1 : Hid (w1.rangeAt gc 0 (caseCells s c A n ck Ag m cg)) := Lib.hid (blk_rng HC0.out fun j v hv => by rw [Nat.zero_add]; exact hv)
  go_wp2_with (refine wpList_load_mid rfl 45 (.tmp 1) rfl gc 0 rfl (caseCells s c A n ck Ag m cg) _ HRG1.out Try.underlying45 rfl (by kernel_rfl) ?_)
  refine (HMAY.out _ HCB.out).mono ?_
  rintro e w2 ⟨⟨b, rfl, hb⟩, hb2⟩
  have HMB := Lib.hid hb
  have H2 := Lib.hid (And.intro (HC0.out.below hb2 HC0.out.lt) (HCB.out.trans (hb2.mono HCB.out.size)))
  have HZ2 := Lib.hid (show gc + 1 ≤ w2.heap.size by rw [← HZ.out.1]; exact hb2.size)
  clear hb hb2 HMAY HRG1
  cases b
  · go_wp2_with (go_at_call 12; refine (works19_any _).mono ?_; rintro e w' ⟨rfl, hb9⟩; have HB9 := Lib.hid (H2.out.2.trans (hb9.mono H2.out.2.size)); clear hb9)
    go_ret
    exact ⟨rfl, HB9.out⟩
  have HMY := Lib.hid (HMB.out rfl)
  have hn60 : n ≤ 60 := by rw [HN.out]; exact HMY.out.n
  obtain ⟨Au, nu, cu, hsu⟩ := hsv
  have q1 : w2.cell? ⟨gc, 34, none⟩ = some (.bool s.wrap) := H2.out.1.get 34 rfl
  have q2 := H2.out.1.frozen 34
  go_upto_region 4 with (fail)
  clear q1 q2
  obtain ⟨s2, hs2⟩ : ∃ s2, s2 = { s with wrap := true } := ⟨_, rfl⟩
  have H3 : Hid (Blk (w2.setCell ⟨gc, 34, none⟩ (.bool true)) gc 45 (caseCells s2 c A n ck Ag m cg).toArray) := Lib.hid (by
    have h := H2.out.1.set_ 34 (.bool true); rw [case_wrap, ← hs2] at h; exact h)
  have HS2 : Hid (s2.wrap = true) := Lib.hid (by rw [hs2])
  clear hs2
  have HB3 : Hid (Below w.heap.size w (w2.setCell ⟨gc, 34, none⟩ (.bool true))) := Lib.hid (H2.out.2.setCell (p := ⟨gc, 34, none⟩) (by have := HZ.out.2; show w.heap.size ≤ gc; omega) _)
  obtain ⟨w3, hw3⟩ : ∃ w3, w3 = w2.setCell ⟨gc, 34, none⟩ (.bool true) := ⟨_, rfl⟩
  rw [← hw3] at H3 HB3 ⊢
  clear hw3
  have HRO : Hid (∀ W, Below w.heap.size w W → Calls Try.prog 19 #[.agg (styCells s2).toArray, .int .i64 c, .slice A n ck, .slice Ag m cg] W fun e w' => RowsAns s2 c l (itM l c got) W w' e) := Lib.hid (fun W hb => by
    have h := rows_any s2 c l got A Ag ck cg W (by rw [← HN.out]; omega) (by rw [← HN.out]; exact (HR.out.below hb).more hb.size) HUV.out (by rw [← HM.out]; exact (HG.out.below hb).more hb.size) HMY.out.c (fun k hk => by obtain ⟨j, hj, rfl⟩ := List.mem_iff_getElem.1 hk; exact (HMY.out.l j hj).x.m) HMY.out.g
    rw [← HN.out, ← HM.out] at h; exact h)
  have HIT : Hid (∀ W, Below w.heap.size w W → Calls Try.prog 22 #[.int .i64 c, .slice A n ck, .slice Ag m cg] W fun e w' => (∃ v, e = .returned v ∧ w'.ownsRow W.heap.size 57 51 v n (risC (itM l c got) n)) ∧ Below W.heap.size W w') := Lib.hid (fun W hb => by
    have h := ritems_any c l got A Ag ck cg W (by rw [← HN.out]; omega) (by rw [← HN.out]; exact (HR.out.below hb).more hb.size) HUV.out (by rw [← HM.out]; exact (HG.out.below hb).more hb.size) HMY.out.c (fun k hk => by obtain ⟨j, hj, rfl⟩ := List.mem_iff_getElem.1 hk; exact (HMY.out.l j hj).x.m) HMY.out.g
    rw [← HN.out, ← HM.out] at h; exact h)
  obtain ⟨M, hM⟩ : ∃ M, M = itM l c got := ⟨_, rfl⟩
  have HMB : Hid (∀ k, k < n → ItB (M k)) := Lib.hid (fun k hk => by rw [hM]; exact itM_itB (fun x hx => by obtain ⟨j, hj, rfl⟩ := List.mem_iff_getElem.1 hx; exact (HMY.out.l j hj).x.m) HMY.out.c HMY.out.g k (by rw [← HN.out]; exact hk))
  have HCB0 := HMY.out.c.b
  rw [← hM] at HRO HIT
  clear hM
  have HRNG : Hid (w3.rangeAt gc 0 (styCells s2)) := Lib.hid (blk_rng H3.out fun q v hv => by
    rw [Nat.zero_add]
    unfold caseCells
    rw [List.getElem?_append_left (by have := (List.getElem?_eq_some_iff.1 hv).1; exact this)]; exact hv)
  have c43 : w3.cell? ⟨gc, 43, none⟩ = some (.int .i64 c) := H3.out.get 43 rfl
  have c44 : w3.cell? ⟨gc, 44, none⟩ = some (.slice A n ck) := H3.out.get 44 rfl
  have c45 : w3.cell? ⟨gc, 45, none⟩ = some (.slice Ag m cg) := H3.out.get 45 rfl
  clear H2 HMY HC0 HCB HR HG HUV hsu
  go_upto_region 5 with (first
    | refine wpList_load_mid rfl 32 (.tmp 16) rfl gc 0 rfl (styCells s2) _ HRNG.out Try.underlying32 rfl (by kernel_rfl) ?_
    | (go_at_call 19; refine (HRO.out _ HB3.out).mono ?_; rintro e w4 ⟨⟨v1, rfl, hra⟩, hb⟩; obtain ⟨Av, cv, hv, _⟩ := hra.ex; subst hv; have H4 := Lib.hid (And.intro hra.x (show Below w3.heap.size w3 w4 from hb)); clear hra hb))
  clear c43 c44 c45 HRNG
  obtain ⟨R, hR⟩ : ∃ R, R = rowsF s2.wrap c (ownM M) (orderF (ordF l) l.length) := ⟨_, rfl⟩
  rw [← hR] at H4 ⊢
  have HWF : Hid (WrapF n c (ownM M) R) := Lib.hid (by rw [hR, HS2.out, ← HN.out]; exact wrap_ans c (ownM M) (ordF l) n)
  clear hR HRO
  have HB4 := Lib.hid (HB3.out.trans (H4.out.2.mono HB3.out.size))
  have c43 : w4.cell? ⟨gc, 43, none⟩ = some (.int .i64 c) := (H3.out.below H4.out.2 H3.out.lt).get 43 rfl
  have c44 : w4.cell? ⟨gc, 44, none⟩ = some (.slice A n ck) := (H3.out.below H4.out.2 H3.out.lt).get 44 rfl
  have c45 : w4.cell? ⟨gc, 45, none⟩ = some (.slice Ag m cg) := (H3.out.below H4.out.2 H3.out.lt).get 45 rfl
  go_upto_region 6 with (go_at_call 22; refine (HIT.out _ HB4.out).mono ?_; rintro e w5 ⟨⟨v2, rfl, hown⟩, hb⟩; obtain ⟨Ai, ci, hv2⟩ := own_form hown; subst hv2; have H5 := Lib.hid (And.intro (Reads.of_own hown) (show Below w4.heap.size w4 w5 from hb)); clear hown hb)
  clear c43 c44 c45 HIT
  have HF : Hid (RowsX w5 w5.heap.size Av R ∧ Reads w5 w5.heap.size 51 Ai n (risC M n) ∧ w5.cell? ⟨gc, 43, none⟩ = some (.int .i64 c) ∧ gc < w5.heap.size ∧ Below w.heap.size w w5) := Lib.hid (by
    have b35 : Below w3.heap.size w3 w5 := H4.out.2.trans (H5.out.2.mono H4.out.2.size)
    refine ⟨?_, H5.out.1, (H3.out.below b35 H3.out.lt).get 43 rfl, (H3.out.below b35 H3.out.lt).lt, HB4.out.trans (H5.out.2.mono HB4.out.size)⟩
    have := H4.out.1.below H5.out.2
    exact ⟨fun r hr => by obtain ⟨g, Ar, cr, h1, h2, h3, h4⟩ := this.at_ r hr; exact ⟨g, Ar, cr, h1, Nat.lt_of_lt_of_le h2 H5.out.2.size, h3, h4.more H5.out.2.size⟩⟩)
  clear H3 HB3 H4 HB4 H5
  have hcn := HWF.out.cnt
  have HOB : Hid (∀ (k : Nat), k < n → -50000000000000 ≤ ownM M k ∧ ownM M k ≤ 50000000000000) := Lib.hid (fun k hk => by have := (HMB.out k hk).sides; have := (HMB.out k hk).guess; unfold ownM; omega)
  have HSM : Hid (∀ r i, -(3000000000000000 : Int) ≤ (((rowAt R r).take i).map (ownM M)).sum ∧ (((rowAt R r).take i).map (ownM M)).sum ≤ 3000000000000000) := Lib.hid (fun r i => by
    have h1 := sum_abs ((rowAt R r).take i) (ownM M) 50000000000000 (fun k hk => by
      obtain ⟨j, hj, rfl⟩ := List.mem_iff_getElem.1 (List.mem_of_mem_take hk)
      exact HOB.out _ (HWF.out.mem r j hj))
    have h2 := HWF.out.rl r
    have h3 : ((rowAt R r).take i).length ≤ (rowAt R r).length := by rw [List.length_take]; omega
    omega)
  go_wp2_with fail
  go_loopw [5, 6] (fun lv rv wr => ∃ r : Nat, r ≤ R.length ∧ rv = .int .i64 r ∧ lv = .int .i64 (lastS (ownM M) R r) ∧ Hid (Below w5.heap.size w5 wr)) (fun _ rv _ => R.length - (intOf rv).toNat)
  case atStart => exact ⟨0, by omega, rfl, rfl, Lib.hid (Below.refl _ _)⟩
  case round =>
    obtain ⟨r, hr, rfl, rfl, HJ⟩ := hrel
    by_cases hlt : r < R.length
    rotate_left
    · have g1 : decide ((r : Int) < (R.length : Int)) = false := decide_eq_false (by omega)
      have g1' : decide (r < R.length) = false := decide_eq_false hlt
      go_wp2_with (go_at_call 12; refine (works19_any _).mono ?_; rintro e w' ⟨rfl, hb9⟩; have HB9 := Lib.hid ((HF.out.2.2.2.2.trans (HJ.out.mono HF.out.2.2.2.2.size)).trans (hb9.mono ((HF.out.2.2.2.2.trans (HJ.out.mono HF.out.2.2.2.2.size)).size))); clear hb9)
      go_ret
      exact ⟨rfl, HB9.out⟩
    have g1 : decide ((r : Int) < (R.length : Int)) = true := decide_eq_true (by omega)
    have g1' : decide (r < R.length) = true := decide_eq_true hlt
    have hki : (r : Int) < (R.length : Int) := by omega
    have hk0 : (0 : Int) ≤ (r : Int) := by omega
    have wk : IntKind.i64.wrap ((r : Int) + 1) = (r : Int) + 1 := IntWalk.i64_in _ ⟨by omega, by omega⟩
    obtain ⟨ga, Ar, cr, rfl, gab, f1, rd1⟩ := HF.out.1.at_ r hlt
    obtain ⟨L, hL⟩ : ∃ L, L = (rowAt R r).length := ⟨_, rfl⟩
    have hLn : L ≤ n := by rw [hL]; exact HWF.out.rl r
    rw [← hL] at f1 rd1
    have HFF := Lib.hid (And.intro f1 rd1)
    have HLL := Lib.hid hL
    clear f1 rd1 hL
    obtain ⟨last, hlast⟩ : ∃ last : Int, last = lastS (ownM M) R r := ⟨_, rfl⟩
    rw [← hlast]
    have HLA := Lib.hid hlast
    have hlb : -(3000000000000000 : Int) ≤ last ∧ last ≤ 3000000000000000 := by
      rw [hlast]; unfold lastS; split
      · omega
      · have := HSM.out (r - 1) (rowAt R (r - 1)).length
        rw [List.take_length] at this; exact this
    clear hlast
    go_wp2_with fail
    obtain ⟨wx, rfl⟩ : ∃ wx, wx = wr := ⟨_, rfl⟩
    go_loopw [7, 8] (fun sv kv wr => ∃ i : Nat, i ≤ L ∧ kv = .int .i64 i ∧ sv = .int .i64 ((((rowAt R r).take i).map (ownM M)).sum) ∧ Hid (Below w5.heap.size w5 wr)) (fun _ kv _ => L - (intOf kv).toNat)
    case atStart => exact ⟨0, by omega, rfl, rfl, HJ⟩
    case round =>
      obtain ⟨i, hi, rfl, rfl, HJ⟩ := hrel
      have f1 : wr.cell? ⟨ga, r, none⟩ = some (.slice Ar L cr) := (HJ.out.cell (p := ⟨ga, r, none⟩) gab).trans HFF.out.1
      obtain ⟨S, hS0⟩ : ∃ S, S = (((rowAt R r).take i).map (ownM M)).sum := ⟨_, rfl⟩
      rw [← hS0]
      by_cases hlt2 : i < L
      rotate_left
      · have q0 : decide ((i : Int) < (L : Int)) = false := decide_eq_false (by omega)
        have q0' : decide (i < L) = false := decide_eq_false hlt2
        have HSE : Hid (S = ((rowAt R r).map (ownM M)).sum) := Lib.hid (by rw [hS0, List.take_of_length_le (by rw [← HLL.out]; omega)])
        clear hS0
        go_wp2_with fail
        go_roundw
        case rel => exact ⟨r + 1, by omega, by go_num, by rw [lastS_pos _ _ (by omega), HSE.out]; rfl, HJ⟩
        case measure => simp [intOf] <;> omega
      have q0 : decide ((i : Int) < (L : Int)) = true := decide_eq_true (by omega)
      have q0' : decide (i < L) = true := decide_eq_true hlt2
      have hii : (i : Int) < (L : Int) := by omega
      have hi0 : (0 : Int) ≤ (i : Int) := by omega
      have wi : IntKind.i64.wrap ((i : Int) + 1) = (i : Int) + 1 := IntWalk.i64_in _ ⟨by omega, by omega⟩
      obtain ⟨a1, u1, rfl, ha1, hx1, hc1⟩ := (HFF.out.2.below HJ.out).at_ hlt2
      have hb1 : i < (rowAt R r).length := by rw [← HLL.out]; exact hlt2
      obtain ⟨k, hk⟩ : ∃ k, k = (rowAt R r)[i] := ⟨_, rfl⟩
      have e1 : u1 = .int .i64 (k : Int) := by rw [hk]; simpa [nCells, hb1] using hx1.symm
      subst e1
      have hkn : k < n := by rw [hk]; exact HWF.out.mem r i hb1
      have HKE := Lib.hid hk
      have HS1 : Hid ((((rowAt R r).take (i + 1)).map (ownM M)).sum = S + ownM M k) := Lib.hid (by
        rw [List.take_succ_eq_append_getElem hb1, List.map_append, List.sum_append, hS0, hk]; simp)
      have hSb : -(3000000000000000 : Int) ≤ S ∧ S ≤ 3000000000000000 := by rw [hS0]; exact HSM.out r i
      clear hx1 hk hS0
      have hkn2 : (k : Int) < (n : Int) := by omega
      have hkn3 : (0 : Int) ≤ (k : Int) := by omega
      have k1 : decide ((k : Int) < 0) = false := decide_eq_false (by omega)
      have k2 : decide ((n : Int) ≤ (k : Int)) = false := decide_eq_false (by omega)
      have k2' : decide (n ≤ k) = false := decide_eq_false (by omega)
      obtain ⟨ai, rfl, x45, x47⟩ := (HF.out.2.1.below HJ.out).ri hkn
      have hib := HMB.out k hkn
      obtain ⟨sd, hsd⟩ : ∃ sd, sd = (M k).sides := ⟨_, rfl⟩
      obtain ⟨gu, hgu⟩ : ∃ gu, gu = (M k).guess := ⟨_, rfl⟩
      have hs1 := hib.sides
      have hg1 := hib.guess
      rw [← hsd] at hs1 x45
      rw [← hgu] at hg1 x47
      have HOW : Hid (ownM M k = gu + sd) := Lib.hid (by rw [hsd, hgu]; unfold ownM; omega)
      clear hib hsd hgu
      have w6 : IntKind.i64.wrap (last + gu) = last + gu := IntWalk.i64_in _ ⟨by omega, by omega⟩
      have w7 : IntKind.i64.wrap (last + gu + sd) = last + gu + sd := IntWalk.i64_in _ ⟨by omega, by omega⟩
      have w8 : IntKind.i64.wrap (S + gu) = S + gu := IntWalk.i64_in _ ⟨by omega, by omega⟩
      have w9 : IntKind.i64.wrap (S + gu + sd) = S + gu + sd := IntWalk.i64_in _ ⟨by omega, by omega⟩
      have c43 : wr.cell? ⟨gc, 43, none⟩ = some (.int .i64 c) := (HJ.out.cell (p := ⟨gc, 43, none⟩) HF.out.2.2.2.1).trans HF.out.2.2.1
      go_upto_region 17 with (fail)
      go_cut [85] (fun sx wx => sx = .bool false ∧ Hid (Below w5.heap.size w5 wx))
      case first =>
        by_cases h0 : i = 0
        · by_cases hr0 : r = 0
          · have e0 : ((i : Int) == 0) = true := beq_iff_eq.2 (by omega)
            have e1 : decide ((0 : Int) < (r : Int)) = false := decide_eq_false (by omega)
            have e1' : decide (0 < r) = false := decide_eq_false (by omega)
            clear h0 hr0
            go_quiet (fail)
            go_wp2_with fail
            go_meet
            exact ⟨rfl, Lib.hid (below_dr HJ.out _)⟩
          · have e0 : ((i : Int) == 0) = true := beq_iff_eq.2 (by omega)
            have e1 : decide ((0 : Int) < (r : Int)) = true := decide_eq_true (by omega)
            have e1' : decide (0 < r) = true := decide_eq_true (by omega)
            have e2 : decide (last + gu + sd ≤ c) = false := decide_eq_false (by
              have h := HWF.out.wraps r (by omega) hlt (by omega)
              have e : (rowAt R r)[0]'(by omega) = k := by rw [HKE.out]; congr 1; exact h0.symm
              rw [e, HOW.out] at h
              have h2 := HLA.out
              rw [lastS_pos _ _ hr0] at h2
              omega)
            clear h0 hr0
            go_quiet (fail)
            go_wp2_with fail
            go_meet
            exact ⟨rfl, Lib.hid (below_dr HJ.out _)⟩
        · have e0 : ((i : Int) == 0) = false := beq_eq_false_iff_ne.2 (by omega)
          clear h0
          go_quiet (fail)
          go_wp2_with fail
          go_meet
          exact ⟨rfl, Lib.hid (below_dr HJ.out _)⟩
      case rest =>
        obtain ⟨rfl, HC⟩ := hcut
        obtain ⟨wd, rfl⟩ : ∃ wd, wd = wc := ⟨_, rfl⟩
        obtain ⟨ai2, e2, x45, x47⟩ := (HF.out.2.1.below HC.out).ri hkn
        obtain rfl : ai = ai2 := by injection e2
        have HE2 := Lib.hid (And.intro x45 x47)
        clear x45 x47 e2
        have HX := Lib.hid (show (M k).guess + (M k).sides = gu + sd by rw [← HOW.out]; unfold ownM; omega)
        obtain ⟨sd2, hsd⟩ : ∃ sd2, sd2 = (M k).sides := ⟨_, rfl⟩
        obtain ⟨gu2, hgu⟩ : ∃ gu2, gu2 = (M k).guess := ⟨_, rfl⟩
        have x45 := HE2.out.1
        have x47 := HE2.out.2
        have hs2 := (HMB.out k hkn).sides
        have hg2 := (HMB.out k hkn).guess
        rw [← hsd] at x45 HX hs2
        rw [← hgu] at x47 HX hg2
        clear hsd hgu HE2 w6 w7 w8 w9
        have w8 : IntKind.i64.wrap (S + gu2) = S + gu2 := IntWalk.i64_in _ ⟨by omega, by omega⟩
        have w9 : IntKind.i64.wrap (S + gu2 + sd2) = S + gu2 + sd2 := IntWalk.i64_in _ ⟨by omega, by omega⟩
        have c43 : wd.cell? ⟨gc, 43, none⟩ = some (.int .i64 c) := (HC.out.cell (p := ⟨gc, 43, none⟩) HF.out.2.2.2.1).trans HF.out.2.2.1
        have HSN : Hid (S + gu2 + sd2 = (((rowAt R r).take (i + 1)).map (ownM M)).sum) := Lib.hid (by rw [HS1.out, HOW.out]; have := HX.out; omega)
        have HZ9 : Hid (∀ h : 0 < i, decide (c < S + gu2 + sd2) = false) := Lib.hid (fun h => decide_eq_false (by
          have h1 := HWF.out.room r hlt i h hb1
          rw [← HSN.out] at h1
          omega))
        go_upto_region 19 with (fail)
        go_quiet (fail)
        by_cases h0 : i = 0
        · have e0 : decide ((0 : Int) < (i : Int)) = false := decide_eq_false (by omega)
          have e0' : decide (0 < i) = false := decide_eq_false (by omega)
          clear h0
          go_wp2_with fail
          go_roundw
          case rel => exact ⟨i + 1, by omega, by go_num, by rw [HSN.out], Lib.hid (below_dr HC.out _)⟩
          case measure => simp [intOf] <;> omega
        · have e0 : decide ((0 : Int) < (i : Int)) = true := decide_eq_true (by omega)
          have e0' : decide (0 < i) = true := decide_eq_true (by omega)
          have e9 := HZ9.out (by omega)
          clear h0
          go_wp2_with fail
          go_roundw
          case rel => exact ⟨i + 1, by omega, by go_num, by rw [HSN.out], Lib.hid (below_dr HC.out _)⟩
          case measure => simp [intOf] <;> omega
end Go.Proofs.Ytdnpobfnkdllmaa
