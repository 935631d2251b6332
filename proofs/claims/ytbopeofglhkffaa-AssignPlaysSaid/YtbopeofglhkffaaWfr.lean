/- Used values of one box: the document's Flowing, Shrunk. -/
import Derived.Test.YtbopeofglhkffaaWfp
import Derived.Test.YtbopeofglhkffaaRwi
import Derived.Test.YtbopeofglhkffaaRit
set_option linter.unusedSimpArgs false
set_option linter.unusedVariables false
namespace Go.Proofs.Ytbopeofglhkffaa
open Go.RowKit
attribute [local go_sem] block_of_add
set_option maxRecDepth 100000 in
set_option maxHeartbeats 1000000 in
theorem rcutAll_any (a b c : Int) (w : World) : Calls Try.prog 35 #[.agg #[.int .i64 a, .int .i64 b, .int .i64 c]] w (AnsB (usedV (a, b, c)) w) := by
  have HU : Hid (usedV (a, b, c) = .tuple #[.agg #[.int .i64 (cutF a), .int .i64 (cutF b), .int .i64 (cutF c)], .bool (cutB a || cutB b || cutB c)]) := Lib.hid rfl
  rw [HU.out]
  have HC := Lib.hid (fun x W => cut13_any x W)
  obtain ⟨x1, hx1⟩ : ∃ x, x = cutF a := ⟨_, rfl⟩
  obtain ⟨x2, hx2⟩ : ∃ x, x = cutF b := ⟨_, rfl⟩
  obtain ⟨x3, hx3⟩ : ∃ x, x = cutF c := ⟨_, rfl⟩
  obtain ⟨y1, hy1⟩ : ∃ x, x = cutB a := ⟨_, rfl⟩
  obtain ⟨y2, hy2⟩ : ∃ x, x = cutB b := ⟨_, rfl⟩
  obtain ⟨y3, hy3⟩ : ∃ x, x = cutB c := ⟨_, rfl⟩
  rw [← hx1, ← hx2, ← hx3, ← hy1, ← hy2, ← hy3]
  have HE1 : Hid (∀ W, Calls Try.prog 46 #[.int .i64 a] W fun e w' => e = .returned (.tuple #[.int .i64 x1, .bool y1]) ∧ W = w') := Lib.hid (fun W => by rw [hx1, hy1]; exact HC.out a W)
  have HE2 : Hid (∀ W, Calls Try.prog 46 #[.int .i64 b] W fun e w' => e = .returned (.tuple #[.int .i64 x2, .bool y2]) ∧ W = w') := Lib.hid (fun W => by rw [hx2, hy2]; exact HC.out b W)
  have HE3 : Hid (∀ W, Calls Try.prog 46 #[.int .i64 c] W fun e w' => e = .returned (.tuple #[.int .i64 x3, .bool y3]) ∧ W = w') := Lib.hid (fun W => by rw [hx3, hy3]; exact HC.out c W)
  clear hx1 hx2 hx3 hy1 hy2 hy3 HU HC
  go_enter Try.func35, Try.ntmps35
  go_upto_region 2 with (go_at_call 46; refine (HE1.out _).mono ?_; rintro e w' ⟨rfl, rfl⟩)
  go_upto_region 3 with (go_at_call 46; refine (HE2.out _).mono ?_; rintro e w' ⟨rfl, rfl⟩)
  go_upto_region 4 with (go_at_call 46; refine (HE3.out _).mono ?_; rintro e w' ⟨rfl, rfl⟩)
  clear HE1 HE2 HE3
  cases y1
  · cases y2
    · skip
      go_wp2_with fail
      refine bodyPost_ret (res_used rfl _ _ (w.heap.size + 1) x1 x2 x3 _ rfl rfl (Blk.at_ _ _ _ (by simp))) rfl ⟨rfl, balW (balW (Below.refl _ _) _) _⟩
    · skip
      go_wp2_with fail
      refine bodyPost_ret (res_used rfl _ _ (w.heap.size + 1) x1 x2 x3 _ rfl rfl (Blk.at_ _ _ _ (by simp))) rfl ⟨rfl, balW (balW (Below.refl _ _) _) _⟩
  · skip
    go_wp2_with fail
    refine bodyPost_ret (res_used rfl _ _ (w.heap.size + 1) x1 x2 x3 _ rfl rfl (Blk.at_ _ _ _ (by simp))) rfl ⟨by cases y2 <;> rfl, balW (balW (Below.refl _ _) _) _⟩
theorem quo_floor2 (R T M : Int) (hT : R.tdiv 2 = T) (hM : R.tmod 2 = M) : (-20 ≤ M ∧ M ≤ 20 ∧ (0 ≤ R → 0 ≤ T ∧ T ≤ R) ∧ (R < 0 → R ≤ T ∧ T ≤ 0)) ∧ (M < 0 → T - 1 = R / 2) ∧ (¬ M < 0 → T = R / 2) := by
  rcases Int.lt_or_le R 0 with h | h
  · obtain ⟨a, rfl⟩ : ∃ a, R = -a := ⟨-R, by omega⟩
    rw [Int.neg_tdiv, Int.tdiv_eq_ediv_of_nonneg (by omega)] at hT
    rw [Int.neg_tmod, Int.tmod_eq_emod_of_nonneg (by omega)] at hM
    omega
  · rw [Int.tdiv_eq_ediv_of_nonneg h] at hT
    rw [Int.tmod_eq_emod_of_nonneg h] at hM
    omega
theorem floor2_any (a : Int) (w : World) (ha : -110000000000000000 ≤ a ∧ a ≤ 110000000000000000) :
    Calls Try.prog 36 #[.int .i64 a, .int .i64 2] w fun e w' => e = .returned (.int .i64 (a / 2)) ∧ w = w' := by
  obtain ⟨T, hT⟩ : ∃ T, a.tdiv 2 = T := ⟨_, rfl⟩
  obtain ⟨M, hM⟩ : ∃ M, a.tmod 2 = M := ⟨_, rfl⟩
  obtain ⟨f1, f2, f3⟩ := quo_floor2 a T M hT hM
  have wT : IntKind.i64.wrap T = T := IntWalk.i64_in _ ⟨by omega, by omega⟩
  have wM : IntKind.i64.wrap M = M := IntWalk.i64_in _ ⟨by omega, by omega⟩
  have w4 : IntKind.i64.wrap (T - 1) = T - 1 := IntWalk.i64_in _ ⟨by omega, by omega⟩
  cases e1 : decide (M < 0)
  · have F := Lib.hid (f3 (of_decide_eq_false e1))
    clear f1 f2 f3 ha
    go_enter Try.func36, Try.ntmps36
    go_wp2_with fail
    go_ret
    exact ⟨by rw [← F.out]; rfl, rfl⟩
  · have F := Lib.hid (f2 (of_decide_eq_true e1))
    clear f1 f2 f3 ha
    go_enter Try.func36, Try.ntmps36
    go_wp2_with fail
    go_ret
    exact ⟨by rw [← F.out]; rfl, rfl⟩
set_option maxRecDepth 100000 in
set_option maxHeartbeats 4000000 in
theorem rflow_any (s : Sty) (c : Int) (w : World) (hs : StW s) (hc : CB c) : Calls Try.prog 18 #[.agg (styCells s).toArray, .int .i64 c] w (AnsB (usedV (flowN s c)) w) := by
  obtain ⟨x1, x2, x3, y, hv⟩ : ∃ x1 x2 x3 y, usedV (flowN s c) = .tuple #[.agg #[.int .i64 x1, .int .i64 x2, .int .i64 x3], .bool y] := ⟨_, _, _, _, rfl⟩
  rw [hv]
  have HV := Lib.hid hv
  clear hv
  have h3b := res_bd hs.m3 hc
  have h1b := res_bd hs.m1 hc
  have hwb := res_bd hs.w hc
  have hcb := hc.b
  obtain ⟨m, hm⟩ : ∃ m, m = (resF s.m3 c).1 := ⟨_, rfl⟩
  obtain ⟨lm, hlm⟩ : ∃ m, m = (resF s.m3 c).2 := ⟨_, rfl⟩
  obtain ⟨n, hn⟩ : ∃ m, m = (resF s.m1 c).1 := ⟨_, rfl⟩
  obtain ⟨ln, hln⟩ : ∃ m, m = (resF s.m1 c).2 := ⟨_, rfl⟩
  obtain ⟨wv, hwv⟩ : ∃ m, m = (resF s.w c).1 := ⟨_, rfl⟩
  obtain ⟨is, his⟩ : ∃ m, m = (resF s.w c).2 := ⟨_, rfl⟩
  obtain ⟨f, hf⟩ : ∃ m, m = frameF s := ⟨_, rfl⟩
  have hfb : 0 ≤ f ∧ f ≤ 4398046511104 := by rw [hf]; have := hs.b.b1; have := hs.b.b3; have := hs.b.p1; have := hs.b.p3; unfold frameF; omega
  have HFN : Hid (flowN s c = flowL (clampF s c) c f m n wv lm ln is) := Lib.hid (by rw [hm, hlm, hn, hln, hwv, his, hf]; rfl)
  have HCB : Hid (∀ v, 0 ≤ clampF s c v ∧ (clampF s c v ≤ 10995116277760 ∨ clampF s c v = v)) := Lib.hid (fun v => by
    by_cases he : clampF s c v = v
    · have : 0 ≤ clampF s c v := by unfold clampF; dsimp only; omega
      exact ⟨this, .inr he⟩
    · have := clamp_offW hs.maxw hs.minw hc he; exact ⟨this.1, .inl this.2⟩)
  have HR3 : Hid (∀ W, Calls Try.prog 33 #[.agg #[.int .u8 s.m3.k, .int .i64 s.m3.n], .int .i64 c] W (AnsB (.tuple #[.int .i64 m, .bool lm]) W)) := Lib.hid (fun W => by rw [hm, hlm]; exact res_b s.m3 c W hs.m3 hc)
  have HR1 : Hid (∀ W, Calls Try.prog 33 #[.agg #[.int .u8 s.m1.k, .int .i64 s.m1.n], .int .i64 c] W (AnsB (.tuple #[.int .i64 n, .bool ln]) W)) := Lib.hid (fun W => by rw [hn, hln]; exact res_b s.m1 c W hs.m1 hc)
  have HRW : Hid (∀ W, Calls Try.prog 33 #[.agg #[.int .u8 s.w.k, .int .i64 s.w.n], .int .i64 c] W (AnsB (.tuple #[.int .i64 wv, .bool is]) W)) := Lib.hid (fun W => by rw [hwv, his]; exact res_b s.w c W hs.w hc)
  have HFR : Hid (∀ W, Calls Try.prog 14 #[.agg (styCells s).toArray] W fun e w' => (∃ d : Int, e = .returned (.tuple #[.int .i64 f, .int .i64 d])) ∧ Below W.heap.size W w') := Lib.hid (fun W => by rw [hf]; exact rframe_any s W hs.b)
  have HCL : Hid (∀ v W, Calls Try.prog 34 #[.agg (styCells s).toArray, .int .i64 c, .int .i64 v] W (AnsB (.int .i64 (clampF s c v)) W)) := Lib.hid (fun v W => rcl_b s c v W hs.maxw hs.minw hc)
  rw [← hm] at h3b
  rw [← hn] at h1b
  rw [← hwv] at hwb
  clear hm hlm hn hln hwv his hf hs hc
  have hmx : max c 0 = c := by omega
  have hm2 : decide (c < 0) = false := decide_eq_false (by omega)
  have hm3 : (if 0 ≤ c then c else 0) = c := if_pos hcb.1
  go_enter Try.func18, Try.ntmps18
  go_upto_region 1 with (fail)
  obtain ⟨gs, hgs⟩ : ∃ gs, gs = w.heap.size := ⟨_, rfl⟩
  obtain ⟨gu, hgu⟩ : ∃ gu, gu = w.heap.size + 1 := ⟨_, rfl⟩
  have HX1 := Lib.hid (FxI.start s w)
  obtain ⟨w1, hw1⟩ : ∃ w1, w1 = (w.alloc (.cells (styCells s).toArray 52)).alloc (.cells #[.int .i64 0, .int .i64 0, .int .i64 0] 27) := ⟨_, rfl⟩
  have HE : Hid ((w.alloc (.cells (styCells s).toArray 52)).alloc (.cells #[.int .i64 0, .int .i64 0, .int .i64 0] 27) = w1) := Lib.hid hw1.symm
  rw [← hw1, ← hgu, ← hgs] at HX1
  rw [← hgu, ← hgs]
  first | rw [HE.out] | (rw [show ((w.alloc _).alloc _) = w1 from HE.out])
  clear hw1 HE hgs hgu
  go_upto_region 2 with (fail)
  go_upto_region 3 with (first
    | refine wpList_load_mid rfl 52 (.tmp 2) rfl gs 0 rfl (styCells s) _ HX1.out.mid Try.underlying52 rfl (by kernel_rfl) ?_
    | (go_at_call 14; refine (HFR.out _).mono ?_; rintro e w2 ⟨⟨d9, rfl⟩, hb⟩; have HX2 := Lib.hid (HX1.out.bel hb); clear hb))
  obtain ⟨⟨y22, y23⟩, ⟨y18, y19⟩, y4, y5⟩ := HX2.out.cells
  go_upto_region 4 with (go_at_call 33; refine (HR3.out _).mono ?_; rintro e w3 ⟨rfl, hb⟩; have HX3 := Lib.hid (HX2.out.bel hb); clear hb)
  clear y22 y23 y18 y19 y4 y5
  obtain ⟨⟨y22, y23⟩, ⟨y18, y19⟩, y4, y5⟩ := HX3.out.cells
  go_upto_region 5 with (go_at_call 33; refine (HR1.out _).mono ?_; rintro e w4 ⟨rfl, hb⟩; have HX4 := Lib.hid (HX3.out.bel hb); clear hb)
  clear y22 y23 y18 y19 y4 y5
  obtain ⟨⟨y22, y23⟩, ⟨y18, y19⟩, y4, y5⟩ := HX4.out.cells
  go_upto_region 6 with (go_at_call 33; refine (HRW.out _).mono ?_; rintro e w5 ⟨rfl, hb⟩; have HX5 := Lib.hid (HX4.out.bel hb); clear hb)
  clear y22 y23 y18 y19 y4 y5
  clear HR3 HR1 HRW HFR
  obtain ⟨w0, hw0⟩ : ∃ w0, w0 = (bif is then wv else max (c - f - m - n) 0) := ⟨_, rfl⟩
  have hw0b : -10995116277760 ≤ w0 ∧ w0 ≤ 30000000000000 := by rw [hw0]; cases is <;> simp only [cond_true, cond_false] <;> omega
  have HW0 := Lib.hid hw0
  clear hw0
  obtain ⟨cl, hcl⟩ : ∃ cl, cl = clampF s c w0 := ⟨_, rfl⟩
  have hclb : 0 ≤ cl ∧ cl ≤ 30000000000000 := by rw [hcl]; have := HCB.out w0; omega
  have HCE : Hid (∀ W, Calls Try.prog 34 #[.agg (styCells s).toArray, .int .i64 c, .int .i64 w0] W (AnsB (.int .i64 cl) W)) := Lib.hid (fun W => by rw [hcl]; exact HCL.out w0 W)
  have HCQ := Lib.hid hcl
  clear hcl HCL HCB
  have wf1 : IntKind.i64.wrap (c - f) = c - f := IntWalk.i64_in _ ⟨by omega, by omega⟩
  obtain ⟨LF, hLF⟩ : ∃ LF, LF = (bif !lm && !ln then max (c - f - cl) 0 / 2 else bif !lm then max (c - f - cl - n) 0 else m) := ⟨_, rfl⟩
  have hLb : -10995116277760 ≤ LF ∧ LF ≤ 30000000000000 := by rw [hLF]; cases lm <;> cases ln <;> simp only [cond_true, cond_false, Bool.not_true, Bool.not_false, Bool.and_true, Bool.and_false] <;> omega
  have HLF := Lib.hid hLF
  clear hLF
  have HNN : Hid (flowN s c = bif is || (cl != w0) then (cl, LF, c - f - cl - LF) else (w0, m, c - f - w0 - m)) := Lib.hid (by
    rw [HFN.out]
    unfold flowL
    dsimp only
    rw [← HW0.out, ← HCQ.out, ← HLF.out])
  have HCT : Hid (∀ A B D, flowN s c = (A, B, D) → ∀ W, Calls Try.prog 35 #[.agg #[.int .i64 A, .int .i64 B, .int .i64 D]] W (AnsB (.tuple #[.agg #[.int .i64 x1, .int .i64 x2, .int .i64 x3], .bool y]) W)) := Lib.hid (fun A B D h W => by
    have h2 := rcutAll_any A B D W
    rw [← h, HV.out] at h2; exact h2)
  clear HFN HV HCQ
  cases is
  · obtain ⟨D, hD⟩ : ∃ D, D = c - f - m - n := ⟨_, rfl⟩
    have HD : Hid (w0 = max D 0) := Lib.hid (by rw [HW0.out, hD]; rfl)
    have wf2 : IntKind.i64.wrap (c - f - m) = c - f - m := IntWalk.i64_in _ ⟨by omega, by omega⟩
    have wf3 : IntKind.i64.wrap (c - f - m - n) = D := by rw [hD]; exact IntWalk.i64_in _ ⟨by omega, by omega⟩
    clear hD
    go_upto_region 7 with (fail)
    go_cut [12] (fun sx wx => sx = .int .i64 w0 ∧ w5 = wx)
    case first =>
      go_wp2_with fail
      all_goals go_meet
      all_goals exact ⟨by congr 1; have := HD.out; omega, rfl⟩
    case rest =>
    obtain ⟨rfl, rfl⟩ := hcut
    clear wf2 wf3 HW0
    cases d : (cl == w0)
    · have HN : Hid (flowN s c = (cl, LF, c - f - cl - LF)) := Lib.hid (by
        rw [HNN.out]
        have : (cl != w0) = true := by rw [bne, d]; rfl
        rw [this]; rfl)
      go_upto_region 10 with (first
        | refine wpList_load_mid rfl 52 (.tmp 2) rfl gs 0 rfl (styCells s) _ HX5.out.mid Try.underlying52 rfl (by kernel_rfl) ?_
        | (go_at_call 34; refine (HCE.out _).mono ?_; rintro e w6 ⟨rfl, hb⟩; have HX6 := Lib.hid (HX5.out.bel hb); clear hb))
      clear d
      have HCA := Lib.hid (HCT.out _ _ _ HN.out)
      clear HN HNN HCT
      go_upto_region 11 with (first
        | refine wpList_load_mid rfl 52 (.tmp 2) rfl gs 0 rfl (styCells s) _ HX6.out.mid Try.underlying52 rfl (by kernel_rfl) ?_
        | (go_at_call 34; refine (HCE.out _).mono ?_; rintro e w7 ⟨rfl, hb⟩; have HX7 := Lib.hid (HX6.out.bel hb); clear hb))
      go_upto_block 0 with (fail)
      go_cut [14] (fun sb wx => sb = .int .i64 LF ∧ w7 = wx)
      case first =>
        cases lm
        · cases ln
          · obtain ⟨V, hV⟩ : ∃ V, V = c - f - cl := ⟨_, rfl⟩
            have HD : Hid (LF = max V 0 / 2) := Lib.hid (by rw [HLF.out, hV]; rfl)
            have wf4 : IntKind.i64.wrap (c - f - cl) = V := by rw [hV]; exact IntWalk.i64_in _ ⟨by omega, by omega⟩
            have hVb : -40000000000000 ≤ V ∧ V ≤ 40000000000000 := by omega
            obtain ⟨L, hL⟩ : ∃ L, L = V / 2 := ⟨_, rfl⟩
            have HL := Lib.hid hL
            have HFL : Hid (∀ W, Calls Try.prog 36 #[.int .i64 V, .int .i64 2] W fun e w' => e = .returned (.int .i64 L) ∧ W = w') := Lib.hid (fun W => by rw [hL]; exact floor2_any V W (by omega))
            clear hV hL
            go_wp2_with (go_at_call 36; refine (HFL.out _).mono ?_; rintro e w' ⟨rfl, rfl⟩)
            all_goals go_meet
            all_goals exact ⟨by congr 1; have := HD.out; have := HL.out; omega, rfl⟩
          · obtain ⟨V, hV⟩ : ∃ V, V = c - f - cl - n := ⟨_, rfl⟩
            have HD : Hid (LF = max V 0) := Lib.hid (by rw [HLF.out, hV]; rfl)
            have wf4 : IntKind.i64.wrap (c - f - cl) = c - f - cl := IntWalk.i64_in _ ⟨by omega, by omega⟩
            have wf5 : IntKind.i64.wrap (c - f - cl - n) = V := by rw [hV]; exact IntWalk.i64_in _ ⟨by omega, by omega⟩
            clear hV
            go_wp2_with fail
            all_goals go_meet
            all_goals exact ⟨by congr 1; have := HD.out; omega, rfl⟩
        · have HD : Hid (LF = m) := Lib.hid (by rw [HLF.out]; rfl)
          go_wp2_with fail
          go_meet
          exact ⟨by rw [HD.out], rfl⟩
      case rest =>
      obtain ⟨rfl, rfl⟩ := hcut
      have wf4 : IntKind.i64.wrap (c - f - cl) = c - f - cl := IntWalk.i64_in _ ⟨by omega, by omega⟩
      have wf5 : IntKind.i64.wrap (c - f - cl - LF) = c - f - cl - LF := IntWalk.i64_in _ ⟨by omega, by omega⟩
      go_wp2_with (go_at_call 35; refine (HCA.out _).mono ?_; rintro e w8 ⟨rfl, hb⟩; have HX8 := Lib.hid (HX7.out.bel hb); clear hb; have z0 := HX8.out.us.get 0 rfl; have z1 := HX8.out.us.get 1 rfl; have z2 := HX8.out.us.get 2 rfl; have z0f := HX8.out.us.frozen 0; have z1f := HX8.out.us.frozen 1; have z2f := HX8.out.us.frozen 2)
      exact bodyPost_ret (res_used rfl _ _ gu x1 x2 x3 _ rfl rfl (HX8.out.fin x1 x2 x3).1) rfl ⟨rfl, (HX8.out.fin x1 x2 x3).2⟩
    · have HN : Hid (flowN s c = (w0, m, c - f - w0 - m)) := Lib.hid (by
        rw [HNN.out]
        have : (cl != w0) = false := by rw [bne, d]; rfl
        rw [this]; rfl)
      have HCA := Lib.hid (HCT.out _ _ _ HN.out)
      have wf4 : IntKind.i64.wrap (c - f - w0) = c - f - w0 := IntWalk.i64_in _ ⟨by omega, by omega⟩
      have wf5 : IntKind.i64.wrap (c - f - w0 - m) = c - f - w0 - m := IntWalk.i64_in _ ⟨by omega, by omega⟩
      clear HN HNN HCT
      go_upto_region 9 with (first
        | refine wpList_load_mid rfl 52 (.tmp 2) rfl gs 0 rfl (styCells s) _ HX5.out.mid Try.underlying52 rfl (by kernel_rfl) ?_
        | (go_at_call 34; refine (HCE.out _).mono ?_; rintro e w6 ⟨rfl, hb⟩; have HX6 := Lib.hid (HX5.out.bel hb); clear hb))
      go_wp2_with (go_at_call 35; refine (HCA.out _).mono ?_; rintro e w8 ⟨rfl, hb⟩; have HX8 := Lib.hid (HX6.out.bel hb); clear hb; have z0 := HX8.out.us.get 0 rfl; have z1 := HX8.out.us.get 1 rfl; have z2 := HX8.out.us.get 2 rfl; have z0f := HX8.out.us.frozen 0; have z1f := HX8.out.us.frozen 1; have z2f := HX8.out.us.frozen 2)
      exact bodyPost_ret (res_used rfl _ _ gu x1 x2 x3 _ rfl rfl (HX8.out.fin x1 x2 x3).1) rfl ⟨rfl, (HX8.out.fin x1 x2 x3).2⟩
  · have HD : Hid (w0 = wv) := Lib.hid (by rw [HW0.out]; rfl)
    have HN : Hid (flowN s c = (cl, LF, c - f - cl - LF)) := Lib.hid (by rw [HNN.out]; rfl)
    rw [← HD.out]
    clear HW0 HD
    go_upto_region 10 with (fail)
    have HCA := Lib.hid (HCT.out _ _ _ HN.out)
    clear HN HNN HCT
    go_upto_region 11 with (first
      | refine wpList_load_mid rfl 52 (.tmp 2) rfl gs 0 rfl (styCells s) _ HX5.out.mid Try.underlying52 rfl (by kernel_rfl) ?_
      | (go_at_call 34; refine (HCE.out _).mono ?_; rintro e w7 ⟨rfl, hb⟩; have HX7 := Lib.hid (HX5.out.bel hb); clear hb))
    go_upto_block 0 with (fail)
    go_cut [14] (fun sb wx => sb = .int .i64 LF ∧ w7 = wx)
    case first =>
      cases lm
      · cases ln
        · obtain ⟨V, hV⟩ : ∃ V, V = c - f - cl := ⟨_, rfl⟩
          have HD : Hid (LF = max V 0 / 2) := Lib.hid (by rw [HLF.out, hV]; rfl)
          have wf4 : IntKind.i64.wrap (c - f - cl) = V := by rw [hV]; exact IntWalk.i64_in _ ⟨by omega, by omega⟩
          have hVb : -40000000000000 ≤ V ∧ V ≤ 40000000000000 := by omega
          obtain ⟨L, hL⟩ : ∃ L, L = V / 2 := ⟨_, rfl⟩
          have HL := Lib.hid hL
          have HFL : Hid (∀ W, Calls Try.prog 36 #[.int .i64 V, .int .i64 2] W fun e w' => e = .returned (.int .i64 L) ∧ W = w') := Lib.hid (fun W => by rw [hL]; exact floor2_any V W (by omega))
          clear hV hL
          go_wp2_with (go_at_call 36; refine (HFL.out _).mono ?_; rintro e w' ⟨rfl, rfl⟩)
          all_goals go_meet
          all_goals exact ⟨by congr 1; have := HD.out; have := HL.out; omega, rfl⟩
        · obtain ⟨V, hV⟩ : ∃ V, V = c - f - cl - n := ⟨_, rfl⟩
          have HD : Hid (LF = max V 0) := Lib.hid (by rw [HLF.out, hV]; rfl)
          have wf4 : IntKind.i64.wrap (c - f - cl) = c - f - cl := IntWalk.i64_in _ ⟨by omega, by omega⟩
          have wf5 : IntKind.i64.wrap (c - f - cl - n) = V := by rw [hV]; exact IntWalk.i64_in _ ⟨by omega, by omega⟩
          clear hV
          go_wp2_with fail
          all_goals go_meet
          all_goals exact ⟨by congr 1; have := HD.out; omega, rfl⟩
      · have HD : Hid (LF = m) := Lib.hid (by rw [HLF.out]; rfl)
        go_wp2_with fail
        go_meet
        exact ⟨by rw [HD.out], rfl⟩
    case rest =>
    obtain ⟨rfl, rfl⟩ := hcut
    have wf4 : IntKind.i64.wrap (c - f - cl) = c - f - cl := IntWalk.i64_in _ ⟨by omega, by omega⟩
    have wf5 : IntKind.i64.wrap (c - f - cl - LF) = c - f - cl - LF := IntWalk.i64_in _ ⟨by omega, by omega⟩
    go_wp2_with (go_at_call 35; refine (HCA.out _).mono ?_; rintro e w8 ⟨rfl, hb⟩; have HX8 := Lib.hid (HX7.out.bel hb); clear hb; have z0 := HX8.out.us.get 0 rfl; have z1 := HX8.out.us.get 1 rfl; have z2 := HX8.out.us.get 2 rfl; have z0f := HX8.out.us.frozen 0; have z1f := HX8.out.us.frozen 1; have z2f := HX8.out.us.frozen 2)
    exact bodyPost_ret (res_used rfl _ _ gu x1 x2 x3 _ rfl rfl (HX8.out.fin x1 x2 x3).1) rfl ⟨rfl, (HX8.out.fin x1 x2 x3).2⟩
set_option maxRecDepth 100000 in
set_option maxHeartbeats 4000000 in
theorem rshr_any (s : Sty) (c p q : Int) (w : World) (hs : StW s) (hc : CB c) (hp : 0 ≤ p ∧ p ≤ 1099511627776) (hq : 0 ≤ q ∧ q ≤ 1099511627776) : Calls Try.prog 26 #[.agg (styCells s).toArray, .int .i64 c, .int .i64 p, .int .i64 q] w (AnsB (usedV (shrN s c p q)) w) := by
  obtain ⟨x1, x2, x3, y, hv⟩ : ∃ x1 x2 x3 y, usedV (shrN s c p q) = .tuple #[.agg #[.int .i64 x1, .int .i64 x2, .int .i64 x3], .bool y] := ⟨_, _, _, _, rfl⟩
  rw [hv]
  have HV := Lib.hid hv
  clear hv
  have h3b := res_bd hs.m3 hc
  have h1b := res_bd hs.m1 hc
  have hwb := res_bd hs.w hc
  have hcb := hc.b
  obtain ⟨m, hm⟩ : ∃ m, m = (resF s.m3 c).1 := ⟨_, rfl⟩
  obtain ⟨lm, hlm⟩ : ∃ m, m = (resF s.m3 c).2 := ⟨_, rfl⟩
  obtain ⟨n, hn⟩ : ∃ m, m = (resF s.m1 c).1 := ⟨_, rfl⟩
  obtain ⟨ln, hln⟩ : ∃ m, m = (resF s.m1 c).2 := ⟨_, rfl⟩
  obtain ⟨wv, hwv⟩ : ∃ m, m = (resF s.w c).1 := ⟨_, rfl⟩
  obtain ⟨is, his⟩ : ∃ m, m = (resF s.w c).2 := ⟨_, rfl⟩
  obtain ⟨f, hf⟩ : ∃ m, m = frameF s := ⟨_, rfl⟩
  have hfb : 0 ≤ f ∧ f ≤ 4398046511104 := by rw [hf]; have := hs.b.b1; have := hs.b.b3; have := hs.b.p1; have := hs.b.p3; unfold frameF; omega
  have HFN : Hid (shrN s c p q = (clampF s c (if is then wv else min q (max p (c - f - m - n))), m, n)) := Lib.hid (by rw [hm, hn, hwv, his, hf]; rfl)
  have HCB : Hid (∀ v, 0 ≤ clampF s c v ∧ (clampF s c v ≤ 10995116277760 ∨ clampF s c v = v)) := Lib.hid (fun v => by
    by_cases he : clampF s c v = v
    · have : 0 ≤ clampF s c v := by unfold clampF; dsimp only; omega
      exact ⟨this, .inr he⟩
    · have := clamp_offW hs.maxw hs.minw hc he; exact ⟨this.1, .inl this.2⟩)
  have HR3 : Hid (∀ W, Calls Try.prog 33 #[.agg #[.int .u8 s.m3.k, .int .i64 s.m3.n], .int .i64 c] W (AnsB (.tuple #[.int .i64 m, .bool lm]) W)) := Lib.hid (fun W => by rw [hm, hlm]; exact res_b s.m3 c W hs.m3 hc)
  have HR1 : Hid (∀ W, Calls Try.prog 33 #[.agg #[.int .u8 s.m1.k, .int .i64 s.m1.n], .int .i64 c] W (AnsB (.tuple #[.int .i64 n, .bool ln]) W)) := Lib.hid (fun W => by rw [hn, hln]; exact res_b s.m1 c W hs.m1 hc)
  have HRW : Hid (∀ W, Calls Try.prog 33 #[.agg #[.int .u8 s.w.k, .int .i64 s.w.n], .int .i64 c] W (AnsB (.tuple #[.int .i64 wv, .bool is]) W)) := Lib.hid (fun W => by rw [hwv, his]; exact res_b s.w c W hs.w hc)
  have HFR : Hid (∀ W, Calls Try.prog 14 #[.agg (styCells s).toArray] W fun e w' => (∃ d : Int, e = .returned (.tuple #[.int .i64 f, .int .i64 d])) ∧ Below W.heap.size W w') := Lib.hid (fun W => by rw [hf]; exact rframe_any s W hs.b)
  have HCL : Hid (∀ v W, Calls Try.prog 34 #[.agg (styCells s).toArray, .int .i64 c, .int .i64 v] W (AnsB (.int .i64 (clampF s c v)) W)) := Lib.hid (fun v W => rcl_b s c v W hs.maxw hs.minw hc)
  rw [← hm] at h3b
  rw [← hn] at h1b
  rw [← hwv] at hwb
  clear hm hlm hn hln hwv his hf hs hc
  have hmx : max c 0 = c := by omega
  have hm2 : decide (c < 0) = false := decide_eq_false (by omega)
  have hm3 : (if 0 ≤ c then c else 0) = c := if_pos hcb.1
  go_enter Try.func26, Try.ntmps26
  go_upto_region 1 with (fail)
  obtain ⟨gs, hgs⟩ : ∃ gs, gs = w.heap.size := ⟨_, rfl⟩
  obtain ⟨gu, hgu⟩ : ∃ gu, gu = w.heap.size + 1 := ⟨_, rfl⟩
  have HX1 := Lib.hid (FxI.start s w)
  obtain ⟨w1, hw1⟩ : ∃ w1, w1 = (w.alloc (.cells (styCells s).toArray 52)).alloc (.cells #[.int .i64 0, .int .i64 0, .int .i64 0] 27) := ⟨_, rfl⟩
  have HE : Hid ((w.alloc (.cells (styCells s).toArray 52)).alloc (.cells #[.int .i64 0, .int .i64 0, .int .i64 0] 27) = w1) := Lib.hid hw1.symm
  rw [← hw1, ← hgu, ← hgs] at HX1
  rw [← hgu, ← hgs]
  first | rw [HE.out] | (rw [show ((w.alloc _).alloc _) = w1 from HE.out])
  clear hw1 HE hgs hgu
  go_upto_region 2 with (fail)
  go_upto_region 3 with (first
    | refine wpList_load_mid rfl 52 (.tmp 4) rfl gs 0 rfl (styCells s) _ HX1.out.mid Try.underlying52 rfl (by kernel_rfl) ?_
    | (go_at_call 14; refine (HFR.out _).mono ?_; rintro e w2 ⟨⟨d9, rfl⟩, hb⟩; have HX2 := Lib.hid (HX1.out.bel hb); clear hb))
  obtain ⟨⟨y22, y23⟩, ⟨y18, y19⟩, y4, y5⟩ := HX2.out.cells
  go_upto_region 4 with (go_at_call 33; refine (HR3.out _).mono ?_; rintro e w3 ⟨rfl, hb⟩; have HX3 := Lib.hid (HX2.out.bel hb); clear hb)
  clear y22 y23 y18 y19 y4 y5
  obtain ⟨⟨y22, y23⟩, ⟨y18, y19⟩, y4, y5⟩ := HX3.out.cells
  go_upto_region 5 with (go_at_call 33; refine (HR1.out _).mono ?_; rintro e w4 ⟨rfl, hb⟩; have HX4 := Lib.hid (HX3.out.bel hb); clear hb)
  clear y22 y23 y18 y19 y4 y5
  obtain ⟨⟨y22, y23⟩, ⟨y18, y19⟩, y4, y5⟩ := HX4.out.cells
  go_upto_region 6 with (go_at_call 33; refine (HRW.out _).mono ?_; rintro e w5 ⟨rfl, hb⟩; have HX5 := Lib.hid (HX4.out.bel hb); clear hb)
  clear y22 y23 y18 y19 y4 y5
  clear HR3 HR1 HRW HFR
  obtain ⟨w0, hw0⟩ : ∃ w0, w0 = (if is then wv else min q (max p (c - f - m - n))) := ⟨_, rfl⟩
  have HW0 := Lib.hid hw0
  clear hw0
  obtain ⟨cl, hcl⟩ : ∃ cl, cl = clampF s c w0 := ⟨_, rfl⟩
  have HCE : Hid (∀ W, Calls Try.prog 34 #[.agg (styCells s).toArray, .int .i64 c, .int .i64 w0] W (AnsB (.int .i64 cl) W)) := Lib.hid (fun W => by rw [hcl]; exact HCL.out w0 W)
  have HN : Hid (shrN s c p q = (cl, m, n)) := Lib.hid (by rw [HFN.out, ← HW0.out, ← hcl])
  have HCA : Hid (∀ W, Calls Try.prog 35 #[.agg #[.int .i64 cl, .int .i64 m, .int .i64 n]] W (AnsB (.tuple #[.agg #[.int .i64 x1, .int .i64 x2, .int .i64 x3], .bool y]) W)) := Lib.hid (fun W => by
    have h2 := rcutAll_any cl m n W
    rw [← HN.out, HV.out] at h2; exact h2)
  clear HN HV HFN hcl HCL HCB
  go_upto_if 49 with (fail)
  go_cut [16] (fun sx wx => sx = .int .i64 w0 ∧ w5 = wx)
  case first =>
    cases is
    · obtain ⟨D, hD⟩ : ∃ D, D = c - f - m - n := ⟨_, rfl⟩
      have HD : Hid (w0 = min q (max p D)) := Lib.hid (by rw [HW0.out, hD]; rfl)
      have wf1 : IntKind.i64.wrap (c - f) = c - f := IntWalk.i64_in _ ⟨by omega, by omega⟩
      have wf2 : IntKind.i64.wrap (c - f - m) = c - f - m := IntWalk.i64_in _ ⟨by omega, by omega⟩
      have wf3 : IntKind.i64.wrap (c - f - m - n) = D := by rw [hD]; exact IntWalk.i64_in _ ⟨by omega, by omega⟩
      clear hD
      go_wp2_with fail
      all_goals go_meet
      all_goals exact ⟨by congr 1; have := HD.out; omega, rfl⟩
    · have HD : Hid (w0 = wv) := Lib.hid (by rw [HW0.out]; rfl)
      go_wp2_with fail
      go_meet
      exact ⟨by rw [HD.out], rfl⟩
  case rest =>
  obtain ⟨rfl, rfl⟩ := hcut
  go_wp2_with (first
    | refine wpList_load_mid rfl 52 (.tmp 4) rfl gs 0 rfl (styCells s) _ HX5.out.mid Try.underlying52 rfl (by kernel_rfl) ?_
    | (go_at_call 34; refine (HCE.out _).mono ?_; rintro e w7 ⟨rfl, hb⟩; have HX7 := Lib.hid (HX5.out.bel hb); clear hb)
    | (go_at_call 35; refine (HCA.out _).mono ?_; rintro e w8 ⟨rfl, hb⟩; have HX8 := Lib.hid (HX7.out.bel hb); clear hb; have z0 := HX8.out.us.get 0 rfl; have z1 := HX8.out.us.get 1 rfl; have z2 := HX8.out.us.get 2 rfl; have z0f := HX8.out.us.frozen 0; have z1f := HX8.out.us.frozen 1; have z2f := HX8.out.us.frozen 2))
  exact bodyPost_ret (res_used rfl _ _ gu x1 x2 x3 _ rfl rfl (HX8.out.fin x1 x2 x3).1) rfl ⟨rfl, (HX8.out.fin x1 x2 x3).2⟩
end Go.Proofs.Ytbopeofglhkffaa
