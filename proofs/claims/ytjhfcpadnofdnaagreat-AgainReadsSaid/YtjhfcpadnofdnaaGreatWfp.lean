/- Used values of one box: widths.Flowing, Shrunk, . -/
import Derived.Test.YtjhfcpadnofdnaaGreatCna
import Derived.Test.YtjhfcpadnofdnaaGreatWq
import Derived.Test.YtjhfcpadnofdnaaGreatBld
import Derived.Deep.CutBlock
set_option linter.unusedSimpArgs false
set_option linter.unusedVariables false
namespace Go.Proofs.YtjhfcpadnofdnaaGreat
open Go.RowKit
attribute [local go_sem] block_of_add
def flowL (cl : Int → Int) (c f m n wv : Int) (lm ln is : Bool) : Int × Int × Int :=
  let w0 := bif is then wv else max (c - f - m - n) 0
  bif is || (cl w0 != w0) then
    let left := bif !lm && !ln then max (c - f - cl w0) 0 / 2 else bif !lm then max (c - f - cl w0 - n) 0 else m
    (cl w0, left, c - f - cl w0 - left)
  else (w0, m, c - f - w0 - m)
def flowN (s : Sty) (c : Int) : Int × Int × Int := flowL (clampF s c) c (frameF s) (resF s.m3 c).1 (resF s.m1 c).1 (resF s.w c).1 (resF s.m3 c).2 (resF s.m1 c).2 (resF s.w c).2
def shrN (s : Sty) (c least greatest : Int) : Int × Int × Int :=
  (clampF s c (if (resF s.w c).2 then (resF s.w c).1 else min greatest (max least (c - frameF s - (resF s.m3 c).1 - (resF s.m1 c).1))), (resF s.m3 c).1, (resF s.m1 c).1)
def usedN (t : Int × Int × Int) : Int × Int × Int := (cutF t.1, cutF t.2.1, cutF t.2.2)
def overN (t : Int × Int × Int) : Bool := cutB t.1 || cutB t.2.1 || cutB t.2.2
def usedV (t : Int × Int × Int) : Value := .tuple #[.agg #[.int .i64 (cutF t.1), .int .i64 (cutF t.2.1), .int .i64 (cutF t.2.2)], .bool (overN t)]
/-- What Flowing and Shrunk ask of a style. -/
structure StW (s : Sty) : Prop where
  m1 : LnM s.m1
  m3 : LnM s.m3
  w : LnM s.w
  maxw : LnM s.maxw
  minw : LnM s.minw
  b : StyB s
theorem balW {w w' : World} (h : Below w.heap.size w w') (o : Obj) : Below w.heap.size w (w'.alloc o) := h.alloc h.size _
theorem clamp_offW {s : Sty} {c v : Int} (h1 : LnM s.maxw) (h2 : LnM s.minw) (hc : CB c) (h : clampF s c v ≠ v) : 0 ≤ clampF s c v ∧ clampF s c v ≤ 10995116277760 := by
  have b1 := res_bd h1 hc
  have b2 := res_bd h2 hc
  revert h
  unfold clampF
  dsimp only
  cases (resF s.maxw c).2 <;> cases (resF s.minw c).2 <;> simp only [Bool.false_eq_true, if_true, if_false] <;> omega
/-! The contracts that are called. -/
theorem pres_b (l : Ln) (c : Int) (w : World) (hl : LnM l) (hc : CB c) : Calls Tryz.prog 179 #[.agg #[.int .u8 l.k, .int .i64 l.n], .int .i64 c] w (AnsB (.tuple #[.int .i64 (resF l c).1, .bool (resF l c).2]) w) :=
  (resolve_any l.k l.n c w hl hc).mono fun _ _ ⟨he, hw⟩ => ⟨he, hw ▸ balW (Below.refl _ _) _⟩
theorem pcl_b (s : Sty) (c v : Int) (w : World) (h1 : LnM s.maxw) (h2 : LnM s.minw) (hc : CB c) : Calls Tryz.prog 246 #[.agg (styCells s).toArray, .int .i64 c, .int .i64 v] w (AnsB (.int .i64 (clampF s c v)) w) :=
  (clamp_any s c v w h1 h2 hc).mono fun _ _ ⟨he, hw⟩ => ⟨he, hw ▸ balW (balW (balW (Below.refl _ _) _) _) _⟩
theorem pfr_b (s : Sty) (w : World) (hs : StyB s) : Calls Tryz.prog 82 #[.agg (styCells s).toArray] w fun e w' => (∃ d : Int, e = .returned (.tuple #[.int .i64 (frameF s), .int .i64 d])) ∧ Below w.heap.size w w' :=
  (frame_any s w hs).mono fun _ _ ⟨he, hw⟩ => ⟨he, hw ▸ balW (Below.refl _ _) _⟩
/-- The variables. -/
structure FxI (gs gu : Nat) (s : Sty) (a b c : Int) (w W : World) : Prop where
  st : Blk W gs 67 (styCells s).toArray
  us : Blk W gu 40 #[.int .i64 a, .int .i64 b, .int .i64 c]
  b : Below w.heap.size w W
  lo : w.heap.size ≤ gu
section
variable {gs gu : Nat} {s : Sty} {a b c : Int} {w W W' : World}
theorem FxI.bel (h : FxI gs gu s a b c w W) (hb : Below W.heap.size W W') : FxI gs gu s a b c w W' := ⟨h.st.below hb h.st.lt, h.us.below hb h.us.lt, h.b.trans (hb.mono h.b.size), h.lo⟩
theorem FxI.fin (h : FxI gs gu s a b c w W) (x y z : Int) : Blk (((W.setCell ⟨gu, 0, none⟩ (.int .i64 x)).setCell ⟨gu, 1, none⟩ (.int .i64 y)).setCell ⟨gu, 2, none⟩ (.int .i64 z)) gu 40 #[.int .i64 x, .int .i64 y, .int .i64 z] ∧ Below w.heap.size w (((W.setCell ⟨gu, 0, none⟩ (.int .i64 x)).setCell ⟨gu, 1, none⟩ (.int .i64 y)).setCell ⟨gu, 2, none⟩ (.int .i64 z)) :=
  ⟨by have h := ((h.us.set_ 0 (.int .i64 x)).set_ 1 (.int .i64 y)).set_ 2 (.int .i64 z); simpa using h, ((h.b.setCell (p := ⟨gu, 0, none⟩) h.lo _).setCell (p := ⟨gu, 1, none⟩) h.lo _).setCell (p := ⟨gu, 2, none⟩) h.lo _⟩
theorem FxI.mid (h : FxI gs gu s a b c w W) : W.rangeAt gs 0 (styCells s) := blk_rng h.st fun q v hv => by
  rw [Nat.zero_add]; exact hv
theorem FxI.cells (h : FxI gs gu s a b c w W) : (W.cell? ⟨gs, 22, none⟩ = some (.int .u8 s.m3.k) ∧ W.cell? ⟨gs, 23, none⟩ = some (.int .i64 s.m3.n)) ∧ (W.cell? ⟨gs, 18, none⟩ = some (.int .u8 s.m1.k) ∧ W.cell? ⟨gs, 19, none⟩ = some (.int .i64 s.m1.n)) ∧ W.cell? ⟨gs, 4, none⟩ = some (.int .u8 s.w.k) ∧ W.cell? ⟨gs, 5, none⟩ = some (.int .i64 s.w.n) :=
  ⟨⟨h.st.get 22 rfl, h.st.get 23 rfl⟩, ⟨h.st.get 18 rfl, h.st.get 19 rfl⟩, h.st.get 4 rfl, h.st.get 5 rfl⟩
end
theorem FxI.start (s : Sty) (w : World) : FxI w.heap.size (w.heap.size + 1) s 0 0 0 w ((w.alloc (.cells (styCells s).toArray 67)).alloc (.cells #[.int .i64 0, .int .i64 0, .int .i64 0] 40)) :=
  ⟨(Blk.new _ _ _).alloc _, Blk.at_ _ _ _ (by simp), balW (balW (Below.refl _ _) _) _, by omega⟩
theorem res_used {fn : Func} {p u : Tmp} (h : fn.results = #[.cell p 40, .tmp u]) (tmps : Array Value) (w : World) (g : Nat) (a b c : Int) (v : Value) (hp : tmps.getD p undef = .pointer (some ⟨g, 0, none⟩)) (hu : tmps.getD u undef = v) (hg : Blk w g 40 #[.int .i64 a, .int .i64 b, .int .i64 c]) :
    (results fn tmps).run Tryz.prog w = .ok (.tuple #[.agg #[.int .i64 a, .int .i64 b, .int .i64 c], v]) w := by
  rw [results_cell_tmp h, hp, hu]
  have h := run_loadVar_row (P := Tryz.prog) w g 40 40 #[.int .i64 a, .int .i64 b, .int .i64 c] (0, 0) _ hg Tryz.underlying40 rfl (by kernel_rfl)
  simp [asAddr, h, Result.andThen]
theorem eqB3 (a b c : Bool) (w : World) : (Op.equalIn 10000 355 (.agg #[.bool a, .bool b, .bool c]) (.agg #[.bool false, .bool false, .bool false])).run Tryz.prog w = .ok (!(a || b || c)) w := by
  cases a <;> cases b <;> cases c <;> kernel_rfl
theorem guardB3 (op : BinOp) (x y : Operand) (xs ys : Array Value) (w : World) : (eqGuard op 355 x y (.agg xs) (.agg ys)).run Tryz.prog w = .ok () w := run_eqGuard_agg w op _ x y xs ys (by kernel_rfl)
attribute [local go_sem] eqB3 guardB3
set_option maxRecDepth 100000 in
set_option maxHeartbeats 1000000 in
theorem cutU_any (a b c : Int) (w : World) : Calls Tryz.prog 247 #[.int .i64 a, .int .i64 b, .int .i64 c] w (AnsB (usedV (a, b, c)) w) := by
  have HU : Hid (usedV (a, b, c) = .tuple #[.agg #[.int .i64 (cutF a), .int .i64 (cutF b), .int .i64 (cutF c)], .bool (cutB a || cutB b || cutB c)]) := Lib.hid rfl
  rw [HU.out]
  have HC := Lib.hid (fun x W => cut_any x W)
  obtain ⟨x1, hx1⟩ : ∃ x, x = cutF a := ⟨_, rfl⟩
  obtain ⟨x2, hx2⟩ : ∃ x, x = cutF b := ⟨_, rfl⟩
  obtain ⟨x3, hx3⟩ : ∃ x, x = cutF c := ⟨_, rfl⟩
  obtain ⟨y1, hy1⟩ : ∃ x, x = cutB a := ⟨_, rfl⟩
  obtain ⟨y2, hy2⟩ : ∃ x, x = cutB b := ⟨_, rfl⟩
  obtain ⟨y3, hy3⟩ : ∃ x, x = cutB c := ⟨_, rfl⟩
  rw [← hx1, ← hx2, ← hx3, ← hy1, ← hy2, ← hy3]
  have HE1 : Hid (∀ W, Calls Tryz.prog 81 #[.int .i64 a] W fun e w' => e = .returned (.tuple #[.int .i64 x1, .bool y1]) ∧ W = w') := Lib.hid (fun W => by rw [hx1, hy1]; exact HC.out a W)
  have HE2 : Hid (∀ W, Calls Tryz.prog 81 #[.int .i64 b] W fun e w' => e = .returned (.tuple #[.int .i64 x2, .bool y2]) ∧ W = w') := Lib.hid (fun W => by rw [hx2, hy2]; exact HC.out b W)
  have HE3 : Hid (∀ W, Calls Tryz.prog 81 #[.int .i64 c] W fun e w' => e = .returned (.tuple #[.int .i64 x3, .bool y3]) ∧ W = w') := Lib.hid (fun W => by rw [hx3, hy3]; exact HC.out c W)
  clear hx1 hx2 hx3 hy1 hy2 hy3 HU HC
  go_enter Tryz.func247, Tryz.ntmps247
  go_upto_region 2 with (fail)
  go_upto_region 3 with (go_at_call 81; refine (HE1.out _).mono ?_; rintro e w' ⟨rfl, rfl⟩)
  go_upto_region 4 with (go_at_call 81; refine (HE2.out _).mono ?_; rintro e w' ⟨rfl, rfl⟩)
  go_upto_region 5 with (go_at_call 81; refine (HE3.out _).mono ?_; rintro e w' ⟨rfl, rfl⟩)
  clear HE1 HE2 HE3
  have HP : Hid ((!(!(y1 || y2 || y3))) = (y1 || y2 || y3)) := Lib.hid (by simp)
  go_region
  all_goals go_wp2_with fail
  all_goals refine bodyPost_ret (res_used rfl _ _ w.heap.size x1 x2 x3 _ rfl rfl (by first | exact (Blk.at_ _ _ _ rfl).alloc _)) rfl ⟨by first | rfl | (rw [HP.out]) | simp, (balW (balW (Below.refl _ _) _) _).drew⟩
set_option maxRecDepth 100000 in
set_option maxHeartbeats 4000000 in
theorem pflow_any (s : Sty) (c : Int) (w : World) (hs : StW s) (hc : CB c) : Calls Tryz.prog 168 #[.agg (styCells s).toArray, .int .i64 c] w (AnsB (usedV (flowN s c)) w) := by
  obtain ⟨x1, x2, x3, y, hv⟩ : ∃ x1 x2 x3 y, usedV (flowN s c) = .tuple #[.agg #[.int .i64 x1, .int .i64 x2, .int .i64 x3], .bool y] := ⟨_, _, _, _, rfl⟩
  rw [hv]
  have HV := Lib.hid hv
  clear hv
  have h3b := res_bd hs.m3 hc
  have h1b := res_bd hs.m1 hc
  have hwb := res_bd hs.w hc
  have hcb := hc.b
  obtain ⟨m, hm⟩ : ∃ m, m = (resF s.m3 c).1 := ⟨_, rfl⟩
  obtain ⟨lm, hlm⟩ : ∃ m, m = (resF s.m3 c).2 := ⟨_, rfl⟩
  obtain ⟨n, hn⟩ : ∃ m, m = (resF s.m1 c).1 := ⟨_, rfl⟩
  obtain ⟨ln, hln⟩ : ∃ m, m = (resF s.m1 c).2 := ⟨_, rfl⟩
  obtain ⟨wv, hwv⟩ : ∃ m, m = (resF s.w c).1 := ⟨_, rfl⟩
  obtain ⟨is, his⟩ : ∃ m, m = (resF s.w c).2 := ⟨_, rfl⟩
  obtain ⟨f, hf⟩ : ∃ m, m = frameF s := ⟨_, rfl⟩
  have hfb : 0 ≤ f ∧ f ≤ 4398046511104 := by rw [hf]; have := hs.b.b1; have := hs.b.b3; have := hs.b.p1; have := hs.b.p3; unfold frameF; omega
  have HFN : Hid (flowN s c = flowL (clampF s c) c f m n wv lm ln is) := Lib.hid (by rw [hm, hlm, hn, hln, hwv, his, hf]; rfl)
  have HCB : Hid (∀ v, 0 ≤ clampF s c v ∧ (clampF s c v ≤ 10995116277760 ∨ clampF s c v = v)) := Lib.hid (fun v => by
    by_cases he : clampF s c v = v
    · have : 0 ≤ clampF s c v := by unfold clampF; dsimp only; omega
      exact ⟨this, .inr he⟩
    · have := clamp_offW hs.maxw hs.minw hc he; exact ⟨this.1, .inl this.2⟩)
  have HR3 : Hid (∀ W, Calls Tryz.prog 179 #[.agg #[.int .u8 s.m3.k, .int .i64 s.m3.n], .int .i64 c] W (AnsB (.tuple #[.int .i64 m, .bool lm]) W)) := Lib.hid (fun W => by rw [hm, hlm]; exact pres_b s.m3 c W hs.m3 hc)
  have HR1 : Hid (∀ W, Calls Tryz.prog 179 #[.agg #[.int .u8 s.m1.k, .int .i64 s.m1.n], .int .i64 c] W (AnsB (.tuple #[.int .i64 n, .bool ln]) W)) := Lib.hid (fun W => by rw [hn, hln]; exact pres_b s.m1 c W hs.m1 hc)
  have HRW : Hid (∀ W, Calls Tryz.prog 179 #[.agg #[.int .u8 s.w.k, .int .i64 s.w.n], .int .i64 c] W (AnsB (.tuple #[.int .i64 wv, .bool is]) W)) := Lib.hid (fun W => by rw [hwv, his]; exact pres_b s.w c W hs.w hc)
  have HFR : Hid (∀ W, Calls Tryz.prog 82 #[.agg (styCells s).toArray] W fun e w' => (∃ d : Int, e = .returned (.tuple #[.int .i64 f, .int .i64 d])) ∧ Below W.heap.size W w') := Lib.hid (fun W => by rw [hf]; exact pfr_b s W hs.b)
  have HCL : Hid (∀ v W, Calls Tryz.prog 246 #[.agg (styCells s).toArray, .int .i64 c, .int .i64 v] W (AnsB (.int .i64 (clampF s c v)) W)) := Lib.hid (fun v W => pcl_b s c v W hs.maxw hs.minw hc)
  rw [← hm] at h3b
  rw [← hn] at h1b
  rw [← hwv] at hwb
  clear hm hlm hn hln hwv his hf hs hc
  have hmx : max c 0 = c := by omega
  have hm2 : decide (c < 0) = false := decide_eq_false (by omega)
  have hm3 : (if 0 ≤ c then c else 0) = c := if_pos hcb.1
  go_enter Tryz.func168, Tryz.ntmps168
  go_upto_region 1 with (fail)
  obtain ⟨gs, hgs⟩ : ∃ gs, gs = w.heap.size := ⟨_, rfl⟩
  obtain ⟨gu, hgu⟩ : ∃ gu, gu = w.heap.size + 1 := ⟨_, rfl⟩
  have HX1 := Lib.hid (FxI.start s w)
  obtain ⟨w1, hw1⟩ : ∃ w1, w1 = (w.alloc (.cells (styCells s).toArray 67)).alloc (.cells #[.int .i64 0, .int .i64 0, .int .i64 0] 40) := ⟨_, rfl⟩
  have HE : Hid ((w.alloc (.cells (styCells s).toArray 67)).alloc (.cells #[.int .i64 0, .int .i64 0, .int .i64 0] 40) = w1) := Lib.hid hw1.symm
  rw [← hw1, ← hgu, ← hgs] at HX1
  rw [← hgu, ← hgs]
  first | rw [HE.out] | (rw [show ((w.alloc _).alloc _) = w1 from HE.out])
  clear hw1 HE hgs hgu
  go_upto_region 2 with (fail)
  obtain ⟨⟨y22, y23⟩, ⟨y18, y19⟩, y4, y5⟩ := HX1.out.cells
  go_upto_region 3 with (go_at_call 179; refine (HR3.out _).mono ?_; rintro e w2 ⟨rfl, hb⟩; have HX2 := Lib.hid (HX1.out.bel hb); clear hb)
  clear y22 y23 y18 y19 y4 y5
  obtain ⟨⟨y22, y23⟩, ⟨y18, y19⟩, y4, y5⟩ := HX2.out.cells
  go_upto_region 4 with (go_at_call 179; refine (HR1.out _).mono ?_; rintro e w3 ⟨rfl, hb⟩; have HX3 := Lib.hid (HX2.out.bel hb); clear hb)
  clear y22 y23 y18 y19 y4 y5
  go_upto_region 5 with (first
    | refine wpList_load_mid rfl 67 (.tmp 2) rfl gs 0 rfl (styCells s) _ HX3.out.mid Tryz.underlying67 rfl (by kernel_rfl) ?_
    | (go_at_call 82; refine (HFR.out _).mono ?_; rintro e w4 ⟨⟨d9, rfl⟩, hb⟩; have HX4 := Lib.hid (HX3.out.bel hb); clear hb))
  obtain ⟨⟨y22, y23⟩, ⟨y18, y19⟩, y4, y5⟩ := HX4.out.cells
  go_upto_region 6 with (go_at_call 179; refine (HRW.out _).mono ?_; rintro e w5 ⟨rfl, hb⟩; have HX5 := Lib.hid (HX4.out.bel hb); clear hb)
  clear y22 y23 y18 y19 y4 y5
  clear HR3 HR1 HRW HFR
  obtain ⟨w0, hw0⟩ : ∃ w0, w0 = (bif is then wv else max (c - f - m - n) 0) := ⟨_, rfl⟩
  have hw0b : -10995116277760 ≤ w0 ∧ w0 ≤ 30000000000000 := by rw [hw0]; cases is <;> simp only [cond_true, cond_false] <;> omega
  have HW0 := Lib.hid hw0
  clear hw0
  have wf1 : IntKind.i64.wrap (c - f) = c - f := IntWalk.i64_in _ ⟨by omega, by omega⟩
  go_upto_if 47 with (fail)
  go_cut [12] (fun sx wx => sx = .int .i64 w0 ∧ w5 = wx)
  case first =>
    cases is
    · obtain ⟨D, hD⟩ : ∃ D, D = c - f - m - n := ⟨_, rfl⟩
      have HD : Hid (w0 = max D 0) := Lib.hid (by rw [HW0.out, hD]; rfl)
      have wf2 : IntKind.i64.wrap (c - f - m) = c - f - m := IntWalk.i64_in _ ⟨by omega, by omega⟩
      have wf3 : IntKind.i64.wrap (c - f - m - n) = D := by rw [hD]; exact IntWalk.i64_in _ ⟨by omega, by omega⟩
      clear hD
      by_cases hz : D < 0
      · have q1 : max D 0 = 0 := by omega
        have q2 : decide (D < 0) = true := decide_eq_true hz
        have q3 : (if 0 ≤ D then D else 0) = 0 := if_neg (by omega)
        have HE : Hid (w0 = 0) := Lib.hid (by rw [HD.out, q1])
        go_wp2_with fail
        all_goals go_meet
        all_goals exact ⟨by first | rw [HE.out] | (congr 1; have := HE.out; omega), rfl⟩
      · have q1 : max D 0 = D := by omega
        have q2 : decide (D < 0) = false := decide_eq_false hz
        have q3 : (if 0 ≤ D then D else 0) = D := if_pos (by omega)
        have HE : Hid (w0 = D) := Lib.hid (by rw [HD.out, q1])
        go_wp2_with fail
        all_goals go_meet
        all_goals exact ⟨by first | rw [HE.out] | (congr 1; have := HE.out; omega), rfl⟩
    · have HD : Hid (w0 = wv) := Lib.hid (by rw [HW0.out]; rfl)
      go_wp2_with fail
      go_meet
      exact ⟨by rw [HD.out], rfl⟩
  case rest =>
  obtain ⟨rfl, rfl⟩ := hcut
  obtain ⟨cl, hcl⟩ : ∃ cl, cl = clampF s c w0 := ⟨_, rfl⟩
  have hclb : 0 ≤ cl ∧ cl ≤ 30000000000000 := by rw [hcl]; have := HCB.out w0; omega
  have HCE : Hid (∀ W, Calls Tryz.prog 246 #[.agg (styCells s).toArray, .int .i64 c, .int .i64 w0] W (AnsB (.int .i64 cl) W)) := Lib.hid (fun W => by rw [hcl]; exact HCL.out w0 W)
  have HCQ := Lib.hid hcl
  clear hcl
  go_upto_region 9 with (first
    | refine wpList_load_mid rfl 67 (.tmp 2) rfl gs 0 rfl (styCells s) _ HX5.out.mid Tryz.underlying67 rfl (by kernel_rfl) ?_
    | (go_at_call 246; refine (HCE.out _).mono ?_; rintro e w6 ⟨rfl, hb⟩; have HX6 := Lib.hid (HX5.out.bel hb); clear hb))
  obtain ⟨b, hb⟩ : ∃ b, b = (is || (cl != w0)) := ⟨_, rfl⟩
  have HB := Lib.hid hb
  clear hb HCE
  go_upto_region 10 with (fail)
  go_cut [66] (fun sx wx => sx = .bool b ∧ w6 = wx)
  case first =>
    cases is
    · cases d : (cl != w0)
      · have HBB : Hid (b = false) := Lib.hid (by rw [HB.out, d]; rfl)
        go_wp2_with fail
        go_meet
        exact ⟨by rw [HBB.out], rfl⟩
      · have HBB : Hid (b = true) := Lib.hid (by rw [HB.out, d]; rfl)
        go_wp2_with fail
        go_meet
        exact ⟨by rw [HBB.out], rfl⟩
    · have HBB : Hid (b = true) := Lib.hid (by rw [HB.out]; rfl)
      go_wp2_with fail
      go_meet
      exact ⟨by rw [HBB.out], rfl⟩
  case rest =>
  obtain ⟨rfl, rfl⟩ := hcut
  obtain ⟨LF, hLF⟩ : ∃ LF, LF = (bif !lm && !ln then max (c - f - cl) 0 / 2 else bif !lm then max (c - f - cl - n) 0 else m) := ⟨_, rfl⟩
  have hLb : -10995116277760 ≤ LF ∧ LF ≤ 30000000000000 := by rw [hLF]; cases lm <;> cases ln <;> simp only [cond_true, cond_false, Bool.not_true, Bool.not_false, Bool.and_true, Bool.and_false] <;> omega
  have HLF := Lib.hid hLF
  clear hLF
  obtain ⟨A, hA⟩ : ∃ A, A = (bif b then cl else w0) := ⟨_, rfl⟩
  obtain ⟨B, hB⟩ : ∃ B, B = (bif b then LF else m) := ⟨_, rfl⟩
  have hAb : -10995116277760 ≤ A ∧ A ≤ 30000000000000 := by rw [hA]; cases b <;> simp only [cond_true, cond_false] <;> omega
  have hBb : -10995116277760 ≤ B ∧ B ≤ 30000000000000 := by rw [hB]; cases b <;> simp only [cond_true, cond_false] <;> omega
  have HN : Hid (flowN s c = (A, B, c - f - A - B)) := Lib.hid (by
    rw [HFN.out]
    unfold flowL
    dsimp only
    rw [← HW0.out, ← HCQ.out, ← HB.out, ← HLF.out, hA, hB]
    cases b <;> rfl)
  have HAQ := Lib.hid hA
  have HBQ := Lib.hid hB
  clear hA hB
  go_upto_if 66 with (fail)
  go_cut [12, 15] (fun sa sb wx => sa = .int .i64 A ∧ sb = .int .i64 B ∧ w6 = wx)
  case first =>
    cases b
    · have HE : Hid (A = w0 ∧ B = m) := Lib.hid ⟨HAQ.out, HBQ.out⟩
      go_wp2_with fail
      go_meet
      exact ⟨by rw [HE.out.1], by rw [HE.out.2], rfl⟩
    · have HE : Hid (A = cl ∧ B = LF) := Lib.hid ⟨HAQ.out, HBQ.out⟩
      cases lm
      · cases ln
        · obtain ⟨V, hV⟩ : ∃ V, V = c - f - cl := ⟨_, rfl⟩
          have HD : Hid (LF = max V 0 / 2) := Lib.hid (by rw [HLF.out, hV]; rfl)
          have wf4 : IntKind.i64.wrap (c - f - cl) = V := by rw [hV]; exact IntWalk.i64_in _ ⟨by omega, by omega⟩
          have hVb : -40000000000000 ≤ V ∧ V ≤ 40000000000000 := by omega
          clear hV
          by_cases hz : V < 0
          · have q1 : max V 0 = 0 := by omega
            have q2 : decide (V < 0) = true := decide_eq_true hz
            have q3 : (if 0 ≤ V then V else 0) = 0 := if_neg (by omega)
            have HF : Hid (LF = 0) := Lib.hid (by rw [HD.out, q1]; rfl)
            go_wp2_with fail
            all_goals go_meet
            all_goals exact ⟨by rw [HE.out.1], by first | rw [HE.out.2, HF.out] | (rw [HE.out.2]; congr 1; have := HF.out; have := HD.out; omega), rfl⟩
          · have q1 : max V 0 = V := by omega
            have q2 : decide (V < 0) = false := decide_eq_false hz
            have q3 : (if 0 ≤ V then V else 0) = V := if_pos (by omega)
            obtain ⟨L, hL⟩ : ∃ L, L = V / 2 := ⟨_, rfl⟩
            have q4 : V.tdiv 2 = L := by rw [hL]; exact Int.tdiv_eq_ediv_of_nonneg (by omega)
            have q5 : IntKind.i64.wrap L = L := IntWalk.i64_in _ ⟨by omega, by omega⟩
            have HF : Hid (LF = L) := Lib.hid (by rw [HD.out, q1, hL])
            clear hL
            go_wp2_with fail
            all_goals go_meet
            all_goals exact ⟨by rw [HE.out.1], by first | rw [HE.out.2, HF.out] | (rw [HE.out.2]; congr 1; have := HF.out; have := HD.out; omega), rfl⟩
        · obtain ⟨V, hV⟩ : ∃ V, V = c - f - cl - n := ⟨_, rfl⟩
          have HD : Hid (LF = max V 0) := Lib.hid (by rw [HLF.out, hV]; rfl)
          have wf4 : IntKind.i64.wrap (c - f - cl) = c - f - cl := IntWalk.i64_in _ ⟨by omega, by omega⟩
          have wf5 : IntKind.i64.wrap (c - f - cl - n) = V := by rw [hV]; exact IntWalk.i64_in _ ⟨by omega, by omega⟩
          clear hV
          by_cases hz : V < 0
          · have q1 : max V 0 = 0 := by omega
            have q2 : decide (V < 0) = true := decide_eq_true hz
            have q3 : (if 0 ≤ V then V else 0) = 0 := if_neg (by omega)
            have HF : Hid (LF = 0) := Lib.hid (by rw [HD.out, q1])
            go_wp2_with fail
            all_goals go_meet
            all_goals exact ⟨by rw [HE.out.1], by first | rw [HE.out.2, HF.out] | (rw [HE.out.2]; congr 1; have := HF.out; have := HD.out; omega), rfl⟩
          · have q1 : max V 0 = V := by omega
            have q2 : decide (V < 0) = false := decide_eq_false hz
            have q3 : (if 0 ≤ V then V else 0) = V := if_pos (by omega)
            have HF : Hid (LF = V) := Lib.hid (by rw [HD.out, q1])
            go_wp2_with fail
            all_goals go_meet
            all_goals exact ⟨by rw [HE.out.1], by first | rw [HE.out.2, HF.out] | (rw [HE.out.2]; congr 1; have := HF.out; have := HD.out; omega), rfl⟩
      · have HD : Hid (LF = m) := Lib.hid (by rw [HLF.out]; rfl)
        go_wp2_with fail
        go_meet
        exact ⟨by rw [HE.out.1], by rw [HE.out.2, HD.out], rfl⟩
  case rest =>
  obtain ⟨rfl, rfl, rfl⟩ := hcut
  have wf4 : IntKind.i64.wrap (c - f - A) = c - f - A := IntWalk.i64_in _ ⟨by omega, by omega⟩
  have wf5 : IntKind.i64.wrap (c - f - A - B) = c - f - A - B := IntWalk.i64_in _ ⟨by omega, by omega⟩
  have HCA : Hid (∀ W, Calls Tryz.prog 247 #[.int .i64 A, .int .i64 B, .int .i64 (c - f - A - B)] W (AnsB (.tuple #[.agg #[.int .i64 x1, .int .i64 x2, .int .i64 x3], .bool y]) W)) := Lib.hid (fun W => by
    have h := cutU_any A B (c - f - A - B) W
    rw [← HN.out, HV.out] at h; exact h)
  clear HN HV
  go_wp2_with (go_at_call 247; refine (HCA.out _).mono ?_; rintro e w8 ⟨rfl, hb⟩; have HX8 := Lib.hid (HX6.out.bel hb); clear hb; have z0 := HX8.out.us.get 0 rfl; have z1 := HX8.out.us.get 1 rfl; have z2 := HX8.out.us.get 2 rfl; have z0f := HX8.out.us.frozen 0; have z1f := HX8.out.us.frozen 1; have z2f := HX8.out.us.frozen 2)
  exact bodyPost_ret (res_used rfl _ _ gu x1 x2 x3 _ rfl rfl (HX8.out.fin x1 x2 x3).1) rfl ⟨rfl, (HX8.out.fin x1 x2 x3).2⟩
set_option maxRecDepth 100000 in
set_option maxHeartbeats 4000000 in
theorem pshr_any (s : Sty) (c p q : Int) (w : World) (hs : StW s) (hc : CB c) (hp : 0 ≤ p ∧ p ≤ 1099511627776) (hq : 0 ≤ q ∧ q ≤ 1099511627776) : Calls Tryz.prog 250 #[.agg (styCells s).toArray, .int .i64 c, .int .i64 p, .int .i64 q] w (AnsB (usedV (shrN s c p q)) w) := by
  obtain ⟨x1, x2, x3, y, hv⟩ : ∃ x1 x2 x3 y, usedV (shrN s c p q) = .tuple #[.agg #[.int .i64 x1, .int .i64 x2, .int .i64 x3], .bool y] := ⟨_, _, _, _, rfl⟩
  rw [hv]
  have HV := Lib.hid hv
  clear hv
  have h3b := res_bd hs.m3 hc
  have h1b := res_bd hs.m1 hc
  have hwb := res_bd hs.w hc
  have hcb := hc.b
  obtain ⟨m, hm⟩ : ∃ m, m = (resF s.m3 c).1 := ⟨_, rfl⟩
  obtain ⟨lm, hlm⟩ : ∃ m, m = (resF s.m3 c).2 := ⟨_, rfl⟩
  obtain ⟨n, hn⟩ : ∃ m, m = (resF s.m1 c).1 := ⟨_, rfl⟩
  obtain ⟨ln, hln⟩ : ∃ m, m = (resF s.m1 c).2 := ⟨_, rfl⟩
  obtain ⟨wv, hwv⟩ : ∃ m, m = (resF s.w c).1 := ⟨_, rfl⟩
  obtain ⟨is, his⟩ : ∃ m, m = (resF s.w c).2 := ⟨_, rfl⟩
  obtain ⟨f, hf⟩ : ∃ m, m = frameF s := ⟨_, rfl⟩
  have hfb : 0 ≤ f ∧ f ≤ 4398046511104 := by rw [hf]; have := hs.b.b1; have := hs.b.b3; have := hs.b.p1; have := hs.b.p3; unfold frameF; omega
  have HFN : Hid (shrN s c p q = (clampF s c (if is then wv else min q (max p (c - f - m - n))), m, n)) := Lib.hid (by rw [hm, hn, hwv, his, hf]; rfl)
  have HCB : Hid (∀ v, 0 ≤ clampF s c v ∧ (clampF s c v ≤ 10995116277760 ∨ clampF s c v = v)) := Lib.hid (fun v => by
    by_cases he : clampF s c v = v
    · have : 0 ≤ clampF s c v := by unfold clampF; dsimp only; omega
      exact ⟨this, .inr he⟩
    · have := clamp_offW hs.maxw hs.minw hc he; exact ⟨this.1, .inl this.2⟩)
  have HR3 : Hid (∀ W, Calls Tryz.prog 179 #[.agg #[.int .u8 s.m3.k, .int .i64 s.m3.n], .int .i64 c] W (AnsB (.tuple #[.int .i64 m, .bool lm]) W)) := Lib.hid (fun W => by rw [hm, hlm]; exact pres_b s.m3 c W hs.m3 hc)
  have HR1 : Hid (∀ W, Calls Tryz.prog 179 #[.agg #[.int .u8 s.m1.k, .int .i64 s.m1.n], .int .i64 c] W (AnsB (.tuple #[.int .i64 n, .bool ln]) W)) := Lib.hid (fun W => by rw [hn, hln]; exact pres_b s.m1 c W hs.m1 hc)
  have HRW : Hid (∀ W, Calls Tryz.prog 179 #[.agg #[.int .u8 s.w.k, .int .i64 s.w.n], .int .i64 c] W (AnsB (.tuple #[.int .i64 wv, .bool is]) W)) := Lib.hid (fun W => by rw [hwv, his]; exact pres_b s.w c W hs.w hc)
  have HFR : Hid (∀ W, Calls Tryz.prog 82 #[.agg (styCells s).toArray] W fun e w' => (∃ d : Int, e = .returned (.tuple #[.int .i64 f, .int .i64 d])) ∧ Below W.heap.size W w') := Lib.hid (fun W => by rw [hf]; exact pfr_b s W hs.b)
  have HCL : Hid (∀ v W, Calls Tryz.prog 246 #[.agg (styCells s).toArray, .int .i64 c, .int .i64 v] W (AnsB (.int .i64 (clampF s c v)) W)) := Lib.hid (fun v W => pcl_b s c v W hs.maxw hs.minw hc)
  rw [← hm] at h3b
  rw [← hn] at h1b
  rw [← hwv] at hwb
  clear hm hlm hn hln hwv his hf hs hc
  have hmx : max c 0 = c := by omega
  have hm2 : decide (c < 0) = false := decide_eq_false (by omega)
  have hm3 : (if 0 ≤ c then c else 0) = c := if_pos hcb.1
  go_enter Tryz.func250, Tryz.ntmps250
  go_upto_region 1 with (fail)
  obtain ⟨gs, hgs⟩ : ∃ gs, gs = w.heap.size := ⟨_, rfl⟩
  obtain ⟨gu, hgu⟩ : ∃ gu, gu = w.heap.size + 1 := ⟨_, rfl⟩
  have HX1 := Lib.hid (FxI.start s w)
  obtain ⟨w1, hw1⟩ : ∃ w1, w1 = (w.alloc (.cells (styCells s).toArray 67)).alloc (.cells #[.int .i64 0, .int .i64 0, .int .i64 0] 40) := ⟨_, rfl⟩
  have HE : Hid ((w.alloc (.cells (styCells s).toArray 67)).alloc (.cells #[.int .i64 0, .int .i64 0, .int .i64 0] 40) = w1) := Lib.hid hw1.symm
  rw [← hw1, ← hgu, ← hgs] at HX1
  rw [← hgu, ← hgs]
  first | rw [HE.out] | (rw [show ((w.alloc _).alloc _) = w1 from HE.out])
  clear hw1 HE hgs hgu
  go_upto_region 2 with (fail)
  obtain ⟨⟨y22, y23⟩, ⟨y18, y19⟩, y4, y5⟩ := HX1.out.cells
  go_upto_region 3 with (go_at_call 179; refine (HR3.out _).mono ?_; rintro e w2 ⟨rfl, hb⟩; have HX2 := Lib.hid (HX1.out.bel hb); clear hb)
  clear y22 y23 y18 y19 y4 y5
  obtain ⟨⟨y22, y23⟩, ⟨y18, y19⟩, y4, y5⟩ := HX2.out.cells
  go_upto_region 4 with (go_at_call 179; refine (HR1.out _).mono ?_; rintro e w3 ⟨rfl, hb⟩; have HX3 := Lib.hid (HX2.out.bel hb); clear hb)
  clear y22 y23 y18 y19 y4 y5
  go_upto_region 5 with (first
    | refine wpList_load_mid rfl 67 (.tmp 4) rfl gs 0 rfl (styCells s) _ HX3.out.mid Tryz.underlying67 rfl (by kernel_rfl) ?_
    | (go_at_call 82; refine (HFR.out _).mono ?_; rintro e w4 ⟨⟨d9, rfl⟩, hb⟩; have HX4 := Lib.hid (HX3.out.bel hb); clear hb))
  obtain ⟨⟨y22, y23⟩, ⟨y18, y19⟩, y4, y5⟩ := HX4.out.cells
  go_upto_region 6 with (go_at_call 179; refine (HRW.out _).mono ?_; rintro e w5 ⟨rfl, hb⟩; have HX5 := Lib.hid (HX4.out.bel hb); clear hb)
  clear y22 y23 y18 y19 y4 y5
  clear HR3 HR1 HRW HFR
  obtain ⟨w0, hw0⟩ : ∃ w0, w0 = (if is then wv else min q (max p (c - f - m - n))) := ⟨_, rfl⟩
  have HW0 := Lib.hid hw0
  clear hw0
  obtain ⟨cl, hcl⟩ : ∃ cl, cl = clampF s c w0 := ⟨_, rfl⟩
  have HCE : Hid (∀ W, Calls Tryz.prog 246 #[.agg (styCells s).toArray, .int .i64 c, .int .i64 w0] W (AnsB (.int .i64 cl) W)) := Lib.hid (fun W => by rw [hcl]; exact HCL.out w0 W)
  have HN : Hid (shrN s c p q = (cl, m, n)) := Lib.hid (by rw [HFN.out, ← HW0.out, ← hcl])
  have HCA : Hid (∀ W, Calls Tryz.prog 247 #[.int .i64 cl, .int .i64 m, .int .i64 n] W (AnsB (.tuple #[.agg #[.int .i64 x1, .int .i64 x2, .int .i64 x3], .bool y]) W)) := Lib.hid (fun W => by
    have h2 := cutU_any cl m n W
    rw [← HN.out, HV.out] at h2; exact h2)
  clear HN HV HFN hcl HCL HCB
  go_upto_if 49 with (fail)
  go_cut [16] (fun sx wx => sx = .int .i64 w0 ∧ w5 = wx)
  case first =>
    cases is
    · obtain ⟨D, hD⟩ : ∃ D, D = c - f - m - n := ⟨_, rfl⟩
      have HD : Hid (w0 = min q (max p D)) := Lib.hid (by rw [HW0.out, hD]; rfl)
      have wf1 : IntKind.i64.wrap (c - f) = c - f := IntWalk.i64_in _ ⟨by omega, by omega⟩
      have wf2 : IntKind.i64.wrap (c - f - m) = c - f - m := IntWalk.i64_in _ ⟨by omega, by omega⟩
      have wf3 : IntKind.i64.wrap (c - f - m - n) = D := by rw [hD]; exact IntWalk.i64_in _ ⟨by omega, by omega⟩
      clear hD
      go_wp2_with fail
      all_goals go_meet
      all_goals exact ⟨by congr 1; have := HD.out; omega, rfl⟩
    · have HD : Hid (w0 = wv) := Lib.hid (by rw [HW0.out]; rfl)
      go_wp2_with fail
      go_meet
      exact ⟨by rw [HD.out], rfl⟩
  case rest =>
  obtain ⟨rfl, rfl⟩ := hcut
  go_wp2_with (first
    | refine wpList_load_mid rfl 67 (.tmp 4) rfl gs 0 rfl (styCells s) _ HX5.out.mid Tryz.underlying67 rfl (by kernel_rfl) ?_
    | (go_at_call 246; refine (HCE.out _).mono ?_; rintro e w7 ⟨rfl, hb⟩; have HX7 := Lib.hid (HX5.out.bel hb); clear hb)
    | (go_at_call 247; refine (HCA.out _).mono ?_; rintro e w8 ⟨rfl, hb⟩; have HX8 := Lib.hid (HX7.out.bel hb); clear hb; have z0 := HX8.out.us.get 0 rfl; have z1 := HX8.out.us.get 1 rfl; have z2 := HX8.out.us.get 2 rfl; have z0f := HX8.out.us.frozen 0; have z1f := HX8.out.us.frozen 1; have z2f := HX8.out.us.frozen 2))
  exact bodyPost_ret (res_used rfl _ _ gu x1 x2 x3 _ rfl rfl (HX8.out.fin x1 x2 x3).1) rfl ⟨rfl, (HX8.out.fin x1 x2 x3).2⟩
end Go.Proofs.YtjhfcpadnofdnaaGreat
