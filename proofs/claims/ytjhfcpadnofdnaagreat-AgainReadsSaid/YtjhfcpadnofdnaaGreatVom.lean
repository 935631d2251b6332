/- seq.Layout of a tree of one node. -/
import Derived.Test.YtjhfcpadnofdnaaGreatVol
import Derived.Test.YtjhfcpadnofdnaaGreatVop
set_option linter.unusedSimpArgs false
set_option linter.unusedVariables false
namespace Go.Proofs.YtjhfcpadnofdnaaGreat
open Go.RowKit
attribute [local go_sem] block_of_add
/-- Nothing but the block gX has turned; below B nothing. -/
structure LyP (B gX : Nat) (w w' : World) : Prop where
  b : Below B w w'
  k : ∀ (g : Nat) (t : TypeId) (cs : Array Value), g ≠ gX → Blk w g t cs → Blk w' g t cs
section
variable {gN gC gU gT gX B : Nat} {v uw : Int} {w : World} {c0 c1 c2 c3 : Value}
set_option maxRecDepth 100000 in
set_option maxHeartbeats 4000000 in
theorem slay1_one (hB : B ≤ gX) (hn : Blk w gN 69 (ndsCells l1V).toArray) (hT : Blk w gT 25 #[.slice (some ⟨gN, 0, none⟩) 1 1, .slice none 0 0, .int .i64 v]) (hX : Blk w gX 32 #[c0, c1, c2, c3]) :
    Calls Tryz.prog 105 #[.pointer (some ⟨gT, 0, none⟩), .pointer (some ⟨gX, 0, none⟩)] w fun e w' => e = .returned (.int .i64 (-1)) ∧ (∃ gC, w.heap.size ≤ gC ∧ Blk w' gC 38 #[.int .i64 0, .int .i64 0, .int .i64 0, .int .i64 0] ∧ Blk w' gX 32 #[.slice (some ⟨gC, 0, none⟩) 1 1, c1, c2, c3]) ∧ LyP B gX w w' := by
  have HX := Lib.hid hX
  have HUP := Lib.hid (sup_one (v := v) hn)
  have t0 := hT.get 0 rfl
  have t1 := hT.get 1 rfl
  have t2 := hT.get 2 rfl
  have tl := hT.lt
  have HXL : Hid (B ≤ w.heap.size ∧ gX < w.heap.size) := Lib.hid ⟨by have := hX.lt; omega, hX.lt⟩
  clear hn hT hX
  go_enter Tryz.func105, Tryz.ntmps105
  go_upto_region 2 with (go_at_call 106; refine HUP.out.mono ?_; rintro e w1 ⟨⟨gC, rfl, hge, bC⟩, hb1⟩; have HX1 := Lib.hid (HX.out.below hb1 HX.out.lt); have HB1 := Lib.hid hb1; have HC1 := Lib.hid bC; have HGE := Lib.hid hge; clear t0 t1 t2 tl bC hb1 hge; have x0 := HX1.out.get 0 rfl; have xl := HX1.out.lt; have xf := HX1.out.frozen 0)
  have HXE : Hid (Blk (w1.setCell ⟨gX, 0, none⟩ (.slice (some ⟨gC, 0, none⟩) 1 1)) gX 32 #[.slice (some ⟨gC, 0, none⟩) 1 1, c1, c2, c3]) := Lib.hid (by simpa using HX1.out.set_ 0 (.slice (some ⟨gC, 0, none⟩) 1 1))
  have HCE := Lib.hid (HC1.out.far (p := ⟨gX, 0, none⟩) (HC1.out.ne_ HX1.out (by decide)) (.slice (some ⟨gC, 0, none⟩) 1 1))
  have HLE : Hid (LyP B gX w (w1.setCell ⟨gX, 0, none⟩ (.slice (some ⟨gC, 0, none⟩) 1 1))) := Lib.hid ⟨(HB1.out.mono HXL.out.1).setCell (p := ⟨gX, 0, none⟩) hB _, fun g t cs hg h => (h.below HB1.out h.lt).far hg _⟩
  clear x0 xl xf
  generalize World.setCell w1 _ _ = w2 at HXE HCE HLE ⊢
  go_wp2_with fail
  go_ret
  exact ⟨rfl, ⟨gC, HGE.out, HCE.out, HXE.out⟩, HLE.out⟩
set_option maxRecDepth 100000 in
set_option maxHeartbeats 4000000 in
theorem slay2_one (hB : B ≤ gX) (hv : VwV v) (hn : Blk w gN 69 (ndsCells l1V).toArray) (hT : Blk w gT 25 #[.slice (some ⟨gN, 0, none⟩) 1 1, .slice none 0 0, .int .i64 v]) (hX : Blk w gX 32 #[c0, c1, c2, c3]) :
    Calls Tryz.prog 107 #[.pointer (some ⟨gT, 0, none⟩), .pointer (some ⟨gX, 0, none⟩)] w fun e w' => e = .returned (.int .i64 (-1)) ∧ (∃ gU, w.heap.size ≤ gU ∧ Blk w' gU 40 #[.int .i64 v, .int .i64 0, .int .i64 0] ∧ Blk w' gX 32 #[c0, .slice (some ⟨gU, 0, none⟩) 1 1, c2, c3]) ∧ LyP B gX w w' := by
  have HX := Lib.hid hX
  have HUP := Lib.hid (sdown_one hv.u hv.c c0 hn)
  have t0 := hT.get 0 rfl
  have t1 := hT.get 1 rfl
  have t2 := hT.get 2 rfl
  have tl := hT.lt
  have x0 := hX.get 0 rfl
  have xl := hX.lt
  have HXL : Hid (B ≤ w.heap.size ∧ gX < w.heap.size) := Lib.hid ⟨by have := hX.lt; omega, hX.lt⟩
  clear hn hT hX
  go_enter Tryz.func107, Tryz.ntmps107
  go_upto_region 2 with (go_at_call 108; refine HUP.out.mono ?_; rintro e w1 ⟨⟨gU, rfl, hge, bC⟩, hb1⟩; have HX1 := Lib.hid (HX.out.below hb1 HX.out.lt); have HB1 := Lib.hid hb1; have HC1 := Lib.hid bC; have HGE := Lib.hid hge; clear t0 t1 t2 tl x0 xl bC hb1 hge; have x0 := HX1.out.get 1 rfl; have xl := HX1.out.lt; have xf := HX1.out.frozen 1)
  have HXE : Hid (Blk (w1.setCell ⟨gX, 1, none⟩ (.slice (some ⟨gU, 0, none⟩) 1 1)) gX 32 #[c0, .slice (some ⟨gU, 0, none⟩) 1 1, c2, c3]) := Lib.hid (by simpa using HX1.out.set_ 1 (.slice (some ⟨gU, 0, none⟩) 1 1))
  have HCE := Lib.hid (HC1.out.far (p := ⟨gX, 1, none⟩) (HC1.out.ne_ HX1.out (by decide)) (.slice (some ⟨gU, 0, none⟩) 1 1))
  have HLE : Hid (LyP B gX w (w1.setCell ⟨gX, 1, none⟩ (.slice (some ⟨gU, 0, none⟩) 1 1))) := Lib.hid ⟨(HB1.out.mono HXL.out.1).setCell (p := ⟨gX, 1, none⟩) hB _, fun g t cs hg h => (h.below HB1.out h.lt).far hg _⟩
  clear x0 xl xf
  generalize World.setCell w1 _ _ = w2 at HXE HCE HLE ⊢
  go_wp2_with fail
  go_ret
  exact ⟨rfl, ⟨gU, HGE.out, HCE.out, HXE.out⟩, HLE.out⟩
set_option maxRecDepth 100000 in
set_option maxHeartbeats 4000000 in
theorem slay3_one (hB : B ≤ gX) (hc : CB v) (hu : 0 ≤ uw ∧ uw ≤ 1099511627776) (hn : Blk w gN 69 (ndsCells l1V).toArray) (hT : Blk w gT 25 #[.slice (some ⟨gN, 0, none⟩) 1 1, .slice none 0 0, .int .i64 v]) (hX : Blk w gX 32 #[c0, .slice (some ⟨gU, 0, none⟩) 1 1, c2, c3]) (hud : Blk w gU 40 #[.int .i64 uw, .int .i64 0, .int .i64 0]) :
    Calls Tryz.prog 109 #[.pointer (some ⟨gT, 0, none⟩), .pointer (some ⟨gX, 0, none⟩)] w fun e w' => e = .returned (.int .i64 (-1)) ∧ (∃ gH gF, w.heap.size ≤ gH ∧ w.heap.size ≤ gF ∧ Blk w' gH 2 #[.int .i64 0] ∧ Blk w' gF 43 #[.int .i64 0, .int .i64 0, .int .i64 uw, .int .i64 0, .slice none 0 0] ∧ Blk w' gX 32 #[c0, .slice (some ⟨gU, 0, none⟩) 1 1, .slice (some ⟨gH, 0, none⟩) 1 1, .slice (some ⟨gF, 0, none⟩) 1 1]) ∧ LyP B gX w w' := by
  have HX := Lib.hid hX
  have HUP := Lib.hid (sisles_one hc hu c0 hn hud)
  have t0 := hT.get 0 rfl
  have t1 := hT.get 1 rfl
  have t2 := hT.get 2 rfl
  have tl := hT.lt
  have x0 := hX.get 0 rfl
  have x1 := hX.get 1 rfl
  have xl := hX.lt
  have HXL : Hid (B ≤ w.heap.size ∧ gX < w.heap.size) := Lib.hid ⟨by have := hX.lt; omega, hX.lt⟩
  clear hn hT hX hud
  go_enter Tryz.func109, Tryz.ntmps109
  go_upto_region 2 with (go_at_call 110; refine HUP.out.mono ?_; rintro e w1 ⟨⟨gH, gF, rfl, hgH, hgF, bH, bF⟩, hb1⟩; have HX1 := Lib.hid (HX.out.below hb1 HX.out.lt); have HB1 := Lib.hid hb1; have HH1 := Lib.hid bH; have HF1 := Lib.hid bF; have HGE := Lib.hid (And.intro hgH hgF); clear t0 t1 t2 tl x0 x1 xl bH bF hb1 hgH hgF; have x2 := HX1.out.get 2 rfl; have x3 := HX1.out.get 3 rfl; have xl := HX1.out.lt; have xf := HX1.out.frozen)
  have HXE : Hid (Blk ((w1.setCell ⟨gX, 2, none⟩ (.slice (some ⟨gH, 0, none⟩) 1 1)).setCell ⟨gX, 3, none⟩ (.slice (some ⟨gF, 0, none⟩) 1 1)) gX 32 #[c0, .slice (some ⟨gU, 0, none⟩) 1 1, .slice (some ⟨gH, 0, none⟩) 1 1, .slice (some ⟨gF, 0, none⟩) 1 1]) := Lib.hid (by simpa using (HX1.out.set_ 2 (.slice (some ⟨gH, 0, none⟩) 1 1)).set_ 3 (.slice (some ⟨gF, 0, none⟩) 1 1))
  have HHE := Lib.hid ((HH1.out.far (p := ⟨gX, 2, none⟩) (HH1.out.ne_ HX1.out (by decide)) (.slice (some ⟨gH, 0, none⟩) 1 1)).far (p := ⟨gX, 3, none⟩) (HH1.out.ne_ HX1.out (by decide)) (.slice (some ⟨gF, 0, none⟩) 1 1))
  have HFE := Lib.hid ((HF1.out.far (p := ⟨gX, 2, none⟩) (HF1.out.ne_ HX1.out (by decide)) (.slice (some ⟨gH, 0, none⟩) 1 1)).far (p := ⟨gX, 3, none⟩) (HF1.out.ne_ HX1.out (by decide)) (.slice (some ⟨gF, 0, none⟩) 1 1))
  have HLE : Hid (LyP B gX w ((w1.setCell ⟨gX, 2, none⟩ (.slice (some ⟨gH, 0, none⟩) 1 1)).setCell ⟨gX, 3, none⟩ (.slice (some ⟨gF, 0, none⟩) 1 1))) := Lib.hid ⟨((HB1.out.mono HXL.out.1).setCell (p := ⟨gX, 2, none⟩) hB _).setCell (p := ⟨gX, 3, none⟩) hB _, fun g t cs hg h => ((h.below HB1.out h.lt).far hg _).far hg _⟩
  clear x2 x3 xl xf
  generalize World.setCell (World.setCell w1 _ _) _ _ = w2 at HXE HHE HFE HLE ⊢
  go_wp2_with fail
  go_ret
  exact ⟨rfl, ⟨gH, gF, HGE.out.1, HGE.out.2, HHE.out, HFE.out, HXE.out⟩, HLE.out⟩
theorem results_ctt {fn : Func} {p u u2 : Tmp} {ty : TypeId} (h : fn.results = #[.cell p ty, .tmp u, .tmp u2]) (tmps : Array Value) (P : Program) (w : World) :
    (results fn tmps).run P w =
      ((asAddr (tmps.getD p undef)).run P w).andThen fun a w₁ => ((loadVar ty a).run P w₁).andThen fun v w₂ => .ok (.tuple #[v, tmps.getD u undef, tmps.getD u2 undef]) w₂ := by
  simp only [results, h]
  simp [Sem.run_bind, Result.andThen]
theorem res_layV {fn : Func} (hr : fn.results = #[.cell 2 32, .tmp 3, .tmp 4]) (tmps : Array Value) (w : World) (g : Nat) (a b c d v3 v4 : Value) (hp : tmps.getD 2 undef = .pointer (some ⟨g, 0, none⟩)) (h3 : tmps.getD 3 undef = v3) (h4 : tmps.getD 4 undef = v4) (hg : Blk w g 32 #[a, b, c, d]) :
    (results fn tmps).run Tryz.prog w = .ok (.tuple #[.agg #[a, b, c, d], v3, v4]) w := by
  rw [results_ctt hr, hp, h3, h4]
  have h := run_loadVar_row (P := Tryz.prog) w g 32 32 #[a, b, c, d] (0, 0) _ hg Tryz.underlying32 rfl (by kernel_rfl)
  simp [asAddr, h, Result.andThen]
set_option maxRecDepth 100000 in
set_option maxHeartbeats 4000000 in
theorem slayout_one (hck : ∀ W : World, Blk W gN 69 (ndsCells l1V).toArray → Calls Tryz.prog 62 #[.agg #[.slice (some ⟨gN, 0, none⟩) 1 1, .slice none 0 0, .int .i64 v]] W fun e w' => (∃ n : Int, e = .returned (.tuple #[.int .i64 n, .int .i64 0])) ∧ Below W.heap.size W w') (hv : VwV v) (hu : 0 ≤ v ∧ v ≤ 1099511627776) (hn : Blk w gN 69 (ndsCells l1V).toArray) :
    Calls Tryz.prog 56 #[.agg #[.slice (some ⟨gN, 0, none⟩) 1 1, .slice none 0 0, .int .i64 v]] w fun e w' => (∃ gC gU gH gF, e = .returned (.tuple #[.agg #[.slice (some ⟨gC, 0, none⟩) 1 1, .slice (some ⟨gU, 0, none⟩) 1 1, .slice (some ⟨gH, 0, none⟩) 1 1, .slice (some ⟨gF, 0, none⟩) 1 1], .int .i64 0, .int .i64 0]) ∧ TabV gC gU gH gF v w') ∧ Below w.heap.size w w' := by
  have HN := Lib.hid (fun W' (h : Below w.heap.size w W') => hn.below h hn.lt)
  have HCK := Lib.hid (fun W' (h : Below w.heap.size w W') => hck W' (HN.out W' h))
  have HVU : Hid (VwV v ∧ (0 ≤ v ∧ v ≤ 1099511627776) ∧ gN < w.heap.size) := Lib.hid ⟨hv, hu, hn.lt⟩
  obtain ⟨gT, hgT⟩ : ∃ g, g = w.heap.size := ⟨_, rfl⟩
  obtain ⟨w1, hw1⟩ : ∃ W, W = (w.alloc (.cells #[.slice (some ⟨gN, 0, none⟩) 1 1, .slice none 0 0, .int .i64 v] 25)).alloc (.cells #[.slice none 0 0, .slice none 0 0, .slice none 0 0, .slice none 0 0] 32) := ⟨_, rfl⟩
  have HT1 : Hid (Blk w1 gT 25 #[.slice (some ⟨gN, 0, none⟩) 1 1, .slice none 0 0, .int .i64 v]) := Lib.hid (by rw [hw1, hgT]; exact (Blk.new _ _ _).alloc _)
  have HX1 : Hid (Blk w1 (gT + 1) 32 #[.slice none 0 0, .slice none 0 0, .slice none 0 0, .slice none 0 0]) := Lib.hid (by rw [hw1, hgT]; exact Blk.at_ _ _ _ (by simp))
  have HB1 : Hid (Below w.heap.size w w1) := Lib.hid (by rw [hw1]; exact ((Below.refl _ _).alloc (Nat.le_refl _) _).alloc (by simp) _)
  have HGT := Lib.hid hgT
  clear hck hn hv hu
  go_enter Tryz.func56, Tryz.ntmps56
  go_upto_region 1 with (fail)
  rw [← hw1, ← hgT]
  clear hw1 hgT
  have t0 := HT1.out.get 0 rfl
  have t1 := HT1.out.get 1 rfl
  have t2 := HT1.out.get 2 rfl
  have tl := HT1.out.lt
  go_upto_region 4 with (go_at_call 62; refine (HCK.out _ HB1.out).mono ?_; rintro e w2 ⟨⟨n0, rfl⟩, hb2⟩; have HT2 := Lib.hid (HT1.out.below hb2 HT1.out.lt); have HX2 := Lib.hid (HX1.out.below hb2 HX1.out.lt); have HB2 := Lib.hid (HB1.out.trans (hb2.mono HB1.out.size)); clear hb2 t0 t1 t2 tl)
  obtain ⟨gX, hgX⟩ : ∃ g, g = gT + 1 := ⟨_, rfl⟩
  rw [← hgX] at HX2 ⊢
  have HGX : Hid (w.heap.size ≤ gX ∧ gT ≠ gX) := Lib.hid (by have := HGT.out; omega)
  clear hgX HX1 HT1 HB1
  go_upto_region 5 with (fail)
  obtain ⟨gP, hgP⟩ : ∃ g, g = w2.heap.size := ⟨_, rfl⟩
  obtain ⟨w3, hw3⟩ : ∃ W, W = w2.alloc (.cells #[.func (.func 105) #[] #[.pointer (some ⟨gT, 0, none⟩), .pointer (some ⟨gX, 0, none⟩)], .func (.func 107) #[] #[.pointer (some ⟨gT, 0, none⟩), .pointer (some ⟨gX, 0, none⟩)], .func (.func 109) #[] #[.pointer (some ⟨gT, 0, none⟩), .pointer (some ⟨gX, 0, none⟩)]] 167) := ⟨_, rfl⟩
  have HP3 : Hid (Blk w3 gP 167 #[.func (.func 105) #[] #[.pointer (some ⟨gT, 0, none⟩), .pointer (some ⟨gX, 0, none⟩)], .func (.func 107) #[] #[.pointer (some ⟨gT, 0, none⟩), .pointer (some ⟨gX, 0, none⟩)], .func (.func 109) #[] #[.pointer (some ⟨gT, 0, none⟩), .pointer (some ⟨gX, 0, none⟩)]]) := Lib.hid (by rw [hw3, hgP]; exact Blk.new _ _ _)
  have HT3 : Hid (Blk w3 gT 25 #[.slice (some ⟨gN, 0, none⟩) 1 1, .slice none 0 0, .int .i64 v]) := Lib.hid (by rw [hw3]; exact HT2.out.alloc _)
  have HX3 : Hid (Blk w3 gX 32 #[.slice none 0 0, .slice none 0 0, .slice none 0 0, .slice none 0 0]) := Lib.hid (by rw [hw3]; exact HX2.out.alloc _)
  have HB3 : Hid (Below w.heap.size w w3) := Lib.hid (by rw [hw3]; exact HB2.out.alloc HB2.out.size _)
  rw [← hw3, ← hgP]
  have HPX : Hid (gP ≠ gX) := Lib.hid (by rw [hgP]; have := HX2.out.lt; omega)
  clear hw3 hgP
  have p0 := HP3.out.get 0 rfl
  have pl := HP3.out.lt
  go_wp2_with fail
  refine wp_loop_rounds 4 ?_
  rw [rounds_succ]
  go_wp2_with fail
  refine (slay1_one (v := v) HGX.out.1 (HN.out _ HB3.out) HT3.out HX3.out).mono ?_
  rintro e w4 ⟨rfl, ⟨gC, -, bC, bX⟩, hL⟩
  have HC4 := Lib.hid bC
  have HX4 := Lib.hid bX
  have HB4 := Lib.hid (HB3.out.trans hL.b)
  have HT4 := Lib.hid (hL.k _ _ _ HGX.out.2 HT3.out)
  have HP4 := Lib.hid (hL.k _ _ _ HPX.out HP3.out)
  clear bC bX hL p0 pl
  have p1 := HP4.out.get 1 rfl
  have pl := HP4.out.lt
  go_wp2_with fail
  rw [rounds_succ]
  go_wp2_with fail
  refine (slay2_one HGX.out.1 HVU.out.1 (HN.out _ HB4.out) HT4.out HX4.out).mono ?_
  rintro e w5 ⟨rfl, ⟨gU, -, bU, bX⟩, hL⟩
  have HU5 := Lib.hid bU
  have HX5 := Lib.hid bX
  have HB5 := Lib.hid (HB4.out.trans hL.b)
  have HT5 := Lib.hid (hL.k _ _ _ HGX.out.2 HT4.out)
  have HP5 := Lib.hid (hL.k _ _ _ HPX.out HP4.out)
  have HC5 := Lib.hid (hL.k _ _ _ (HC4.out.ne_ HX4.out (by decide)) HC4.out)
  clear bU bX hL p1 pl
  have p2 := HP5.out.get 2 rfl
  have pl := HP5.out.lt
  go_wp2_with fail
  rw [rounds_succ]
  go_wp2_with fail
  refine (slay3_one HGX.out.1 HVU.out.1.c HVU.out.2.1 (HN.out _ HB5.out) HT5.out HX5.out HU5.out).mono ?_
  rintro e w6 ⟨rfl, ⟨gH, gF, -, -, bH, bF, bX⟩, hL⟩
  have HTB : Hid (TabV gC gU gH gF v w6) := Lib.hid ⟨hL.k _ _ _ (HC5.out.ne_ HX5.out (by decide)) HC5.out, hL.k _ _ _ (HU5.out.ne_ HX5.out (by decide)) HU5.out, bH, bF⟩
  have HX6 := Lib.hid bX
  have HB6 := Lib.hid (HB5.out.trans hL.b)
  clear bH bF bX hL p2 pl
  go_wp2_with fail
  rw [rounds_succ]
  have x0 := HX6.out.get 0 rfl
  have x1 := HX6.out.get 1 rfl
  have x2 := HX6.out.get 2 rfl
  have x3 := HX6.out.get 3 rfl
  have xl := HX6.out.lt
  have xf := HX6.out.frozen
  go_wp2_with fail
  have HX7 : Hid (Blk ((((w6.setCell ⟨gX, 0, none⟩ (.slice (some ⟨gC, 0, none⟩) 1 1)).setCell ⟨gX, 1, none⟩ (.slice (some ⟨gU, 0, none⟩) 1 1)).setCell ⟨gX, 2, none⟩ (.slice (some ⟨gH, 0, none⟩) 1 1)).setCell ⟨gX, 3, none⟩ (.slice (some ⟨gF, 0, none⟩) 1 1)) gX 32 #[.slice (some ⟨gC, 0, none⟩) 1 1, .slice (some ⟨gU, 0, none⟩) 1 1, .slice (some ⟨gH, 0, none⟩) 1 1, .slice (some ⟨gF, 0, none⟩) 1 1]) := Lib.hid (by simpa using (((HX6.out.set_ 0 (.slice (some ⟨gC, 0, none⟩) 1 1)).set_ 1 (.slice (some ⟨gU, 0, none⟩) 1 1)).set_ 2 (.slice (some ⟨gH, 0, none⟩) 1 1)).set_ 3 (.slice (some ⟨gF, 0, none⟩) 1 1))
  have HB7 := Lib.hid ((((HB6.out.setCell (p := ⟨gX, 0, none⟩) HGX.out.1 (.slice (some ⟨gC, 0, none⟩) 1 1)).setCell (p := ⟨gX, 1, none⟩) HGX.out.1 (.slice (some ⟨gU, 0, none⟩) 1 1)).setCell (p := ⟨gX, 2, none⟩) HGX.out.1 (.slice (some ⟨gH, 0, none⟩) 1 1)).setCell (p := ⟨gX, 3, none⟩) HGX.out.1 (.slice (some ⟨gF, 0, none⟩) 1 1))
  have far4 : ∀ (g : Nat) (t : TypeId) (cs : Array Value), g ≠ gX → Blk w6 g t cs → Blk ((((w6.setCell ⟨gX, 0, none⟩ (.slice (some ⟨gC, 0, none⟩) 1 1)).setCell ⟨gX, 1, none⟩ (.slice (some ⟨gU, 0, none⟩) 1 1)).setCell ⟨gX, 2, none⟩ (.slice (some ⟨gH, 0, none⟩) 1 1)).setCell ⟨gX, 3, none⟩ (.slice (some ⟨gF, 0, none⟩) 1 1)) g t cs := fun g t cs hg h => (((h.far hg _).far hg _).far hg _).far hg _
  have HTB7 : Hid (TabV gC gU gH gF v ((((w6.setCell ⟨gX, 0, none⟩ (.slice (some ⟨gC, 0, none⟩) 1 1)).setCell ⟨gX, 1, none⟩ (.slice (some ⟨gU, 0, none⟩) 1 1)).setCell ⟨gX, 2, none⟩ (.slice (some ⟨gH, 0, none⟩) 1 1)).setCell ⟨gX, 3, none⟩ (.slice (some ⟨gF, 0, none⟩) 1 1))) := Lib.hid ⟨far4 _ _ _ (HTB.out.c.ne_ HX6.out (by decide)) HTB.out.c, far4 _ _ _ (HTB.out.u.ne_ HX6.out (by decide)) HTB.out.u, far4 _ _ _ (HTB.out.h.ne_ HX6.out (by decide)) HTB.out.h, far4 _ _ _ (HTB.out.f.ne_ HX6.out (by decide)) HTB.out.f⟩
  clear far4
  refine bodyPost_ret (res_layV Tryz.results56 _ _ gX _ _ _ _ _ _ rfl rfl rfl HX7.out) rfl ?_
  exact ⟨⟨gC, gU, gH, gF, rfl, HTB7.out⟩, HB7.out⟩
end
end Go.Proofs.YtjhfcpadnofdnaaGreat
