/- Roots of any tree: the document's. -/
import Derived.Test.YtjhfcpadnofdnaaGreatRds
import Derived.Test.YtjhfcpadnofdnaaGreatRtg
import Derived.Deep.DeepCutAuto
import Derived.Deep.CutRange
import Derived.Deep.MidRow
import Derived.Deep.WholeRow
set_option linter.unusedSimpArgs false
set_option linter.unusedVariables false
namespace Go.Proofs.YtjhfcpadnofdnaaGreat
open Go.RowKit
attribute [local go_sem] block_of_add
structure RdsAns (l : List Nd) (adv : List Int) (view : Int) (r : Nat) (w w' : World) (e : Ending) : Prop where
  ex : ∃ A n c, e = .returned (.slice A n c) ∧ ((CheckE l adv view ∧ rootX l r = true ∧ n = (rdF l r).length ∧ w'.ownsRow w.heap.size 3 1 (.slice A n c) n ((rdF l r).map fun (i : Nat) => Value.int .i64 i)) ∨ (¬ (CheckE l adv view ∧ rootX l r = true) ∧ n = 0))
  b : Below w.heap.size w w'
section
variable (l : List Nd) (adv : List Int) (A A2 : Option Addr) (c c2 : Nat) (view : Int) (w : World)
set_option maxHeartbeats 1000000 in
theorem aReads_any (r : Nat) (hrl : r < l.length ∨ l.length = 0) (hr : Reads w w.heap.size 44 A l.length (ndsCells l)) (ha : Reads w w.heap.size 1 A2 adv.length (i64s adv)) (hal : adv.length ≤ 4294967296) (hu : ∀ x ∈ l, ∃ Au cu, x.s.uv = .slice Au x.s.units.length cu) :
    Calls Tryz.prog 16 #[.agg #[.slice A l.length c, .slice A2 adv.length c2, .int .i64 view], .int .i64 r] w fun e w' => RdsAns l adv view r w w' e := by
  have HB1 : Hid (Below w.heap.size w (w.alloc (.cells #[.slice A l.length c, .slice A2 adv.length c2, .int .i64 view] 25))) := Lib.hid ((Below.refl _ _).alloc (Nat.le_refl _) _)
  have HT1 : Hid (Blk (w.alloc (.cells #[.slice A l.length c, .slice A2 adv.length c2, .int .i64 view] 25)) w.heap.size 25 #[.slice A l.length c, .slice A2 adv.length c2, .int .i64 view]) := Lib.hid (Blk.new _ _ _)
  have HM := Lib.hid (fun W (hb : Below w.heap.size w W) => amay_any l adv A A2 c c2 view W ((hr.below hb).more hb.size) ((ha.below hb).more hb.size) hal hu)
  have HRT := Lib.hid (fun W (i : Nat) (hi : i < l.length) (hn : l.length ≤ 65536) (hb : Below w.heap.size w W) => rootG_any l A A2 c adv.length c2 view W i hi hn ((hr.below hb).more hb.size))
  have HRD := Lib.hid (fun W (hi : r < l.length) (hn : l.length ≤ 65536) (ht : TrO l) (hrt : rootX l r = true) (hb : Below w.heap.size w W) => areads_any l A A2 c adv.length c2 view W r hi hn ((hr.below hb).more hb.size) hu ht hrt)
  clear hr ha hu
  go_enter Tryz.func16, Tryz.ntmps16
  go_wp2_with fail
  refine (HM.out _ HB1.out).mono ?_
  rintro e w1 ⟨⟨b, rfl, hb⟩, hb1⟩
  have HBI := Lib.hid hb
  have HB2 := Lib.hid (HB1.out.trans (hb1.mono (by simp)))
  have HT2 := Lib.hid (HT1.out.below hb1 HT1.out.lt)
  clear hb hb1
  cases b
  · have HNO := Lib.hid (show ¬ CheckE l adv view from fun h => by have := HBI.out.2 h; simp at this)
    go_wp2_with fail
    go_ret
    exact ⟨⟨none, 0, 0, rfl, .inr ⟨fun h => HNO.out h.1, rfl⟩⟩, HB2.out⟩
  have HE := Lib.hid (HBI.out.1 rfl)
  have hln := HE.out.n.2
  have hrl2 : r < l.length := by have := HE.out.n.1; omega
  have HTO := Lib.hid (tree_ord HE.out.nd)
  obtain ⟨t0, t1, t2⟩ := HT2.out.c3
  have lt1 := HT2.out.lt
  go_wp2_with fail
  refine (HRT.out _ r hrl2 hln HB2.out).mono ?_
  rintro e w2 ⟨rfl, hb2⟩
  have HB3 := Lib.hid (HB2.out.trans (hb2.mono HB2.out.size))
  have HT3 := Lib.hid (HT2.out.below hb2 HT2.out.lt)
  clear hb2 t0 t1 t2 lt1
  obtain ⟨rb, hrb⟩ : ∃ b, b = rootX l r := ⟨_, rfl⟩
  rw [← hrb]
  have HRB := Lib.hid hrb
  clear hrb
  cases rb
  · have HNO := Lib.hid (show ¬ rootX l r = true from fun h => by have := HRB.out; rw [h] at this; cases this)
    go_wp2_with fail
    go_ret
    exact ⟨⟨none, 0, 0, rfl, .inr ⟨fun h => HNO.out h.2, rfl⟩⟩, HB3.out⟩
  obtain ⟨t0, t1, t2⟩ := HT3.out.c3
  have lt1 := HT3.out.lt
  go_wp2_with fail
  refine (HRD.out _ hrl2 hln HTO.out HRB.out.symm HB3.out).mono ?_
  rintro e w4 ⟨⟨Ax, cx, rfl, hown⟩, hb4⟩
  have HO := Lib.hid hown
  have HB4 := Lib.hid (HB3.out.trans (hb4.mono HB3.out.size))
  have HSZ := Lib.hid (show w.heap.size ≤ w2.heap.size from HB3.out.size)
  clear hown hb4 t0 t1 t2 lt1
  go_wp2_with fail
  go_ret
  exact ⟨⟨Ax, _, cx, rfl, .inl ⟨HE.out, HRB.out.symm, rfl, own_lowerG HO.out HSZ.out⟩⟩, HB4.out⟩
/-- A tree that is gone through. -/
def FewX (l : List Nd) (adv : List Int) : Prop := l.length ≤ 100 ∧ adv.length ≤ 600
set_option maxHeartbeats 1000000 in
theorem few25_any (hr : Reads w w.heap.size 44 A l.length (ndsCells l)) (hu : ∀ x ∈ l, ∃ Au cu, x.s.uv = .slice Au x.s.units.length cu) :
    Calls Tryz.prog 31 #[.agg #[.slice A l.length c, .slice A2 adv.length c2, .int .i64 view]] w fun e w' => BoolAns (l.length ≤ 300 ∧ adv.length ≤ 600) w w' e := by
  have HB1 : Hid (Below w.heap.size w (w.alloc (.cells #[.slice A l.length c, .slice A2 adv.length c2, .int .i64 view] 25))) := Lib.hid ((Below.refl _ _).alloc (Nat.le_refl _) _)
  have HT1 : Hid (Blk (w.alloc (.cells #[.slice A l.length c, .slice A2 adv.length c2, .int .i64 view] 25)) w.heap.size 25 #[.slice A l.length c, .slice A2 adv.length c2, .int .i64 view]) := Lib.hid (Blk.new _ _ _)
  have HR := Lib.hid hr
  have HU := Lib.hid hu
  clear hr hu
  cases h1 : decide (300 < l.length)
  rotate_left
  · have h1' : decide ((300 : Int) < (l.length : Int)) = true := decide_eq_true (by have := of_decide_eq_true h1; omega)
    go_enter Tryz.func31, Tryz.ntmps31
    go_wp2_with fail
    go_ret
    exact ⟨⟨false, rfl, by simp⟩, HB1.out⟩
  have h1' : decide ((300 : Int) < (l.length : Int)) = false := decide_eq_false (by have := of_decide_eq_false h1; omega)
  cases h2 : decide (600 < adv.length)
  rotate_left
  · have h2' : decide ((600 : Int) < (adv.length : Int)) = true := decide_eq_true (by have := of_decide_eq_true h2; omega)
    go_enter Tryz.func31, Tryz.ntmps31
    go_wp2_with fail
    go_ret
    exact ⟨⟨false, rfl, by simp⟩, HB1.out⟩
  have h2' : decide ((600 : Int) < (adv.length : Int)) = false := decide_eq_false (by have := of_decide_eq_false h2; omega)
  have HOK := Lib.hid (show l.length ≤ 300 ∧ adv.length ≤ 600 from ⟨by have := of_decide_eq_false h1; omega, by have := of_decide_eq_false h2; omega⟩)
  have hl3 := HOK.out.1
  go_enter Tryz.func31, Tryz.ntmps31
  go_wp2_with fail
  clear h1 h1' h2 h2'
  go_loopw [4, 3] (fun iv nv wx => ∃ (k n : Nat), k ≤ l.length ∧ iv = .int .i64 k ∧ nv = .int .i64 n ∧ n ≤ 5000 * k ∧ (w.alloc (.cells #[.slice A l.length c, .slice A2 adv.length c2, .int .i64 view] 25)) = wx) (fun iv _ _ => l.length - (intOf iv).toNat)
  case atStart => exact ⟨0, 0, by omega, rfl, rfl, by omega, rfl⟩
  case round =>
    obtain ⟨k, n, hk, rfl, rfl, hn, rfl⟩ := hrel
    by_cases hkl : k < l.length
    · have d0 : decide ((k : Int) < (l.length : Int)) = true := decide_eq_true (by omega)
      have d0' : decide (k < l.length) = true := decide_eq_true hkl
      have hki : (k : Int) < (l.length : Int) := by omega
      obtain ⟨x, hx⟩ : ∃ x, x = l[k] := ⟨_, rfl⟩
      obtain ⟨Au, cu, huv⟩ := HU.out l[k] (List.getElem_mem hkl)
      obtain ⟨ad, hA, hnd⟩ := HR.out.nd rfl hkl
      have hlb : ad.block < w.heap.size := by have := hnd.lt; rw [block_of_add] at this; exact this
      have y42 : w.cell? ⟨ad.block, (ad.add (k * 44)).off + 1 + 42, none⟩ = some (.slice Au x.s.units.length cu) := by
        have e : (ad.add (k * 44)).block = ad.block := block_of_add _ _
        have g := hnd.range
        rw [e, ← hx] at g
        rw [← hx] at huv
        rw [← huv]
        exact g 42 _ rfl
      obtain ⟨nu, hnu⟩ : ∃ y, y = x.s.units.length := ⟨_, rfl⟩
      rw [← hnu] at y42
      clear hnd huv hx hnu
      subst hA
      cases hc : decide (n ≤ 4000)
      · have hc' : decide ((n : Int) ≤ 4000) = false := decide_eq_false (by have := of_decide_eq_false hc; omega)
        go_wp2_with fail
        go_ret
        exact ⟨⟨_, rfl, fun _ => HOK.out⟩, HB1.out⟩
      · have hc' : decide ((n : Int) ≤ 4000) = true := decide_eq_true (by have := of_decide_eq_true hc; omega)
        have hn4 := of_decide_eq_true hc
        have hwk : IntKind.i64.wrap ((k : Int) + 1) = (k : Int) + 1 := IntWalk.i64_in _ ⟨by omega, by omega⟩
        have hwn : IntKind.i64.wrap ((n : Int) + min (nu : Int) 5000) = ((n + min nu 5000 : Nat) : Int) := by rw [IntWalk.i64_in _ ⟨by omega, by omega⟩]; omega
        go_wp2_with fail
        go_roundw
        case rel => exact ⟨k + 1, n + min nu 5000, by omega, by go_num, by first | rfl | (congr 1; omega) | (rw [← hwn]; rfl), by omega, by first | rfl | trivial⟩
        case measure => simp [intOf]; omega
    · have d0 : decide ((k : Int) < (l.length : Int)) = false := decide_eq_false (by omega)
      have d0' : decide (k < l.length) = false := decide_eq_false hkl
      go_wp2_with fail
      go_ret
      exact ⟨⟨_, rfl, fun _ => HOK.out⟩, HB1.out⟩
set_option maxHeartbeats 1000000 in
theorem few30_any (hr : Reads w w.heap.size 44 A l.length (ndsCells l)) (hu : ∀ x ∈ l, ∃ Au cu, x.s.uv = .slice Au x.s.units.length cu) :
    Calls Tryz.prog 13 #[.agg #[.slice A l.length c, .slice A2 adv.length c2, .int .i64 view]] w fun e w' => BoolAns (FewX l adv) w w' e := by
  have HB1 : Hid (Below w.heap.size w (w.alloc (.cells #[.slice A l.length c, .slice A2 adv.length c2, .int .i64 view] 25))) := Lib.hid ((Below.refl _ _).alloc (Nat.le_refl _) _)
  have HT1 : Hid (Blk (w.alloc (.cells #[.slice A l.length c, .slice A2 adv.length c2, .int .i64 view] 25)) w.heap.size 25 #[.slice A l.length c, .slice A2 adv.length c2, .int .i64 view]) := Lib.hid (Blk.new _ _ _)
  have HF := Lib.hid (fun W (hb : Below w.heap.size w W) => few25_any l adv A A2 c c2 view W ((hr.below hb).more hb.size) hu)
  clear hr hu
  go_enter Tryz.func13, Tryz.ntmps13
  go_wp2_with fail
  refine (HF.out _ HB1.out).mono ?_
  rintro e w1 ⟨⟨b, rfl, hb⟩, hb1⟩
  have HBI := Lib.hid hb
  have HB2 := Lib.hid (HB1.out.trans (hb1.mono (by simp)))
  have HT2 := Lib.hid (HT1.out.below hb1 HT1.out.lt)
  clear hb hb1
  cases b
  · go_wp2_with fail
    go_ret
    exact ⟨⟨false, rfl, by simp⟩, HB2.out⟩
  · have HO := Lib.hid (HBI.out (by simp))
    have t0 := HT2.out.c3.1
    have lt1 := HT2.out.lt
    cases hc : decide (l.length ≤ 100)
    · have hc' : decide ((l.length : Int) ≤ 100) = false := decide_eq_false (by have := of_decide_eq_false hc; omega)
      go_wp2_with fail
      go_ret
      exact ⟨⟨false, rfl, by simp⟩, HB2.out⟩
    · have hc' : decide ((l.length : Int) ≤ 100) = true := decide_eq_true (by have := of_decide_eq_true hc; omega)
      have HL := Lib.hid (of_decide_eq_true hc)
      go_wp2_with fail
      go_ret
      exact ⟨⟨true, rfl, fun _ => ⟨HL.out, HO.out.2⟩⟩, HB2.out⟩
end
end Go.Proofs.YtjhfcpadnofdnaaGreat
namespace Go.Proofs.YtjhfcpadnofdnaaGreat
open Go.RowKit
attribute [local go_sem] block_of_add
section
variable (l : List Nd) (A A2 : Option Addr) (c m c2 : Nat) (view : Int) (w : World)
set_option maxRecDepth 100000 in
set_option maxHeartbeats 2000000 in
theorem rrootG_any (i : Nat) (hi : i < l.length) (hn : l.length ≤ 65536) (hr : Reads w w.heap.size 44 A l.length (ndsCells l)) (huv : ∃ Au nu cu, l[i].s.uv = .slice Au nu cu) :
    Calls Tryz.prog 17 #[.agg #[.slice A l.length c, .slice A2 m c2, .int .i64 view], .int .i64 i] w fun e w' => e = .returned (.bool (rootX l i)) ∧ Below w.heap.size w w' := by
  obtain ⟨w1, hw1⟩ : ∃ w1, w1 = w.alloc (.cells #[.slice A l.length c, .slice A2 m c2, .int .i64 view] 25) := ⟨_, rfl⟩
  have HB1 : Hid (Below w.heap.size w w1) := Lib.hid (by rw [hw1]; exact (Below.refl _ _).alloc (Nat.le_refl _) _)
  have HT1 : Hid (Blk w1 w.heap.size 25 #[.slice A l.length c, .slice A2 m c2, .int .i64 view]) := Lib.hid (by rw [hw1]; exact Blk.new _ _ _)
  obtain ⟨gT, hgT⟩ : ∃ g, g = w.heap.size := ⟨_, rfl⟩
  have HU := Lib.hid (fun (W : World) (hb : Below w.heap.size w W) => parent_any l A A2 c m c2 view W i hi (by omega) ((hr.below hb).more hb.size))
  have HR := Lib.hid hr
  obtain ⟨ad, rfl, hnd⟩ := hr.nd rfl hi
  have HND := Lib.hid (fun W (hb : Below w.heap.size w W) => (HR.out.below hb).nd rfl hi)
  obtain ⟨kd, hkd⟩ : ∃ x, l[i].s.kind = x := ⟨_, rfl⟩
  obtain ⟨_, _, _, huv⟩ := huv
  have HO := Lib.hid (Sty.one l[i].s huv)
  go_enter Tryz.func17, Tryz.ntmps17
  go_upto_region 1 with (fail)
  rw [← hw1, ← hgT]
  rw [← hgT] at HT1
  clear hw1 hgT hr hnd
  obtain ⟨t0, t1, t2⟩ := HT1.out.c3
  obtain ⟨ad', e9, hnd1⟩ := HND.out w1 HB1.out
  cases e9
  obtain ⟨-, y0, -, -⟩ := nd_cG hnd1
  rw [hkd] at y0
  have hb : ad.block < w1.heap.size := World.block_lt_of_cell? w1 ⟨ad.block, (ad.add (i * 44)).off + 1, none⟩ y0
  have HRNG : Hid (w1.rangeAt ad.block ((ad.add (i * 44)).off + 1) (styCells l[i].s)) := Lib.hid (by
    have g := hnd1.range
    rw [block_of_add] at g
    exact g)
  have d1 : decide ((i : Int) < 0) = false := decide_eq_false (by omega)
  have d2 : decide ((l.length : Int) ≤ (i : Int)) = false := decide_eq_false (by omega)
  have hii : (i : Int) < (l.length : Int) := by omega
  obtain ⟨fw, hfw⟩ : ∃ x, l[i].s.flow = x := ⟨_, rfl⟩
  obtain ⟨fl, hfl⟩ : ∃ x, l[i].s.float = x := ⟨_, rfl⟩
  obtain ⟨p, hp⟩ : ∃ x, parF l i = x := ⟨_, rfl⟩
  have hpb := parF_lt l i
  rw [hp] at hpb
  have HX : Hid (rootX l i = (!(kd == 3) && (i == 0 || kd == 2 || fw || !(fl == 0) || (match l[p.toNat]? with
    | none => false
    | some y => decide (0 ≤ p) && y.s.kind == 2)))) := Lib.hid (by unfold rootX; rw [List.getElem?_eq_getElem hi]; simp only [hkd, hfw, hfl, hp]; rfl)
  rw [hp] at HU
  have HKD := Lib.hid (And.intro hkd (And.intro hfw hfl))
  clear hnd1 hkd hfw hfl hp huv
  by_cases h3 : kd = 3
  · have e3 : (kd == 3) = true := beq_iff_eq.2 h3
    have HE : Hid (rootX l i = false) := Lib.hid (by rw [HX.out, e3]; rfl)
    have HB3 := HB1
    clear h3
    go_wp2_with fail
    go_ret
    exact ⟨by rw [HE.out]; rfl, HB3.out⟩
  have e3 : (kd == 3) = false := beq_eq_false_iff_ne.2 h3
  clear h3
  go_upto_region 4 with (first
    | refine wpList_load_mid rfl 67 (.tmp 30) rfl ad.block ((ad.add (i * 44)).off + 1) rfl (styCells l[i].s) _ HRNG.out Tryz.underlying67 rfl (by kernel_rfl) ?_
    | refine wpList_store_new rfl 67 _ _ rfl _ rfl (styCells l[i].s).toArray rfl rfl 67 _ (by kernel_rfl) rfl HO.out ?_)
  obtain ⟨w2, hw2⟩ : ∃ w2, w2 = w1.alloc (.cells (styCells l[i].s).toArray 67) := ⟨_, rfl⟩
  obtain ⟨g5, hg5⟩ : ∃ g, g = w1.heap.size := ⟨_, rfl⟩
  have H2 : Hid (Blk w2 g5 67 (styCells l[i].s).toArray ∧ Blk w2 gT 25 #[.slice (some ad) l.length c, .slice A2 m c2, .int .i64 view] ∧ Below w.heap.size w w2) := Lib.hid (by rw [hw2]; exact ⟨Blk.at_ _ _ _ hg5, HT1.out.alloc _, HB1.out.alloc HB1.out.size _⟩)
  rw [← hw2, ← hg5]
  clear hw2 hg5 t0 t1 t2 y0 hb HRNG
  obtain ⟨t0, t1, t2⟩ := H2.out.2.1.c3
  go_upto_region 5 with (go_at_call 38; refine (HU.out w2 H2.out.2.2).mono ?_; rintro e w3 ⟨rfl, hw3⟩; have HW3 := Lib.hid hw3; clear hw3)
  have H3 : Hid (Blk w3 g5 67 (styCells l[i].s).toArray ∧ Blk w3 gT 25 #[.slice (some ad) l.length c, .slice A2 m c2, .int .i64 view]) := Lib.hid (by rw [← HW3.out]; exact ⟨H2.out.1.alloc _, H2.out.2.1.alloc _⟩)
  have HB3 : Hid (Below w.heap.size w w3) := Lib.hid (by rw [← HW3.out]; exact H2.out.2.2.alloc H2.out.2.2.size _)
  clear t0 t1 t2 H2 HW3
  obtain ⟨t0, t1, t2⟩ := H3.out.2.c3
  have c0 : w3.cell? ⟨g5, 0, none⟩ = some (.int .u8 kd) := by rw [← HKD.out.1]; exact H3.out.1.get 0 rfl
  have c1 : w3.cell? ⟨g5, 1, none⟩ = some (.bool fw) := by rw [← HKD.out.2.1]; exact H3.out.1.get 1 rfl
  have c2' : w3.cell? ⟨g5, 2, none⟩ = some (.int .u8 fl) := by rw [← HKD.out.2.2]; exact H3.out.1.get 2 rfl
  clear HKD
  by_cases h0 : i = 0
  · have d3 : ((i : Int) == 0) = true := by simp [h0]
    have HE : Hid (rootX l i = true) := Lib.hid (by rw [HX.out, e3, h0]; rfl)
    clear h0
    go_wp2_with fail
    go_ret
    exact ⟨by rw [HE.out]; rfl, HB3.out⟩
  have d3 : ((i : Int) == 0) = false := by simpa using (show ¬ ((i : Int) = 0) by omega)
  have d0 : (i == 0) = false := beq_eq_false_iff_ne.2 h0
  by_cases h2 : kd = 2
  · have e2 : (kd == 2) = true := beq_iff_eq.2 h2
    have HE : Hid (rootX l i = true) := Lib.hid (by rw [HX.out, e3, d0, e2]; rfl)
    clear h2 h0 d0
    go_wp2_with fail
    go_ret
    exact ⟨by rw [HE.out]; rfl, HB3.out⟩
  have e2 : (kd == 2) = false := beq_eq_false_iff_ne.2 h2
  clear h2
  cases fw
  rotate_left
  · have HE : Hid (rootX l i = true) := Lib.hid (by rw [HX.out, e3, d0, e2]; rfl)
    clear h0 d0
    go_wp2_with fail
    go_ret
    exact ⟨by rw [HE.out]; rfl, HB3.out⟩
  by_cases hf : fl = 0
  rotate_left
  · have d4 : (fl == 0) = false := beq_eq_false_iff_ne.2 hf
    have d5 : (fl != 0) = true := by rw [bne, d4]; rfl
    have HE : Hid (rootX l i = true) := Lib.hid (by rw [HX.out, e3, d0, e2, d4]; rfl)
    clear hf h0 d0
    go_wp2_with fail
    go_ret
    exact ⟨by rw [HE.out]; rfl, HB3.out⟩
  have d4 : (fl == 0) = true := beq_iff_eq.2 hf
  have d5 : (fl != 0) = false := by rw [bne, d4]; rfl
  clear hf
  by_cases hp0 : 0 ≤ p
  · obtain ⟨q, rfl⟩ := Int.eq_ofNat_of_zero_le hp0
    have hql : q < l.length := by omega
    obtain ⟨ad', e9, hnd'⟩ := (HR.out.below HB3.out).nd rfl hql
    cases e9
    obtain ⟨-, x0, -, -⟩ := nd_cG hnd'
    obtain ⟨kq, hkq⟩ : ∃ x, l[q].s.kind = x := ⟨_, rfl⟩
    rw [hkq] at x0
    have HE : Hid (rootX l i = (kq == 2)) := Lib.hid (by rw [HX.out, e3, d0, e2, d4, Int.toNat_natCast, List.getElem?_eq_getElem hql]; simp only [hkq]; simp)
    have g1 : decide ((0 : Int) ≤ (q : Int)) = true := decide_eq_true (by omega)
    have hq2 : (q : Int) < (l.length : Int) := by omega
    have hq3 : (0 : Int) ≤ (q : Int) := by omega
    have hb : ad.block < w3.heap.size := World.block_lt_of_cell? w3 ⟨ad.block, (ad.add (q * 44)).off + 1, none⟩ x0
    clear h0 d0 hnd' hkq hp0 hpb
    go_wp2_with fail
    go_ret
    exact ⟨by rw [HE.out]; rfl, HB3.out⟩
  · have g1 : decide ((0 : Int) ≤ p) = false := decide_eq_false hp0
    have HE : Hid (rootX l i = false) := Lib.hid (by
      rw [HX.out, e3, d0, e2, d4, g1]
      cases l[p.toNat]? <;> rfl)
    clear h0 d0 hp0 hpb
    go_wp2_with fail
    go_ret
    exact ⟨by rw [HE.out]; rfl, HB3.out⟩
end
end Go.Proofs.YtjhfcpadnofdnaaGreat
