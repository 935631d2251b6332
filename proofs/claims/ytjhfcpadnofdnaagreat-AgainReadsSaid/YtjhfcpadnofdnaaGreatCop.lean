/- What the program's box wants: plain. -/
import Derived.Test.YtjhfcpadnofdnaaGreatRtr
import Derived.Test.YtjhfcpadnofdnaaGreatCpl
import Derived.Deep.DeepCutAuto
import Derived.Deep.CutRange
import Derived.BigQuiet
import Derived.Test.YtjhfcpadnofdnaaGreatApp
set_option linter.unusedSimpArgs false
set_option linter.unusedVariables false
namespace Go.Proofs.YtjhfcpadnofdnaaGreat
open Go.RowKit
attribute [local go_sem] block_of_add
/-- The counts as cells. -/
def mnCells (C : Nat → Nat) (n : Nat) : List Value := (List.range n).map fun i => Value.int .i64 (C i)
theorem mn_at {C : Nat → Nat} {n i : Nat} (h : i < n) : (mnCells C n)[i]? = some (.int .i64 (C i)) := by unfold mnCells; simp [h]
theorem mn_set {C C' : Nat → Nat} {n y : Nat} (hC : ∀ i, C' i = if i = y then C i + 1 else C i) : (mnCells C n).toArray.setIfInBounds y (.int .i64 ((C y + 1 : Nat) : Int)) = (mnCells C' n).toArray := by
  rw [List.setIfInBounds_toArray]
  congr 1
  apply List.ext_getElem?
  intro j
  rw [List.getElem?_set]
  unfold mnCells
  by_cases hj : y = j
  · subst hj
    rw [if_pos rfl]
    by_cases h : y < n
    · simp [h, hC]
    · simp [h]
  · rw [if_neg hj]
    by_cases h : j < n
    · simp [h, hC, Ne.symm hj, show ¬ j = y from fun e => hj e.symm]
    · simp [h]
theorem make_mn (n : Nat) (hn : n ≤ 1000000) (w : World) : (Instr.makeSlice 50 (.int .i64 (n : Int)) (.int .i64 (n : Int))).run Tryz.prog w = .ok (.slice (some ⟨w.heap.size, 0, none⟩) n n) (w.alloc (.cells (mnCells (fun _ => 0) n).toArray 3)) := by
  obtain ⟨i, hi, hz, hs, hb⟩ := info_parts el_intP.info
  have h := run_makeSlice (P := Tryz.prog) (w := w) 50 3 i _ el_intP.ht hi hz .i64 .i64 (n : Int) (n : Int) (by omega) (by omega) (by rw [hs]; omega) (by rw [hb]; omega) (by omega)
  have hm : madeCells (Value.int .i64 0).cells (n * 1) = (mnCells (fun _ => 0) n).toArray := by
    apply Array.toList_inj.1
    rw [Nat.mul_one]
    show (madeCells #[.int .i64 0] n).toList = _
    rw [toList_madeCells_one]
    unfold mnCells
    apply List.ext_getElem?
    intro j
    by_cases h : j < n
    · simp [h]
    · simp [h]
  rw [h, hs, Int.toNat_natCast, hm]
/-- How often a node has been read, of the first r. -/
def cntF (l : List Nd) (r i : Nat) : Nat := (List.range r).countP fun q => rootX l q && decide (i ∈ rdF l q)
theorem cntF_succ (l : List Nd) (r i : Nat) : cntF l (r + 1) i = cntF l r i + (if rootX l r = true ∧ i ∈ rdF l r then 1 else 0) := by
  unfold cntF
  rw [List.range_succ, List.countP_append, List.countP_singleton]
  congr 1
  cases rootX l r <;> simp
theorem cntF_le (l : List Nd) (r i : Nat) : cntF l r i ≤ r := by
  unfold cntF
  have := List.countP_le_length (p := fun q => rootX l q && decide (i ∈ rdF l q)) (l := List.range r)
  simpa using this
theorem cntF_all {l : List Nd} (ht : TrO l) {i : Nat} (hi : i < l.length) : cntF l l.length i = (if rootX l i = true then 1 else 0) + (if i = 0 then 0 else 1) := by
  rw [← read_count (K3 := K3l l) (rt := rootX l) ht.lt (ht.rt0 (by omega)) ht.k3 i hi]
  unfold cntF
  congr 1
  funext q
  cases hr : rootX l q
  · simp
  · rw [Bool.true_and, Bool.true_and, Bool.true_and, Bool.eq_iff_iff, decide_eq_true_iff, rdF_mem, Bool.or_eq_true, beq_iff_eq]
    constructor
    · rintro ⟨_, h | h⟩
      · exact .inl h.symm
      · exact .inr h
    · rintro (h | h)
      · exact ⟨hi, .inl h.symm⟩
      · exact ⟨hi, .inr h⟩
structure LgI (w : World) (gM : Nat) (A A2 : Option Addr) (n c m c2 : Nat) (view : Int) (C : Nat → Nat) (W : World) : Prop where
  lo : Below w.heap.size w W
  t : Blk W w.heap.size 25 #[.slice A n c, .slice A2 m c2, .int .i64 view]
  b : Blk W gM 3 (mnCells C n).toArray
  g : w.heap.size < gM
theorem LgI.below {w : World} {gM : Nat} {A A2 : Option Addr} {n c m c2 : Nat} {view : Int} {C : Nat → Nat} {W W' : World} (h : LgI w gM A A2 n c m c2 view C W) (hb : Below W.heap.size W W') : LgI w gM A A2 n c m c2 view C W' :=
  ⟨h.lo.trans (hb.mono h.lo.size), h.t.below hb h.t.lt, h.b.below hb h.b.lt, h.g⟩
theorem LgI.drewN {w : World} {gM : Nat} {A A2 : Option Addr} {n c m c2 : Nat} {view : Int} {C : Nat → Nat} {W : World} (h : LgI w gM A A2 n c m c2 view C W) (k : Nat) : LgI w gM A A2 n c m c2 view C (W.drewN k) :=
  ⟨⟨h.lo.os, h.lo.tape, h.lo.output, h.lo.size, h.lo.block⟩, h.t.drewN k, h.b.drewN k, h.g⟩
theorem LgI.inc {w : World} {gM : Nat} {A A2 : Option Addr} {n c m c2 : Nat} {view : Int} {C C' : Nat → Nat} {W : World} (h : LgI w gM A A2 n c m c2 view C W) {y : Nat} (hC : ∀ i, C' i = if i = y then C i + 1 else C i) : LgI w gM A A2 n c m c2 view C' (W.setCell ⟨gM, y, none⟩ (.int .i64 ((C y + 1 : Nat) : Int))) :=
  ⟨h.lo.setCell (p := ⟨gM, y, none⟩) (by have := h.g; simp; omega) _, h.t.far (by have := h.g; simp; omega) _, by rw [← mn_set hC]; exact h.b.set_ _ _, h.g⟩
section
variable (l : List Nd) (adv : List Int) (A A2 : Option Addr) (c c2 : Nat) (view : Int) (w : World)
set_option maxRecDepth 100000 in
set_option maxHeartbeats 8000000 in
theorem againReads_of (hwk : ∀ W : World, Calls Tryz.prog 14 #[] W fun e w' => e = .returned (.bool true) ∧ Below W.heap.size W w') (hr : Reads w w.heap.size 44 A l.length (ndsCells l)) (ha : Reads w w.heap.size 1 A2 adv.length (i64s adv)) (hu : ∀ x ∈ l, ∃ Au cu, x.s.uv = .slice Au x.s.units.length cu) :
    Calls Tryz.prog 4 #[.agg #[.slice A l.length c, .slice A2 adv.length c2, .int .i64 view]] w fun e w' => e = .returned (.bool true) ∧ Below w.heap.size w w' := by
  have HB1 : Hid (Below w.heap.size w (w.alloc (.cells #[.slice A l.length c, .slice A2 adv.length c2, .int .i64 view] 25))) := Lib.hid ((Below.refl _ _).alloc (Nat.le_refl _) _)
  have HT1 : Hid (Blk (w.alloc (.cells #[.slice A l.length c, .slice A2 adv.length c2, .int .i64 view] 25)) w.heap.size 25 #[.slice A l.length c, .slice A2 adv.length c2, .int .i64 view]) := Lib.hid (Blk.new _ _ _)
  have HF := Lib.hid (fun W (hb : Below w.heap.size w W) => few30_any l adv A A2 c c2 view W ((hr.below hb).more hb.size) hu)
  have HC := Lib.hid (fun W (hb : Below w.heap.size w W) => checkX_any l adv A A2 c c2 view W ((hr.below hb).more hb.size) ((ha.below hb).more hb.size) hu)
  have HRD := Lib.hid (fun W (r : Nat) (hrl : r < l.length ∨ l.length = 0) (hal : adv.length ≤ 4294967296) (hb : Below w.heap.size w W) => aReads_any l adv A A2 c c2 view W r hrl ((hr.below hb).more hb.size) ((ha.below hb).more hb.size) hal hu)
  have HRT := Lib.hid (fun W (i : Nat) (hi : i < l.length) (hn : l.length ≤ 65536) (hb : Below w.heap.size w W) => rrootG_any l A A2 c adv.length c2 view W i hi hn ((hr.below hb).more hb.size) (by obtain ⟨Au, cu, h⟩ := hu _ (List.getElem_mem hi); exact ⟨Au, _, cu, h⟩))
  have HWK := Lib.hid hwk
  clear hr ha hu hwk
  go_enter Tryz.func4, Tryz.ntmps4
  go_wp2_with fail
  refine (HF.out _ HB1.out).mono ?_
  rintro e w1 ⟨⟨b, rfl, hb⟩, hb1⟩
  have HBI := Lib.hid hb
  have HB2 := Lib.hid (HB1.out.trans (hb1.mono (by simp)))
  have HT2 := Lib.hid (HT1.out.below hb1 HT1.out.lt)
  clear hb hb1
  cases b
  · go_wp2_with fail
    refine (HWK.out _).mono ?_
    rintro e w2 ⟨rfl, hb2⟩
    have HB3 := Lib.hid (HB2.out.trans (hb2.mono HB2.out.size))
    clear hb2
    go_wp2_with fail
    go_ret
    exact ⟨rfl, HB3.out⟩
  have HFX := Lib.hid (HBI.out (by simp))
  have hl1 := HFX.out.1
  have hal : adv.length ≤ 4294967296 := by have := HFX.out.2; omega
  obtain ⟨t0, t1, t2⟩ := HT2.out.c3
  have lt1 := HT2.out.lt
  go_wp2_with fail
  refine (HC.out _ HB2.out).mono ?_
  rintro e w2 ⟨⟨nd, r0, rfl, hr0⟩, hb2⟩
  have HR0 := Lib.hid hr0
  have HB3 := Lib.hid (HB2.out.trans (hb2.mono HB2.out.size))
  have HT3 := Lib.hid (HT2.out.below hb2 HT2.out.lt)
  clear hr0 hb2 t0 t1 t2 lt1
  by_cases h0 : r0 = 0
  rotate_left
  · have e1 : (r0 == 0) = false := beq_eq_false_iff_ne.2 h0
    have e2 : (r0 != 0) = true := by rw [bne, e1]; rfl
    have HNO := Lib.hid (show ¬ CheckE l adv view from fun h => h0 (HR0.out.2 h))
    clear h0
    obtain ⟨t0, t1, t2⟩ := HT3.out.c3
    have lt1 := HT3.out.lt
    go_wp2_with fail
    refine (HRD.out w2 0 (by omega) hal HB3.out).mono ?_
    rintro e w3 ⟨⟨Ax, nx, cx, rfl, hx⟩, hb3⟩
    have HB4 := Lib.hid (HB3.out.trans (hb3.mono HB3.out.size))
    obtain rfl : nx = 0 := by
      rcases hx with hx | hx
      · exact absurd hx.1 HNO.out
      · exact hx.2
    clear hx hb3 t0 t1 t2 lt1
    go_wp2_with fail
    refine (HWK.out _).mono ?_
    rintro e w4 ⟨rfl, hb4⟩
    have HB5 := Lib.hid (HB4.out.trans (hb4.mono HB4.out.size))
    clear hb4
    go_wp2_with fail
    go_ret
    exact ⟨rfl, HB5.out⟩
  have e1 : (r0 == 0) = true := beq_iff_eq.2 h0
  have e2 : (r0 != 0) = false := by rw [bne, e1]; rfl
  have HE := Lib.hid (HR0.out.1 h0)
  have HTO := Lib.hid (tree_ord HE.out.nd)
  have hln := HE.out.n.2
  obtain ⟨t0, t1, t2⟩ := HT3.out.c3
  have lt1 := HT3.out.lt
  have hmk : ∀ W : World, (Instr.makeSlice 50 (.int .i64 (l.length : Int)) (.int .i64 (l.length : Int))).run Tryz.prog W = .ok (.slice (some ⟨W.heap.size, 0, none⟩) l.length l.length) (W.alloc (.cells (mnCells (fun _ => 0) l.length).toArray 3)) := fun W => make_mn l.length (by omega) W
  clear h0
  go_upto_region 7 with (fail)
  obtain ⟨gM, hgM⟩ : ∃ g, g = w2.heap.size := ⟨_, rfl⟩
  obtain ⟨W2, hW2⟩ : ∃ W, W = w2.alloc (.cells (mnCells (fun _ => 0) l.length).toArray 3) := ⟨_, rfl⟩
  have HI2 : Hid (LgI w gM A A2 l.length c adv.length c2 view (cntF l 0) W2) := Lib.hid (by
    rw [hW2, hgM]
    exact ⟨HB3.out.alloc HB3.out.size _, HT3.out.alloc _, Blk.new _ _ _, HT3.out.lt⟩)
  rw [← hW2, ← hgM]
  clear hW2 hgM t0 t1 t2 lt1 hmk e1 e2
  go_wp2_with fail
  go_loopw [6] (fun rv wx => ∃ r : Nat, r ≤ l.length ∧ rv = .int .i64 r ∧ Hid (LgI w gM A A2 l.length c adv.length c2 view (cntF l r) wx)) (fun rv _ => l.length - (intOf rv).toNat)
  case atStart => exact ⟨0, by omega, rfl, HI2⟩
  case round =>
    obtain ⟨r, hr, rfl, H⟩ := hrel
    obtain ⟨t0, t1, t2⟩ := H.out.t.c3
    have lt1 := H.out.t.lt
    by_cases hrl : r < l.length
    · have d0 : decide ((r : Int) < (l.length : Int)) = true := decide_eq_true (by omega)
      have d0' : decide (r < l.length) = true := decide_eq_true hrl
      have hwr : IntKind.i64.wrap ((r : Int) + 1) = (r : Int) + 1 := IntWalk.i64_in _ ⟨by omega, by omega⟩
      go_wp2_with fail
      refine (HRD.out _ r (.inl hrl) hal H.out.lo).mono ?_
      rintro e w3 ⟨⟨Ax, nx, cx, rfl, hx⟩, hb3⟩
      have HX := Lib.hid hx
      have HI3 := Lib.hid (H.out.below hb3)
      have HSZ3 := Lib.hid hb3.size
      clear hx hb3 t0 t1 t2 lt1
      obtain ⟨t0, t1, t2⟩ := HI3.out.t.c3
      have lt1 := HI3.out.t.lt
      have hnx : nx ≤ 100 := by
        rcases HX.out with h | h
        · rw [h.2.2.1]; have := List.length_filter_le (fun x => x == r || pth (Pl l) (K3l l) (rootX l) r x) (List.range l.length); rw [List.length_range] at this; unfold rdF; omega
        · omega
      go_wp2_with fail
      refine (HRT.out _ r hrl hln HI3.out.lo).mono ?_
      rintro e w4 ⟨rfl, hb4⟩
      have HI4 := Lib.hid (HI3.out.below hb4)
      have HX4 : Hid ((rootX l r = true ∧ nx = (rdF l r).length ∧ w4.ownsRow (gM + 1) 3 1 (.slice Ax nx cx) nx ((rdF l r).map fun (i : Nat) => Value.int .i64 i)) ∨ (rootX l r = false ∧ nx = 0)) := Lib.hid (by
        rcases HX.out with h | h
        · refine .inl ⟨h.2.1, h.2.2.1, own_lowerG (own_below h.2.2.2 hb4) ?_⟩
          have := H.out.b.lt; omega
        · refine .inr ⟨?_, h.2⟩
          cases hrt : rootX l r
          · rfl
          · exact absurd ⟨HE.out, hrt⟩ h.1)
      clear hb4 t0 t1 t2 lt1
      obtain ⟨rb, hrb⟩ : ∃ b, b = rootX l r := ⟨_, rfl⟩
      rw [← hrb] at HX4 ⊢
      have HRB := Lib.hid hrb
      clear hrb
      have hrd : (if rb then 0 < nx else nx = 0) := by
        rcases HX4.out with h | h
        · rw [h.1, if_pos rfl, h.2.1]
          have : r ∈ rdF l r := rdF_mem.2 ⟨hrl, .inl rfl⟩
          exact List.length_pos_of_mem this
        · rw [h.1]; simpa using h.2
      have d5 : (decide ((0 : Int) < (nx : Int)) != rb) = false := by
        cases rb
        · simp at hrd; subst hrd; decide
        · have : decide ((0 : Int) < (nx : Int)) = true := decide_eq_true (by simp at hrd; omega)
          rw [this]; rfl
      have d5' : (decide (0 < nx) != rb) = false := by
        cases rb
        · simp at hrd; subst hrd; decide
        · have : decide (0 < nx) = true := decide_eq_true (by simpa using hrd)
          rw [this]; rfl
      have d5'' : (!decide (0 < nx) == rb) = false := by
        cases rb
        · simp at hrd; subst hrd; decide
        · have : decide (0 < nx) = true := decide_eq_true (by simpa using hrd)
          rw [this]; rfl
      clear hrd
      go_wp2_with fail
      go_loopw [8] (fun kv wx => ∃ k : Nat, k ≤ nx ∧ kv = .int .i64 k ∧ Hid (LgI w gM A A2 l.length c adv.length c2 view (fun i => cntF l r i + (if rb = true ∧ i ∈ (rdF l r).take k then 1 else 0)) wx ∧ ((rb = true ∧ nx = (rdF l r).length ∧ wx.ownsRow (gM + 1) 3 1 (.slice Ax nx cx) nx ((rdF l r).map fun (i : Nat) => Value.int .i64 i)) ∨ (rb = false ∧ nx = 0)))) (fun kv _ => nx - (intOf kv).toNat)
      case atStart => exact ⟨0, by omega, rfl, Lib.hid ⟨by
        have := HI4.out
        rw [show (fun i => cntF l r i + (if rb = true ∧ i ∈ (rdF l r).take 0 then 1 else 0)) = cntF l r from by funext i; simp]
        exact this, HX4.out⟩⟩
      case round =>
        obtain ⟨k, hk, rfl, HK⟩ := hrel
        by_cases hkn : k < nx
        · have d1 : decide ((k : Int) < (nx : Int)) = true := decide_eq_true (by omega)
          have d1' : decide (k < nx) = true := decide_eq_true hkn
          have hki : (k : Int) < (nx : Int) := by omega
          have HOW : Hid (rb = true ∧ nx = (rdF l r).length ∧ wr.ownsRow (gM + 1) 3 1 (.slice Ax nx cx) nx ((rdF l r).map fun (i : Nat) => Value.int .i64 i)) := Lib.hid (by
            rcases HK.out.2 with h | h
            · exact h
            · omega)
          obtain ⟨gB, hAx⟩ := own_addrP HOW.out.2.2 (by omega)
          subst hAx
          have hkL : k < (rdF l r).length := by have := HOW.out.2.1; omega
          obtain ⟨y, hy⟩ : ∃ y, y = (rdF l r)[k] := ⟨_, rfl⟩
          have b0 : wr.cell? ⟨gB, k, none⟩ = some (.int .i64 y) := own_atP HOW.out.2.2 (by rw [List.getElem?_map, List.getElem?_eq_getElem hkL, ← hy]; rfl)
          have hgB : gB < wr.heap.size := (own_lt HOW.out.2.2 gB rfl).2
          have hym : y ∈ rdF l r := by rw [hy]; exact List.getElem_mem _
          have hyl : y < l.length := (rdF_mem.1 hym).1
          have hyr : r ≤ y := by
            rcases (rdF_mem.1 hym).2 with h | h
            · omega
            · have := pth_lt HTO.out.lt hyl h; omega
          have hyi : (y : Int) < (l.length : Int) := by omega
          have d2 : decide ((y : Int) < (r : Int)) = false := decide_eq_false (by omega)
          have d2' : decide (y < r) = false := decide_eq_false (by omega)
          have d3 : decide ((l.length : Int) ≤ (y : Int)) = false := decide_eq_false (by omega)
          have d3' : decide (l.length ≤ y) = false := decide_eq_false (by omega)
          obtain ⟨t0, t1, t2⟩ := HK.out.1.t.c3
          have lt1 := HK.out.1.t.lt
          have hwk : IntKind.i64.wrap ((k : Int) + 1) = (k : Int) + 1 := IntWalk.i64_in _ ⟨by omega, by omega⟩
          have HY := Lib.hid hy
          clear hy
          go_upto_region 16 with (fail)
          go_cut [87] (fun s wx => s = .bool false ∧ ∃ nq, wx = wr.drewN nq)
          case first =>
            by_cases hk0 : k = 0
            · have d4 : decide ((0 : Int) < (k : Int)) = false := decide_eq_false (by omega)
              have d4' : decide (0 < k) = false := decide_eq_false (by omega)
              clear hk0
              go_quiet (fail)
              go_wp2_with fail
              go_meet
              case rel => exact ⟨rfl, _, rfl⟩
            · have d4 : decide ((0 : Int) < (k : Int)) = true := decide_eq_true (by omega)
              have d4' : decide (0 < k) = true := decide_eq_true (by omega)
              obtain ⟨yp, hyp⟩ : ∃ y, y = (rdF l r)[k - 1] := ⟨_, rfl⟩
              have hwm : IntKind.i64.wrap ((k : Int) - 1) = ((k - 1 : Nat) : Int) := by rw [IntWalk.i64_in _ ⟨by omega, by omega⟩]; omega
              have b1 : wr.cell? ⟨gB, k - 1, none⟩ = some (.int .i64 yp) := own_atP HOW.out.2.2 (by rw [List.getElem?_map, List.getElem?_eq_getElem (by omega), ← hyp]; rfl)
              have hk1i : ((k - 1 : Nat) : Int) < (nx : Int) := by omega
              have hlt : yp < y := by
                rw [hyp, HY.out]
                exact List.pairwise_iff_getElem.1 (rdF_sorted l r) (k - 1) k (by omega) hkL (by omega)
              have d6 : decide ((y : Int) ≤ (yp : Int)) = false := decide_eq_false (by omega)
              have d6' : decide (y ≤ yp) = false := decide_eq_false (by omega)
              clear hyp
              go_quiet (fail)
              go_wp2_with fail
              go_meet
              case rel => exact ⟨rfl, _, rfl⟩
          case rest =>
          obtain ⟨rfl, nq, rfl⟩ := hcut
          obtain ⟨wq, hwq⟩ : ∃ W, W = wr.drewN nq := ⟨_, rfl⟩
          have HKq : Hid (LgI w gM A A2 l.length c adv.length c2 view (fun i => cntF l r i + (if rb = true ∧ i ∈ (rdF l r).take k then 1 else 0)) wq ∧ wq.ownsRow (gM + 1) 3 1 (.slice (some ⟨gB, 0, none⟩) nx cx) nx ((rdF l r).map fun (i : Nat) => Value.int .i64 i)) := Lib.hid (by rw [hwq]; exact ⟨HK.out.1.drewN nq, HOW.out.2.2⟩)
          have b0q : wq.cell? ⟨gB, k, none⟩ = some (.int .i64 y) := by rw [hwq]; exact b0
          have hgBq : gB < wq.heap.size := by rw [hwq]; exact hgB
          rw [← hwq]
          clear hwq b0 hgB t0 t1 t2 lt1
          obtain ⟨C, hC⟩ : ∃ C : Nat → Nat, C = fun i => cntF l r i + (if rb = true ∧ i ∈ (rdF l r).take k then 1 else 0) := ⟨_, rfl⟩
          have HIC : Hid (LgI w gM A A2 l.length c adv.length c2 view C wq) := Lib.hid (by rw [hC]; exact HKq.out.1)
          have HCC := Lib.hid hC
          have hCy : C y ≤ 1000 := by rw [hC]; have := cntF_le l r y; simp only; split <;> omega
          clear hC
          obtain ⟨cy, hcy⟩ : ∃ cy, cy = C y := ⟨_, rfl⟩
          have m0 : wq.cell? ⟨gM, y, none⟩ = some (.int .i64 cy) := by rw [hcy]; exact HIC.out.b.get y (by simpa using mn_at hyl)
          have m1 := HIC.out.b.frozen y
          have m2 := HIC.out.b.lt
          have hwc : IntKind.i64.wrap ((cy : Int) + 1) = ((cy + 1 : Nat) : Int) := by rw [IntWalk.i64_in _ ⟨by omega, by omega⟩]; omega
          have HCY := Lib.hid hcy
          clear hcy hCy
          go_wp2_with fail
          go_roundw
          case rel => exact ⟨k + 1, by omega, by go_num, Lib.hid ⟨by
            rw [HCY.out]
            exact HIC.out.inc (fun i => by
              rw [HCC.out]
              simp only
              have hmem : ∀ i, i ∈ (rdF l r).take (k + 1) ↔ i ∈ (rdF l r).take k ∨ i = y := fun i => by rw [List.take_succ_eq_append_getElem hkL, List.mem_append, List.mem_singleton, ← HY.out]
              have hny : ¬ y ∈ (rdF l r).take k := fun h => by
                obtain ⟨j, hj, e⟩ := List.getElem_of_mem h
                rw [List.getElem_take] at e
                rw [List.length_take] at hj
                have := List.pairwise_iff_getElem.1 (rdF_sorted l r) j k (by omega) hkL (by omega)
                rw [e, ← HY.out] at this; omega
              by_cases hiy : i = y
              · subst hiy
                rw [if_pos rfl, if_pos ⟨HOW.out.1, (hmem i).2 (.inr rfl)⟩, if_neg (fun h => hny h.2)]
              · rw [if_neg hiy]
                congr 1
                have : (rb = true ∧ i ∈ (rdF l r).take (k + 1)) ↔ (rb = true ∧ i ∈ (rdF l r).take k) := by rw [hmem]; simp [hiy]
                simp only [this]), .inl ⟨HOW.out.1, HOW.out.2.1, ownsRow_setCell_below HKq.out.2 (a := ⟨gM, y, none⟩) (by show gM < gM + 1; omega) _⟩⟩⟩
          case measure => simp [intOf]; omega
        · obtain rfl : k = nx := by omega
          have d1 : decide ((k : Int) < (k : Int)) = false := decide_eq_false (by omega)
          have d1' : decide (k < k) = false := decide_eq_false (by omega)
          have HIN : Hid (LgI w gM A A2 l.length c adv.length c2 view (cntF l (r + 1)) wr) := Lib.hid (by
            have h := HK.out.1
            rw [show (fun i => cntF l r i + (if rb = true ∧ i ∈ (rdF l r).take k then 1 else 0)) = cntF l (r + 1) from by
              funext i
              rw [cntF_succ, ← HRB.out]
              congr 1
              rcases HK.out.2 with h | h
              · rw [h.2.1, List.take_length]
              · simp [h.1]] at h
            exact h)
          go_wp2_with fail
          go_roundw
          case rel => exact ⟨r + 1, by omega, by go_num, HIN⟩
          case measure => simp [intOf]; omega
    · obtain rfl : r = l.length := by omega
      have d0 : decide ((l.length : Int) < (l.length : Int)) = false := decide_eq_false (by omega)
      have d0' : decide (l.length < l.length) = false := decide_eq_false (by omega)
      have HI5 := Lib.hid H.out
      clear H
      go_wp2_with fail
      clear t0 t1 t2 lt1
      go_loopw [9] (fun iv wx => ∃ i : Nat, i ≤ l.length ∧ iv = .int .i64 i ∧ Hid (LgI w gM A A2 l.length c adv.length c2 view (cntF l l.length) wx)) (fun iv _ => l.length - (intOf iv).toNat)
      case atStart => exact ⟨0, by omega, rfl, HI5⟩
      case round =>
        obtain ⟨i, hi, rfl, H⟩ := hrel
        obtain ⟨t0, t1, t2⟩ := H.out.t.c3
        have lt1 := H.out.t.lt
        by_cases hil : i < l.length
        · have d1 : decide ((i : Int) < (l.length : Int)) = true := decide_eq_true (by omega)
          have d1' : decide (i < l.length) = true := decide_eq_true hil
          have hii : (i : Int) < (l.length : Int) := by omega
          have hwi : IntKind.i64.wrap ((i : Int) + 1) = (i : Int) + 1 := IntWalk.i64_in _ ⟨by omega, by omega⟩
          have HCA := Lib.hid (cntF_all HTO.out hil)
          obtain ⟨ci, hci⟩ : ∃ x, x = cntF l l.length i := ⟨_, rfl⟩
          have m0 : wr.cell? ⟨gM, i, none⟩ = some (.int .i64 ci) := by rw [hci]; exact H.out.b.get i (by simpa using mn_at hil)
          have m2 := H.out.b.lt
          rw [← hci] at HCA
          clear hci
          by_cases hi0 : i = 0
          · have hc1 : ci = 1 := by
              have := HCA.out
              rw [hi0, HTO.out.rt0 (by omega)] at this
              simpa using this
            subst hc1
            have d2 : decide ((0 : Int) < (i : Int)) = false := decide_eq_false (by omega)
            have d2' : decide (0 < i) = false := decide_eq_false (by omega)
            clear hi0
            go_wp2_with fail
            go_roundw
            case rel => exact ⟨i + 1, by omega, by go_num, H⟩
            case measure => simp [intOf]; omega
          · have d2 : decide ((0 : Int) < (i : Int)) = true := decide_eq_true (by omega)
            have d2' : decide (0 < i) = true := decide_eq_true (by omega)
            rw [if_neg hi0] at HCA
            clear hi0
            go_wp2_with fail
            refine (HRT.out _ i hil hln H.out.lo).mono ?_
            rintro e w4 ⟨rfl, hb4⟩
            have HI4 := Lib.hid (H.out.below hb4)
            have m0' : w4.cell? ⟨gM, i, none⟩ = some (.int .i64 ci) := (hb4.cell (p := ⟨gM, i, none⟩) m2).trans m0
            have m2' := HI4.out.b.lt
            obtain ⟨rb, hrb⟩ : ∃ b, b = rootX l i := ⟨_, rfl⟩
            rw [← hrb] at HCA ⊢
            clear hrb hb4 m0 m2 t0 t1 t2 lt1
            cases rb
            · have hc1 : ci = 1 := by have := HCA.out; simpa using this
              subst hc1
              go_wp2_with fail
              go_roundw
              case rel => exact ⟨i + 1, by omega, by go_num, HI4⟩
              case measure => simp [intOf]; omega
            · have hc1 : ci = 2 := by have := HCA.out; simpa using this
              subst hc1
              go_wp2_with fail
              go_roundw
              case rel => exact ⟨i + 1, by omega, by go_num, HI4⟩
              case measure => simp [intOf]; omega
        · have d1 : decide ((i : Int) < (l.length : Int)) = false := decide_eq_false (by omega)
          have d1' : decide (i < l.length) = false := decide_eq_false hil
          go_wp2_with fail
          refine (HWK.out _).mono ?_
          rintro e w4 ⟨rfl, hb4⟩
          have HB5 := Lib.hid (H.out.lo.trans (hb4.mono H.out.lo.size))
          clear hb4
          go_wp2_with fail
          go_ret
          exact ⟨rfl, HB5.out⟩
end
end Go.Proofs.YtjhfcpadnofdnaaGreat
namespace Go.Proofs.YtjhfcpadnofdnaaGreat
def o2P (s : Sty) (v : Int) : Int := if s.maxw.k = 1 ∧ s.maxw.n ≤ cutF (out1 s v) then s.maxw.n else out1 s v
def o3P (s : Sty) (v : Int) : Int := if s.minw.k = 1 ∧ cutF (o2P s v) ≤ s.minw.n then s.minw.n else o2P s v
def outP (s : Sty) (v : Int) : Int := max (o3P s v + frameF s + bareF s.m3 + bareF s.m1) 0
theorem cutF_cases (a : Int) : (a < -1099511627776 ∧ cutF a = -1099511627776) ∨ (1099511627776 < a ∧ cutF a = 1099511627776) ∨ (-1099511627776 ≤ a ∧ a ≤ 1099511627776 ∧ cutF a = a) := by
  unfold cutF; repeat' split
  all_goals omega
end Go.Proofs.YtjhfcpadnofdnaaGreat
