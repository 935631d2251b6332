/- Contracts: the document's trees: node, exactly. -/
import Derived.Test.YtjhfcpadnofdnaaGreatTrf
set_option linter.unusedSimpArgs false
set_option linter.unusedVariables false
namespace Go.Proofs.YtjhfcpadnofdnaaGreat
open Go.RowKit
attribute [local go_sem] block_of_add
/-- What a node that may be is, exactly. -/
structure NdE (l : List Nd) (i : Nat) (x : Nd) : Prop where
  par : ParOk l i x.parent
  run : x.s.units.length ≤ 65536
  deep : (anc l i).length < 512
  sty : RightX x.s x.s.units.length
  top : i = 0 → x.s.kind = 1 ∧ x.s.float = 0 ∧ x.s.clear = 0
  up : ∀ p : Nat, 0 < i → x.parent = p → ∀ y, l[p]? = some y → y.s.kind ≠ 3 ∧ (y.s.kind = 2 → x.s.kind ≠ 3 ∧ x.s.float = 0 ∧ x.s.clear = 0) ∧ (y.s.kind ≠ 2 → ∀ k z, p < k → k < i → parF l k = p → (∀ j, p < j → j < k → parF l j ≠ p) → l[k]? = some z → (z.s.kind = 3 ↔ x.s.kind = 3))
structure NdEx (l : List Nd) (i : Nat) (x : Nd) (w w' : World) (e : Ending) : Prop where
  ex : ∃ r : Int, e = .returned (.int .i64 r) ∧ (r = 0 ↔ NdE l i x)
  b : Below w.heap.size w w'
section
variable (l : List Nd) (A A2 : Option Addr) (c m c2 : Nat) (view : Int) (w : World)
set_option maxRecDepth 100000 in
set_option maxHeartbeats 2000000 in
theorem nodeX_any (i : Nat) (hi : i < l.length) (hn : l.length ≤ 4294967296) (hr : Reads w w.heap.size 44 A l.length (ndsCells l)) {Au : Option Addr} {cu : Nat} (huv : l[i].s.uv = .slice Au l[i].s.units.length cu) :
    Calls Tryz.prog 34 #[.agg #[.slice A l.length c, .slice A2 m c2, .int .i64 view], .int .i64 i] w fun e w' => NdEx l i l[i] w w' e := by
  obtain ⟨x, hx⟩ : ∃ x, x = l[i] := ⟨_, rfl⟩
  obtain ⟨ad, hA, hnd⟩ := hr.nd rfl hi
  have HC : Hid (∀ j u, (ndCells x)[j]? = some u → w.cell? ((ad.add (i * 44)).add j) = some u) := Lib.hid (by
    intro j u hu
    obtain ⟨ad', e, hb, hc⟩ := hr.2 (by omega)
    rw [hA] at e; injection e with e; subst e
    have hj : j < 44 := by have := (List.getElem?_eq_some_iff.1 hu).1; rw [nd_len] at this; exact this
    rw [add_of_add]
    exact hc _ u (by rw [ndsCells_at l i j hi hj, ← hx]; exact hu))
  have hone := Nd.one x (by rw [hx]; exact huv)
  have hone2 := Sty.one x.s (by rw [hx]; exact huv)
  have HLN : Hid (ad.block < w.heap.size) := Lib.hid (by have := hnd.lt; rw [block_of_add] at this; exact this)
  have HC0 : Hid (∀ j u, (ndCells x)[j]? = some u → (w.alloc (.cells #[.slice A l.length c, .slice A2 m c2, .int .i64 view] 25)).cell? ((ad.add (i * 44)).add j) = some u) := Lib.hid (fun j u hu => (World.cell?_alloc_lt w _ _ (by rw [block_of_add, block_of_add]; exact HLN.out)).trans (HC.out j u hu))
  have HRS : Hid (((w.alloc (.cells #[.slice A l.length c, .slice A2 m c2, .int .i64 view] 25)).alloc (.cells (ndCells x).toArray 69)).rangeAt (w.heap.size + 1) 1 (styCells x.s)) := Lib.hid (fun j v hv => by
    have hb := Blk.new (w.alloc (.cells #[.slice A l.length c, .slice A2 m c2, .int .i64 view] 25)) 69 (ndCells x).toArray
    have := hb.get (1 + j) (v := v) (by simpa [ndCells, Nat.add_comm 1 j] using hv)
    simpa using this)
  have HO := Lib.hid hone
  have HO2 := Lib.hid hone2
  have hii : (i : Int) < (l.length : Int) := by omega
  have HX := Lib.hid hx
  have nd0 : (ndCells x)[0]? = some (.int .i64 x.parent) := rfl
  have HBE := Lib.hid (fun W (k : Nat) (over : Int) (hk : k < l.length) (hb : Below w.heap.size w W) => below_any l (some ad) A2 c m c2 view W k over hk hn (((hA ▸ hr).below hb).more hb.size))
  obtain ⟨P, hP⟩ : ∃ P, P = x.parent := ⟨_, rfl⟩
  rw [← hP] at nd0
  have HPP := Lib.hid hP
  have HDP := Lib.hid (fun W (hb : Below w.heap.size w W) => depth_any l (some ad) A2 c m c2 view W i hi hn (((hA ▸ hr).below hb).more hb.size))
  have HFI := Lib.hid (fun W (p : Nat) (hpi : p < i) (hb : Below w.heap.size w W) => first_any l (some ad) A2 c m c2 view W p i hpi hi hn (((hA ▸ hr).below hb).more hb.size))
  have HND : Hid (∀ (k : Nat) (hk : k < l.length), NdAt w w.heap.size (ad.add (k * 44)) l[k]) := Lib.hid (fun k hk => by
    obtain ⟨ad', e, h⟩ := hr.nd rfl hk
    rw [hA] at e; injection e with e; subst e; exact h)
  have HUV : Hid (x.s.uv = .slice Au x.s.units.length cu) := Lib.hid (by rw [hx]; exact huv)
  clear hone hone2 hx hnd hr huv hP
  subst hA
  go_enter Tryz.func34, Tryz.ntmps34
  go_upto_region 3 with (first
    | refine wpList_load_at rfl 69 _ rfl (ad.add (i * 44)) rfl (ndCells x) _ HC0.out Tryz.underlying69 rfl (by kernel_rfl) ?_
    | refine wpList_store_new rfl 69 _ _ rfl (w.heap.size + 1) (by simp) (ndCells x).toArray rfl rfl 69 _ (by kernel_rfl) rfl HO.out ?_
    | refine wpList_load_mid rfl 67 _ rfl (w.heap.size + 1) 1 rfl (styCells x.s) _ HRS.out Tryz.underlying67 rfl (by kernel_rfl) ?_
    | refine wpList_store_new rfl 67 _ _ rfl (w.heap.size + 1 + 1) (by simp) (styCells x.s).toArray rfl rfl 67 _ (by kernel_rfl) rfl HO2.out ?_)
  go_upto_region 4 with (fail)
  go_cut [51] (fun s51 wx => ∃ b, s51 = .bool b ∧ Hid ((b = false ↔ ParOk l i P) ∧ Below w.heap.size w wx ∧ Blk wx w.heap.size 25 #[.slice (some ad) l.length c, .slice A2 m c2, .int .i64 view] ∧ Blk wx (w.heap.size + 1 + 1) 67 (styCells x.s).toArray))
  case first =>
    have HW3 : Hid (Below w.heap.size w (((w.alloc (.cells #[.slice (some ad) l.length c, .slice A2 m c2, .int .i64 view] 25)).alloc (.cells (ndCells x).toArray 69)).alloc (.cells (styCells x.s).toArray 67)) ∧ Blk (((w.alloc (.cells #[.slice (some ad) l.length c, .slice A2 m c2, .int .i64 view] 25)).alloc (.cells (ndCells x).toArray 69)).alloc (.cells (styCells x.s).toArray 67)) w.heap.size 25 #[.slice (some ad) l.length c, .slice A2 m c2, .int .i64 view] ∧ Blk (((w.alloc (.cells #[.slice (some ad) l.length c, .slice A2 m c2, .int .i64 view] 25)).alloc (.cells (ndCells x).toArray 69)).alloc (.cells (styCells x.s).toArray 67)) (w.heap.size + 1 + 1) 67 (styCells x.s).toArray) := Lib.hid ⟨(((Below.refl _ _).alloc (Nat.le_refl _) _).alloc (by simp) _).alloc (by simp; omega) _, ((Blk.new _ _ _).alloc _).alloc _, Blk.at_ _ _ _ (by simp)⟩
    have bt := HW3.out.2.1.c3
    by_cases hi0 : i = 0
    · have e0 : ((i : Int) == 0) = true := beq_iff_eq.2 (by omega)
      have e2 : decide ((0 : Int) < (i : Int)) = false := decide_eq_false (by omega)
      have e2' : decide (0 < i) = false := decide_eq_false (by omega)
      have HI := Lib.hid hi0
      clear hi0
      by_cases hP : P = -1
      · have e1' : (P != -1) = false := by rw [bne, beq_iff_eq.2 hP]; rfl
        have e1 : (P == -1) = true := beq_iff_eq.2 hP
        have HQ := Lib.hid hP
        clear hP
        go_wp2_with fail
        go_meet
        case rel => exact ⟨false, rfl, Lib.hid ⟨⟨fun _ => .inl ⟨HI.out, HQ.out⟩, fun _ => rfl⟩, HW3.out⟩⟩
      · have e1 : (P == -1) = false := beq_eq_false_iff_ne.2 hP
        have e1' : (P != -1) = true := by rw [bne, e1]; rfl
        have HNO := Lib.hid (show ¬ ParOk l i P from fun h => by have := HI.out; unfold ParOk at h; omega)
        go_wp2_with fail
        go_meet
        case rel => exact ⟨true, rfl, Lib.hid ⟨⟨by simp, fun h => absurd h HNO.out⟩, HW3.out⟩⟩
    · have e0 : ((i : Int) == 0) = false := beq_eq_false_iff_ne.2 (by omega)
      have e2 : decide ((0 : Int) < (i : Int)) = true := decide_eq_true (by omega)
      have e2' : decide (0 < i) = true := decide_eq_true (by omega)
      have hwi : IntKind.i64.wrap ((i : Int) - 1) = (i : Int) - 1 := IntWalk.i64_in _ ⟨by omega, by omega⟩
      have HI := Lib.hid (show 0 < i by omega)
      clear hi0
      by_cases hq : P = (i : Int) - 1
      · have e1 : (P == (i : Int) - 1) = true := beq_iff_eq.2 hq
        have e1' : (P != (i : Int) - 1) = false := by rw [bne, e1]; rfl
        have HQ := Lib.hid hq
        clear hq
        go_wp2_with fail
        go_meet
        case rel => exact ⟨false, rfl, Lib.hid ⟨⟨fun _ => .inr ⟨HI.out, by have := HI.out; have := HQ.out; omega, by have := HQ.out; omega, .inl HQ.out⟩, fun _ => rfl⟩, HW3.out⟩⟩
      have e1 : (P == (i : Int) - 1) = false := beq_eq_false_iff_ne.2 hq
      have e1' : (P != (i : Int) - 1) = true := by rw [bne, e1]; rfl
      have HQN := Lib.hid hq
      clear hq
      cases h1 : decide (P < 0)
      rotate_left
      · have HNO := Lib.hid (show ¬ ParOk l i P from fun h => by have := of_decide_eq_true h1; have := HI.out; unfold ParOk at h; omega)
        go_wp2_with fail
        go_meet
        case rel => exact ⟨true, rfl, Lib.hid ⟨⟨by simp, fun h => absurd h HNO.out⟩, HW3.out⟩⟩
      cases h2 : decide ((i : Int) ≤ P)
      rotate_left
      · have HNO := Lib.hid (show ¬ ParOk l i P from fun h => by have := of_decide_eq_true h2; have := HI.out; unfold ParOk at h; omega)
        go_wp2_with fail
        go_meet
        case rel => exact ⟨true, rfl, Lib.hid ⟨⟨by simp, fun h => absurd h HNO.out⟩, HW3.out⟩⟩
      have HB1 := Lib.hid (fun W (hb : Below w.heap.size w W) => by
        have h := HBE.out W (i - 1) P (by have := HI.out; omega) hb
        rw [show ((i - 1 : Nat) : Int) = (i : Int) - 1 by have := HI.out; omega] at h
        exact h)
      have H12 := Lib.hid (show 0 ≤ P ∧ P < i from ⟨by have := of_decide_eq_false h1; omega, by have := of_decide_eq_false h2; omega⟩)
      go_wp2_with fail
      refine (HB1.out _ HW3.out.1).mono ?_
      rintro e w1 ⟨rfl, hb1⟩
      have HB2 := Lib.hid (hb1)
      clear hb1
      cases h3 : decide (P ∈ anc l (i - 1))
      · have H3 := Lib.hid h3
        have HNO := Lib.hid (show ¬ ParOk l i P from fun h => by
          rcases h with h | ⟨_, _, _, h | h⟩
          · have := HI.out; omega
          · exact HQN.out h
          · exact of_decide_eq_false h3 h)
        clear h3
        go_wp2_with fail
        go_meet
        case rel => exact ⟨true, rfl, Lib.hid ⟨⟨by simp, fun h => absurd h HNO.out⟩, HW3.out.1.trans (HB2.out.mono HW3.out.1.size), HW3.out.2.1.below HB2.out HW3.out.2.1.lt, HW3.out.2.2.below HB2.out HW3.out.2.2.lt⟩⟩
      · have H3 := Lib.hid (of_decide_eq_true h3)
        clear h3
        go_wp2_with fail
        go_meet
        case rel => exact ⟨false, rfl, Lib.hid ⟨⟨fun _ => .inr ⟨HI.out, H12.out.1, H12.out.2, .inr H3.out⟩, fun _ => rfl⟩, HW3.out.1.trans (HB2.out.mono HW3.out.1.size), HW3.out.2.1.below HB2.out HW3.out.2.1.lt, HW3.out.2.2.below HB2.out HW3.out.2.2.lt⟩⟩
  case rest =>
    obtain ⟨b, rfl, H⟩ := hcut
    have bt := H.out.2.2.1.c3
    have y0 := H.out.2.2.2.get _ (sty_a0 x.s)
    have y2 := H.out.2.2.2.get _ (sty_a2 x.s)
    have y3 := H.out.2.2.2.get _ (sty_a3 x.s)
    have y42 := H.out.2.2.2.get _ (sty_a42 x.s)
    rw [HUV.out] at y42
    have hz := H.out.2.1.size
    have HZ := Lib.hid hz
    cases b
    rotate_left
    · have HNO := Lib.hid (show ¬ NdE l i x from fun h => by have := H.out.1.2 (HPP.out ▸ h.par); simp at this)
      go_wp2_with fail
      go_ret
      exact ⟨⟨6, rfl, fun h => by omega, fun h => absurd (HX.out ▸ h) HNO.out⟩, H.out.2.1⟩
    have HQ := Lib.hid (H.out.1.1 rfl)
    cases hu : decide (65536 < x.s.units.length)
    rotate_left
    · have hu' : decide ((65536 : Int) < (x.s.units.length : Int)) = true := decide_eq_true (by have := of_decide_eq_true hu; omega)
      have HNO := Lib.hid (show ¬ NdE l i x from fun h => by have := h.run; have := of_decide_eq_true hu; omega)
      go_wp2_with fail
      go_ret
      exact ⟨⟨7, rfl, fun h => by omega, fun h => absurd (HX.out ▸ h) HNO.out⟩, H.out.2.1⟩
    have hu' : decide ((65536 : Int) < (x.s.units.length : Int)) = false := decide_eq_false (by have := of_decide_eq_false hu; omega)
    have HU := Lib.hid (of_decide_eq_false hu)
    go_wp2_with fail
    refine (HDP.out _ H.out.2.1).mono ?_
    rintro e w2 ⟨rfl, hb2⟩
    have HW2 : Hid (Below w.heap.size w w2 ∧ Blk w2 w.heap.size 25 #[.slice (some ad) l.length c, .slice A2 m c2, .int .i64 view] ∧ Blk w2 (w.heap.size + 1 + 1) 67 (styCells x.s).toArray) := Lib.hid ⟨H.out.2.1.trans (hb2.mono HZ.out), H.out.2.2.1.below hb2 H.out.2.2.1.lt, H.out.2.2.2.below hb2 H.out.2.2.2.lt⟩
    clear bt y0 y2 y3 y42 hb2 hu hu' hz
    have bt := HW2.out.2.1.c3
    have y0 := HW2.out.2.2.get _ (sty_a0 x.s)
    have y2 := HW2.out.2.2.get _ (sty_a2 x.s)
    have y3 := HW2.out.2.2.get _ (sty_a3 x.s)
    have HRG := Lib.hid (sty_range w2 _ x.s HW2.out.2.2)
    cases hd : decide ((512 : Int) < 1 + ((anc l i).length : Int))
    rotate_left
    · have HNO := Lib.hid (show ¬ NdE l i x from fun h => by have := h.deep; have := of_decide_eq_true hd; omega)
      go_wp2_with fail
      go_ret
      exact ⟨⟨8, rfl, fun h => by omega, fun h => absurd (HX.out ▸ h) HNO.out⟩, HW2.out.1⟩
    have HD := Lib.hid (of_decide_eq_false hd)
    go_upto_region 10 with (fail)
    go_cut [8] (fun s8 wx => ∃ b, s8 = .bool b ∧ (b = false ↔ x.s.float = 0 ∧ x.s.clear = 0) ∧ w2 = wx)
    case first =>
      by_cases f0 : x.s.float = 0
      · have f1 : (x.s.float == 0) = true := beq_iff_eq.2 f0
        have f2 : (x.s.float != 0) = false := by rw [bne, f1]; rfl
        have F0 := Lib.hid f0
        clear f0
        by_cases g0 : x.s.clear = 0
        · have g1 : (x.s.clear == 0) = true := beq_iff_eq.2 g0
          have g2 : (x.s.clear != 0) = false := by rw [bne, g1]; rfl
          have G0 := Lib.hid g0
          clear g0
          go_wp2_with fail
          go_meet
          case rel => exact ⟨false, rfl, ⟨fun _ => ⟨F0.out, G0.out⟩, fun _ => rfl⟩, rfl⟩
        · have g1 : (x.s.clear == 0) = false := beq_eq_false_iff_ne.2 g0
          have g2 : (x.s.clear != 0) = true := by rw [bne, g1]; rfl
          have G0 := Lib.hid g0
          go_wp2_with fail
          go_meet
          case rel => exact ⟨true, rfl, ⟨by simp, fun h => absurd h.2 G0.out⟩, rfl⟩
      · have f1 : (x.s.float == 0) = false := beq_eq_false_iff_ne.2 f0
        have f2 : (x.s.float != 0) = true := by rw [bne, f1]; rfl
        have F0 := Lib.hid f0
        go_wp2_with fail
        go_meet
        case rel => exact ⟨true, rfl, ⟨by simp, fun h => absurd h.1 F0.out⟩, rfl⟩
    case rest =>
      obtain ⟨lo, rfl, hlo, rfl⟩ := hcut
      have HLO := Lib.hid hlo
      clear hlo
      go_wp2_with (refine wpList_load_mid rfl 67 _ rfl (w.heap.size + 1 + 1) 0 rfl (styCells x.s) _ HRG.out Tryz.underlying67 rfl (by kernel_rfl) ?_)
      refine (rightX_any x.s _ HUV.out).mono ?_
      rintro e w3 ⟨⟨rb, rfl, hrb⟩, hw3⟩
      have HRB := Lib.hid hrb
      have HW3 : Hid (Below w.heap.size w w3 ∧ Blk w3 w.heap.size 25 #[.slice (some ad) l.length c, .slice A2 m c2, .int .i64 view] ∧ Blk w3 (w.heap.size + 1 + 1) 67 (styCells x.s).toArray) := Lib.hid ⟨HW2.out.1.trans (hw3.mono HW2.out.1.size), HW2.out.2.1.below hw3 HW2.out.2.1.lt, HW2.out.2.2.below hw3 HW2.out.2.2.lt⟩
      clear bt y0 y2 y3 hrb hw3
      have bt := HW3.out.2.1.c3
      have y0 := HW3.out.2.2.get _ (sty_a0 x.s)
      cases rb
      · have HNO := Lib.hid (show ¬ NdE l i x from fun h => by have := HRB.out.2 h.sty; simp at this)
        go_wp2_with fail
        go_ret
        exact ⟨⟨6, rfl, fun h => by omega, fun h => absurd (HX.out ▸ h) HNO.out⟩, HW3.out.1⟩
      have HSR := Lib.hid (HRB.out.1 rfl)
      have HAB := Lib.hid (fun (h1 : i = 0 → x.s.kind = 1 ∧ x.s.float = 0 ∧ x.s.clear = 0) (h2 : ∀ p : Nat, 0 < i → x.parent = p → ∀ y, l[p]? = some y → y.s.kind ≠ 3 ∧ (y.s.kind = 2 → x.s.kind ≠ 3 ∧ x.s.float = 0 ∧ x.s.clear = 0) ∧ (y.s.kind ≠ 2 → ∀ k z, p < k → k < i → parF l k = p → (∀ j, p < j → j < k → parF l j ≠ p) → l[k]? = some z → (z.s.kind = 3 ↔ x.s.kind = 3))) => (⟨by rw [← HPP.out]; exact HQ.out, by have := HU.out; omega, by have := HD.out; omega, HSR.out, h1, h2⟩ : NdE l i x))
      by_cases hi0 : i = 0
      · have e0 : ((i : Int) == 0) = true := beq_iff_eq.2 (by omega)
        have HI := Lib.hid hi0
        clear hi0
        by_cases hk : x.s.kind = 1
        · have k1 : (x.s.kind == 1) = true := beq_iff_eq.2 hk
          have k2 : (x.s.kind != 1) = false := by rw [bne, k1]; rfl
          have HK := Lib.hid hk
          clear hk
          cases lo
          · go_wp2_with fail
            go_ret
            exact ⟨⟨0, rfl, fun _ => HX.out ▸ HAB.out (fun _ => ⟨HK.out, HLO.out.1 (by simp)⟩) (fun p h0 => by have := HI.out; omega), fun _ => rfl⟩, HW3.out.1⟩
          · have HNO := Lib.hid (show ¬ NdE l i x from fun h => by have := HLO.out.2 (h.top HI.out).2; simp at this)
            go_wp2_with fail
            go_ret
            exact ⟨⟨6, rfl, fun h => by omega, fun h => absurd (HX.out ▸ h) HNO.out⟩, HW3.out.1⟩
        · have k1 : (x.s.kind == 1) = false := beq_eq_false_iff_ne.2 hk
          have k2 : (x.s.kind != 1) = true := by rw [bne, k1]; rfl
          have HNO := Lib.hid (show ¬ NdE l i x from fun h => hk (h.top HI.out).1)
          clear hk
          go_wp2_with fail
          go_ret
          exact ⟨⟨6, rfl, fun h => by omega, fun h => absurd (HX.out ▸ h) HNO.out⟩, HW3.out.1⟩
      have e0 : ((i : Int) == 0) = false := beq_eq_false_iff_ne.2 (by omega)
      obtain ⟨q, hq⟩ := Int.eq_ofNat_of_zero_le (show 0 ≤ P by have := HQ.out; unfold ParOk at this; omega)
      have hqi : q < i := by have := HQ.out; unfold ParOk at this; omega
      have hql : q < l.length := by omega
      obtain ⟨y, hy⟩ : ∃ y, y = l[q] := ⟨_, rfl⟩
      have HN := Lib.hid (HND.out q hql)
      have HY := Lib.hid hy
      have z0 : w3.cell? ⟨ad.block, (ad.add (q * 44)).off + 1, none⟩ = some (.int .u8 y.s.kind) := (HW3.out.1.cell (p := ⟨ad.block, (ad.add (q * 44)).off + 1, none⟩) HLN.out).trans (by rw [hy, ← block_of_add ad (q * 44)]; exact HN.out.cs 0 _ rfl)
      have HYL : Hid (l[q]? = some y) := Lib.hid (by rw [hy]; exact List.getElem?_eq_getElem hql)
      clear hy
      subst hq
      have HI := Lib.hid (show 0 < i by omega)
      clear hi0
      by_cases y3 : y.s.kind = 3
      · have p3 : (y.s.kind == 3) = true := beq_iff_eq.2 y3
        have HNO := Lib.hid (show ¬ NdE l i x from fun h => (h.up q HI.out HPP.out.symm y HYL.out).1 y3)
        clear y3
        go_wp2_with fail
        go_ret
        exact ⟨⟨6, rfl, fun h => by omega, fun h => absurd (HX.out ▸ h) HNO.out⟩, HW3.out.1⟩
      have p3 : (y.s.kind == 3) = false := beq_eq_false_iff_ne.2 y3
      have HY3 := Lib.hid y3
      clear y3
      by_cases y2 : y.s.kind = 2
      · have p2 : (y.s.kind == 2) = true := beq_iff_eq.2 y2
        have HY2 := Lib.hid y2
        clear y2
        by_cases x3 : x.s.kind = 3
        · have k3 : (x.s.kind == 3) = true := beq_iff_eq.2 x3
          have HNO := Lib.hid (show ¬ NdE l i x from fun h => ((h.up q HI.out HPP.out.symm y HYL.out).2.1 HY2.out).1 x3)
          clear x3
          go_wp2_with fail
          go_ret
          exact ⟨⟨6, rfl, fun h => by omega, fun h => absurd (HX.out ▸ h) HNO.out⟩, HW3.out.1⟩
        have k3 : (x.s.kind == 3) = false := beq_eq_false_iff_ne.2 x3
        have HX3 := Lib.hid x3
        clear x3
        cases lo
        · go_wp2_with fail
          go_ret
          exact ⟨⟨0, rfl, fun _ => HX.out ▸ HAB.out (fun h => by have := HI.out; omega) (fun p h0 hp v hv => by
            have hpq : p = q := by have := HPP.out; omega
            subst hpq
            have hvy : v = y := by rw [HY.out]; rw [List.getElem?_eq_getElem hql] at hv; injection hv with hv; exact hv.symm
            subst hvy
            exact ⟨HY3.out, fun _ => ⟨HX3.out, HLO.out.1 (by simp)⟩, fun h => absurd HY2.out h⟩), fun _ => rfl⟩, HW3.out.1⟩
        · have HNO := Lib.hid (show ¬ NdE l i x from fun h => by have := HLO.out.2 ((h.up q HI.out HPP.out.symm y HYL.out).2.1 HY2.out).2; simp at this)
          go_wp2_with fail
          go_ret
          exact ⟨⟨6, rfl, fun h => by omega, fun h => absurd (HX.out ▸ h) HNO.out⟩, HW3.out.1⟩
      have p2 : (y.s.kind == 2) = false := beq_eq_false_iff_ne.2 y2
      have HY2 := Lib.hid y2
      clear y2
      go_wp2_with fail
      refine (HFI.out w3 q hqi HW3.out.1).mono ?_
      rintro e w4 ⟨⟨r, rfl, hr4⟩, hw4⟩
      have HW4 : Hid (Below w.heap.size w w4 ∧ Blk w4 w.heap.size 25 #[.slice (some ad) l.length c, .slice A2 m c2, .int .i64 view] ∧ Blk w4 (w.heap.size + 1 + 1) 67 (styCells x.s).toArray) := Lib.hid ⟨HW3.out.1.trans (hw4.mono HW3.out.1.size), HW3.out.2.1.below hw4 HW3.out.2.1.lt, HW3.out.2.2.below hw4 HW3.out.2.2.lt⟩
      clear bt y0 z0 hw4
      have bt := HW4.out.2.1.c3
      have y0 := HW4.out.2.2.get _ (sty_a0 x.s)
      rcases hr4 with ⟨k, rfl, h1, h2, h3, h4⟩ | ⟨rfl, h4⟩
      · have hkl : k < l.length := by omega
        obtain ⟨z, hz⟩ : ∃ z, z = l[k] := ⟨_, rfl⟩
        have z0 : w4.cell? ⟨ad.block, (ad.add (k * 44)).off + 1, none⟩ = some (.int .u8 z.s.kind) := (HW4.out.1.cell (p := ⟨ad.block, (ad.add (k * 44)).off + 1, none⟩) HLN.out).trans (by rw [hz, ← block_of_add ad (k * 44)]; exact (HND.out k hkl).cs 0 _ rfl)
        have HZ4 := Lib.hid hz
        have H3 := Lib.hid (And.intro h3 h4)
        have HH := Lib.hid (And.intro h1 h2)
        clear hz h3 h4
        have d0 : decide ((0 : Int) ≤ (k : Int)) = true := decide_eq_true (by omega)
        have dk : decide ((k : Int) < (l.length : Int)) = true := decide_eq_true (by omega)
        by_cases zx : (z.s.kind = 3 ↔ x.s.kind = 3)
        · have HZX := Lib.hid zx
          have hok : Hid (NdE l i l[i]) := Lib.hid (HX.out ▸ HAB.out (fun h => by have := HI.out; omega) (fun p h0 hp v hv => by
            have hpq : p = q := by have := HPP.out; omega
            subst hpq
            have hvy : v = y := by rw [HY.out]; rw [List.getElem?_eq_getElem hql] at hv; injection hv with hv; exact hv.symm
            subst hvy
            refine ⟨HY3.out, fun h => absurd h HY2.out, fun _ k' z' a1 a2 a3 a4 a5 => ?_⟩
            have hkk : k' = k := by
              rcases Nat.lt_trichotomy k' k with h | h | h
              · exact absurd a3 (H3.out.2 k' a1 h)
              · exact h
              · exact absurd H3.out.1 (a4 k HH.out.1 h)
            subst hkk
            rw [List.getElem?_eq_getElem hkl] at a5; injection a5 with a5
            rw [← a5, ← HZ4.out]; exact HZX.out))
          by_cases zk : z.s.kind = 3
          · have e1 : (z.s.kind == 3) = true := beq_iff_eq.2 zk
            have e2 : (x.s.kind == 3) = true := beq_iff_eq.2 (zx.1 zk)
            clear zx zk
            go_wp2_with fail
            go_quiet (fail)
            go_wp2_with fail
            go_ret
            exact ⟨⟨0, rfl, fun _ => hok.out, fun _ => rfl⟩, ⟨HW4.out.1.os, HW4.out.1.tape, HW4.out.1.output, HW4.out.1.size, HW4.out.1.block⟩⟩
          · have e1 : (z.s.kind == 3) = false := beq_eq_false_iff_ne.2 zk
            have e2 : (x.s.kind == 3) = false := beq_eq_false_iff_ne.2 (fun h => zk (zx.2 h))
            clear zx zk
            go_wp2_with fail
            go_quiet (fail)
            go_wp2_with fail
            go_ret
            exact ⟨⟨0, rfl, fun _ => hok.out, fun _ => rfl⟩, ⟨HW4.out.1.os, HW4.out.1.tape, HW4.out.1.output, HW4.out.1.size, HW4.out.1.block⟩⟩
        · have HNO := Lib.hid (show ¬ NdE l i x from fun h => zx ((h.up q HI.out HPP.out.symm y HYL.out).2.2 HY2.out k z HH.out.1 HH.out.2 H3.out.1 H3.out.2 (by rw [HZ4.out]; exact List.getElem?_eq_getElem hkl)))
          by_cases zk : z.s.kind = 3
          · have e1 : (z.s.kind == 3) = true := beq_iff_eq.2 zk
            have e2 : (x.s.kind == 3) = false := beq_eq_false_iff_ne.2 (fun h => zx ⟨fun _ => h, fun _ => zk⟩)
            clear zx zk
            go_wp2_with fail
            go_quiet (fail)
            go_wp2_with fail
            go_ret
            exact ⟨⟨6, rfl, fun h => by omega, fun h => absurd (HX.out ▸ h) HNO.out⟩, ⟨HW4.out.1.os, HW4.out.1.tape, HW4.out.1.output, HW4.out.1.size, HW4.out.1.block⟩⟩
          · have e1 : (z.s.kind == 3) = false := beq_eq_false_iff_ne.2 zk
            have e2 : (x.s.kind == 3) = true := beq_iff_eq.2 (by by_cases h : x.s.kind = 3; exact h; exact absurd ⟨fun a => absurd a zk, fun a => absurd a h⟩ zx)
            clear zx zk
            go_wp2_with fail
            go_quiet (fail)
            go_wp2_with fail
            go_ret
            exact ⟨⟨6, rfl, fun h => by omega, fun h => absurd (HX.out ▸ h) HNO.out⟩, ⟨HW4.out.1.os, HW4.out.1.tape, HW4.out.1.output, HW4.out.1.size, HW4.out.1.block⟩⟩
      · have H4 := Lib.hid h4
        clear h4
        have hok : Hid (NdE l i l[i]) := Lib.hid (HX.out ▸ HAB.out (fun h => by have := HI.out; omega) (fun p h0 hp v hv => by
          have hpq : p = q := by have := HPP.out; omega
          subst hpq
          have hvy : v = y := by rw [HY.out]; rw [List.getElem?_eq_getElem hql] at hv; injection hv with hv; exact hv.symm
          subst hvy
          exact ⟨HY3.out, fun h => absurd h HY2.out, fun _ k' z' a1 a2 a3 a4 a5 => absurd a3 (H4.out k' a1 a2)⟩))
        go_wp2_with fail
        go_quiet (fail)
        go_wp2_with fail
        go_ret
        exact ⟨⟨0, rfl, fun _ => hok.out, fun _ => rfl⟩, ⟨HW4.out.1.os, HW4.out.1.tape, HW4.out.1.output, HW4.out.1.size, HW4.out.1.block⟩⟩
end
end Go.Proofs.YtjhfcpadnofdnaaGreat
