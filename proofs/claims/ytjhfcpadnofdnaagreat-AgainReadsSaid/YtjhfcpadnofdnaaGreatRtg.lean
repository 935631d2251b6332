/- Roots of any tree: tree.up, tree.Root. -/
import Derived.Test.YtjhfcpadnofdnaaGreatTra
import Derived.Test.YtjhfcpadnofdnaaGreatTrf
import Derived.BigQuiet
set_option linter.unusedSimpArgs false
set_option linter.unusedVariables false
namespace Go.Proofs.YtjhfcpadnofdnaaGreat
open Go.RowKit
attribute [local go_sem] block_of_add
theorem nd_cG {w : World} {B : Nat} {ad : Addr} {i : Nat} {x : Nd} (h : NdAt w B (ad.add (i * 44)) x) :
    w.cell? (ad.add (i * 44)) = some (.int .i64 x.parent) ∧ w.cell? ⟨ad.block, (ad.add (i * 44)).off + 1, none⟩ = some (.int .u8 x.s.kind) ∧ w.cell? ⟨ad.block, (ad.add (i * 44)).off + 1 + 1, none⟩ = some (.bool x.s.flow) ∧ w.cell? ⟨ad.block, (ad.add (i * 44)).off + 1 + 2, none⟩ = some (.int .u8 x.s.float) := by
  have e : (ad.add (i * 44)).block = ad.block := block_of_add _ _
  have g := h.range
  rw [e] at g
  exact ⟨h.par, g 0 _ rfl, g 1 _ rfl, g 2 _ rfl⟩
/-- Is a box a root? -/
def rootX (l : List Nd) (i : Nat) : Bool := match l[i]? with
  | none => false
  | some x => !(x.s.kind == 3) && (i == 0 || x.s.kind == 2 || x.s.flow || !(x.s.float == 0) || (match l[(parF l i).toNat]? with
    | none => false
    | some y => decide (0 ≤ parF l i) && y.s.kind == 2))
section
variable (l : List Nd) (A A2 : Option Addr) (c m c2 : Nat) (view : Int) (w : World)
set_option maxRecDepth 100000 in
set_option maxHeartbeats 1000000 in
theorem upG_any (i : Nat) (hi : i < l.length) (hn : l.length ≤ 65536) (hr : Reads w w.heap.size 44 A l.length (ndsCells l)) :
    Calls Tryz.prog 50 #[.agg #[.slice A l.length c, .slice A2 m c2, .int .i64 view], .int .i64 i] w fun e w' => e = .returned (.int .i64 (parF l i)) ∧ Below w.heap.size w w' := by
  obtain ⟨ad, rfl, hnd⟩ := hr.nd rfl hi
  obtain ⟨y0, -, -, -⟩ := nd_cG hnd
  have hb : ad.block < w.heap.size := by have := hnd.lt; rwa [block_of_add] at this
  obtain ⟨P, hP⟩ : ∃ P, l[i].parent = P := ⟨_, rfl⟩
  have HP : Hid (parF l i = if 0 ≤ P ∧ P < i then P else -1) := Lib.hid (by unfold parF; rw [List.getElem?_eq_getElem hi]; simp only [hP])
  rw [hP] at y0
  have hii : (i : Int) < (l.length : Int) := by omega
  clear hnd hr hP
  by_cases h0 : P < 0
  · have d1 : decide (P < 0) = true := decide_eq_true h0
    go_enter Tryz.func50, Tryz.ntmps50
    go_wp2_with fail
    go_ret
    exact ⟨by rw [HP.out, if_neg (by omega)]; rfl, (Below.refl _ _).alloc (Nat.le_refl _) _⟩
  · have d1 : decide (P < 0) = false := decide_eq_false h0
    by_cases h1 : (i : Int) ≤ P
    · have d2 : decide ((i : Int) ≤ P) = true := decide_eq_true h1
      go_enter Tryz.func50, Tryz.ntmps50
      go_wp2_with fail
      go_ret
      exact ⟨by rw [HP.out, if_neg (by omega)]; rfl, (Below.refl _ _).alloc (Nat.le_refl _) _⟩
    · have d2 : decide ((i : Int) ≤ P) = false := decide_eq_false h1
      go_enter Tryz.func50, Tryz.ntmps50
      go_wp2_with fail
      go_ret
      exact ⟨by rw [HP.out, if_pos (by omega)]; rfl, (Below.refl _ _).alloc (Nat.le_refl _) _⟩
set_option maxRecDepth 100000 in
set_option maxHeartbeats 2000000 in
theorem rootG_any (i : Nat) (hi : i < l.length) (hn : l.length ≤ 65536) (hr : Reads w w.heap.size 44 A l.length (ndsCells l)) :
    Calls Tryz.prog 36 #[.agg #[.slice A l.length c, .slice A2 m c2, .int .i64 view], .int .i64 i] w fun e w' => e = .returned (.bool (rootX l i)) ∧ Below w.heap.size w w' := by
  have HU := Lib.hid (fun (W : World) (hb : Below w.heap.size w W) => upG_any l A A2 c m c2 view W i hi hn ((hr.below hb).more hb.size))
  have HR := Lib.hid hr
  obtain ⟨ad, rfl, hnd⟩ := hr.nd rfl hi
  obtain ⟨-, y0, y1, y2⟩ := nd_cG hnd
  have hb : ad.block < w.heap.size := by have := hnd.lt; rwa [block_of_add] at this
  have d1 : decide ((i : Int) < 0) = false := decide_eq_false (by omega)
  have d2 : decide ((l.length : Int) ≤ (i : Int)) = false := decide_eq_false (by omega)
  obtain ⟨kd, hkd⟩ : ∃ x, l[i].s.kind = x := ⟨_, rfl⟩
  obtain ⟨fw, hfw⟩ : ∃ x, l[i].s.flow = x := ⟨_, rfl⟩
  obtain ⟨fl, hfl⟩ : ∃ x, l[i].s.float = x := ⟨_, rfl⟩
  obtain ⟨p, hp⟩ : ∃ x, parF l i = x := ⟨_, rfl⟩
  have hpb := parF_lt l i
  rw [hp] at hpb
  have HX : Hid (rootX l i = (!(kd == 3) && (i == 0 || kd == 2 || fw || !(fl == 0) || (match l[p.toNat]? with
    | none => false
    | some y => decide (0 ≤ p) && y.s.kind == 2)))) := Lib.hid (by unfold rootX; rw [List.getElem?_eq_getElem hi]; simp only [hkd, hfw, hfl, hp])
  rw [hkd] at y0
  rw [hfw] at y1
  rw [hfl] at y2
  rw [hp] at HU
  clear hnd hkd hfw hfl hp hr
  by_cases h3 : kd = 3
  · have e3 : (kd == 3) = true := beq_iff_eq.2 h3
    have HE : Hid (rootX l i = false) := Lib.hid (by rw [HX.out, e3]; rfl)
    clear h3 HX HU HR
    go_enter Tryz.func36, Tryz.ntmps36
    go_wp2_with fail
    go_ret
    exact ⟨by rw [HE.out]; rfl, (Below.refl _ _).alloc (Nat.le_refl _) _⟩
  have e3 : (kd == 3) = false := beq_eq_false_iff_ne.2 h3
  clear h3
  by_cases h0 : i = 0
  · have d3 : ((i : Int) == 0) = true := by simp [h0]
    have HE : Hid (rootX l i = true) := Lib.hid (by rw [HX.out, e3, h0]; rfl)
    clear h0 HX HU HR
    go_enter Tryz.func36, Tryz.ntmps36
    go_wp2_with fail
    go_ret
    exact ⟨by rw [HE.out]; rfl, (Below.refl _ _).alloc (Nat.le_refl _) _⟩
  have d3 : ((i : Int) == 0) = false := by simpa using (show ¬ ((i : Int) = 0) by omega)
  have d0 : (i == 0) = false := beq_eq_false_iff_ne.2 h0
  by_cases h2 : kd = 2
  · have e2 : (kd == 2) = true := beq_iff_eq.2 h2
    have HE : Hid (rootX l i = true) := Lib.hid (by rw [HX.out, e3, d0, e2]; rfl)
    clear h0 h2 HX HU HR d0
    go_enter Tryz.func36, Tryz.ntmps36
    go_wp2_with fail
    go_ret
    exact ⟨by rw [HE.out]; rfl, (Below.refl _ _).alloc (Nat.le_refl _) _⟩
  have e2 : (kd == 2) = false := beq_eq_false_iff_ne.2 h2
  clear h2
  cases fw
  rotate_left
  · have HE : Hid (rootX l i = true) := Lib.hid (by rw [HX.out, e3, d0, e2]; rfl)
    clear h0 HX HU HR d0
    go_enter Tryz.func36, Tryz.ntmps36
    go_wp2_with fail
    go_ret
    exact ⟨by rw [HE.out]; rfl, (Below.refl _ _).alloc (Nat.le_refl _) _⟩
  by_cases hf : fl = 0
  rotate_left
  · have d4 : (fl == 0) = false := beq_eq_false_iff_ne.2 hf
    have d5 : (fl != 0) = true := by rw [bne, d4]; rfl
    have HE : Hid (rootX l i = true) := Lib.hid (by rw [HX.out, e3, d0, e2, d4]; rfl)
    clear h0 hf HX HU HR d0
    go_enter Tryz.func36, Tryz.ntmps36
    go_wp2_with fail
    go_ret
    exact ⟨by rw [HE.out]; rfl, (Below.refl _ _).alloc (Nat.le_refl _) _⟩
  have d4 : (fl == 0) = true := beq_iff_eq.2 hf
  have d5 : (fl != 0) = false := by rw [bne, d4]; rfl
  clear hf
  by_cases hp0 : 0 ≤ p
  · obtain ⟨q, rfl⟩ := Int.eq_ofNat_of_zero_le hp0
    have hql : q < l.length := by omega
    obtain ⟨ad', e9, hnd'⟩ := HR.out.nd rfl hql
    cases e9
    obtain ⟨-, x0, -, -⟩ := nd_cG hnd'
    obtain ⟨kq, hkq⟩ : ∃ x, l[q].s.kind = x := ⟨_, rfl⟩
    rw [hkq] at x0
    have HE : Hid (rootX l i = (kq == 2)) := Lib.hid (by rw [HX.out, e3, d0, e2, d4, Int.toNat_natCast, List.getElem?_eq_getElem hql]; simp only [hkq]; simp)
    have g1 : decide ((0 : Int) ≤ (q : Int)) = true := decide_eq_true (by omega)
    have hq2 : (q : Int) < (l.length : Int) := by omega
    have hq3 : (0 : Int) ≤ (q : Int) := by omega
    have HY : Hid (∀ w1, Below (w.alloc (.cells #[.slice (some ad) l.length c, .slice A2 m c2, .int .i64 view] 25)).heap.size (w.alloc (.cells #[.slice (some ad) l.length c, .slice A2 m c2, .int .i64 view] 25)) w1 → w1.cell? ⟨w.heap.size, 0, none⟩ = some (.slice (some ad) l.length c) ∧ w1.cell? ⟨ad.block, (ad.add (q * 44)).off + 1, none⟩ = some (.int .u8 kq) ∧ ad.block < w1.heap.size ∧ Below w.heap.size w w1) := Lib.hid (fun w1 hb1 => ⟨(hb1.cell (p := ⟨w.heap.size, 0, none⟩) (by simp)).trans (Blk.c3 (Blk.new w 25 #[.slice (some ad) l.length c, .slice A2 m c2, .int .i64 view])).1, (hb1.cell (p := ⟨ad.block, (ad.add (q * 44)).off + 1, none⟩) (by simp; omega)).trans ((World.cell?_alloc_lt w _ (⟨ad.block, (ad.add (q * 44)).off + 1, none⟩ : Addr) hb).trans x0), by have := hb1.size; simp at this; omega, ((Below.refl _ _).alloc (Nat.le_refl _) _).trans (hb1.mono (by simp))⟩)
    have HU2 := Lib.hid (HU.out (w.alloc (.cells #[.slice (some ad) l.length c, .slice A2 m c2, .int .i64 view] 25)) ((Below.refl _ _).alloc (Nat.le_refl _) _))
    clear h0 hnd' HU HR HX d0 hp0 hpb hkq x0
    go_enter Tryz.func36, Tryz.ntmps36
    go_wp2_with (go_at_call 50; refine HU2.out.mono ?_; rintro e w1 ⟨rfl, hb1⟩; obtain ⟨z0, x1, hb2, hlow⟩ := HY.out w1 hb1; have HLOW := Lib.hid hlow; clear hlow)
    go_ret
    exact ⟨by rw [HE.out]; rfl, HLOW.out⟩
  · have g1 : decide ((0 : Int) ≤ p) = false := decide_eq_false hp0
    have HE : Hid (rootX l i = false) := Lib.hid (by
      rw [HX.out, e3, d0, e2, d4, g1]
      cases l[p.toNat]? <;> rfl)
    have HU2 := Lib.hid (HU.out (w.alloc (.cells #[.slice (some ad) l.length c, .slice A2 m c2, .int .i64 view] 25)) ((Below.refl _ _).alloc (Nat.le_refl _) _))
    clear h0 HU HR HX d0 hp0 hpb
    go_enter Tryz.func36, Tryz.ntmps36
    go_wp2_with (go_at_call 50; refine HU2.out.mono ?_; rintro e w1 ⟨rfl, hb1⟩; have HLOW := Lib.hid (((Below.refl w.heap.size w).alloc (Nat.le_refl _) (.cells #[.slice (some ad) l.length c, .slice A2 m c2, .int .i64 view] 25)).trans (hb1.mono (by simp))); clear hb1)
    go_ret
    exact ⟨by rw [HE.out]; rfl, HLOW.out⟩
end
end Go.Proofs.YtjhfcpadnofdnaaGreat
