/- Contracts: the document's trees: node. -/
import Derived.Test.YtjhfcpadnofdnaaGreatTre
import Derived.Test.YtjhfcpadnofdnaaGreatApp
import Derived.Deep.MidRow
import Derived.Deep.WholeRow
import Derived.Test.YtjhfcpadnofdnaaGreatTra
import Derived.Deep.DeepCutAuto
import Derived.Deep.CutRange
import Derived.BigQuiet
set_option linter.unusedSimpArgs false
set_option linter.unusedVariables false
namespace Go.Proofs.YtjhfcpadnofdnaaGreat
open Go.RowKit
attribute [local go_sem] block_of_add
/-- A style of which nothing is told but kind and units. -/
structure EmX (s : Sty) : Prop where
  ed : ∀ j, j < 4 → bdAt s j = 0 ∧ pdAt s j = 0
  ln : ∀ x ∈ lns s 4, x.k = 0 ∧ x.n = 0
  fl : s.flow = false ∧ s.wrap = false
  nm : s.float = 0 ∧ s.clear = 0 ∧ s.align = 0 ∧ s.justify = 0 ∧ s.items = 0 ∧ s.line = 0 ∧ s.order = 0 ∧ s.grow = 0 ∧ s.shrink = 0
/-- A style that may be. -/
def RightX (s : Sty) (nu : Nat) : Prop := ((s.kind = 1 ∨ s.kind = 2) ∧ BoxX s nu) ∨ (s.kind = 3 ∧ EmX s ∧ nu ≤ 65536)
set_option maxRecDepth 100000 in
set_option maxHeartbeats 2000000 in
theorem emptyX_any (s : Sty) (w : World) {Au : Option Addr} {nu cu : Nat} (huv : s.uv = .slice Au nu cu) :
    Calls Tryz.prog 115 #[.agg (styCells s).toArray] w fun e w' => BoolIff (EmX s) w w' e := by
  have HB0 : Hid (Blk (w.alloc (.cells (styCells s).toArray 67)) w.heap.size 67 (styCells s).toArray) := Lib.hid (Blk.new _ _ _)
  have b4 := HB0.out.get _ (sty_a4 s)
  have b5 := HB0.out.get _ (sty_a5 s)
  have b6 := HB0.out.get _ (sty_a6 s)
  have b7 := HB0.out.get _ (sty_a7 s)
  have b8 := HB0.out.get _ (sty_a8 s)
  have b9 := HB0.out.get _ (sty_a9 s)
  have b10 := HB0.out.get _ (sty_a10 s)
  have b11 := HB0.out.get _ (sty_a11 s)
  have b12 := HB0.out.get _ (sty_a12 s)
  have b13 := HB0.out.get _ (sty_a13 s)
  have b14 := HB0.out.get _ (sty_a14 s)
  have b15 := HB0.out.get _ (sty_a15 s)
  have b40 := HB0.out.get _ (sty_a40 s)
  have b41 := HB0.out.get _ (sty_a41 s)
  go_enter Tryz.func115, Tryz.ntmps115
  go_wp2_with fail
  go_loopw [3, 4] (fun v kv wr => ∃ k : Nat, k ≤ 4 ∧ kv = .int .i64 k ∧ Hid ((∀ j, j < k → bdAt s j = 0 ∧ pdAt s j = 0) ∧ wr.ownsRow (w.heap.size + 1) 62 2 v (7 + k) (lnCells (lns s k)) ∧ Below w.heap.size w wr ∧ Blk wr w.heap.size 67 (styCells s).toArray)) (fun _ kv _ => 4 - (intOf kv).toNat)
  case atStart =>
    refine ⟨0, by omega, rfl, Lib.hid ⟨fun j h => by omega, ⟨by simp [lnCells, lns], .inr ⟨w.heap.size + 1, 7, (lnCells (lns s 0)).toArray, rfl, Nat.le_refl _, ?_, by omega, by unfold maxLen; omega, by simp [lnCells, lns], by simp [lnCells, lns]⟩⟩, ((Below.refl _ _).alloc (Nat.le_refl _) _).alloc (by simp) _, HB0.out.alloc _⟩⟩
    have := heap_alloc_new (w.alloc (.cells (styCells s).toArray 67)) (.cells (lnCells (lns s 0)).toArray 62)
    simpa [lnCells, lns] using this
  case round =>
    clear b4 b5 b6 b7 b8 b9 b10 b11 b12 b13 b14 b15 b40 b41
    obtain ⟨k, hk, rfl, H⟩ := hrel
    by_cases hlt : k < 4
    · obtain ⟨m1, m2, m3, m4⟩ := mg_k s hlt
      have c1 := H.out.2.2.2.get _ m1
      have c2 := H.out.2.2.2.get _ m2
      have lb := H.out.2.2.2.lt
      have d0 : decide ((k : Int) < 4) = true := decide_eq_true (by omega)
      have hk4 : (k : Int) < 4 := by omega
      obtain ⟨mk, hmk⟩ : ∃ x, x = (mgAt s k).k := ⟨_, rfl⟩
      obtain ⟨mn, hmn⟩ : ∃ x, x = (mgAt s k).n := ⟨_, rfl⟩
      obtain ⟨bd, hbd⟩ : ∃ x, x = bdAt s k := ⟨_, rfl⟩
      obtain ⟨pd, hpd⟩ : ∃ x, x = pdAt s k := ⟨_, rfl⟩
      rw [← hmk] at c1
      rw [← hmn] at c2
      rw [← hbd] at m3
      rw [← hpd] at m4
      have HE : Hid ((bd = 0 ∧ pd = 0) ↔ (bdAt s k = 0 ∧ pdAt s k = 0)) := Lib.hid (by rw [hbd, hpd])
      have HS : Hid (lnCells (lns s k) ++ [.int .u8 mk, .int .i64 mn] = lnCells (lns s (k + 1))) := Lib.hid (by rw [hmk, hmn]; exact lns_succ s k)
      have HOW := Lib.hid H.out.2.1
      have HSZ := Lib.hid (show w.heap.size + 1 ≤ wr.heap.size by omega)
      have M3 := Lib.hid m3
      have M4 := Lib.hid m4
      have n7 : 7 + k ≤ 11 := by omega
      clear m1 m2 m3 m4 hmk hmn hbd hpd
      cases h2 : (bd == 0)
      · have h2' : (bd != 0) = true := by rw [bne, h2]; rfl
        go_wp2_with (at_builtin; refine wpList_app (m := 1) rfl _ _ rfl el_len HOW.out HSZ.out rfl [.int .u8 mk, .int .i64 mn] rfl (by simp) (by simp [Value.oneCell']) (by omega) (by omega) ?_; intro A' c' w1 hown hB hg hob; have bx := app_box HOW.out hg H.out.2.2.2 (by omega); have c3 := bx.get _ M3.out; have c4 := bx.get _ M4.out)
        go_ret
        exact ⟨⟨false, rfl, fun h => by simp at h, fun h => by have := (HE.out.2 (h.ed k hlt)).1; simp [this] at h2⟩, hB _ _ (by omega) H.out.2.2.1⟩
      have h2' : (bd != 0) = false := by rw [bne, h2]; rfl
      cases h3 : (pd == 0)
      · have h3' : (pd != 0) = true := by rw [bne, h3]; rfl
        go_wp2_with (at_builtin; refine wpList_app (m := 1) rfl _ _ rfl el_len HOW.out HSZ.out rfl [.int .u8 mk, .int .i64 mn] rfl (by simp) (by simp [Value.oneCell']) (by omega) (by omega) ?_; intro A' c' w1 hown hB hg hob; have bx := app_box HOW.out hg H.out.2.2.2 (by omega); have c3 := bx.get _ M3.out; have c4 := bx.get _ M4.out)
        go_ret
        exact ⟨⟨false, rfl, fun h => by simp at h, fun h => by have := (HE.out.2 (h.ed k hlt)).2; simp [this] at h3⟩, hB _ _ (by omega) H.out.2.2.1⟩
      have h3' : (pd != 0) = false := by rw [bne, h3]; rfl
      have HZ := Lib.hid (HE.out.1 ⟨by simpa using h2, by simpa using h3⟩)
      go_wp2_with (at_builtin; refine wpList_app (m := 1) rfl _ _ rfl el_len HOW.out HSZ.out rfl [.int .u8 mk, .int .i64 mn] rfl (by simp) (by simp [Value.oneCell']) (by omega) (by omega) ?_; intro A' c' w1 hown hB hg hob; have bx := app_box HOW.out hg H.out.2.2.2 (by omega); have c3 := bx.get _ M3.out; have c4 := bx.get _ M4.out)
      rw [HS.out] at hown
      go_roundw
      case rel => exact ⟨k + 1, by omega, by go_num, Lib.hid ⟨fun j hj => by
        by_cases he : j = k
        · rw [he]; exact HZ.out
        · exact H.out.1 j (by omega), hown, hB _ _ (by omega) H.out.2.2.1, bx⟩⟩
      case measure => simp [intOf]; omega
    · have d0 : decide ((k : Int) < 4) = false := decide_eq_false (by omega)
      have HE := Lib.hid (show ∀ j, j < 4 → bdAt s j = 0 ∧ pdAt s j = 0 from fun j hj => H.out.1 j (by omega))
      obtain rfl : k = 4 := by omega
      obtain ⟨g, cap, hv, hgb, hgl⟩ := World.ownsRow.form H.out.2.1 (by omega)
      subst hv
      have HC := Lib.hid (H.out.2.1.cells (g := g) rfl)
      have HB := Lib.hid H.out.2.2.1
      have HX := Lib.hid H.out.2.2.2
      clear H hlt
      go_wp2_with fail
      go_loop [5] (fun iv => ∃ q : Nat, q ≤ 11 ∧ iv = .int .i64 q ∧ Hid (∀ (j : Nat) (x : Ln), j < q → (lns s 4)[j]? = some x → x.k = 0 ∧ x.n = 0)) (fun iv => 11 - (intOf iv).toNat)
      case atStart => exact ⟨0, by omega, rfl, Lib.hid (fun j x h => by omega)⟩
      case round =>
        obtain ⟨q, hq, rfl, HQ⟩ := hrel
        by_cases hql : q < 11
        · have d1 : decide ((q : Int) < 11) = true := decide_eq_true (by omega)
          have hq4 : (q : Int) < 11 := by omega
          have hl : q < (lns s 4).length := by rw [lns_len]; omega
          obtain ⟨x, hx⟩ : ∃ x, x = (lns s 4)[q] := ⟨_, rfl⟩
          have e1 : wr.cell? ⟨g, q * 2, none⟩ = some (.int .u8 x.k) := by
            have := HC.out (q * 2) (.int .u8 x.k) (by have := lnCells_at (lns s 4) q 0 hl (by omega); rw [Nat.add_zero] at this; rw [this, hx]; rfl)
            rw [show ((⟨g, 0, none⟩ : Addr).add (q * 2)) = ⟨g, q * 2, none⟩ from by unfold Addr.add; split <;> simp_all] at this
            exact this
          have e2 : wr.cell? ⟨g, q * 2 + 1, none⟩ = some (.int .i64 x.n) := by
            have := HC.out (q * 2 + 1) (.int .i64 x.n) (by rw [lnCells_at (lns s 4) q 1 hl (by omega), hx]; rfl)
            rw [show ((⟨g, 0, none⟩ : Addr).add (q * 2 + 1)) = ⟨g, q * 2 + 1, none⟩ from by unfold Addr.add; split <;> simp_all] at this
            exact this
          have HXX := Lib.hid (show (lns s 4)[q]? = some x by rw [hx]; exact List.getElem?_eq_getElem hl)
          clear hx
          cases h2 : (x.k == 0)
          · have h2' : (x.k != 0) = true := by rw [bne, h2]; rfl
            have HNO := Lib.hid (show ¬ EmX s from fun h => by have := (h.ln x (List.mem_of_getElem? HXX.out)).1; simp [this] at h2)
            go_wp2_with fail
            go_ret
            exact ⟨⟨false, rfl, fun h => by simp at h, fun h => absurd h HNO.out⟩, HB.out⟩
          have h2' : (x.k != 0) = false := by rw [bne, h2]; rfl
          cases h3 : (x.n == 0)
          · have h3' : (x.n != 0) = true := by rw [bne, h3]; rfl
            have HNO := Lib.hid (show ¬ EmX s from fun h => by have := (h.ln x (List.mem_of_getElem? HXX.out)).2; simp [this] at h3)
            go_wp2_with fail
            go_ret
            exact ⟨⟨false, rfl, fun h => by simp at h, fun h => absurd h HNO.out⟩, HB.out⟩
          have h3' : (x.n != 0) = false := by rw [bne, h3]; rfl
          have HZ := Lib.hid (show x.k = 0 ∧ x.n = 0 from ⟨by simpa using h2, by simpa using h3⟩)
          go_wp2_with fail
          go_round
          case rel => exact ⟨q + 1, by omega, by go_num, Lib.hid (fun j y hj e => by
            by_cases he : j = q
            · rw [he] at e
              rw [HXX.out] at e
              injection e with e
              rw [← e]; exact HZ.out
            · exact HQ.out j y (by omega) e)⟩
          case measure => simp [intOf]; omega
        · have d1 : decide ((q : Int) < 11) = false := decide_eq_false (by omega)
          have HZ := Lib.hid (show ∀ x ∈ lns s 4, x.k = 0 ∧ x.n = 0 from (fun x hx => by
            obtain ⟨j, hj, e⟩ := List.getElem_of_mem hx
            have hj2 : j < 11 := by rw [lns_len] at hj; omega
            exact HQ.out j x (by omega) (by rw [← e]; exact List.getElem?_eq_getElem hj)))
          have c1 := HX.out.get _ (sty_a1 s)
          have c2 := HX.out.get _ (sty_a2 s)
          have c3 := HX.out.get _ (sty_a3 s)
          have c32 := HX.out.get _ (sty_a32 s)
          have c33 := HX.out.get _ (sty_a33 s)
          have c34 := HX.out.get _ (sty_a34 s)
          have c35 := HX.out.get _ (sty_a35 s)
          have c36 := HX.out.get _ (sty_a36 s)
          have c37 := HX.out.get _ (sty_a37 s)
          have c38 := HX.out.get _ (sty_a38 s)
          have c39 := HX.out.get _ (sty_a39 s)
          obtain ⟨v1, hv1⟩ : ∃ x, x = s.flow := ⟨_, rfl⟩
          rw [← hv1] at c1
          have HV1 := Lib.hid hv1
          clear hv1
          obtain ⟨v34, hv34⟩ : ∃ x, x = s.wrap := ⟨_, rfl⟩
          rw [← hv34] at c34
          have HV34 := Lib.hid hv34
          clear hv34
          obtain ⟨v2, hv2⟩ : ∃ x, x = s.float := ⟨_, rfl⟩
          rw [← hv2] at c2
          have HV2 := Lib.hid hv2
          clear hv2
          obtain ⟨v3, hv3⟩ : ∃ x, x = s.clear := ⟨_, rfl⟩
          rw [← hv3] at c3
          have HV3 := Lib.hid hv3
          clear hv3
          obtain ⟨v32, hv32⟩ : ∃ x, x = s.align := ⟨_, rfl⟩
          rw [← hv32] at c32
          have HV32 := Lib.hid hv32
          clear hv32
          obtain ⟨v35, hv35⟩ : ∃ x, x = s.justify := ⟨_, rfl⟩
          rw [← hv35] at c35
          have HV35 := Lib.hid hv35
          clear hv35
          obtain ⟨v36, hv36⟩ : ∃ x, x = s.items := ⟨_, rfl⟩
          rw [← hv36] at c36
          have HV36 := Lib.hid hv36
          clear hv36
          obtain ⟨v33, hv33⟩ : ∃ x, x = s.line := ⟨_, rfl⟩
          rw [← hv33] at c33
          have HV33 := Lib.hid hv33
          clear hv33
          obtain ⟨v37, hv37⟩ : ∃ x, x = s.order := ⟨_, rfl⟩
          rw [← hv37] at c37
          have HV37 := Lib.hid hv37
          clear hv37
          obtain ⟨v38, hv38⟩ : ∃ x, x = s.grow := ⟨_, rfl⟩
          rw [← hv38] at c38
          have HV38 := Lib.hid hv38
          clear hv38
          obtain ⟨v39, hv39⟩ : ∃ x, x = s.shrink := ⟨_, rfl⟩
          rw [← hv39] at c39
          have HV39 := Lib.hid hv39
          clear hv39
          cases g1 : v1
          rotate_left
          · have HNO := Lib.hid (show ¬ EmX s from fun h => by have := h.fl.1; rw [← HV1.out, g1] at this; cases this)
            subst g1
            go_wp2_with fail
            go_ret; exact ⟨⟨_, rfl, fun h => by simp at h, fun h => absurd h HNO.out⟩, HB.out⟩
          subst g1
          cases g34 : v34
          rotate_left
          · have HNO := Lib.hid (show ¬ EmX s from fun h => by have := h.fl.2; rw [← HV34.out, g34] at this; cases this)
            subst g34
            go_wp2_with fail
            go_ret; exact ⟨⟨_, rfl, fun h => by simp at h, fun h => absurd h HNO.out⟩, HB.out⟩
          subst g34
          cases g2 : (v2 == 0)
          · have HNO := Lib.hid (show ¬ EmX s from fun h => by have := h.nm.1; rw [← HV2.out] at this; simp [this] at g2)
            go_wp2_with fail
            go_ret; exact ⟨⟨_, rfl, fun h => by simp at h, fun h => absurd h HNO.out⟩, HB.out⟩
          cases g3 : (v3 == 0)
          · have HNO := Lib.hid (show ¬ EmX s from fun h => by have := h.nm.2.1; rw [← HV3.out] at this; simp [this] at g3)
            go_wp2_with fail
            go_ret; exact ⟨⟨_, rfl, fun h => by simp at h, fun h => absurd h HNO.out⟩, HB.out⟩
          cases g32 : (v32 == 0)
          · have HNO := Lib.hid (show ¬ EmX s from fun h => by have := h.nm.2.2.1; rw [← HV32.out] at this; simp [this] at g32)
            go_wp2_with fail
            go_ret; exact ⟨⟨_, rfl, fun h => by simp at h, fun h => absurd h HNO.out⟩, HB.out⟩
          cases g35 : (v35 == 0)
          · have HNO := Lib.hid (show ¬ EmX s from fun h => by have := h.nm.2.2.2.1; rw [← HV35.out] at this; simp [this] at g35)
            go_wp2_with fail
            go_ret; exact ⟨⟨_, rfl, fun h => by simp at h, fun h => absurd h HNO.out⟩, HB.out⟩
          cases g36 : (v36 == 0)
          · have HNO := Lib.hid (show ¬ EmX s from fun h => by have := h.nm.2.2.2.2.1; rw [← HV36.out] at this; simp [this] at g36)
            go_wp2_with fail
            go_ret; exact ⟨⟨_, rfl, fun h => by simp at h, fun h => absurd h HNO.out⟩, HB.out⟩
          cases g33 : (v33 == 0)
          · have HNO := Lib.hid (show ¬ EmX s from fun h => by have := h.nm.2.2.2.2.2.1; rw [← HV33.out] at this; simp [this] at g33)
            go_wp2_with fail
            go_ret; exact ⟨⟨_, rfl, fun h => by simp at h, fun h => absurd h HNO.out⟩, HB.out⟩
          cases g37 : (v37 == 0)
          · have HNO := Lib.hid (show ¬ EmX s from fun h => by have := h.nm.2.2.2.2.2.2.1; rw [← HV37.out] at this; simp [this] at g37)
            go_wp2_with fail
            go_ret; exact ⟨⟨_, rfl, fun h => by simp at h, fun h => absurd h HNO.out⟩, HB.out⟩
          cases g38 : (v38 == 0)
          · have HNO := Lib.hid (show ¬ EmX s from fun h => by have := h.nm.2.2.2.2.2.2.2.1; rw [← HV38.out] at this; simp [this] at g38)
            go_wp2_with fail
            go_ret; exact ⟨⟨_, rfl, fun h => by simp at h, fun h => absurd h HNO.out⟩, HB.out⟩
          cases g39 : (v39 == 0)
          · have HNO := Lib.hid (show ¬ EmX s from fun h => by have := h.nm.2.2.2.2.2.2.2.2; rw [← HV39.out] at this; simp [this] at g39)
            go_wp2_with fail
            go_ret; exact ⟨⟨_, rfl, fun h => by simp at h, fun h => absurd h HNO.out⟩, HB.out⟩
          have HY := Lib.hid (show EmX s from ⟨HE.out, HZ.out, ⟨HV1.out.symm, HV34.out.symm⟩, by rw [← HV2.out]; simpa using g2, by rw [← HV3.out]; simpa using g3, by rw [← HV32.out]; simpa using g32, by rw [← HV35.out]; simpa using g35, by rw [← HV36.out]; simpa using g36, by rw [← HV33.out]; simpa using g33, by rw [← HV37.out]; simpa using g37, by rw [← HV38.out]; simpa using g38, by rw [← HV39.out]; simpa using g39⟩)
          go_wp2_with fail
          go_ret; exact ⟨⟨_, rfl, fun _ => HY.out, fun _ => rfl⟩, HB.out⟩
set_option maxRecDepth 100000 in
set_option maxHeartbeats 1000000 in
theorem rightX_any (s : Sty) (w : World) {Au : Option Addr} {nu cu : Nat} (huv : s.uv = .slice Au nu cu) :
    Calls Tryz.prog 60 #[.agg (styCells s).toArray] w fun e w' => BoolIff (RightX s nu) w w' e := by
  have HB0 : Hid (Blk (w.alloc (.cells (styCells s).toArray 67)) w.heap.size 67 (styCells s).toArray) := Lib.hid (Blk.new _ _ _)
  have c0 := HB0.out.get _ (sty_a0 s)
  have c42 := HB0.out.get _ (sty_a42 s)
  rw [huv] at c42
  have HR := Lib.hid (sty_range _ _ s HB0.out)
  have HX := Lib.hid (boxX_any s (w.alloc (.cells (styCells s).toArray 67)) huv)
  have HE := Lib.hid (emptyX_any s (w.alloc (.cells (styCells s).toArray 67)) huv)
  have HW : Hid (∀ w', Below (w.alloc (.cells (styCells s).toArray 67)).heap.size (w.alloc (.cells (styCells s).toArray 67)) w' → Below w.heap.size w w') := Lib.hid (fun w' h => ((Below.refl _ _).alloc (Nat.le_refl _) _).trans (h.mono (by simp)))
  have HU := Lib.hid huv
  clear huv
  obtain ⟨k, hk⟩ : ∃ k, k = s.kind := ⟨_, rfl⟩
  rw [← hk] at c0
  have HK := Lib.hid hk
  clear hk
  by_cases h1 : k = 1 ∨ k = 2
  · have HH := Lib.hid h1
    rcases h1 with h1 | h1
    · have e1 : (k == 1) = true := beq_iff_eq.2 h1
      clear h1
      go_enter Tryz.func60, Tryz.ntmps60
      go_wp2_with (refine wpList_load_mid rfl 67 _ rfl w.heap.size 0 rfl (styCells s) _ HR.out Tryz.underlying67 rfl (by kernel_rfl) ?_)
      refine HX.out.mono ?_
      rintro e w1 ⟨⟨b, rfl, hb⟩, hw⟩
      have HB := Lib.hid hb
      have HW1 := Lib.hid (HW.out _ hw)
      clear hb hw
      go_wp2_with fail
      go_ret
      exact ⟨⟨b, rfl, fun h => .inl ⟨by have := HK.out; have := HH.out; omega, HB.out.1 h⟩, fun h => by rcases h with h | h; exact HB.out.2 h.2; (have := h.1; have := HK.out; have := HH.out; omega)⟩, HW1.out⟩
    · have e1 : (k == 1) = false := beq_eq_false_iff_ne.2 (by omega)
      have e2 : (k == 2) = true := beq_iff_eq.2 h1
      clear h1
      go_enter Tryz.func60, Tryz.ntmps60
      go_wp2_with (refine wpList_load_mid rfl 67 _ rfl w.heap.size 0 rfl (styCells s) _ HR.out Tryz.underlying67 rfl (by kernel_rfl) ?_)
      refine HX.out.mono ?_
      rintro e w1 ⟨⟨b, rfl, hb⟩, hw⟩
      have HB := Lib.hid hb
      have HW1 := Lib.hid (HW.out _ hw)
      clear hb hw
      go_wp2_with fail
      go_ret
      exact ⟨⟨b, rfl, fun h => .inl ⟨by have := HK.out; have := HH.out; omega, HB.out.1 h⟩, fun h => by rcases h with h | h; exact HB.out.2 h.2; (have := h.1; have := HK.out; have := HH.out; omega)⟩, HW1.out⟩
  · have e1 : (k == 1) = false := beq_eq_false_iff_ne.2 (by omega)
    have e2 : (k == 2) = false := beq_eq_false_iff_ne.2 (by omega)
    by_cases h3 : k = 3
    · have e3 : (k == 3) = true := beq_iff_eq.2 h3
      have HH := Lib.hid h3
      clear h1 h3
      go_enter Tryz.func60, Tryz.ntmps60
      go_wp2_with (refine wpList_load_mid rfl 67 _ rfl w.heap.size 0 rfl (styCells s) _ HR.out Tryz.underlying67 rfl (by kernel_rfl) ?_)
      refine HE.out.mono ?_
      rintro e w1 ⟨⟨b, rfl, hb⟩, hw⟩
      have HB := Lib.hid hb
      have HW1 := Lib.hid (HW.out _ hw)
      have cu2 : w1.cell? ⟨w.heap.size, 42, none⟩ = some (.slice Au nu cu) := (hw.cell (p := ⟨w.heap.size, 42, none⟩) (by simp)).trans c42
      clear hb hw c42
      cases b
      · have HNO := Lib.hid (show ¬ RightX s nu from fun h => by rcases h with h | h; (have := h.1; have := HK.out; have := HH.out; omega); (have := HB.out.2 h.2.1; simp at this))
        go_wp2_with fail
        go_ret
        exact ⟨⟨false, rfl, fun h => by simp at h, fun h => absurd h HNO.out⟩, HW1.out⟩
      · cases g : decide (nu ≤ 65536)
        · have g' : decide ((nu : Int) ≤ 65536) = false := decide_eq_false (by have := of_decide_eq_false g; omega)
          have HNO := Lib.hid (show ¬ RightX s nu from fun h => by rcases h with h | h; (have := h.1; have := HK.out; have := HH.out; omega); (have := h.2.2; have := of_decide_eq_false g; omega))
          go_wp2_with fail
          go_ret
          exact ⟨⟨_, rfl, fun h => by simp at h, fun h => absurd h HNO.out⟩, HW1.out⟩
        · have g' : decide ((nu : Int) ≤ 65536) = true := decide_eq_true (by have := of_decide_eq_true g; omega)
          have HY := Lib.hid (show RightX s nu from .inr ⟨by have := HK.out; have := HH.out; omega, HB.out.1 rfl, of_decide_eq_true g⟩)
          go_wp2_with fail
          go_ret
          exact ⟨⟨_, rfl, fun _ => HY.out, fun _ => rfl⟩, HW1.out⟩
    · have e3 : (k == 3) = false := beq_eq_false_iff_ne.2 h3
      have HNO := Lib.hid (show ¬ RightX s nu from fun h => by rcases h with h | h <;> have := h.1 <;> have := HK.out <;> omega)
      clear h1 h3
      go_enter Tryz.func60, Tryz.ntmps60
      go_wp2_with fail
      go_ret
      exact ⟨⟨false, rfl, fun h => by simp at h, fun h => absurd h HNO.out⟩, (Below.refl _ _).alloc (Nat.le_refl _) _⟩
end Go.Proofs.YtjhfcpadnofdnaaGreat
namespace Go.Proofs.YtjhfcpadnofdnaaGreat
open Go.RowKit
section
variable {P : Program}
theorem run_load_at (w : World) (p : Addr) (ty : TypeId) (cs : List Value) (d : TypeDesc) (hc : ∀ j v, cs[j]? = some v → w.cell? (p.add j) = some v)
    (hu : P.underlying ty = some d) (hd : d.isRow = true) (hi : (P.info? ty).map (·.size) = some cs.length) :
    (Instr.loadAt ty (.pointer (some p))).run P w = .ok (.agg cs.toArray) w := by
  have hl : (loadCells p cs.length).run P w = .ok cs.toArray w := run_loadCells_list (P := P) w p cs hc
  obtain ⟨i, hq, hs⟩ : ∃ i, P.info? ty = some i ∧ i.size = cs.length := by
    cases hq : P.info? ty with
    | none => rw [hq] at hi; cases hi
    | some i => rw [hq] at hi; exact ⟨i, rfl, by injection hi⟩
  have ha : (isAgg ty).run P w = .ok true w := by
    unfold isAgg
    rw [Sem.run_bind, run_underlying hu w]
    cases d <;> first | rfl | (cases hd)
  simp only [Instr.loadAt, Instr.sureAddr, loadVar, sizeOf, typeInfo, Sem.run_bind, Sem.run_pure, Result.andThen_ok, ha, if_true]
  simp [hq, hs, hl]
theorem wpList_load_at {ops : Array Oper} {rest : List Oper} {op : Oper} {a : Act} {w : World} {Q : Exit → Act → World → Prop} (hgd : op.guard = none) (ty : TypeId) (x : Operand) (ho : op.op = .load ty x)
    (p : Addr) (hx : a.eval x = .pointer (some p)) (cs : List Value) (d : TypeDesc) (hc : ∀ j v, cs[j]? = some v → w.cell? (p.add j) = some v)
    (hu : P.underlying ty = some d) (hd : d.isRow = true) (hi : (P.info? ty).map (·.size) = some cs.length)
    (h : wpList P ops Q rest (a.put op.dst (.agg cs.toArray)) w) : wpList P ops Q (op :: rest) a w := by
  refine wpList_plain hgd fun K hK => ?_
  unfold Oper.wp execOp
  simp only [ho, hx, Sem.run_bind, run_load_at w p ty cs d hc hu hd hi, Result.andThen_ok, Sem.run_pure]
  exact hK _ _ h
/-- A struct is stored whole into the block that was made last. -/
theorem wpList_store_new {ops : Array Oper} {rest : List Oper} {o : Oper} {a : Act} {w : World} {Q : Exit → Act → World → Prop} (hgd : o.guard = none) (ty : TypeId) (x y : Operand) (ho : o.op = .store ty x y)
    (g : Nat) (hgw : g = w.heap.size) (cells : Array Value) (hx : a.eval x = .pointer (some ⟨g, 0, none⟩)) (hy : a.eval y = .agg cells)
    (t : TypeId) (old : Array Value) (hi : (P.info? ty).map (·.size) = some cells.size) (hold : old.size = cells.size) (h1 : cells.all (·.oneCell') = true)
    (h : wpList P ops Q rest (a.put o.dst undef) (w.alloc (.cells cells t))) : wpList P ops Q (o :: rest) a (w.alloc (.cells old t)) := by
  subst hgw
  refine wpList_store_row hgd ty x y ho _ cells hx hy t old (heap_alloc_new w _) hi hold h1 ?_
  rw [World.setRow_alloc_new]
  exact h
theorem Sty.one (s : Sty) {A : Option Addr} {n c : Nat} (h : s.uv = .slice A n c) : (styCells s).toArray.all (·.oneCell') = true := by
  simp [styCells, Value.oneCell', h]
theorem Nd.one (x : Nd) {A : Option Addr} {n c : Nat} (h : x.s.uv = .slice A n c) : (ndCells x).toArray.all (·.oneCell') = true := by
  simp [ndCells, styCells, Value.oneCell', h]
end
end Go.Proofs.YtjhfcpadnofdnaaGreat
namespace Go.Proofs.YtjhfcpadnofdnaaGreat
open Go.RowKit
attribute [local go_sem] block_of_add
/-- What a node that may be is. -/
structure NdOk (l : List Nd) (i : Nat) (x : Nd) : Prop where
  par : (i = 0 ∧ x.parent = -1) ∨ (0 < i ∧ 0 ≤ x.parent ∧ x.parent < i ∧ (x.parent = (i : Int) - 1 ∨ x.parent ∈ anc l (i - 1)))
  sty : StyR x.s
  run : x.s.units.length ≤ 65536
  deep : (anc l i).length < 512
  top : i = 0 → x.s.kind = 1 ∧ x.s.float = 0 ∧ x.s.clear = 0
  up : ∀ p : Nat, 0 < i → x.parent = p → ∀ y, l[p]? = some y → y.s.kind ≠ 3 ∧ (y.s.kind = 2 → x.s.kind ≠ 3 ∧ x.s.float = 0 ∧ x.s.clear = 0) ∧ (y.s.kind ≠ 2 → ∀ k z, p < k → k < i → parF l k = p → (∀ j, p < j → j < k → parF l j ≠ p) → l[k]? = some z → (z.s.kind = 3 ↔ x.s.kind = 3))
def ParOk (l : List Nd) (i : Nat) (P : Int) : Prop := (i = 0 ∧ P = -1) ∨ (0 < i ∧ 0 ≤ P ∧ P < i ∧ (P = (i : Int) - 1 ∨ P ∈ anc l (i - 1)))
structure NdAns (l : List Nd) (i : Nat) (x : Nd) (w w' : World) (e : Ending) : Prop where
  ex : ∃ r : Int, e = .returned (.int .i64 r) ∧ (r = 0 → NdOk l i x)
  b : Below w.heap.size w w'
section
variable (l : List Nd) (A A2 : Option Addr) (c m c2 : Nat) (view : Int) (w : World)
end
end Go.Proofs.YtjhfcpadnofdnaaGreat
