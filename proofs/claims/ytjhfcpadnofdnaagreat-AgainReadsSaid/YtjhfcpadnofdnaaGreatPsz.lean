/- The program's styles: rules, Right. -/
import Derived.Test.YtjhfcpadnofdnaaGreatPsr
set_option linter.unusedSimpArgs false
set_option linter.unusedVariables false
namespace Go.Proofs.YtjhfcpadnofdnaaGreat
open Go.RowKit
attribute [local go_sem] block_of_add
theorem run_store_fnP {P : Program} {w : World} {a : Addr} {m : Mode} (F : Fn) (b l : Array Value) : (store a (.func F b l) m).run P w = stored P w a (.func F b l) m := run_store P w a _ m rfl
attribute [local go_sem] run_store_fnP
def rlCells : Array Value := #[.func (.func 253) #[] #[], .func (.func 254) #[] #[], .func (.func 255) #[] #[], .func (.func 258) #[] #[], .func (.func 260) #[] #[], .func (.func 262) #[] #[], .func (.func 265) #[] #[], .func (.func 266) #[] #[], .func (.func 267) #[] #[], .func (.func 268) #[] #[], .func (.func 269) #[] #[], .func (.func 270) #[] #[], .func (.func 271) #[] #[], .func (.func 273) #[] #[], .func (.func 274) #[] #[]]
structure RulesAns (w w' : World) (e : Ending) : Prop where
  ex : ∃ g, e = .returned (.slice (some ⟨g, 0, none⟩) 15 15) ∧ w.heap.size ≤ g ∧ Blk w' g 264 rlCells
  b : Below w.heap.size w w'
set_option maxRecDepth 100000 in
set_option maxHeartbeats 1000000 in
theorem rules_any (w : World) : Calls Tryz.prog 190 #[] w fun e w' => RulesAns w w' e := by
  have HB : Hid (Blk (w.alloc (.cells #[.func (.func 253) #[] #[], .func (.func 254) #[] #[], .func (.func 255) #[] #[], .func (.func 258) #[] #[], .func (.func 260) #[] #[], .func (.func 262) #[] #[], .func (.func 265) #[] #[], .func (.func 266) #[] #[], .func (.func 267) #[] #[], .func (.func 268) #[] #[], .func (.func 269) #[] #[], .func (.func 270) #[] #[], .func (.func 271) #[] #[], .func (.func 273) #[] #[], .func (.func 274) #[] #[]] 264)) w.heap.size 264 rlCells) := Lib.hid (Blk.new _ _ _)
  go_enter Tryz.func190, Tryz.ntmps190
  go_wp2_with fail
  go_ret
  exact ⟨⟨_, rfl, Nat.le_refl _, HB.out⟩, (Below.refl _ _).alloc (Nat.le_refl _) _⟩
theorem rule_at {i : Nat} (h : i < 15) : ∃ F, rlCells[i]? = some (.func (.func F) #[] #[]) ∧ RuleC F i ∧ (∀ args w, (callFunc F args).run Tryz.prog w = .ok (.enter F args) w) := by
  have : i = 0 ∨ i = 1 ∨ i = 2 ∨ i = 3 ∨ i = 4 ∨ i = 5 ∨ i = 6 ∨ i = 7 ∨ i = 8 ∨ i = 9 ∨ i = 10 ∨ i = 11 ∨ i = 12 ∨ i = 13 ∨ i = 14 := by omega
  rcases this with rfl | rfl | rfl | rfl | rfl | rfl | rfl | rfl | rfl | rfl | rfl | rfl | rfl | rfl | rfl
  · exact ⟨253, rfl, rule0, fun args w => by kernel_rfl⟩
  · exact ⟨254, rfl, rule1, fun args w => by kernel_rfl⟩
  · exact ⟨255, rfl, rule2, fun args w => by kernel_rfl⟩
  · exact ⟨258, rfl, rule3, fun args w => by kernel_rfl⟩
  · exact ⟨260, rfl, rule4, fun args w => by kernel_rfl⟩
  · exact ⟨262, rfl, rule5, fun args w => by kernel_rfl⟩
  · exact ⟨265, rfl, rule6, fun args w => by kernel_rfl⟩
  · exact ⟨266, rfl, rule7, fun args w => by kernel_rfl⟩
  · exact ⟨267, rfl, rule8, fun args w => by kernel_rfl⟩
  · exact ⟨268, rfl, rule9, fun args w => by kernel_rfl⟩
  · exact ⟨269, rfl, rule10, fun args w => by kernel_rfl⟩
  · exact ⟨270, rfl, rule11, fun args w => by kernel_rfl⟩
  · exact ⟨271, rfl, rule12, fun args w => by kernel_rfl⟩
  · exact ⟨273, rfl, rule13, fun args w => by kernel_rfl⟩
  · exact ⟨274, rfl, rule14, fun args w => by kernel_rfl⟩
theorem thick_iff {x : Int} : thickF x = true ↔ 0 ≤ x ∧ x ≤ 1099511627776 := by unfold thickF; simp
theorem rules_box {s : Sty} {nu : Nat} : (∀ i, i < 15 → ruleF s nu i = true) ↔ BoxX s nu := by
  constructor
  · intro h
    have h0 := h 0 (by omega)
    have h1 := h 1 (by omega)
    have h2 := h 2 (by omega)
    have h3 := h 3 (by omega)
    have h4 := h 4 (by omega)
    have h5 := h 5 (by omega)
    have h6 := h 6 (by omega)
    have h7 := h 7 (by omega)
    have h8 := h 8 (by omega)
    have h9 := h 9 (by omega)
    have h10 := h 10 (by omega)
    have h11 := h 11 (by omega)
    have h12 := h 12 (by omega)
    have h13 := h 13 (by omega)
    have h14 := h 14 (by omega)
    simp only [ruleF, wdL, hgL, mgL, bdL, pdL, List.all_cons, List.all_nil, Bool.and_true, Bool.and_eq_true, decide_eq_true_eq, thick_iff, tallF, Bool.not_eq_true', beq_eq_false_iff_ne, beq_iff_eq] at h0 h1 h2 h3 h4 h5 h6 h7 h8 h9 h10 h11 h12 h13 h14
    refine ⟨fun j hj => ?_, fun j hj => ?_, fun j hj => ?_, ⟨h0, h1⟩, ⟨h7, h8, h9⟩, ⟨h12, h13⟩, h10.1, h10.2, h11.1, h11.2, h14⟩
    · rcases four hj with rfl | rfl | rfl | rfl
      · exact ⟨h4.1, h5.1.1, h5.1.2, h6.1.1, h6.1.2⟩
      · exact ⟨h4.2.1, h5.2.1.1, h5.2.1.2, h6.2.1.1, h6.2.1.2⟩
      · exact ⟨h4.2.2.1, h5.2.2.1.1, h5.2.2.1.2, h6.2.2.1.1, h6.2.2.1.2⟩
      · exact ⟨h4.2.2.2, h5.2.2.2.1, h5.2.2.2.2, h6.2.2.2.1, h6.2.2.2.2⟩
    · rcases four hj with rfl | rfl | rfl | rfl
      · exact h2.1
      · exact h2.2.1
      · exact h2.2.2.1
      · exact h2.2.2.2
    · have : j = 0 ∨ j = 1 ∨ j = 2 := by omega
      rcases this with rfl | rfl | rfl
      · exact ⟨h3.1.2, h3.1.1⟩
      · exact ⟨h3.2.1.2, h3.2.1.1⟩
      · exact ⟨h3.2.2.2, h3.2.2.1⟩
  · intro h i hi
    have e0 := h.ed 0 (by omega)
    have e1 := h.ed 1 (by omega)
    have e2 := h.ed 2 (by omega)
    have e3 := h.ed 3 (by omega)
    have w0 := h.wd 0 (by omega)
    have w1 := h.wd 1 (by omega)
    have w2 := h.wd 2 (by omega)
    have w3 := h.wd 3 (by omega)
    have g0 := h.hg 0 (by omega)
    have g1 := h.hg 1 (by omega)
    have g2 := h.hg 2 (by omega)
    have hsd := h.sd
    have hpl := h.pl
    have hgr := h.gr
    have hln := h.ln
    simp only [EdOk, mgAt, bdAt, pdAt] at e0 e1 e2 e3
    simp only [wdAt] at w0 w1 w2 w3
    simp only [HgX, hgAt] at g0 g1 g2
    unfold SideX at hsd
    unfold PlX at hpl
    unfold GrS at hgr
    unfold LnX at hln
    have : i = 0 ∨ i = 1 ∨ i = 2 ∨ i = 3 ∨ i = 4 ∨ i = 5 ∨ i = 6 ∨ i = 7 ∨ i = 8 ∨ i = 9 ∨ i = 10 ∨ i = 11 ∨ i = 12 ∨ i = 13 ∨ i = 14 := by omega
    rcases this with rfl | rfl | rfl | rfl | rfl | rfl | rfl | rfl | rfl | rfl | rfl | rfl | rfl | rfl | rfl
    all_goals simp only [ruleF, wdL, hgL, mgL, bdL, pdL, List.all_cons, List.all_nil, Bool.and_true, Bool.and_eq_true, decide_eq_true_eq, thick_iff, tallF, Bool.not_eq_true', beq_eq_false_iff_ne, beq_iff_eq]
    · exact hsd.1
    · exact hsd.2
    · exact ⟨w0, w1, w2, w3⟩
    · exact ⟨⟨g0.2, g0.1⟩, ⟨g1.2, g1.1⟩, g2.2, g2.1⟩
    · exact ⟨e0.1, e1.1, e2.1, e3.1⟩
    · exact ⟨⟨e0.2.1, e0.2.2.1⟩, ⟨e1.2.1, e1.2.2.1⟩, ⟨e2.2.1, e2.2.2.1⟩, e3.2.1, e3.2.2.1⟩
    · exact ⟨e0.2.2.2, e1.2.2.2, e2.2.2.2, e3.2.2.2⟩
    · exact hpl.1
    · exact hpl.2.1
    · exact hpl.2.2
    · exact ⟨hln.1, hln.2.1⟩
    · exact ⟨hln.2.2.1, hln.2.2.2.1⟩
    · exact hgr.1
    · exact hgr.2
    · exact hln.2.2.2.2
set_option maxRecDepth 100000 in
set_option maxHeartbeats 2000000 in
theorem prightX_any (s : Sty) (w : World) {Au : Option Addr} {nu cu : Nat} (huv : s.uv = .slice Au nu cu) :
    Calls Tryz.prog 117 #[.agg (styCells s).toArray] w fun e w' => BoolIff (RightX s nu) w w' e := by
  have HB0 : Hid (Blk (w.alloc (.cells (styCells s).toArray 67)) w.heap.size 67 (styCells s).toArray) := Lib.hid (Blk.new _ _ _)
  have HB1 : Hid (Below w.heap.size w (w.alloc (.cells (styCells s).toArray 67))) := Lib.hid ((Below.refl _ _).alloc (Nat.le_refl _) _)
  have c0 := HB0.out.get _ (sty_a0 s)
  have HU := Lib.hid huv
  clear huv
  obtain ⟨k, hk⟩ : ∃ k, k = s.kind := ⟨_, rfl⟩
  rw [← hk] at c0
  have HK := Lib.hid hk
  clear hk
  by_cases h12 : k = 1 ∨ k = 2
  · have HH := Lib.hid h12
    have key : ∀ (W : World), W = w.alloc (.cells (styCells s).toArray 67) → True := fun _ _ => trivial
    clear key
    have e12 : ((k == 1) = true) ∨ ((k == 1) = false ∧ (k == 2) = true) := by
      rcases h12 with h | h
      · exact .inl (beq_iff_eq.2 h)
      · exact .inr ⟨beq_eq_false_iff_ne.2 (by omega), beq_iff_eq.2 h⟩
    clear h12
    rcases e12 with e1 | ⟨e1, e2⟩
    all_goals
      go_enter Tryz.func117, Tryz.ntmps117
      go_wp2_with fail
      refine (rules_any _).mono ?_
      rintro e w1 ⟨⟨g, rfl, hg, hbr⟩, hb1⟩
      have HR1 : Hid (Blk w1 g 264 rlCells ∧ w.heap.size < g ∧ Below w.heap.size w w1 ∧ Blk w1 w.heap.size 67 (styCells s).toArray) := Lib.hid ⟨hbr, by simp at hg; omega, HB1.out.trans (hb1.mono (by simp)), HB0.out.below hb1 HB0.out.lt⟩
      clear hbr hb1 hg c0
      go_wp2_with fail
      go_loopw [12] (fun iv wr => ∃ i : Nat, i ≤ 15 ∧ iv = .int .i64 i ∧ Hid ((∀ j, j < i → ruleF s nu j = true) ∧ Below w.heap.size w wr ∧ Blk wr w.heap.size 67 (styCells s).toArray ∧ Blk wr g 264 rlCells)) (fun iv _ => 15 - (intOf iv).toNat)
      case atStart => exact ⟨0, by omega, rfl, Lib.hid ⟨fun j h => by omega, HR1.out.2.2.1, HR1.out.2.2.2, HR1.out.1⟩⟩
      case round =>
        obtain ⟨i, hi, rfl, H⟩ := hrel
        by_cases hlt : i < 15
        · have d0 : decide ((i : Int) < 15) = true := decide_eq_true (by omega)
          have hi15 : (i : Int) < 15 := by omega
          obtain ⟨F, hF1, hF2, eg⟩ := rule_at hlt
          have HF2 := Lib.hid hF2
          have cF := H.out.2.2.2.get i hF1
          have lg := H.out.2.2.2.lt
          have HB3 := Lib.hid (H.out.2.1.alloc H.out.2.1.size (.cells #[.func (.func F) #[] #[]] 264))
          have HS3 := Lib.hid (H.out.2.2.1.alloc (.cells #[.func (.func F) #[] #[]] 264))
          have HS4 := Lib.hid (H.out.2.2.2.alloc (.cells #[.func (.func F) #[] #[]] 264))
          clear hF1 hF2
          go_wp2_with fail
          refine (HF2.out s _ _ _ _ _ HU.out HS3.out).mono ?_
          rintro e w2 ⟨rfl, hw2⟩
          have HW2 : Hid (Below w.heap.size w w2 ∧ Blk w2 w.heap.size 67 (styCells s).toArray ∧ Blk w2 g 264 rlCells) := Lib.hid ⟨HB3.out.trans (hw2.mono (by have := H.out.2.1.size; simp; omega)), HS3.out.below hw2 HS3.out.lt, HS4.out.below hw2 HS4.out.lt⟩
          obtain ⟨b, hb⟩ : ∃ b, b = ruleF s nu i := ⟨_, rfl⟩
          rw [← hb]
          have HBR := Lib.hid hb
          clear hw2 hb cF lg eg
          cases b
          · have HNO := Lib.hid (show ¬ RightX s nu from fun h => by
              rcases h with h | h
              · have := rules_box.2 h.2 i hlt; rw [← HBR.out] at this; cases this
              · have := h.1; have := HK.out; have := HH.out; omega)
            go_wp2_with fail
            go_ret
            exact ⟨⟨false, rfl, fun h => by simp at h, fun h => absurd h HNO.out⟩, HW2.out.1⟩
          · have hwk : IntKind.i64.wrap ((i : Int) + 1) = (i : Int) + 1 := IntWalk.i64_in _ ⟨by omega, by omega⟩
            go_wp2_with fail
            go_roundw
            case rel => exact ⟨i + 1, by omega, by go_num, Lib.hid ⟨fun j hj => by
              by_cases he : j = i
              · rw [he, ← HBR.out]
              · exact H.out.1 j (by omega), HW2.out⟩⟩
            case measure => simp [intOf]; omega
        · have d0 : decide ((i : Int) < 15) = false := decide_eq_false (by omega)
          have HY := Lib.hid (show RightX s nu from .inl ⟨by have := HK.out; have := HH.out; omega, rules_box.1 (fun j hj => H.out.1 j (by omega))⟩)
          go_wp2_with fail
          go_ret
          exact ⟨⟨true, rfl, fun _ => HY.out, fun _ => rfl⟩, H.out.2.1⟩
  · have e1 : (k == 1) = false := beq_eq_false_iff_ne.2 (by omega)
    have e2 : (k == 2) = false := beq_eq_false_iff_ne.2 (by omega)
    by_cases h3 : k = 3
    · have e3 : (k == 3) = true := beq_iff_eq.2 h3
      have HH := Lib.hid h3
      have c42 := HB0.out.get _ (sty_a42 s)
      rw [HU.out] at c42
      have HBA := Lib.hid (pbare_any s w.heap.size _ HB0.out)
      clear h12 h3
      cases hn : decide (nu ≤ 65536)
      · have hn' : decide ((nu : Int) ≤ 65536) = false := decide_eq_false (by have := of_decide_eq_false hn; omega)
        have HNO := Lib.hid (show ¬ RightX s nu from fun h => by rcases h with h | h; (have := h.1; have := HK.out; have := HH.out; omega); (have := h.2.2; have := of_decide_eq_false hn; omega))
        go_enter Tryz.func117, Tryz.ntmps117
        go_wp2_with fail
        go_ret
        exact ⟨⟨false, rfl, fun h => by simp at h, fun h => absurd h HNO.out⟩, HB1.out⟩
      · have hn' : decide ((nu : Int) ≤ 65536) = true := decide_eq_true (by have := of_decide_eq_true hn; omega)
        have HN := Lib.hid (of_decide_eq_true hn)
        go_enter Tryz.func117, Tryz.ntmps117
        go_wp2_with fail
        refine HBA.out.mono ?_
        rintro e w2 ⟨rfl, hw2⟩
        obtain ⟨b, hb⟩ : ∃ b, b = stBareF s := ⟨_, rfl⟩
        rw [← hb]
        have HI : Hid (b = true ↔ RightX s nu) := Lib.hid (by
          rw [hb, bare_iff]
          exact ⟨fun h => .inr ⟨by have := HK.out; have := HH.out; omega, h, HN.out⟩, fun h => by rcases h with h | h; (have := h.1; have := HK.out; have := HH.out; omega); exact h.2.1⟩)
        have HW2 := Lib.hid (HB1.out.trans (hw2.mono (by simp)))
        clear hb hw2 c42 c0
        go_wp2_with fail
        go_ret
        exact ⟨⟨b, rfl, HI.out⟩, HW2.out⟩
    · have e3 : (k == 3) = false := beq_eq_false_iff_ne.2 h3
      have HNO := Lib.hid (show ¬ RightX s nu from fun h => by rcases h with h | h <;> have := h.1 <;> have := HK.out <;> omega)
      clear h12 h3
      go_enter Tryz.func117, Tryz.ntmps117
      go_wp2_with fail
      go_ret
      exact ⟨⟨false, rfl, fun h => by simp at h, fun h => absurd h HNO.out⟩, HB1.out⟩
end Go.Proofs.YtjhfcpadnofdnaaGreat
