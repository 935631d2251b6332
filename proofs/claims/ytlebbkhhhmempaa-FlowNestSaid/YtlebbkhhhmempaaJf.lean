/- Contracts: the document's struts. -/
import Derived.Test.YtlebbkhhhmempaaFb
import Derived.Test.YtlebbkhhhmempaaApp
import Derived.BigQuiet
import Derived.Deep.DeepCutAuto
import Derived.Deep.CutRange
set_option linter.unusedSimpArgs false
set_option linter.unusedVariables false
namespace Go.Proofs.Ytlebbkhhhmempaa
open Go.RowKit
attribute [local go_sem] block_of_add
def ofS (s : Stt) (x : Int) : Stt := ⟨if s.most < x then x else s.most, if x < s.least then x else s.least⟩
def ofF (l : List Int) : Stt := l.foldl ofS ⟨0, 0⟩
theorem ofF_join (s : Stt) (m : Int) (h0 : 0 ≤ s.most) (h1 : s.least ≤ 0) : ofF [s.most, s.least, m] = joinF s m := by
  unfold ofF joinF
  simp only [List.foldl_cons, List.foldl_nil, ofS]
  congr 1
  · split <;> split <;> split <;> omega
  · split <;> split <;> split <;> omega
set_option maxRecDepth 100000 in
set_option maxHeartbeats 1000000 in
theorem of14_any (l : List Int) (A : Option Addr) (c : Nat) (w : World) (hn : l.length ≤ 1000) (hr : Reads w w.heap.size 1 A l.length (l.map (Value.int .i64))) :
    Calls Try.prog 46 #[.slice A l.length c] w fun e w' => e = .returned (.agg #[.int .i64 (ofF l).most, .int .i64 (ofF l).least]) ∧ Below w.heap.size w w' := by
  have HR := Lib.hid hr
  have HN := Lib.hid hn
  clear hr hn
  go_enter Try.func46, Try.ntmps46
  go_wp2_with fail
  go_loopw [4] (fun q wr => ∃ j : Nat, j ≤ l.length ∧ q = .int .i64 (j : Int) ∧ Hid (Blk wr w.heap.size 55 #[.int .i64 0, .int .i64 0] ∧ Blk wr (w.heap.size + 1) 55 #[.int .i64 ((l.take j).foldl ofS ⟨0, 0⟩).most, .int .i64 ((l.take j).foldl ofS ⟨0, 0⟩).least] ∧ Below w.heap.size w wr)) (fun q _ => l.length - (intOf q).toNat)
  case atStart => exact ⟨0, by omega, rfl, Lib.hid ⟨(Blk.new _ _ _).alloc _, Blk.at_ _ _ _ (by simp), ((Below.refl _ _).alloc (Nat.le_refl _) _).alloc (by simp) _⟩⟩
  case round =>
    obtain ⟨j, hj, rfl, HJ⟩ := hrel
    by_cases hlt : j < l.length
    · have d0 : decide ((j : Int) < (l.length : Int)) = true := decide_eq_true (by omega)
      have d0' : decide (j < l.length) = true := decide_eq_true hlt
      have hwk : IntKind.i64.wrap ((j : Int) + 1) = (j : Int) + 1 := IntWalk.i64_in _ ⟨by omega, by have := HN.out; omega⟩
      obtain ⟨ad, u, hA, hb, hu, hc⟩ := (HR.out.below HJ.out.2.2).at_ hlt
      have hu2 : u = .int .i64 l[j] := by rw [List.getElem?_map, List.getElem?_eq_getElem hlt] at hu; simpa using hu.symm
      subst hu2
      subst hA
      have HF := Lib.hid (foldl_take_succ ofS ⟨0, 0⟩ l j hlt)
      obtain ⟨s, HS⟩ : ∃ s, Hid (s = (l.take j).foldl ofS ⟨0, 0⟩) := ⟨_, Lib.hid rfl⟩
      rw [← HS.out] at HF HJ
      obtain ⟨a, b⟩ := s
      obtain ⟨v, hv⟩ : ∃ v, l[j] = v := ⟨_, rfl⟩
      rw [hv] at hc HF
      obtain ⟨b0, b1⟩ := HJ.out.2.1.c2
      have bf := HJ.out.2.1.frozen
      have hj2 : (j : Int) < (l.length : Int) := by omega
      have hbw : ad.block < wr.heap.size := Nat.lt_of_lt_of_le hb HJ.out.2.2.size
      have hne1 : ¬ ad.block = w.heap.size + 1 := by omega
      have hne2 : ¬ w.heap.size + 1 = ad.block := by omega
      clear hu hv
      have HC : Hid (∀ W', Below w.heap.size w W' → W'.cell? (ad.add j) = some (.int .i64 v)) := Lib.hid (fun W' hb' => by
        have h1 := hb'.cell (p := ad.add j) (by rw [block_of_add]; exact hb)
        have h2 := HJ.out.2.2.cell (p := ad.add j) (by rw [block_of_add]; exact hb)
        rw [h1, ← h2]; exact hc)
      have HBL : Hid (ad.block < w.heap.size) := Lib.hid hb
      cases e1 : decide (a < v)
      · go_wp2_with fail
        go_quiet (fail)
        obtain ⟨w2, hw2⟩ : ∃ w2, w2 = wr.drewN nq := ⟨_, rfl⟩
        have H2 : Hid (Blk w2 w.heap.size 55 #[.int .i64 0, .int .i64 0] ∧ Blk w2 (w.heap.size + 1) 55 #[.int .i64 a, .int .i64 b] ∧ Below w.heap.size w w2) := Lib.hid (by rw [hw2]; exact ⟨HJ.out.1.drewN _, HJ.out.2.1.drewN _, below_dr HJ.out.2.2 _⟩)
        rw [← hw2]
        clear hw2 hc b0 b1 bf hbw
        have hc := HC.out w2 H2.out.2.2
        obtain ⟨b0, b1⟩ := H2.out.2.1.c2
        have bf := H2.out.2.1.frozen
        have hbw : ad.block < w2.heap.size := Nat.lt_of_lt_of_le HBL.out H2.out.2.2.size
        cases e2 : decide (v < b)
        all_goals
          go_wp2_with fail
          go_quiet (fail)
          go_wp2_with fail
          go_roundw
          case rel =>
            refine ⟨j + 1, by omega, by go_num, Lib.hid ?_⟩
            rw [HF.out]
            simp only [decide_eq_true_eq, decide_eq_false_iff_not] at e1 e2
            simp only [ofS, e1, e2, if_true, if_false]
            first | exact ⟨H2.out.1.drewN _, H2.out.2.1.drewN _, below_dr H2.out.2.2 _⟩ | exact ⟨(H2.out.1.drewN _).far (by simp) _, (H2.out.2.1.drewN _).set_ 1 _, (below_dr H2.out.2.2 _).setCell (p := ⟨w.heap.size + 1, 1, none⟩) (by simp) _⟩
          case measure => simp [intOf]; omega
      · go_wp2_with fail
        go_quiet (fail)
        go_upto_region 7 with (fail)
        obtain ⟨w2, hw2⟩ : ∃ w2, w2 = (wr.drewN nq).setCell ⟨w.heap.size + 1, 0, none⟩ (.int .i64 v) := ⟨_, rfl⟩
        have H2 : Hid (Blk w2 w.heap.size 55 #[.int .i64 0, .int .i64 0] ∧ Blk w2 (w.heap.size + 1) 55 #[.int .i64 v, .int .i64 b] ∧ Below w.heap.size w w2) := Lib.hid (by rw [hw2]; exact ⟨(HJ.out.1.drewN _).far (by simp) _, (HJ.out.2.1.drewN _).set_ 0 _, (below_dr HJ.out.2.2 _).setCell (p := ⟨w.heap.size + 1, 0, none⟩) (by simp) _⟩)
        try rw [show (wr.setCell ⟨w.heap.size + 1, 0, none⟩ (.int .i64 v)).drewN nq = w2 from hw2.symm]
        try rw [← hw2]
        clear hw2 hc b0 b1 bf hbw
        have hc := HC.out w2 H2.out.2.2
        obtain ⟨b0, b1⟩ := H2.out.2.1.c2
        have bf := H2.out.2.1.frozen
        have hbw : ad.block < w2.heap.size := Nat.lt_of_lt_of_le HBL.out H2.out.2.2.size
        cases e2 : decide (v < b)
        all_goals
          go_wp2_with fail
          go_quiet (fail)
          go_wp2_with fail
          go_roundw
          case rel =>
            refine ⟨j + 1, by omega, by go_num, Lib.hid ?_⟩
            rw [HF.out]
            simp only [decide_eq_true_eq, decide_eq_false_iff_not] at e1 e2
            simp only [ofS, e1, e2, if_true, if_false]
            first | exact ⟨H2.out.1.drewN _, H2.out.2.1.drewN _, below_dr H2.out.2.2 _⟩ | exact ⟨(H2.out.1.drewN _).far (by simp) _, (H2.out.2.1.drewN _).set_ 1 _, (below_dr H2.out.2.2 _).setCell (p := ⟨w.heap.size + 1, 1, none⟩) (by simp) _⟩
          case measure => simp [intOf]; omega
    · have d0 : decide ((j : Int) < (l.length : Int)) = false := decide_eq_false (by omega)
      have d0' : decide (j < l.length) = false := decide_eq_false hlt
      have HK := Lib.hid (show j = l.length by omega)
      obtain ⟨s, hs⟩ : ∃ s, s = (l.take j).foldl ofS ⟨0, 0⟩ := ⟨_, rfl⟩
      rw [← hs] at HJ
      have HSS : Hid (s = ofF l) := Lib.hid (by rw [hs, HK.out, List.take_length]; rfl)
      clear hs
      obtain ⟨b0, b1⟩ := HJ.out.2.1.c2
      obtain ⟨a0, a1⟩ := HJ.out.1.c2
      have af := HJ.out.1.frozen
      go_wp2_with fail
      refine bodyPost_ret (results_cell_row rfl _ _ w.heap.size 55 #[_, _] (0, 0) _ rfl ((HJ.out.1.set_ 0 (.int .i64 s.most)).set_ 1 (.int .i64 s.least)) Try.underlying55 rfl (by kernel_rfl)) rfl ⟨by rw [← HSS.out], ?_⟩
      exact (HJ.out.2.2.setCell (p := ⟨w.heap.size, 0, none⟩) (Nat.le_refl _) _).setCell (p := ⟨w.heap.size, 1, none⟩) (Nat.le_refl _) _
theorem sum14_any (a b : Int) (w : World) (h : -9223372036854775808 ≤ a + b ∧ a + b < 9223372036854775808) :
    Calls Try.prog 22 #[.agg #[.int .i64 a, .int .i64 b]] w fun e w' => e = .returned (.int .i64 (a + b)) ∧ w.alloc (.cells #[.int .i64 a, .int .i64 b] 55) = w' := by
  have h1 : IntKind.i64.wrap (a + b) = a + b := IntWalk.i64_in _ ⟨by omega, by omega⟩
  go_enter Try.func22, Try.ntmps22
  go_wp2_with fail
  go_ret
  exact ⟨rfl, rfl⟩
end Go.Proofs.Ytlebbkhhhmempaa
