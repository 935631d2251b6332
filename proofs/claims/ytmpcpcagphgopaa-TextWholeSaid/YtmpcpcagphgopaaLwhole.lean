/- The law TextWhole, walked. -/
import Derived.Test.YtmpcpcagphgopaaLwords
import Derived.Test.YtmpcpcagphgopaaScale
set_option linter.unusedSimpArgs false
set_option linter.unusedVariables false
namespace Go.Proofs.Ytmpcpcagphgopaa
open Go.RowKit
attribute [local go_sem] block_of_add

set_option maxRecDepth 100000 in
set_option maxHeartbeats 2000000 in
theorem textWhole_any (l t : List Int) (A B : Option Addr) (c d : Nat) (w : World) (hl : U16s l) (ht : I64s t) (hc : l.length ≤ c) (hrl : Reads w w.heap.size 1 A l.length (u16s l)) (hrt : Reads w w.heap.size 1 B t.length (i64s t)) :
    Calls Try.prog 5 #[.slice A l.length c, .slice B t.length d] w fun e w' => e = .returned (.bool true) ∧ Below w.heap.size w w' := by
  have HL := Lib.hid hrl
  have HT := Lib.hid hrt
  clear hrl hrt
  rcases hv : vastF l.length t.length with _ | _
  · obtain ⟨hn, hm⟩ := vast_bd hv
    have HV := Lib.hid hv
    clear hv
    go_enter Try.func5, Try.ntmps5
    go_wp2_with fail
    refine (vast_b _ _ _ _ _ _ _ _ HV.out).mono ?_
    rintro e w' ⟨rfl, rfl⟩
    go_wp2_with fail
    refine (words_sl l t A B c d _ hl ht (by omega) hc HL.out HT.out).mono ?_
    rintro e w2 ⟨A2, c2, rfl, o2, b2⟩
    have p2 := Lib.hid (Reads.of_own o2)
    have HN : Hid ((wordsF t l).1.length = (spansF l).length) := Lib.hid (by rw [wordsF, wordsOf_len])
    clear o2
    go_wp2_with fail
    go_loopw [7, 8] (fun a i wr => ∃ k : Nat, k ≤ (wordsF t l).1.length ∧ i = .int .i64 k ∧ a = .int .i64 (upAt (spansF l) k) ∧ Below w.heap.size w wr ∧ Reads wr wr.heap.size 5 A2 (wordsF t l).1.length (wdsCells (wordsF t l).1)) (fun _ i _ => (wordsF t l).1.length - (intOf i).toNat)
    case atStart => exact ⟨0, by omega, rfl, rfl, b2, p2.out⟩
    case round =>
      obtain ⟨k, hk, rfl, rfl, hb, hp⟩ := hrel
      have p2 := Lib.hid hp
      clear hp
      by_cases hlt : k < (wordsF t l).1.length
      · obtain ⟨ad, rfl, hab, a0, a1, a2, a3, a4⟩ := p2.out.wd rfl hlt
        obtain ⟨s, hs, hw⟩ := words_at t l hlt
        have hg := (whole l).1 k s hs
        have HU : Hid (upAt (spansF l) (k + 1) = s.up) := Lib.hid (by simp [upAt, hs])
        rw [hw] at a0 a1 a2 a3 a4
        obtain ⟨g1, g2, g3, g4, g5, g6⟩ := hg
        have hk1 : (k : Int) < ((wordsF t l).1.length : Int) := by omega
        obtain ⟨L, hL⟩ : ∃ L, (wordsF t l).1.length = L := ⟨_, rfl⟩
        rw [hL] at hk1 hlt hk
        have hLb : L ≤ 3000 := by have := wordsF_bd t l; omega
        have HLL := Lib.hid hL
        simp only [hL]
        obtain ⟨a, ha⟩ : ∃ a, upAt (spansF l) k = a := ⟨_, rfl⟩
        rw [ha] at g1 g2 g5
        simp only [ha]
        clear ha hL hw hs
        obtain ⟨fr, up, en, sp⟩ := s
        dsimp only at g1 g2 g3 g4 g5 g6 HU
        have b0 : wr.cell? (ad.add (k * 5)) = some (.int .i64 (fr : Int)) := a0
        have b1 : wr.cell? ⟨ad.block, (ad.add (k * 5)).off + 1, none⟩ = some (.int .i64 (up : Int)) := a1
        have b4 : wr.cell? ⟨ad.block, (ad.add (k * 5)).off + 4, none⟩ = some (.int .i64 (en : Int)) := a4
        clear a0 a1 a2 a3 a4
        have HG := Lib.hid g6
        have HE := Lib.hid g5
        clear g5 g6
        obtain ⟨ad2, u2, rfl, hab2, hx2, hc2⟩ := HL.out.at_ (k := fr) (by omega)
        clear hx2 hc2
        have hac : ¬ c = a := by omega
        have hfc : fr ≤ c := by omega
        have d1 : decide (fr < a) = false := decide_eq_false (by omega)
        have d2 : decide (up ≤ fr) = false := decide_eq_false (by omega)
        have d3 : decide (l.length < up) = false := decide_eq_false (by omega)
        have i1 : (0 : Int) ≤ (a : Int) := by omega
        have i2 : (a : Int) ≤ (fr : Int) := by omega
        have i3 : (fr : Int) ≤ (c : Int) := by omega
        have hrp : ∀ m, Reads (wr.drewN m) wr.heap.size 1 (some (ad2.add a)) (part l ⟨a, fr, 0, false⟩).length (u16s (part l ⟨a, fr, 0, false⟩)) := fun m => part_reads ((HL.out.below hb).drewN m) hb.size g1 (by dsimp only; omega)
        have hpl : (part l ⟨a, fr, 0, false⟩).length = fr - a := by simp [part]; omega
        have HC : Hid (∀ m cc, Calls Try.prog 18 #[.slice (some (ad2.add a)) (fr - a) cc] (wr.drewN m) fun e w' => e = .returned (.int .i64 (en : Int)) ∧ w' = wr.drewN m) := Lib.hid fun m cc => by
          have := ends_any (part l ⟨a, fr, 0, false⟩) (some (ad2.add a)) cc (wr.drewN m) (part_u16 hl) (by omega) (hrp m)
          rw [show endsF (part l ⟨a, fr, 0, false⟩) = en from HE.out, hpl] at this
          exact this.mono fun e w' ⟨he, hw⟩ => ⟨he, hw.symm⟩
        clear hrp hpl
        have hcase : decide (0 < k) = false ∨ decide (0 < k) = true ∧ ((fr : Int) == (a : Int)) = false ∧ decide (fr = a) = false := by
          rcases Nat.eq_zero_or_pos k with h0 | h0
          · exact .inl (decide_eq_false (by omega))
          · have := g2 h0
            exact .inr ⟨decide_eq_true h0, by simp; omega, decide_eq_false this⟩
        have HK := Lib.hid hlt
        clear g2
        rcases hcase with dk | ⟨dk, de, de'⟩
        all_goals
          go_wp2_with fail
          go_quiet ((go_at_call 18; with_reducible exact Calls.quiet_of_same (HC.out _ _)))
          go_wp2_with fail
          obtain ⟨wo, hwo⟩ : ∃ wo, wo = wr.drewN nq := ⟨_, rfl⟩
          have hbo : Below w.heap.size w wo := by rw [hwo]; exact hb.trans (below_drewN _ wr nq)
          have hpo : Reads wo wo.heap.size 5 (some ad) L (wdsCells (wordsF t l).1) := by rw [hwo, ← HLL.out]; exact p2.out.drewN nq
          have b1o : wo.cell? ⟨ad.block, (ad.add (k * 5)).off + 1, none⟩ = some (.int .i64 (up : Int)) := by rw [hwo]; exact b1
          rw [← hwo]
          clear hwo b0 b1 b4 d1 d2 d3
          go_loop [9] (fun s => ∃ j : Nat, fr ≤ j ∧ j ≤ up ∧ s = .int .i64 j) (fun s => up - (intOf s).toNat)
          case atStart => exact ⟨fr, Nat.le_refl _, by omega, rfl⟩
          case round =>
            obtain ⟨j, hj1, hj2, rfl⟩ := hrel
            by_cases hju : j < up
            · obtain ⟨ad3, u3, he3, hab3, hx3, hc3⟩ := (HL.out.below hbo).at_ (k := j) (by omega)
              injection he3 with he3
              subst he3
              have hjl : j < l.length := by omega
              have hu3 : u3 = .int .u16 l[j] := by simpa [u16s, hjl] using hx3.symm
              subst hu3
              have hlet := HG.out j hj1 hju
              simp only [letN, isLet, hjl, decide_true, Bool.true_and, List.getElem?_eq_getElem, Option.getD_some, Bool.and_eq_true, Bool.not_eq_true', decide_eq_false_iff_not] at hlet
              obtain ⟨x, hxx⟩ : ∃ x, l[j] = x := ⟨_, rfl⟩
              rw [hxx] at hc3 hlet
              have e1 : (x == 32) = false := by simp [hlet.1]
              have e2 : (x == 10) = false := by simp [hlet.2]
              clear hx3 hlet hxx
              go_wp2_with fail
              go_round
              case rel => exact ⟨j + 1, by omega, by omega, by go_num⟩
              case measure => simp [intOf]; omega
            · obtain rfl : j = up := by omega
              go_wp2_with fail
              go_roundw
              case rel => exact ⟨k + 1, by have := HLL.out; have := HK.out; omega, by go_num, by rw [HU.out], hbo, hpo⟩
              case measure => have := HLL.out; simp [intOf]; omega
      · obtain rfl : k = (wordsF t l).1.length := by omega
        have hA := (whole l).2.2
        have hE := (whole l).2.1
        rw [← HN.out] at hA hE
        have hLb : (wordsF t l).1.length ≤ 3000 := by have := wordsF_bd t l; omega
        obtain ⟨a, ha⟩ : ∃ a, upAt (spansF l) (wordsF t l).1.length = a := ⟨_, rfl⟩
        rw [ha] at hA hE
        simp only [ha]
        clear ha HN
        obtain ⟨z, hz⟩ : ∃ z, endsF (l.drop a) = z := ⟨_, rfl⟩
        have hz1 : z ≤ 3000 := by
          rw [← hz]; unfold endsF
          split
          · omega
          · have := List.count_le_length (a := 10) (l := l.drop a); simp at this; omega
        rw [hz] at hE
        have HZ := Lib.hid hz
        clear hz
        have hdl : (l.drop a).length = l.length - a := by simp
        have hdu : U16s (l.drop a) := fun x hx => hl x (List.mem_of_mem_drop hx)
        have fin : ∀ w1, Below w.heap.size w w1 → Calls Try.prog 10 #[] w1 fun e w' => e = .returned (.bool true) ∧ Below w.heap.size w w' := fun w1 h1 => (works_any w1).mono fun e w' ⟨he, h2⟩ => ⟨he, h1.trans (h2.mono h1.size)⟩
        have FIN := Lib.hid fin
        clear fin
        rcases Nat.lt_or_ge a l.length with hal | hal
        · obtain ⟨ad, rfl, hab, hcl⟩ := HL.out.2 (show 0 < l.length by omega)
          have hac : ¬ c = a := by omega
          have i1 : (0 : Int) ≤ (a : Int) := by omega
          have i2 : (a : Int) ≤ (l.length : Int) := by omega
          have hr := (HL.out.below hb).cut (k := a) (cap := c) (by omega) hc
          rw [if_neg hac, Nat.mul_one] at hr
          have hr2 : Reads wr wr.heap.size 1 (some (ad.add a)) (l.drop a).length (u16s (l.drop a)) := by rw [hdl]; simpa [u16s, List.map_drop] using hr.more hb.size
          have HC : Hid (∀ cc, Calls Try.prog 18 #[.slice (some (ad.add a)) (l.length - a) cc] wr fun e w' => e = .returned (.int .i64 z) ∧ wr = w') := Lib.hid fun cc => by
            have := ends_any (l.drop a) (some (ad.add a)) cc wr hdu (by omega) hr2
            rw [HZ.out, hdl] at this
            exact this
          clear hr hr2 hcl hdl
          go_wp2_with fail
          with_reducible refine (HC.out _).mono ?_
          rintro e w' ⟨rfl, rfl⟩
          go_wp2_with fail
          refine (FIN.out _ hb).mono ?_
          rintro e w' ⟨rfl, hbb⟩
          go_wp2_with fail
          go_ret
          exact ⟨rfl, hbb⟩
        · have hal' : a = l.length := by omega
          have HC : Hid (∀ X cc, Calls Try.prog 18 #[.slice X 0 cc] wr fun e w' => e = .returned (.int .i64 z) ∧ wr = w') := Lib.hid fun X cc => by
            have hd : l.drop a = [] := List.drop_eq_nil_of_le hal
            have := ends_any [] X cc wr (by intro x hx; simp at hx) (by simp) ⟨rfl, fun h => absurd h (by simp)⟩
            rw [← hd, HZ.out] at this
            simpa [hd] using this
          subst hal'
          go_wp2_with fail
          all_goals
            with_reducible refine (HC.out _ _).mono ?_
            rintro e w' ⟨rfl, rfl⟩
            go_wp2_with fail
            refine (FIN.out _ hb).mono ?_
            rintro e w' ⟨rfl, hbb⟩
            go_wp2_with fail
            go_ret
            exact ⟨rfl, hbb⟩
  · have HV := Lib.hid hv
    clear hv
    go_enter Try.func5, Try.ntmps5
    go_wp2_with fail
    refine (vast_b _ _ _ _ _ _ _ _ HV.out).mono ?_
    rintro e w' ⟨rfl, rfl⟩
    go_wp2_with fail
    refine (works_any _).mono ?_
    rintro e w' ⟨rfl, hb⟩
    go_wp2_with fail
    go_ret
    exact ⟨rfl, hb⟩
end Go.Proofs.Ytmpcpcagphgopaa
