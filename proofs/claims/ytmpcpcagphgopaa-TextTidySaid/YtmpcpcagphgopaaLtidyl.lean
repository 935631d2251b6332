/- The law TextTidy, walked. -/
import Derived.Test.YtmpcpcagphgopaaLtidy
import Derived.Test.YtmpcpcagphgopaaScale
import Derived.Deep.QuietTactic
import Derived.BigQuiet
set_option linter.unusedSimpArgs false
set_option linter.unusedVariables false
namespace Go.Proofs.Ytmpcpcagphgopaa
open Go.RowKit
attribute [local go_sem] block_of_add

theorem tidy_mem : ∀ (l : List Int) (p : Bool), (∀ x ∈ tidyF p l, x ∈ l) ∧ (tidyF p l).length ≤ l.length := by
  intro l
  induction l with
  | nil => intro p; simp [tidyF]
  | cons u r ih =>
    intro p
    simp only [tidyF]
    split
    · rename_i h
      subst h
      split
      · refine ⟨fun x hx => ?_, by have := (ih false).2; simp; omega⟩
        rcases List.mem_cons.1 hx with rfl | hx
        · simp
        · exact List.mem_cons_of_mem _ ((ih false).1 x hx)
      · exact ⟨fun x hx => List.mem_cons_of_mem _ ((ih p).1 x hx), by have := (ih p).2; simp; omega⟩
    · refine ⟨fun x hx => ?_, by have := (ih (isLet u)).2; simp; omega⟩
      rcases List.mem_cons.1 hx with rfl | hx
      · simp
      · exact List.mem_cons_of_mem _ ((ih (isLet u)).1 x hx)
theorem cut_rng (x : Int) : -1099511627776 ≤ cutF x ∧ cutF x ≤ 1099511627776 := by
  unfold cutF
  repeat' split
  all_goals omega
theorem tidy_words (t l : List Int) : (wordsF t (tidyF false l)).1.map vw = (wordsF t l).1.map vw ∧ (wordsF t (tidyF false l)).2 = (wordsF t l).2 := by
  have h1 := words_abs t l
  have h2 := words_abs t (tidyF false l)
  rw [tidy_same] at h2
  exact ⟨h2.1.trans h1.1.symm, h2.2.trans h1.2.symm⟩
theorem word_bdt (t u : List Int) {k : Nat} (h : k < (wordsF t u).1.length) : 0 ≤ (wordsF t u).1[k].fr ∧ (wordsF t u).1[k].fr ≤ u.length ∧ 0 ≤ (wordsF t u).1[k].up ∧ (wordsF t u).1[k].up ≤ u.length := by
  obtain ⟨s, hs, e⟩ := words_at t u h
  have := spans_bounds u s (List.mem_of_getElem? hs)
  rw [e]
  show 0 ≤ (s.fr : Int) ∧ (s.fr : Int) ≤ u.length ∧ 0 ≤ (s.up : Int) ∧ (s.up : Int) ≤ u.length
  omega

set_option maxRecDepth 100000 in
set_option maxHeartbeats 2000000 in
theorem textTidy_any (l t : List Int) (A B : Option Addr) (c d : Nat) (w : World) (hl : U16s l) (ht : I64s t) (hc : l.length ≤ c) (hrl : Reads w w.heap.size 1 A l.length (u16s l)) (hrt : Reads w w.heap.size 1 B t.length (i64s t)) :
    Calls Try.prog 6 #[.slice A l.length c, .slice B t.length d] w fun e w' => e = .returned (.bool true) ∧ Below w.heap.size w w' := by
  have HL := Lib.hid hrl
  have HT := Lib.hid hrt
  clear hrl hrt
  have FIN : Hid (∀ w1, Below w.heap.size w w1 → Calls Try.prog 10 #[] w1 fun e w' => e = .returned (.bool true) ∧ Below w.heap.size w w') := Lib.hid fun w1 h1 => (works_any w1).mono fun e w' ⟨he, h2⟩ => ⟨he, h1.trans (h2.mono h1.size)⟩
  rcases hv : vastF l.length t.length with _ | _
  · obtain ⟨hn, hm⟩ := vast_bd hv
    have HV := Lib.hid hv
    clear hv
    go_enter Try.func6, Try.ntmps6
    go_wp2_with fail
    refine (vast_b _ _ _ _ _ _ _ _ HV.out).mono ?_
    rintro e w' ⟨rfl, rfl⟩
    go_wp2_with fail
    refine (words_sl l t A B c d _ hl ht (by omega) hc HL.out HT.out).mono ?_
    rintro e w2 ⟨A2, c2, rfl, o2, b2⟩
    go_wp2_with fail
    refine (tidy_any l A c _ hl (by omega) ((HL.out.below b2).more b2.size)).mono ?_
    rintro e w3 ⟨A3, c3, rfl, o3, b3⟩
    have bb3 := b2.trans (b3.mono b2.size)
    have O2 := Lib.hid (own_below o2 b3)
    have hmem := tidy_mem l false
    go_wp2_with fail
    refine (words_sl (tidyF false l) t A3 B c3 d _ (fun x hx => hl x (hmem.1 x hx)) ht (by have := hmem.2; omega) (own_cap o3) (Reads.of_own o3) ((HT.out.below bb3).more bb3.size)).mono ?_
    rintro e w4 ⟨A4, c4, rfl, o4, b4⟩
    have bb4 := bb3.trans (b4.mono bb3.size)
    have P2 := Lib.hid (Reads.of_own (own_below O2.out b4))
    have P4 := Lib.hid (Reads.of_own o4)
    have tw := tidy_words t l
    have hbl := fun k h => word_bdt t l (k := k) h
    have hbm := fun k h => word_bdt t (tidyF false l) (k := k) h
    have hlen := hmem.2
    have lu := wordsF_bd t l
    have HOrd := Lib.hid (fun h => order t l h)
    have HX := Lib.hid (fun A c w h => ext_any (wordsF t l).1 A c w h (by omega))
    clear o2 o3 o4 O2 b2 b3 b4 bb3 hmem
    rw [tw.2]
    obtain ⟨L, hL⟩ : ∃ L, (wordsF t l).1 = L := ⟨_, rfl⟩
    obtain ⟨M, hM⟩ : ∃ L, (wordsF t (tidyF false l)).1 = L := ⟨_, rfl⟩
    obtain ⟨f, hf⟩ : ∃ L, (wordsF t l).2 = L := ⟨_, rfl⟩
    have hw64 : Ws64 L := by
      rw [← hL]; intro x hx
      obtain ⟨k, hk, rfl⟩ := List.mem_iff_getElem.1 hx
      obtain ⟨s, hs, e⟩ := words_at t l hk
      rw [e]
      have a1 := cut_rng (advs t (part l s)).sum
      have a2 := cut_rng (adv t 32)
      refine ⟨?_, ?_⟩
      · show -9223372036854775808 ≤ cutF _ ∧ cutF _ < 9223372036854775808
        omega
      · show -9223372036854775808 ≤ (if gapIs _ s = true then cutF _ else 0) ∧ (if gapIs _ s = true then cutF _ else 0) < 9223372036854775808
        split <;> omega
    rw [hL] at tw hbl P2 HX HOrd lu
    rw [hM] at tw hbm P4
    simp only [hL, hM, hf]
    have hLM : L.length = M.length := by have := congrArg List.length tw.1; simpa using this.symm
    rw [← hLM] at P4
    rw [← hLM]
    have HLM := Lib.hid hLM
    have HW64 := Lib.hid hw64
    have HTW := Lib.hid tw.1
    have HBL := Lib.hid hbl
    have HBM := Lib.hid hbm
    clear hL hM hf tw hbl hbm hLM hw64
    go_wp2_with fail
    go_loopw [9] (fun i wr => ∃ k : Nat, k ≤ L.length ∧ i = .int .i64 k ∧ Below w4.heap.size w4 wr) (fun i _ => L.length - (intOf i).toNat)
    case atStart => exact ⟨0, by omega, rfl, Below.refl _ _⟩
    case round =>
      obtain ⟨k, hk, rfl, hbw⟩ := hrel
      by_cases hlt : k < L.length
      · have hltm : k < M.length := by have := HLM.out; omega
        obtain ⟨ad3, e3, hab3, a0, a1, a2, a3, a4⟩ := (P2.out.below hbw).wd rfl hlt
        obtain ⟨ad7, e7, hab7, z0, z1, z2, z3, z4⟩ := (P4.out.below hbw).wd HLM.out hltm
        have b1 := HBL.out k hlt
        have b2 := HBM.out k hltm
        have hvw : vw M[k] = vw L[k] := by
          have := congrArg (fun l => l[k]?) HTW.out
          simpa [hlt, hltm] using this
        subst e3 e7
        obtain ⟨y, hy⟩ : ∃ y, L[k] = y := ⟨_, rfl⟩
        obtain ⟨z, hz⟩ : ∃ z, M[k] = z := ⟨_, rfl⟩
        rw [hy] at a0 a1 a2 a3 a4 b1 hvw
        rw [hz] at z0 z1 z2 z3 z4 b2 hvw
        obtain ⟨y0, y1, y2, y3, y4⟩ := y
        obtain ⟨x0, x1, x2, x3, x4⟩ := z
        simp only [vw, Prod.mk.injEq] at hvw
        obtain ⟨rfl, rfl, rfl, hd⟩ := hvw
        dsimp only at a0 a1 a2 a3 a4 z0 z1 z2 z3 z4 b1 b2
        have d1 : ((y1 - y0) != (x1 - x0)) = false := by rw [hd]; simp
        have d2 : ((y1 - y0) == (x1 - x0)) = true := by rw [hd]; simp
        have k1 : (k : Int) < (L.length : Int) := by omega
        obtain ⟨g0, g1, g2, g3⟩ := b1
        obtain ⟨g4, g5, g6, g7⟩ := b2
        clear hy hz hd hltm
        go_wp2_with fail
        go_quiet (fail)
        go_wp2_with fail
        go_roundw
        case rel => exact ⟨k + 1, by omega, by go_num, hbw.trans (below_drewN _ wr nq)⟩
        case measure => simp [intOf]; omega
      · obtain rfl : k = L.length := by omega
        have bbw := bb4.trans (hbw.mono bb4.size)
        clear HTW HBL HBM HLM P4 hlt hk
        go_wp2_with fail
        go_loop [10] (fun i => ∃ k : Nat, k ≤ t.length ∧ i = .int .i64 k ∧ ∀ j x, j < k → t[j]? = some x → 0 ≤ x) (fun i => t.length - (intOf i).toNat)
        case atStart => exact ⟨0, by omega, rfl, fun j x h => absurd h (by omega)⟩
        case round =>
          obtain ⟨k, hk, rfl, hall⟩ := hrel
          have HALL := Lib.hid hall
          clear hall
          by_cases hlt : k < t.length
          · obtain ⟨ad3, u3, rfl, hab3, hx3, hc3⟩ := (HT.out.below bbw).at_ hlt
            have hu3 : u3 = .int .i64 t[k] := by simpa [i64s, hlt] using hx3.symm
            subst hu3
            have hx2 := ht.at_ hlt
            have HK : Hid (t[k]? = some t[k]) := Lib.hid (List.getElem?_eq_getElem hlt)
            obtain ⟨x, hxx⟩ : ∃ x, t[k] = x := ⟨_, rfl⟩
            rw [hxx] at hc3 hx2 HK
            clear hx3 hxx
            by_cases hx0 : x < 0
            · have e1 : decide (x < 0) = true := decide_eq_true hx0
              go_wp2_with fail
              refine (FIN.out _ bbw).mono ?_
              rintro e w' ⟨rfl, hbb⟩
              go_wp2_with fail
              go_ret
              exact ⟨rfl, hbb⟩
            · have e1 : decide (x < 0) = false := decide_eq_false hx0
              go_wp2_with fail
              go_round
              case rel => exact ⟨k + 1, by omega, by go_num, fun j z h1 h2 => by
                rcases Nat.lt_succ_iff_lt_or_eq.1 h1 with h1 | rfl
                · exact HALL.out j z h1 h2
                · rw [HK.out] at h2; injection h2 with h2; omega⟩
              case measure => simp [intOf]; omega
          · obtain rfl : k = t.length := by omega
            have hord := HOrd.out fun x hx => by
              obtain ⟨j, hj, rfl⟩ := List.mem_iff_getElem.1 hx
              exact HALL.out j _ hj (List.getElem?_eq_getElem hj)
            have HXX := Lib.hid (fun A c w h => HX.out A c w HW64.out h)
            obtain ⟨le, hle⟩ : ∃ x, (extF L).1 = x := ⟨_, rfl⟩
            obtain ⟨gr, hgr⟩ : ∃ x, (extF L).2.1 = x := ⟨_, rfl⟩
            obtain ⟨fx, hfx⟩ : ∃ x, (extF L).2.2 = x := ⟨_, rfl⟩
            rw [hle, hgr] at hord
            rw [hle, hgr, hfx] at HXX
            have d1 : decide (le ≤ gr) = true := decide_eq_true hord.1
            have d2 : decide (gr ≤ cutF (advs t l).sum) = true := decide_eq_true hord.2
            clear hord HOrd HX HALL hle hgr hfx
            go_wp2_with fail
            with_reducible refine (HXX.out A2 c2 wr ((P2.out.below hbw).more hbw.size)).mono ?_
            rintro e w6 ⟨rfl, b6⟩
            have bb6 := bbw.trans (b6.mono bbw.size)
            go_wp2_with fail
            refine (wide_any l t A B c d _ hl ht (by omega) ((HL.out.below bb6).more bb6.size) ((HT.out.below bb6).more bb6.size)).mono ?_
            rintro e w7 ⟨rfl, b7⟩
            have bb7 := bb6.trans (b7.mono bb6.size)
            go_wp2_with fail
            refine (FIN.out _ bb7).mono ?_
            rintro e w8 ⟨rfl, hbb⟩
            go_wp2_with fail
            go_ret
            exact ⟨rfl, hbb⟩
  · have HV := Lib.hid hv
    clear hv
    go_enter Try.func6, Try.ntmps6
    go_wp2_with fail
    refine (vast_b _ _ _ _ _ _ _ _ HV.out).mono ?_
    rintro e w' ⟨rfl, rfl⟩
    go_wp2_with fail
    refine (FIN.out _ (Below.refl _ _)).mono ?_
    rintro e w' ⟨rfl, hb⟩
    go_wp2_with fail
    go_ret
    exact ⟨rfl, hb⟩
end Go.Proofs.Ytmpcpcagphgopaa
