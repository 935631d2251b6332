/- The law TextJoined, walked. -/
import Derived.Test.YtmpcpcagphgopaaLwords
import Derived.Test.YtmpcpcagphgopaaScale
set_option linter.unusedSimpArgs false
set_option linter.unusedVariables false
namespace Go.Proofs.Ytmpcpcagphgopaa
open Go.RowKit
attribute [local go_sem] block_of_add eqW guardW

theorem u16s_join (u v : List Int) : u16s u ++ [Value.int .u16 10] ++ u16s v = u16s (u ++ 10 :: v) := by simp [u16s]
theorem u16_join {u v : List Int} (hu : U16s u) (hv : U16s v) : U16s (u ++ 10 :: v) := by
  intro x hx
  simp only [List.mem_append, List.mem_cons] at hx
  rcases hx with h | rfl | h
  · exact hu x h
  · omega
  · exact hv x h

theorem Reads.pre {w : World} {B n m : Nat} {A : Option Addr} {L X : List Wd} (h : Reads w B 5 A (n + m) (wdsCells (L ++ X))) (hn : L.length = n) : Reads w B 5 A n (wdsCells L) := by
  refine ⟨by rw [wdsCells_len, hn], fun h0 => ?_⟩
  obtain ⟨ad, e, hb, hc⟩ := h.2 (by omega)
  refine ⟨ad, e, hb, fun j x hx => hc j x ?_⟩
  have hj := (List.getElem?_eq_some_iff.1 hx).1
  rw [show wdsCells (L ++ X) = wdsCells L ++ wdsCells X by simp [wdsCells], List.getElem?_append_left hj]
  exact hx
/-- Where the last word of a text ends. -/
theorem last_up (t u : List Int) : (wordsF t u).1.length = 0 ∧ upAt (spansF u) (spansF u).length = 0 ∨ 0 < (wordsF t u).1.length ∧ ∀ x, (wordsF t u).1[(wordsF t u).1.length - 1]? = some x → x.up = (upAt (spansF u) (spansF u).length : Int) := by
  have hl : (wordsF t u).1.length = (spansF u).length := by rw [wordsF, wordsOf_len]
  rcases Nat.eq_zero_or_pos (wordsF t u).1.length with h | h
  · left
    have e : (spansF u).length = 0 := by omega
    exact ⟨h, by rw [e]; rfl⟩
  · refine .inr ⟨h, fun x hx => ?_⟩
    have hk : (wordsF t u).1.length - 1 < (wordsF t u).1.length := by omega
    obtain ⟨s, hs, e⟩ := words_at t u hk
    rw [List.getElem?_eq_getElem hk] at hx
    injection hx with hx
    rw [← hx, e]
    rw [hl] at hs
    have hn : ¬ (spansF u).length = 0 := by omega
    simp [upAt, hn, hs, mkW]

theorem word_bds (t u : List Int) {k : Nat} (h : k < (wordsF t u).1.length) : 0 ≤ (wordsF t u).1[k].fr ∧ (wordsF t u).1[k].fr ≤ u.length ∧ 0 ≤ (wordsF t u).1[k].up ∧ (wordsF t u).1[k].up ≤ u.length ∧ 0 ≤ (wordsF t u).1[k].forced ∧ (wordsF t u).1[k].forced ≤ u.length := by
  obtain ⟨s, hs, e⟩ := words_at t u h
  have := spans_bounds u s (List.mem_of_getElem? hs)
  rw [e]
  show 0 ≤ (s.fr : Int) ∧ (s.fr : Int) ≤ u.length ∧ 0 ≤ (s.up : Int) ∧ (s.up : Int) ≤ u.length ∧ 0 ≤ (s.ends : Int) ∧ (s.ends : Int) ≤ u.length
  omega
theorem behind_bd (u : List Int) : behind u ≤ 1 + u.length := by
  have := List.count_le_length (a := 10) (l := u.drop (upAt (spansF u) (spansF u).length))
  unfold behind; simp at this; omega
theorem joined_sl (u v t : List Int) (A B : Option Addr) (c d : Nat) (w : World) (hl : U16s (u ++ 10 :: v)) (ht : I64s t) (hn : u.length + 1 + v.length ≤ 1048576) (hc : u.length + 1 + v.length ≤ c) (hrl : Reads w w.heap.size 1 A (u.length + 1 + v.length) (u16s (u ++ 10 :: v))) (hrt : Reads w w.heap.size 1 B t.length (i64s t)) :
    Calls Try.prog 11 #[.slice A (u.length + 1 + v.length) c, .slice B t.length d] w fun e w' => ∃ A' c', e = .returned (.tuple #[.slice A' ((wordsF t u).1.length + (wordsF t v).1.length) c', .bool ((wordsF t u).2 || (wordsF t v).2)]) ∧
      (wordsF t u).1.length + (wordsF t v).1.length ≤ c' ∧ Reads w' w'.heap.size 5 A' ((wordsF t u).1.length + (wordsF t v).1.length) (wdsCells ((wordsF t u).1 ++ (wordsF t v).1.mapIdx (shiftW (u.length + 1) (behind u)))) ∧ Below w.heap.size w w' := by
  have hlen : (u ++ 10 :: v).length = u.length + 1 + v.length := by simp; omega
  have h := words_sl (u ++ 10 :: v) t A B c d w hl ht (by omega) (by omega) (by rw [hlen]; exact hrl) hrt
  rw [hlen, (join_words t u v).1, (join_words t u v).2] at h
  simp only [List.length_append, List.length_mapIdx] at h
  exact h.mono fun e w' ⟨A', c', he, ho, hb⟩ => ⟨A', c', he, own_cap ho, Reads.of_own ho, hb⟩

set_option maxRecDepth 100000 in
set_option maxHeartbeats 2000000 in
theorem textJoined_any (u v t : List Int) (A B C : Option Addr) (c d e0 : Nat) (w : World) (hu : U16s u) (hv : U16s v) (ht : I64s t) (hc : u.length ≤ c) (hd : v.length ≤ d) (hru : Reads w w.heap.size 1 A u.length (u16s u)) (hrv : Reads w w.heap.size 1 B v.length (u16s v)) (hrt : Reads w w.heap.size 1 C t.length (i64s t)) :
    Calls Try.prog 7 #[.slice A u.length c, .slice B v.length d, .slice C t.length e0] w fun e w' => e = .returned (.bool true) ∧ Below w.heap.size w w' := by
  have HU := Lib.hid hru
  have HV := Lib.hid hrv
  have HT := Lib.hid hrt
  clear hru hrv hrt
  have FIN : Hid (∀ w1, Below w.heap.size w w1 → Calls Try.prog 10 #[] w1 fun e w' => e = .returned (.bool true) ∧ Below w.heap.size w w') := Lib.hid fun w1 h1 => (works_any w1).mono fun e w' ⟨he, h2⟩ => ⟨he, h1.trans (h2.mono h1.size)⟩
  rcases hx : vastF u.length t.length with _ | _
  · obtain ⟨hn, hm⟩ := vast_bd hx
    have HX := Lib.hid hx
    clear hx
    rcases hy : vastF v.length t.length with _ | _
    · obtain ⟨hn2, -⟩ := vast_bd hy
      have HY := Lib.hid hy
      clear hy
      go_enter Try.func7, Try.ntmps7
      go_wp2_with fail
      refine (vast_b _ _ _ _ _ _ _ _ HX.out).mono ?_
      rintro e w' ⟨rfl, rfl⟩
      go_wp2_with fail
      refine (vast_b _ _ _ _ _ _ _ _ HY.out).mono ?_
      rintro e w' ⟨rfl, rfl⟩
      go_wp2_with fail
      refine (words_sl u t A C c e0 _ hu ht (by omega) hc HU.out HT.out).mono ?_
      rintro e w2 ⟨A2, c2, rfl, o2, b2⟩
      go_wp2_with fail
      refine (words_sl v t B C d e0 _ hv ht (by omega) hd ((HV.out.below b2).more b2.size) ((HT.out.below b2).more b2.size)).mono ?_
      rintro e w3 ⟨A3, c3, rfl, o3, b3⟩
      have bb3 := b2.trans (b3.mono b2.size)
      have o2' := own_below o2 b3
      have O2 := Lib.hid o2'
      have O3 := Lib.hid o3
      clear o2 o2' o3
      go_wp2_with (first
        | (at_builtin; refine wpList_copyE rfl _ _ rfl el_u16 rfl (u16s u) rfl (HU.out.below bb3) bb3.size (u16s_one u) (by omega) (by omega) ?_; intro A4 c4 w4 hown4 hb4)
        | (at_builtin; refine wpList_app rfl _ _ rfl el_u16 hown4 hb4.size rfl [_] rfl (by simp) (by simp [Value.oneCell']) (by omega) (by omega) ?_; intro A5 c5 w5 hown5 hB5 hg5 _)
        | (at_builtin; refine wpList_copy rfl _ _ rfl el_u16 hown5 (hB5 _ _ (Nat.le_refl _) hb4).size rfl (u16s v) rfl ((HV.out.below bb3).below ((hB5 _ _ (Nat.le_refl _) hb4).mono bb3.size)) (u16s_one v) (by omega) (by omega) ?_; intro A6 c6 w6 hown6 hB6 hg6))
      have hb6 : Below w3.heap.size w3 w6 := hB6 _ _ (Nat.le_refl _) (hB5 _ _ (Nat.le_refl _) hb4)
      have bb6 := bb3.trans (hb6.mono bb3.size)
      rw [u16s_join] at hown6
      have cap6 := own_cap hown6
      have HC := Lib.hid (joined_sl u v t A6 C c6 e0 w6 (u16_join hu hv) ht (by omega) cap6 (Reads.of_own hown6) ((HT.out.below bb6).more bb6.size))
      clear hown4 hown5 hown6 hg5 hg6 hB5 hB6 hb4
      with_reducible refine HC.out.mono ?_
      rintro e w7 ⟨A7, c7, rfl, hc7, hr7, b7⟩
      have bb7 := bb6.trans (b7.mono bb6.size)
      have b37 := hb6.trans (b7.mono hb6.size)
      have P2 := Lib.hid (Reads.of_own (own_below O2.out b37))
      have P3 := Lib.hid (Reads.of_own (own_below O3.out b37))
      have P7 := Lib.hid hr7
      have lu := wordsF_bd t u
      have lv := wordsF_bd t v
      clear hr7 HC O2 O3 bb6 hb6 b7 b37 bb3 b3 b2
      obtain ⟨Lu, hLu⟩ : ∃ L, (wordsF t u).1 = L := ⟨_, rfl⟩
      obtain ⟨Lv, hLv⟩ : ∃ L, (wordsF t v).1 = L := ⟨_, rfl⟩
      obtain ⟨eu, heu⟩ : ∃ L, (wordsF t u).2 = L := ⟨_, rfl⟩
      obtain ⟨ev, hev⟩ : ∃ L, (wordsF t v).2 = L := ⟨_, rfl⟩
      rw [hLu] at lu P2 P7
      rw [hLv] at lv P3 P7
      rw [hLu, hLv] at hc7
      simp only [hLu, hLv, heu, hev]
      have HLU := Lib.hid hLu
      have HLV := Lib.hid hLv
      clear hLu hLv heu hev
      have PJ := Lib.hid (P7.out.pre rfl)
      have HLAST := Lib.hid (last_up t u)
      rw [HLU.out] at HLAST
      have hA := (whole u).2.2
      have HB : Hid (behind u = 1 + (u.drop (upAt (spansF u) (spansF u).length)).count 10) := Lib.hid rfl
      obtain ⟨a, ha⟩ : ∃ a, upAt (spansF u) (spansF u).length = a := ⟨_, rfl⟩
      rw [ha] at hA HLAST HB
      clear ha
      rcases eu with _ | _
      all_goals
        go_wp2_with fail
        with_reducible refine (same_self Lu A7 A2 c7 c2 _ (by omega) PJ.out P2.out).mono ?_
        rintro e w8 ⟨rfl, b8⟩
        have bb8 := bb7.trans (b8.mono bb7.size)
        have Q2 := Lib.hid (((P2.out.below b8)).more b8.size)
        have Q3 := Lib.hid (((P3.out.below b8)).more b8.size)
        have Q7 := Lib.hid (((P7.out.below b8)).more b8.size)
        have hcase : decide (0 < Lu.length) = false ∧ a ≤ 0 ∨ decide (0 < Lu.length) = true ∧ 0 < Lu.length ∧ ∃ ad : Addr, A2 = some ad ∧ w8.cell? ⟨ad.block, (ad.add ((Lu.length - 1) * 5)).off + 1, none⟩ = some (.int .i64 (a : Int)) := by
          rcases HLAST.out with ⟨h1, h2⟩ | ⟨h1, h2⟩
          · exact .inl ⟨decide_eq_false (by omega), by omega⟩
          · obtain ⟨ad, e, hab, a0, a1, a2, a3, a4⟩ := Q2.out.wd rfl (show Lu.length - 1 < Lu.length by omega)
            exact .inr ⟨decide_eq_true h1, h1, ad, e, by rw [a1, h2 _ (List.getElem?_eq_getElem _)]⟩
        rcases hcase with ⟨dl, ha0⟩ | ⟨dl, hl0, ad, rfl, hcl⟩
        all_goals
          try have i0 : (0 : Int) ≤ (Lu.length : Int) - 1 := by omega
          go_wp2_with fail
          go_loop [14, 16] (fun s i => ∃ j b : Nat, a ≤ j ∧ j ≤ u.length ∧ i = .int .i64 j ∧ s = .int .i64 b ∧ b ≤ 1 + j ∧ b = 1 + (seg u a j).count 10) (fun _ i => u.length - (intOf i).toNat)
          case atStart =>
            first
              | exact ⟨a, 1, Nat.le_refl _, hA, rfl, rfl, by omega, by rw [seg_nil]; rfl⟩
              | exact ⟨0, 1, ha0, by omega, rfl, rfl, by omega, by rw [show a = 0 by omega, seg_nil]; rfl⟩
          case round =>
            obtain ⟨j, b, hj1, hj2, rfl, rfl, hb1, hb2⟩ := hrel
            have HB2 := Lib.hid hb2
            clear hb2
            by_cases hju : j < u.length
            · obtain ⟨ad3, u3, rfl, hab3, hx3, hc3⟩ := (HU.out.below bb8).at_ hju
              have hu3 : u3 = .int .u16 u[j] := by simpa [u16s, hju] using hx3.symm
              subst hu3
              have HS := Lib.hid (seg_snoc u hj1 hju)
              obtain ⟨x, hxx⟩ : ∃ x, u[j] = x := ⟨_, rfl⟩
              rw [hxx] at hc3 HS
              clear hx3 hxx
              rcases hx10 : (x == 10) with _ | _
              · go_wp2_with fail
                go_round
                case rel => exact ⟨j + 1, b, by omega, by omega, by go_num, rfl, by omega, by rw [HS.out, List.count_append, HB2.out]; simp [List.count_cons, hx10]⟩
                case measure => simp [intOf]; omega
              · go_wp2_with fail
                go_round
                case rel => exact ⟨j + 1, b + 1, by omega, by omega, by go_num, by go_num, by omega, by rw [HS.out, List.count_append, HB2.out]; simp [List.count_cons, hx10]; omega⟩
                case measure => simp [intOf]; omega
            · obtain rfl : j = u.length := by omega
              have HBB : Hid (b = behind u) := Lib.hid (by rw [HB2.out, HB.out, seg_end])
              go_wp2_with fail
              have hbb1 : b ≤ 3001 := by have := behind_bd u; have := HBB.out; omega
              clear HB2 HLAST hb1 hj1 hj2 hju PJ
              go_loopw [17] (fun i wr => ∃ k : Nat, k ≤ Lv.length ∧ i = .int .i64 k ∧ Below w8.heap.size w8 wr) (fun i _ => Lv.length - (intOf i).toNat)
              case atStart => exact ⟨0, by omega, rfl, Below.refl _ _⟩
              case round =>
                obtain ⟨k, hk, rfl, hbw⟩ := hrel
                by_cases hlt : k < Lv.length
                · have hlt7 : Lu.length + k < (Lu ++ Lv.mapIdx (shiftW (u.length + 1) (behind u))).length := by simp; omega
                  obtain ⟨ad3, e3, hab3, a0, a1, a2, a3, a4⟩ := (Q3.out.below hbw).wd rfl hlt
                  obtain ⟨ad7, e7, hab7, z0, z1, z2, z3, z4⟩ := (Q7.out.below hbw).wd (by simp) hlt7
                  have hg : (Lu ++ Lv.mapIdx (shiftW (u.length + 1) (behind u)))[Lu.length + k] = shiftW (u.length + 1) (behind u) k Lv[k] := by
                    rw [List.getElem_append_right (by omega)]
                    simp
                  have hbd : 0 ≤ Lv[k].fr ∧ Lv[k].fr ≤ v.length ∧ 0 ≤ Lv[k].up ∧ Lv[k].up ≤ v.length ∧ 0 ≤ Lv[k].forced ∧ Lv[k].forced ≤ v.length := by
                    have := HLV.out; subst this; exact word_bds t v hlt
                  rw [hg] at z0 z1 z2 z3 z4
                  subst e3 e7
                  obtain ⟨y, hy⟩ : ∃ y, Lv[k] = y := ⟨_, rfl⟩
                  rw [hy] at a0 a1 a2 a3 a4 z0 z1 z2 z3 z4 hbd
                  obtain ⟨y0, y1, y2, y3, y4⟩ := y
                  dsimp only [shiftW] at a0 a1 a2 a3 a4 z0 z1 z2 z3 z4 hbd
                  rw [← HBB.out] at z4
                  clear hy hg hlt7
                  rw [show y0 + ((u.length + 1 : Nat) : Int) = y0 + (u.length : Int) + 1 by omega] at z0
                  rw [show y1 + ((u.length + 1 : Nat) : Int) = y1 + (u.length : Int) + 1 by omega] at z1
                  obtain ⟨g0, g1, g2, g3, g4, g5⟩ := hbd
                  have hb7 : ad7.block < wr.heap.size := by have := hbw.size; omega
                  have q1 : (⟨ad7.block, (ad7.add ((Lu.length + k) * 5)).off + 1, none⟩ : Addr).block < wr.heap.size := hb7
                  rcases hk0 : ((k : Int) == 0) with _ | _
                  · have hk0' : ¬ k = 0 := by simpa using hk0
                    simp only [hk0', if_false, Int.add_zero, Int.natCast_zero] at z4
                    clear hk0'
                    go_wp2_with fail
                    go_region
                    go_wp2_with fail
                    go_roundw
                    case rel => exact ⟨k + 1, by omega, by go_num, (hbw.alloc hbw.size _).drew⟩
                    case measure => simp [intOf]; omega
                  · have hk0' : k = 0 := by simpa using hk0
                    simp only [hk0', if_true] at z4
                    rw [← hk0'] at z4
                    clear hk0'
                    go_wp2_with fail
                    go_region
                    go_wp2_with fail
                    go_roundw
                    case rel => exact ⟨k + 1, by omega, by go_num, (hbw.alloc hbw.size _).drew⟩
                    case measure => simp [intOf]; omega
                · obtain rfl : k = Lv.length := by omega
                  go_wp2_with fail
                  with_reducible refine (FIN.out _ (bb8.trans (hbw.mono bb8.size))).mono ?_
                  rintro e w9 ⟨rfl, hbb⟩
                  go_wp2_with fail
                  go_ret
                  exact ⟨rfl, hbb⟩
    · have HY := Lib.hid hy
      clear hy
      go_enter Try.func7, Try.ntmps7
      go_wp2_with fail
      refine (vast_b _ _ _ _ _ _ _ _ HX.out).mono ?_
      rintro e w' ⟨rfl, rfl⟩
      go_wp2_with fail
      refine (vast_b _ _ _ _ _ _ _ _ HY.out).mono ?_
      rintro e w' ⟨rfl, rfl⟩
      go_wp2_with fail
      refine (FIN.out _ (Below.refl _ _)).mono ?_
      rintro e w' ⟨rfl, hb⟩
      go_wp2_with fail
      go_ret
      exact ⟨rfl, hb⟩
  · have HX := Lib.hid hx
    clear hx
    go_enter Try.func7, Try.ntmps7
    go_wp2_with fail
    refine (vast_b _ _ _ _ _ _ _ _ HX.out).mono ?_
    rintro e w' ⟨rfl, rfl⟩
    go_wp2_with fail
    refine (FIN.out _ (Below.refl _ _)).mono ?_
    rintro e w' ⟨rfl, hb⟩
    go_wp2_with fail
    go_ret
    exact ⟨rfl, hb⟩
end Go.Proofs.Ytmpcpcagphgopaa
