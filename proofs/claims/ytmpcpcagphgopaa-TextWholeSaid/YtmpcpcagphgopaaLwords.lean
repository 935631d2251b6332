/- The law TextWords, walked: over units and advances that are read. -/
import Derived.Test.YtmpcpcagphgopaaLext
import Derived.Test.YtmpcpcagphgopaaRwords
import Derived.Deep.QuietTactic
import Derived.BigQuiet
set_option linter.unusedSimpArgs false
set_option linter.unusedVariables false
namespace Go.Proofs.Ytmpcpcagphgopaa
open Go.RowKit
attribute [local go_sem] block_of_add

theorem u16s_len (l : List Int) : (u16s l).length = l.length := by simp [u16s]
theorem i64s_len (l : List Int) : (i64s l).length = l.length := by simp [i64s]
theorem u16s_one (l : List Int) : ∀ u ∈ u16s l, u.oneCell' = true := by simp [u16s, Value.oneCell']
theorem i64s_one (l : List Int) : ∀ u ∈ i64s l, u.oneCell' = true := by simp [i64s, Value.oneCell']
theorem vast_bd {n m : Nat} (h : vastF n m = false) : n ≤ 3000 ∧ m ≤ 8192 := by simp [vastF] at h; omega
theorem vast_b (b : Bool) (A B : Option Addr) (n m c d : Nat) (w : World) (h : vastF n m = b) : Calls Try.prog 9 #[.slice A n c, .slice B m d] w fun e w' => e = .returned (.bool b) ∧ w = w' := by
  rw [← h]; exact vast_any A B n m c d w
theorem wordsF_bd (t l : List Int) : (wordsF t l).1.length ≤ l.length := by rw [wordsF, wordsOf_len]; exact spansF_len l

theorem words_sl (l t : List Int) (A B : Option Addr) (c d : Nat) (w : World) (hl : U16s l) (ht : I64s t) (hn : l.length ≤ 1048576) (hc : l.length ≤ c) (hrl : Reads w w.heap.size 1 A l.length (u16s l)) (hrt : Reads w w.heap.size 1 B t.length (i64s t)) :
    Calls Try.prog 11 #[.slice A l.length c, .slice B t.length d] w fun e w' => ∃ A' c', e = .returned (.tuple #[.slice A' (wordsF t l).1.length c', .bool (wordsF t l).2]) ∧ w'.ownsRow w.heap.size 37 5 (.slice A' (wordsF t l).1.length c') (wordsF t l).1.length (wdsCells (wordsF t l).1) ∧ Below w.heap.size w w' :=
  (words_any l t A B c d w hl ht hn hc hrl hrt).mono fun e w' ⟨v, he, ho, hb⟩ => by
    obtain ⟨A', c', rfl⟩ := own_form ho
    exact ⟨A', c', he, ho, hb⟩
theorem rwords_sl (l t : List Int) (A B : Option Addr) (c d : Nat) (w : World) (hl : U16s l) (ht : I64s t) (hn : l.length ≤ 1000000) (hc : l.length ≤ c) (hrl : Reads w w.heap.size 1 A l.length (u16s l)) (hrt : Reads w w.heap.size 1 B t.length (i64s t)) :
    Calls Try.prog 12 #[.slice A l.length c, .slice B t.length d] w fun e w' => ∃ A' c', e = .returned (.tuple #[.slice A' (wordsF t l).1.length c', .bool (wordsF t l).2]) ∧ w'.ownsRow w.heap.size 37 5 (.slice A' (wordsF t l).1.length c') (wordsF t l).1.length (wdsCells (wordsF t l).1) ∧ Below w.heap.size w w' :=
  (rwords_any l t A B c d w hl ht hn hc hrl hrt).mono fun e w' ⟨v, he, ho, hb⟩ => by
    obtain ⟨A', c', rfl⟩ := own_form ho
    exact ⟨A', c', he, ho, hb⟩

set_option maxRecDepth 100000 in
set_option maxHeartbeats 2000000 in
theorem textWords_any (l t : List Int) (A B : Option Addr) (c d : Nat) (w : World) (hl : U16s l) (ht : I64s t) (hc : l.length ≤ c) (hrl : Reads w w.heap.size 1 A l.length (u16s l)) (hrt : Reads w w.heap.size 1 B t.length (i64s t)) :
    Calls Try.prog 3 #[.slice A l.length c, .slice B t.length d] w fun e w' => e = .returned (.bool true) ∧ Below w.heap.size w w' := by
  have HL := Lib.hid hrl
  have HT := Lib.hid hrt
  clear hrl hrt
  rcases hv : vastF l.length t.length with _ | _
  · obtain ⟨hn, hm⟩ := vast_bd hv
    have HV := Lib.hid hv
    clear hv
    go_enter Try.func3, Try.ntmps3
    go_wp2_with fail
    refine (vast_b _ _ _ _ _ _ _ _ HV.out).mono ?_
    rintro e w' ⟨rfl, rfl⟩
    go_wp2_with (first
      | (at_builtin; refine wpList_copyE rfl _ _ rfl el_u16 rfl (u16s l) rfl HL.out (Nat.le_refl _) (u16s_one l) (by omega) (by omega) ?_; intro A1 c1 w1 hown1 hb1)
      | (at_builtin; refine wpList_copyE rfl _ _ rfl el_i64 rfl (i64s t) rfl (HT.out.below hb1) hb1.size (i64s_one t) (by omega) (by omega) ?_; intro A2 c2 w2 hown2 hb2))
    have bb2 := hb1.trans (hb2.mono hb1.size)
    have o1 := own_below hown1 hb2
    refine (words_sl l t A1 A2 c1 c2 _ hl ht (by omega) (own_cap o1) (Reads.of_own o1) (Reads.of_own hown2)).mono ?_
    rintro e w3 ⟨A3, c3, rfl, o3, b3⟩
    have bb3 := bb2.trans (b3.mono bb2.size)
    have o1' := own_below o1 b3
    go_wp2_with fail
    refine (rwords_sl l t A B c d _ hl ht (by omega) hc ((HL.out.below bb3).more bb3.size) ((HT.out.below bb3).more bb3.size)).mono ?_
    rintro e w4 ⟨A4, c4, rfl, o4, b4⟩
    have bb4 := bb3.trans (b4.mono bb3.size)
    have o1'' := own_below o1' b4
    have o3' := own_below o3 b4
    go_wp2_with fail
    refine (wide_any l t A1 B c1 d _ hl ht (by omega) (Reads.of_own o1'') ((HT.out.below bb4).more bb4.size)).mono ?_
    rintro e w5 ⟨rfl, b5⟩
    have bb5 := bb4.trans (b5.mono bb4.size)
    go_wp2_with fail
    refine (rwide_any l t A B c d _ hl ht (by omega) ((HL.out.below bb5).more bb5.size) ((HT.out.below bb5).more bb5.size)).mono ?_
    rintro e w6 ⟨rfl, b6⟩
    have bb6 := bb5.trans (b6.mono bb5.size)
    have b56 := b5.trans (b6.mono b5.size)
    have p1 := Lib.hid (Reads.of_own (own_below o1'' b56))
    have p3 := Lib.hid (Reads.of_own (own_below o3' b56))
    have p4 := Lib.hid (Reads.of_own (own_below o4 b56))
    clear hown1 hown2 o1 o1' o3 o4 o1'' o3' hb1 hb2 bb2 b3 bb3 b4 bb4 b5 bb5 b6 b56
    go_wp2_with fail
    go_loopw [14] (fun i wr => ∃ k n : Nat, k ≤ l.length ∧ i = .int .i64 k ∧ wr = w6.drewN n) (fun i _ => l.length - (intOf i).toNat)
    case atStart => exact ⟨0, 0, by omega, rfl, rfl⟩
    case round =>
      obtain ⟨k, n, hk, rfl, rfl⟩ := hrel
      by_cases hlt : k < l.length
      · obtain ⟨ad, u, rfl, hab, hx, hc1⟩ := (HL.out.below bb6).at_ hlt
        obtain ⟨ad2, u2, rfl, hab2, hx2, hc2⟩ := p1.out.at_ hlt
        have hu : u = .int .u16 l[k] := by simpa [u16s, hlt] using hx.symm
        have hu2 : u2 = .int .u16 l[k] := by simpa [u16s, hlt] using hx2.symm
        subst hu hu2
        have hk1 : (k : Int) < (l.length : Int) := by omega
        clear hx hx2
        go_wp2_with fail
        go_quiet (fail)
        go_wp2_with fail
        go_roundw
        case rel => exact ⟨k + 1, _, by omega, by go_num, rfl⟩
        case measure => simp [intOf]; omega
      · obtain rfl : k = l.length := by omega
        go_wp2_with fail
        refine (same_self (wordsF t l).1 A3 A4 c3 c4 (w6.drewN n) (by have := wordsF_bd t l; omega) (p3.out.drewN n) (p4.out.drewN n)).mono ?_
        rintro e w7 ⟨rfl, b7⟩
        have bb7 := (bb6.trans (below_drewN _ w6 n)).trans (b7.mono bb6.size)
        go_wp2_with fail
        refine (works_any _).mono ?_
        rintro e w8 ⟨rfl, b8⟩
        have bb8 := bb7.trans (b8.mono bb7.size)
        go_wp2_with fail
        go_ret
        exact ⟨rfl, bb8⟩
  · have HV := Lib.hid hv
    clear hv
    go_enter Try.func3, Try.ntmps3
    go_wp2_with fail
    refine (vast_b _ _ _ _ _ _ _ _ HV.out).mono ?_
    rintro e w' ⟨rfl, rfl⟩
    go_wp2_with fail
    refine (works_any _).mono ?_
    rintro e w' ⟨rfl, hb⟩
    go_wp2_with fail
    go_ret
    exact ⟨rfl, hb⟩
end Go.Proofs.Ytmpcpcagphgopaa
