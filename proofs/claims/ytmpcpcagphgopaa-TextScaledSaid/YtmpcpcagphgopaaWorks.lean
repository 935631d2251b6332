/- The contract of jamblaw06.works: the chapter's examples. -/
import Derived.Test.YtmpcpcagphgopaaLawb
import Derived.Test.YtmpcpcagphgopaaWalk
import Derived.Test.YtmpcpcagphgopaaExtent
set_option linter.unusedSimpArgs false
set_option linter.unusedVariables false
namespace Go.Proofs.Ytmpcpcagphgopaa
open Go.RowKit
attribute [local go_sem] block_of_add

def L1 : List Int := [97, 98, 32, 32, 97]
def L2 : List Int := [32, 97, 32, 10, 32, 98, 10]
def L3 : List Int := [97, 98, 32, 97]
def M1 : List Wd := [⟨0, 2, 30, 0, 0⟩, ⟨4, 5, 10, 5, 0⟩]
def M2 : List Wd := [⟨1, 2, 10, 0, 0⟩, ⟨5, 6, 20, 0, 1⟩]
theorem wordsF1 : wordsF tableF L1 = (M1, false) := by decide
theorem wordsF2 : wordsF tableF L2 = (M2, false) := by decide
theorem extF1 : extF M1 = (30, 45, false) := by decide
theorem sumF3 : cutF (advs tableF L3).sum = 45 ∧ cutB (advs tableF L3).sum = false := by decide
theorem tab64 : I64s tableF := by unfold I64s; decide
theorem u16L1 : U16s L1 := by unfold U16s; decide
theorem u16L2 : U16s L2 := by unfold U16s; decide
theorem u16L3 : U16s L3 := by unfold U16s; decide
theorem units1 (w : World) : Calls Try.prog 20 #[.string { data := #[97, 98, 32, 32, 97] }] w fun e w' => ∃ A c, e = .returned (.slice A 5 c) ∧ w'.ownsRow w.heap.size 31 1 (.slice A 5 c) 5 (u16s L1) ∧ Below w.heap.size w w' := units_any { data := #[97, 98, 32, 32, 97] } w (by decide)
theorem units2 (w : World) : Calls Try.prog 20 #[.string { data := #[32, 97, 32, 10, 32, 98, 10] }] w fun e w' => ∃ A c, e = .returned (.slice A 7 c) ∧ w'.ownsRow w.heap.size 31 1 (.slice A 7 c) 7 (u16s L2) ∧ Below w.heap.size w w' := units_any { data := #[32, 97, 32, 10, 32, 98, 10] } w (by decide)
theorem units3 (w : World) : Calls Try.prog 20 #[.string { data := #[97, 98, 32, 97] }] w fun e w' => ∃ A c, e = .returned (.slice A 4 c) ∧ w'.ownsRow w.heap.size 31 1 (.slice A 4 c) 4 (u16s L3) ∧ Below w.heap.size w w' := units_any { data := #[97, 98, 32, 97] } w (by decide)

theorem words1 (A B : Option Addr) (c : Nat) (w : World) (hc : 5 ≤ c) (h1 : Reads w w.heap.size 1 A 5 (u16s L1)) (h2 : Reads w w.heap.size 1 B 99 (i64s tableF)) :
    Calls Try.prog 11 #[.slice A 5 c, .slice B 99 99] w fun e w' => ∃ A' c', e = .returned (.tuple #[.slice A' 2 c', .bool false]) ∧ w'.ownsRow w.heap.size 37 5 (.slice A' 2 c') 2 (wdsCells M1) ∧ Below w.heap.size w w' :=
  (words_any L1 tableF A B c 99 w u16L1 tab64 (by decide) hc h1 h2).mono fun e w' ⟨v, he, ho, hb⟩ => by
    rw [wordsF1] at he ho
    obtain ⟨A', c', rfl⟩ := own_form ho
    exact ⟨A', c', he, ho, hb⟩
theorem words2 (A B : Option Addr) (c : Nat) (w : World) (hc : 7 ≤ c) (h1 : Reads w w.heap.size 1 A 7 (u16s L2)) (h2 : Reads w w.heap.size 1 B 99 (i64s tableF)) :
    Calls Try.prog 11 #[.slice A 7 c, .slice B 99 99] w fun e w' => ∃ A' c', e = .returned (.tuple #[.slice A' 2 c', .bool false]) ∧ w'.ownsRow w.heap.size 37 5 (.slice A' 2 c') 2 (wdsCells M2) ∧ Below w.heap.size w w' :=
  (words_any L2 tableF A B c 99 w u16L2 tab64 (by decide) hc h1 h2).mono fun e w' ⟨v, he, ho, hb⟩ => by
    rw [wordsF2] at he ho
    obtain ⟨A', c', rfl⟩ := own_form ho
    exact ⟨A', c', he, ho, hb⟩
theorem ext1 (A : Option Addr) (c : Nat) (w : World) (h : Reads w w.heap.size 5 A 2 (wdsCells M1)) :
    Calls Try.prog 16 #[.slice A 2 c] w fun e w' => e = .returned (.tuple #[.int .i64 30, .int .i64 45, .bool false]) ∧ Below w.heap.size w w' :=
  (ext_any M1 A c w (by unfold Ws64 W64; decide) (by decide) h).mono fun e w' ⟨he, hb⟩ => ⟨by rw [he, extF1], hb⟩
theorem wide3 (A B : Option Addr) (c : Nat) (w : World) (h1 : Reads w w.heap.size 1 A 4 (u16s L3)) (h2 : Reads w w.heap.size 1 B 99 (i64s tableF)) :
    Calls Try.prog 13 #[.slice A 4 c, .slice B 99 99] w fun e w' => e = .returned (.tuple #[.int .i64 45, .bool false]) ∧ Below w.heap.size w w' :=
  (wide_any L3 tableF A B c 99 w u16L3 tab64 (by decide) h1 h2).mono fun e w' ⟨he, hb⟩ => ⟨by rw [he, sumF3.1, sumF3.2], hb⟩

set_option maxRecDepth 100000 in
set_option maxHeartbeats 2000000 in
theorem works_any (w : World) : Calls Try.prog 10 #[] w fun e w' => e = .returned (.bool true) ∧ Below w.heap.size w w' := by
  go_enter Try.func10, Try.ntmps10
  go_wp2_with fail
  refine (units1 _).mono ?_
  rintro e w1 ⟨A1, c1, rfl, o1, b1⟩
  go_wp2_with fail
  refine (table_any _).mono ?_
  rintro e w2 ⟨A2, rfl, o2, b2⟩
  have o1' := own_below o1 b2
  go_wp2_with fail
  refine (words1 A1 A2 c1 _ (own_cap o1) (Reads.of_own o1') (Reads.of_own o2)).mono ?_
  rintro e w3 ⟨A3, c3, rfl, o3, b3⟩
  have bb3 := (b1.trans (b2.mono b1.size)).trans (b3.mono (Nat.le_trans b1.size b2.size))
  go_wp2_with fail
  refine (units2 _).mono ?_
  rintro e w4 ⟨A4, c4, rfl, o4, b4⟩
  go_wp2_with fail
  refine (table_any _).mono ?_
  rintro e w5 ⟨A5, rfl, o5, b5⟩
  have o4' := own_below o4 b5
  go_wp2_with fail
  refine (words2 A4 A5 c4 _ (own_cap o4) (Reads.of_own o4') (Reads.of_own o5)).mono ?_
  rintro e w6 ⟨A6, c6, rfl, o6, b6⟩
  have bb6 := (b4.trans (b5.mono b4.size)).trans (b6.mono (Nat.le_trans b4.size b5.size))
  have o3' := own_below o3 bb6
  go_wp2_with fail
  refine (ext1 A3 c3 _ (Reads.of_own o3')).mono ?_
  rintro e w7 ⟨rfl, b7⟩
  go_wp2_with fail
  refine (units3 _).mono ?_
  rintro e w8 ⟨A8, c8, rfl, o8, b8⟩
  go_wp2_with fail
  refine (table_any _).mono ?_
  rintro e w9 ⟨A9, rfl, o9, b9⟩
  have o8' := own_below o8 b9
  go_wp2_with fail
  refine (wide3 A8 A9 c8 _ (Reads.of_own o8') (Reads.of_own o9)).mono ?_
  rintro e w10 ⟨rfl, b10⟩
  have bb10 := ((b7.trans (b8.mono b7.size)).trans (b9.mono (Nat.le_trans b7.size b8.size))).trans (b10.mono (Nat.le_trans (Nat.le_trans b7.size b8.size) b9.size))
  have bb := (bb3.trans (bb6.mono bb3.size)).trans (bb10.mono (Nat.le_trans bb3.size bb6.size))
  have r3 := Reads.of_own (own_below o3' bb10)
  have r6 := Reads.of_own (own_below o6 bb10)
  obtain ⟨d3, rfl, hd3, p0, p1, p2, p3, p4⟩ := r3.wd (k := 0) rfl (by decide)
  obtain ⟨d3', he, hd3', q0, q1, q2, q3, q4⟩ := r3.wd (k := 1) rfl (by decide)
  injection he with he
  subst he
  obtain ⟨d6, rfl, hd6, s0, s1, s2, s3, s4⟩ := r6.wd (k := 0) rfl (by decide)
  obtain ⟨d6', he, hd6', t0, t1, t2, t3, t4⟩ := r6.wd (k := 1) rfl (by decide)
  injection he with he
  subst he
  simp only [M1, M2, List.getElem_cons_zero, List.getElem_cons_succ] at p0 p1 p2 p3 p4 q0 q1 q2 q3 q4 s0 s1 s2 s3 s4 t0 t1 t2 t3 t4
  simp only [Nat.zero_mul, Nat.one_mul, Addr.add, if_true, if_false, Nat.reduceEqDiff, Nat.add_assoc, Nat.reduceAdd] at p0 p1 p2 p3 p4 q0 q1 q2 q3 q4 s0 s1 s2 s3 s4 t0 t1 t2 t3 t4
  clear r3 r6 o1 o2 o1' o3 o4 o5 o4' o6 o3' o8 o9 o8'
  go_wp2_with fail
  go_ret
  exact ⟨rfl, bb⟩
end Go.Proofs.Ytmpcpcagphgopaa
