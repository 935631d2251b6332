/- Two texts with an end between have the words of both. Plain. -/
import Derived.Test.YtgahmlbemaagbaaWords
import Derived.Test.YtgahmlbemaagbaaWd
import Derived.Test.YtgahmlbemaagbaaWhole
set_option linter.unusedSimpArgs false
set_option linter.unusedVariables false
namespace Go.Proofs.Ytgahmlbemaagbaa
open Go.RowKit

/-- The words of a text, index by index. -/
theorem wordsOf_mapIdx (t l : List Int) (pre : List Sp) : wordsOf t l pre = (pre.mapIdx (fun i s => mkW t l (decide (i = 0)) s), (pre.mapIdx fun i s => overW t l (decide (i = 0)) s).any id) := by
  have gen : ∀ (n : Nat) (pre : List Sp), pre.length = n → wordsOf t l pre = (pre.mapIdx (fun i s => mkW t l (decide (i = 0)) s), (pre.mapIdx fun i s => overW t l (decide (i = 0)) s).any id) := by
    intro n
    induction n with
    | zero => intro pre h; obtain rfl := List.length_eq_zero_iff.1 h; rfl
    | succ n ih =>
      intro pre h
      have hne : pre ≠ [] := by intro e; rw [e] at h; simp at h
      obtain ⟨p, s, rfl⟩ : ∃ p s, pre = p ++ [s] := ⟨pre.dropLast, pre.getLast hne, (List.dropLast_concat_getLast hne).symm⟩
      have hl : p.length = n := by simpa using h
      rw [wordsOf_snoc, stepW, ih p hl, List.mapIdx_concat, List.mapIdx_concat]
      have e : (List.mapIdx (fun i s => mkW t l (decide (i = 0)) s) p).isEmpty = decide (p.length = 0) := by
        cases p <;> simp
      simp only [e, List.any_append, List.any_cons, List.any_nil, Bool.or_false, id]
  exact gen _ pre rfl

theorem sc_prefix (u v : List Int) : ∀ k, k ≤ u.length → sc (u ++ v) k = sc u k := by
  intro k
  induction k with
  | zero => intro _; rfl
  | succ k ih =>
    intro hk
    simp only [sc]
    rw [ih (by omega), List.getElem?_append_left (by omega)]
theorem sc_add (u v : List Int) (j : Nat) : sc (u ++ v) (u.length + (j + 1)) = scStep (sc (u ++ v) (u.length + j)) (u.length + j) (v[j]?.getD 0) := by
  rw [← Nat.add_assoc]
  simp only [sc]
  rw [List.getElem?_append_right (by omega), show u.length + j - u.length = j by omega]

def behind (u : List Int) : Nat := 1 + (u.drop (upAt (spansF u) (spansF u).length)).count 10
/-- The reader behind the first text and the end. -/
theorem sc_mid (u v : List Int) : (sc (u ++ 10 :: v) (u.length + 1)).ins = false ∧ (sc (u ++ 10 :: v) (u.length + 1)).out = spansF u ∧ (sc (u ++ 10 :: v) (u.length + 1)).s.ends = behind u := by
  have h := sc_add u (10 :: v) 0
  simp only [Nat.add_zero, Nat.zero_add] at h
  rw [sc_prefix u _ _ (Nat.le_refl _)] at h
  rw [h]
  have hi := inv_all u u.length (Nat.le_refl _)
  rw [show (10 :: v)[0]?.getD 0 = 10 from rfl]
  unfold scStep
  rw [if_neg (by decide), if_pos rfl]
  rcases hb : (sc u u.length).ins with _ | _
  · have e : spansF u = (sc u u.length).out := by unfold spansF; rw [hb]; simp
    obtain ⟨e1, _⟩ := hi.out hb
    rw [seg_end] at e1
    refine ⟨rfl, e.symm, ?_⟩
    show (sc u u.length).s.ends + 1 = _
    unfold behind
    rw [e, (endsF_of e1).2]; omega
  · have e : spansF u = (sc u u.length).out ++ [⟨(sc u u.length).s.fr, u.length, (sc u u.length).s.ends, (sc u u.length).s.sp⟩] := by unfold spansF; rw [hb]; simp
    refine ⟨rfl, e.symm, ?_⟩
    show 1 = _
    unfold behind
    rw [e, List.length_append, List.length_singleton, upAt_new]
    simp

/-- A word of the second text, moved on. -/
structure Mv (n b i : Nat) (x y : Sp) : Prop where
  fr : x.fr = y.fr + n
  up : x.up = y.up + n
  ends : x.ends = y.ends + if i = 0 then b else 0
  sp : 0 < i → x.sp = y.sp
def MvAll (n b : Nat) (X Y : List Sp) : Prop := X.length = Y.length ∧ ∀ i x y, X[i]? = some x → Y[i]? = some y → Mv n b i x y
theorem MvAll.snoc {n b : Nat} {X Y : List Sp} {x y : Sp} (h : MvAll n b X Y) (hx : Mv n b Y.length x y) : MvAll n b (X ++ [x]) (Y ++ [y]) := by
  refine ⟨by simp [h.1], fun i a c ha hc => ?_⟩
  rcases Nat.lt_or_ge i Y.length with hlt | hge
  · rw [List.getElem?_append_left (by rw [h.1]; exact hlt)] at ha
    rw [List.getElem?_append_left hlt] at hc
    exact h.2 i a c ha hc
  · have hi : i = Y.length := by
      have := (List.getElem?_eq_some_iff.1 hc).1
      simp at this; omega
    subst hi
    rw [List.getElem?_append_right (by rw [h.1]; exact Nat.le_refl _)] at ha
    simp [h.1] at ha hc
    subst ha hc
    exact hx
def MvSt (n b : Nat) (S : List Sp) (J V : Sc) : Prop := ∃ X, J.out = S ++ X ∧ MvAll n b X V.out ∧ J.ins = V.ins ∧ J.s.ends = V.s.ends + (if V.out.length = 0 then b else 0) ∧ (0 < V.out.length → J.s.sp = V.s.sp) ∧ (V.ins = true → J.s.fr = V.s.fr + n)
theorem join_step {n b j k : Nat} {S : List Sp} {J V : Sc} (a : Int) (hk : k = j + n) (h : MvSt n b S J V) : MvSt n b S (scStep J k a) (scStep V j a) := by
  obtain ⟨X, e1, e2, e3, e4, e5, e6⟩ := h
  have hx : V.ins = true → Mv n b V.out.length ⟨J.s.fr, k, J.s.ends, J.s.sp⟩ ⟨V.s.fr, j, V.s.ends, V.s.sp⟩ := fun hi => ⟨e6 hi, hk, e4, e5⟩
  unfold scStep
  rw [e3]
  by_cases h32 : a = 32
  · rw [if_pos h32, if_pos h32]
    rcases hi : V.ins with _ | _
    · exact ⟨X, e1, e2, rfl, e4, fun _ => rfl, fun h => by cases h⟩
    · exact ⟨X ++ [⟨J.s.fr, k, J.s.ends, J.s.sp⟩], by simp [e1], e2.snoc (hx hi), rfl, by simp, fun _ => rfl, fun h => by cases h⟩
  · rw [if_neg h32, if_neg h32]
    by_cases h10 : a = 10
    · rw [if_pos h10, if_pos h10]
      rcases hi : V.ins with _ | _
      · exact ⟨X, e1, e2, rfl, by simp [e4]; omega, e5, fun h => by cases h⟩
      · exact ⟨X ++ [⟨J.s.fr, k, J.s.ends, J.s.sp⟩], by simp [e1], e2.snoc (hx hi), rfl, by simp, fun _ => rfl, fun h => by cases h⟩
    · rw [if_neg h10, if_neg h10]
      rcases hi : V.ins with _ | _
      · exact ⟨X, e1, e2, rfl, e4, e5, fun _ => hk⟩
      · simp only [if_true]
        exact ⟨X, e1, e2, by rw [e3, hi], e4, e5, fun _ => e6 hi⟩
theorem join_go (u v : List Int) : ∀ j, MvSt (u.length + 1) (behind u) (spansF u) (sc (u ++ 10 :: v) (u.length + 1 + j)) (sc v j) := by
  intro j
  induction j with
  | zero =>
    obtain ⟨h1, h2, h3⟩ := sc_mid u v
    exact ⟨[], by rw [Nat.add_zero, h2]; simp, ⟨rfl, by simp⟩, by rw [Nat.add_zero, h1]; rfl, by rw [Nat.add_zero, h3]; simp [sc, Sp.nil], fun h => by simp [sc] at h, fun h => by simp [sc] at h⟩
  | succ j ih =>
    have h := sc_add u (10 :: v) (j + 1)
    rw [show u.length + (j + 1 + 1) = u.length + 1 + (j + 1) by omega, show u.length + (j + 1) = u.length + 1 + j by omega, List.getElem?_cons_succ] at h
    rw [h]
    exact join_step _ (by omega) ih
theorem join_spans (u v : List Int) : ∃ X, spansF (u ++ 10 :: v) = spansF u ++ X ∧ MvAll (u.length + 1) (behind u) X (spansF v) := by
  obtain ⟨X, e1, e2, e3, e4, e5, e6⟩ := join_go u v v.length
  have hl : (u ++ 10 :: v).length = u.length + 1 + v.length := by simp; omega
  unfold spansF at e1 ⊢
  rw [hl, e3]
  rcases hi : (sc v v.length).ins with _ | _
  · exact ⟨X, by simpa using e1, by simpa using e2⟩
  · refine ⟨X ++ [⟨(sc (u ++ 10 :: v) (u.length + 1 + v.length)).s.fr, u.length + 1 + v.length, (sc (u ++ 10 :: v) (u.length + 1 + v.length)).s.ends, (sc (u ++ 10 :: v) (u.length + 1 + v.length)).s.sp⟩], ?_, ?_⟩
    · simp only [if_true, e1, List.append_assoc]
    · simp only [if_true]
      exact e2.snoc ⟨e6 hi, by dsimp only; omega, e4, e5⟩

def shiftW (n b i : Nat) (w : Wd) : Wd := ⟨w.fr + n, w.up + n, w.w, w.gap, w.forced + if i = 0 then b else 0⟩
theorem part_left (u v : List Int) {s : Sp} (h : s.up ≤ u.length) : part (u ++ v) s = part u s := by
  unfold part
  rcases Nat.lt_or_ge s.fr s.up with hl | hl
  · rw [List.drop_append_of_le_length (by omega), List.take_append_of_le_length (by simp; omega)]
  · rw [show s.up - s.fr = 0 by omega]; simp
theorem part_right (u v : List Int) {x y : Sp} {n : Nat} (hn : n = u.length) (h1 : x.fr = y.fr + n) (h2 : x.up = y.up + n) : part (u ++ v) x = part v y := by
  subst hn
  unfold part
  rw [h1, h2, show y.up + u.length - (y.fr + u.length) = y.up - y.fr by omega, Nat.add_comm, List.drop_append, List.drop_eq_nil_of_le (by omega), List.nil_append, show u.length + y.fr - u.length = y.fr by omega]
theorem join_words (t u v : List Int) : (wordsF t (u ++ 10 :: v)).1 = (wordsF t u).1 ++ (wordsF t v).1.mapIdx (shiftW (u.length + 1) (behind u)) ∧ (wordsF t (u ++ 10 :: v)).2 = ((wordsF t u).2 || (wordsF t v).2) := by
  obtain ⟨X, e1, hl, hX⟩ := join_spans u v
  unfold wordsF
  rw [wordsOf_mapIdx, wordsOf_mapIdx, wordsOf_mapIdx, e1, List.mapIdx_append, List.mapIdx_append]
  have hu : ∀ (i : Nat) (s : Sp), (spansF u)[i]? = some s → s.up ≤ u.length := fun i s h => ((whole u).1 i s h).d
  have hb : 1 ≤ behind u := by unfold behind; omega
  have part1 : ∀ i s, (spansF u)[i]? = some s → mkW t (u ++ 10 :: v) (decide (i = 0)) s = mkW t u (decide (i = 0)) s ∧ overW t (u ++ 10 :: v) (decide (i = 0)) s = overW t u (decide (i = 0)) s := fun i s h => by
    unfold mkW overW; rw [part_left u _ (hu i s h)]; exact ⟨rfl, rfl⟩
  have part2 : ∀ i x y, X[i]? = some x → (spansF v)[i]? = some y → mkW t (u ++ 10 :: v) (decide (i + (spansF u).length = 0)) x = shiftW (u.length + 1) (behind u) i (mkW t v (decide (i = 0)) y) ∧ overW t (u ++ 10 :: v) (decide (i + (spansF u).length = 0)) x = overW t v (decide (i = 0)) y := fun i x y hx hy => by
    obtain ⟨m1, m2, m3, m4⟩ := hX i x y hx hy
    have hp : part (u ++ 10 :: v) x = part v y := by
      have := part_right (u ++ [10]) v (x := x) (y := y) (n := u.length + 1) (by simp) m1 m2
      simpa using this
    have hg : gapIs (decide (i + (spansF u).length = 0)) x = gapIs (decide (i = 0)) y := by
      unfold gapIs
      by_cases h0 : i = 0
      · subst h0; simp at m3; simp; intro; omega
      · have e := m4 (by omega)
        rw [if_neg h0] at m3
        simp [h0, e, m3]
    unfold mkW overW shiftW
    rw [hp, hg, m1, m2, m3]
    refine ⟨?_, rfl⟩
    rw [Wd.ext_iff']
    refine ⟨by dsimp only; omega, by dsimp only; omega, rfl, rfl, ?_⟩
    dsimp only
    split <;> simp
  refine ⟨?_, ?_⟩
  · dsimp only
    congr 1
    · apply List.ext_getElem?
      intro i
      simp only [List.getElem?_mapIdx]
      rcases h : (spansF u)[i]? with _ | s
      · rfl
      · simp [(part1 i s h).1]
    · apply List.ext_getElem?
      intro i
      simp only [List.getElem?_mapIdx]
      rcases h : X[i]? with _ | x
      · have : (spansF v)[i]? = none := by rw [List.getElem?_eq_none_iff] at h ⊢; omega
        simp [this]
      · have hi : i < (spansF v).length := by have := (List.getElem?_eq_some_iff.1 h).1; omega
        have hy := List.getElem?_eq_getElem hi
        simp only [hy, Option.map_some, (part2 i x _ h hy).1]
  · dsimp only
    rw [List.any_append]
    congr 2
    · apply List.ext_getElem?
      intro i
      simp only [List.getElem?_mapIdx]
      rcases h : (spansF u)[i]? with _ | s
      · rfl
      · simp [(part1 i s h).2]
    · apply List.ext_getElem?
      intro i
      simp only [List.getElem?_mapIdx]
      rcases h : X[i]? with _ | x
      · have : (spansF v)[i]? = none := by rw [List.getElem?_eq_none_iff] at h ⊢; omega
        simp [this]
      · have hi : i < (spansF v).length := by have := (List.getElem?_eq_some_iff.1 h).1; omega
        have hy := List.getElem?_eq_getElem hi
        simp only [hy, Option.map_some, (part2 i x _ h hy).2]
end Go.Proofs.Ytgahmlbemaagbaa
