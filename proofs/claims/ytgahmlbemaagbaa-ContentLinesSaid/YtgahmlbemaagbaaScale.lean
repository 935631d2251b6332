/- With all advances so many times as great words are so many times as wide. Plain. -/
import Derived.Test.YtgahmlbemaagbaaJoin
import Derived.Test.YtgahmlbemaagbaaOrder
set_option linter.unusedSimpArgs false
set_option linter.unusedVariables false
namespace Go.Proofs.Ytgahmlbemaagbaa
open Go.RowKit

/-- A number that is at most M, whatever its sign. -/
def Bd (M x : Int) : Prop := -M ≤ x ∧ x ≤ M
theorem cut_id {x : Int} (h : Bd 1099511627776 x) : cutF x = x ∧ cutB x = false := by
  obtain ⟨h1, h2⟩ := h
  unfold cutF cutB
  rw [if_neg (by omega), if_neg (by omega)]
  simp; omega
theorem mul_id {k x M : Int} (hk : 1 ≤ k ∧ k ≤ 7) (h : Bd M x) : Bd (7 * M) (k * x) := by
  obtain ⟨h1, h2⟩ := h
  obtain ⟨k1, k2⟩ := hk
  have hM : 0 ≤ M := by omega
  have a1 : k * x ≤ k * M := Int.mul_le_mul_of_nonneg_left h2 (by omega)
  have a2 : k * -M ≤ k * x := Int.mul_le_mul_of_nonneg_left h1 (by omega)
  have a3 : k * M ≤ 7 * M := Int.mul_le_mul_of_nonneg_right k2 hM
  have a4 : k * -M = -(k * M) := by rw [Int.mul_neg]
  exact ⟨by omega, by omega⟩
theorem max_mul {k a b : Int} (hk : 1 ≤ k) : max (k * a) (k * b) = k * max a b := by
  rcases Int.le_total a b with h | h
  · have := Int.mul_le_mul_of_nonneg_left h (show (0 : Int) ≤ k by omega)
    rw [Int.max_eq_right h, Int.max_eq_right this]
  · have := Int.mul_le_mul_of_nonneg_left h (show (0 : Int) ≤ k by omega)
    rw [Int.max_eq_left h, Int.max_eq_left this]
theorem lt_mul {k a b : Int} (hk : 1 ≤ k) : k * a < k * b ↔ a < b := by
  constructor
  · intro h
    rcases Int.lt_or_le a b with h' | h'
    · exact h'
    · have := Int.mul_le_mul_of_nonneg_left h' (show (0 : Int) ≤ k by omega); omega
  · intro h
    exact Int.mul_lt_mul_of_pos_left h (by omega)

section
variable {t : List Int} {M : Int} (ht : ∀ x ∈ t, Bd M x) (hM : 0 ≤ M)
include ht hM
theorem adv_bd (u : Int) : Bd M (adv t u) := by
  unfold adv
  rcases Nat.lt_or_ge u.toNat t.length with hl | hl
  · rw [List.getElem?_eq_getElem hl]; exact ht _ (List.getElem_mem hl)
  · rw [List.getElem?_eq_none hl]; simp [Bd]; omega
theorem advs_bd (l : List Int) : Bd (M * l.length) (advs t l).sum := by
  induction l with
  | nil => simp [advs, Bd]
  | cons u r ih =>
    have h := adv_bd ht hM u
    have e : (advs t (u :: r)).sum = adv t u + (advs t r).sum := by simp [advs]
    rw [e, List.length_cons]
    unfold Bd at *
    rw [show M * ((r.length + 1 : Nat) : Int) = M * r.length + M by rw [Int.natCast_add, Int.mul_add]; simp]
    omega
end
theorem adv_mul (k : Int) (t : List Int) (u : Int) : adv (t.map (k * ·)) u = k * adv t u := by
  unfold adv
  rw [List.getElem?_map]
  rcases t[u.toNat]? with _ | x <;> simp
theorem advs_mul (k : Int) (t l : List Int) : (advs (t.map (k * ·)) l).sum = k * (advs t l).sum := by
  induction l with
  | nil => simp [advs]
  | cons u r ih =>
    have e : ∀ t, (advs t (u :: r)).sum = adv t u + (advs t r).sum := fun t => by simp [advs]
    rw [e, e, ih, adv_mul, Int.mul_add]

def scl (k : Int) (x : Wd) : Wd := ⟨x.fr, x.up, k * x.w, k * x.gap, x.forced⟩
/-- Widths and gaps of so many units in all. -/
def Small (M : Int) (x : Wd) : Prop := Bd (M * (x.up - x.fr)) x.w ∧ Bd M x.gap ∧ x.fr ≤ x.up
theorem part_lenI {l : List Int} {s : Sp} (h1 : s.fr < s.up) (h2 : s.up ≤ l.length) : ((part l s).length : Int) = (s.up : Int) - s.fr := by simp [part]; omega
theorem mk_scl {k : Int} (hk : 1 ≤ k ∧ k ≤ 7) {t l : List Int} {M : Int} (ht : ∀ x ∈ t, Bd M x) (hM : 0 ≤ M) (hM2 : M ≤ 1048576) (hl : l.length ≤ 3000) {s : Sp} (h1 : s.fr < s.up) (h2 : s.up ≤ l.length) (b : Bool) :
    mkW (t.map (k * ·)) l b s = scl k (mkW t l b s) ∧ overW t l b s = false ∧ overW (t.map (k * ·)) l b s = false ∧ Small M (mkW t l b s) := by
  have a1 := advs_bd ht hM (part l s)
  have a2 := adv_bd ht hM 32
  have hp := part_lenI h1 h2
  have hp2 : ((part l s).length : Int) ≤ 3000 := by omega
  have hm : M * (part l s).length ≤ 1048576 * 3000 := Int.mul_le_mul hM2 hp2 (by omega) (by omega)
  have b1 := mul_id hk a1
  have b2 := mul_id hk a2
  have hm0 : 0 ≤ M * (part l s).length := Int.mul_nonneg hM (by omega)
  have c1 := cut_id (x := (advs t (part l s)).sum) ⟨by have := a1.1; omega, by have := a1.2; omega⟩
  have c2 := cut_id (x := adv t 32) ⟨by have := a2.1; omega, by have := a2.2; omega⟩
  have c3 := cut_id (x := k * (advs t (part l s)).sum) ⟨by have := b1.1; omega, by have := b1.2; omega⟩
  have c4 := cut_id (x := k * adv t 32) ⟨by have := b2.1; omega, by have := b2.2; omega⟩
  refine ⟨?_, ?_, ?_, ?_⟩
  · unfold mkW scl
    rw [Wd.ext_iff']
    refine ⟨rfl, rfl, ?_, ?_, rfl⟩
    · show cutF _ = k * cutF _
      rw [advs_mul, c3.1, c1.1]
    · show (if gapIs b s = true then cutF _ else 0) = k * (if gapIs b s = true then cutF _ else 0)
      split
      · rw [adv_mul, c4.1, c2.1]
      · simp
  · unfold overW; rw [c1.2, c2.2]; simp
  · unfold overW; rw [advs_mul, adv_mul, c3.2, c4.2]; simp
  · unfold Small mkW
    refine ⟨?_, ?_, ?_⟩
    · show Bd (M * ((s.up : Int) - s.fr)) (cutF _)
      rw [c1.1, ← hp]; exact a1
    · show Bd M (if gapIs b s = true then cutF _ else 0)
      split
      · rw [c2.1]; exact a2
      · unfold Bd; omega
    · show (s.fr : Int) ≤ s.up
      omega
theorem words_scl {k : Int} (hk : 1 ≤ k ∧ k ≤ 7) {t l : List Int} {M : Int} (ht : ∀ x ∈ t, Bd M x) (hM : 0 ≤ M) (hM2 : M ≤ 1048576) (hl : l.length ≤ 3000) :
    (wordsF (t.map (k * ·)) l).1 = (wordsF t l).1.map (scl k) ∧ (wordsF t l).2 = false ∧ (wordsF (t.map (k * ·)) l).2 = false ∧ ∀ x ∈ (wordsF t l).1, Small M x := by
  have hb : ∀ (i : Nat) (s : Sp), (spansF l)[i]? = some s → s.fr < s.up ∧ s.up ≤ l.length := fun i s h => by
    have := spans_bounds l s (List.mem_of_getElem? h); omega
  unfold wordsF
  rw [wordsOf_mapIdx, wordsOf_mapIdx]
  have hmk := fun i s h b => mk_scl hk ht hM hM2 hl (hb i s h).1 (hb i s h).2 b
  refine ⟨?_, ?_, ?_, ?_⟩
  · apply List.ext_getElem?
    intro i
    simp only [List.getElem?_mapIdx, List.getElem?_map]
    rcases h : (spansF l)[i]? with _ | s
    · rfl
    · simp only [Option.map_some, (hmk i s h _).1]
  · rw [List.any_eq_false]
    intro x hx
    obtain ⟨i, h1, rfl⟩ := List.mem_mapIdx.1 hx
    simp [(hmk i _ (List.getElem?_eq_getElem h1) _).2.1]
  · rw [List.any_eq_false]
    intro x hx
    obtain ⟨i, h1, rfl⟩ := List.mem_mapIdx.1 hx
    simp [(hmk i _ (List.getElem?_eq_getElem h1) _).2.2.1]
  · intro x hx
    obtain ⟨i, h1, rfl⟩ := List.mem_mapIdx.1 hx
    exact (hmk i _ (List.getElem?_eq_getElem h1) _).2.2.2

/-- All words' units are no more than there are. -/
def lens (l : List Wd) : Int := (l.map fun x => x.up - x.fr).sum
theorem lens_take (l : List Wd) {k : Nat} (h : k < l.length) : lens (l.take (k + 1)) = lens (l.take k) + (l[k].up - l[k].fr) := by
  rw [List.take_succ_eq_append_getElem h]; unfold lens; rw [List.map_append, List.sum_append]; simp only [List.map_cons, List.map_nil, List.sum_cons, List.sum_nil]; omega
theorem words_at (t l : List Int) {k : Nat} (h : k < (wordsF t l).1.length) : ∃ s, (spansF l)[k]? = some s ∧ (wordsF t l).1[k] = mkW t l (decide (k = 0)) s := by
  have hl : (wordsF t l).1.length = (spansF l).length := by rw [wordsF, wordsOf_len]
  have hk : k < (spansF l).length := by omega
  refine ⟨_, List.getElem?_eq_getElem hk, ?_⟩
  have e := List.getElem?_eq_getElem h
  have e2 : (wordsF t l).1[k]? = some (mkW t l (decide (k = 0)) (spansF l)[k]) := by
    unfold wordsF
    rw [wordsOf_mapIdx]
    simp only [List.getElem?_mapIdx, List.getElem?_eq_getElem hk, Option.map_some]
  exact Option.some.inj (e.symm.trans e2)
theorem lens_le (t l : List Int) : ∀ k, k ≤ (wordsF t l).1.length → lens ((wordsF t l).1.take k) ≤ upAt (spansF l) k := by
  intro k
  induction k with
  | zero => intro _; simp [lens, upAt]
  | succ k ih =>
    intro hk
    have hlt : k < (wordsF t l).1.length := by omega
    have h := ih (by omega)
    rw [lens_take _ hlt]
    obtain ⟨s, hs, e⟩ := words_at t l hlt
    have g := ((whole l).1 k s hs).a
    rw [e]
    have hu : upAt (spansF l) (k + 1) = s.up := by simp [upAt, hs]
    rw [hu]
    show lens _ + ((s.up : Int) - s.fr) ≤ s.up
    omega
theorem lens_all (t l : List Int) : ∀ k, k ≤ (wordsF t l).1.length → lens ((wordsF t l).1.take k) ≤ l.length := by
  intro k hk
  have h := lens_le t l k hk
  have : upAt (spansF l) k ≤ l.length := by
    unfold upAt
    split
    · omega
    · rcases hs : (spansF l)[k - 1]? with _ | s
      · simp
      · have := spans_bounds l s (List.mem_of_getElem? hs)
        simp; omega
  omega

theorem ex_scl {k : Int} (hk : 1 ≤ k ∧ k ≤ 7) {M : Int} (hM : 0 ≤ M) (hM2 : M ≤ 1048576) (L : List Wd) (hs : ∀ x ∈ L, Small M x) (hn : ∀ j, j ≤ L.length → lens (L.take j) ≤ 3000) (hL : L.length ≤ 3000) : ∀ j, j ≤ L.length →
    exAt (L.map (scl k)) j = ⟨k * (exAt L j).least, k * (exAt L j).great, false, k * (exAt L j).row⟩ ∧ (exAt L j).far = false ∧ Bd (M * (lens (L.take j) + j)) (exAt L j).row ∧ 0 ≤ lens (L.take j) := by
  intro j
  induction j with
  | zero => intro _; simp [exAt, Bd, lens]
  | succ j ih =>
    intro hj
    have hlt : j < L.length := by omega
    obtain ⟨h1, h2, h3, h4⟩ := ih (by omega)
    have hlt' : j < (L.map (scl k)).length := by simpa using hlt
    obtain ⟨s1, s2, s3⟩ := hs L[j] (List.getElem_mem hlt)
    have hlen := hn j (by omega)
    rw [exAt_succ _ hlt', exAt_succ L hlt, h1, List.getElem_map, lens_take L hlt]
    have hst : starts j (scl k L[j]) = starts j L[j] := rfl
    have hle : exLeast j (k * (exAt L j).least) (scl k L[j]) = k * exLeast j (exAt L j).least L[j] := by
      unfold exLeast
      show (if j = 0 ∨ k * (exAt L j).least < k * L[j].w then k * L[j].w else _) = _
      by_cases hc : j = 0 ∨ (exAt L j).least < L[j].w
      · rw [if_pos hc, if_pos (by rcases hc with h | h; exact .inl h; exact .inr ((lt_mul hk.1).2 h))]
      · rw [if_neg hc, if_neg (by rintro (h | h); exact hc (.inl h); exact hc (.inr ((lt_mul hk.1).1 h)))]
    have m1 : M * (lens (L.take j) + j) ≤ 1048576 * 6000 := Int.mul_le_mul hM2 (by omega) (by omega) (by omega)
    have m0 : 0 ≤ M * (lens (L.take j) + j) := Int.mul_nonneg hM (by omega)
    have e1 : M * (lens (L.take j) + (L[j].up - L[j].fr) + ((j + 1 : Nat) : Int)) = M * (lens (L.take j) + j) + M * (L[j].up - L[j].fr) + M := by
      rw [Int.natCast_add, show lens (L.take j) + (L[j].up - L[j].fr) + ((j : Int) + ((1 : Nat) : Int)) = (lens (L.take j) + j) + (L[j].up - L[j].fr) + 1 by omega, Int.mul_add, Int.mul_add, Int.mul_one]
    have m2 : 0 ≤ M * (L[j].up - L[j].fr) := Int.mul_nonneg hM (by omega)
    have c1 := cut_id (x := (exAt L j).row) ⟨by have := h3.1; omega, by have := h3.2; omega⟩
    have b1 := mul_id hk h3
    have c2 := cut_id (x := k * (exAt L j).row) ⟨by have := b1.1; omega, by have := b1.2; omega⟩
    rw [e1]
    unfold Bd at s1 s2 h3 ⊢
    unfold exStep
    rw [hst]
    rcases hb : starts j L[j] with _ | _
    · simp only [Bool.false_eq_true, if_false]
      refine ⟨?_, h2, ⟨by omega, by omega⟩, by omega⟩
      rw [hle]
      show (⟨_, _, _, k * (exAt L j).row + (k * L[j].gap + k * L[j].w)⟩ : Ex) = _
      rw [Int.mul_add, Int.mul_add]
    · simp only [if_true, exShut]
      refine ⟨?_, by rw [h2, c1.2]; rfl, ⟨by omega, by omega⟩, by omega⟩
      rw [hle, c1.1, c2.1, c2.2, max_mul hk.1]
      rfl
theorem ext_scl {k : Int} (hk : 1 ≤ k ∧ k ≤ 7) {M : Int} (hM : 0 ≤ M) (hM2 : M ≤ 1048576) (L : List Wd) (hs : ∀ x ∈ L, Small M x) (hn : ∀ j, j ≤ L.length → lens (L.take j) ≤ 3000) (hL : L.length ≤ 3000) :
    (extF (L.map (scl k))).1 = k * (extF L).1 ∧ (extF (L.map (scl k))).2.1 = k * (extF L).2.1 ∧ (extF L).2.2 = false ∧ (extF (L.map (scl k))).2.2 = false := by
  obtain ⟨h1, h2, h3, h4⟩ := ex_scl hk hM hM2 L hs hn hL L.length (Nat.le_refl _)
  have hlen := hn L.length (Nat.le_refl _)
  have m1 : M * (lens (L.take L.length) + L.length) ≤ 1048576 * 6000 := Int.mul_le_mul hM2 (by omega) (by omega) (by omega)
  have m0 : 0 ≤ M * (lens (L.take L.length) + L.length) := Int.mul_nonneg hM (by omega)
  have c1 := cut_id (x := (exAt L L.length).row) ⟨by have := h3.1; omega, by have := h3.2; omega⟩
  have b1 := mul_id hk h3
  have c2 := cut_id (x := k * (exAt L L.length).row) ⟨by have := b1.1; omega, by have := b1.2; omega⟩
  unfold extF exShut
  rw [List.length_map, h1]
  dsimp only
  rw [c1.1, c1.2, c2.1, c2.2, h2, max_mul hk.1]
  exact ⟨rfl, rfl, rfl, rfl⟩
end Go.Proofs.Ytgahmlbemaagbaa
