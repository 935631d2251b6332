/- Words without their places: the units of each, the ends ahead, whether a gap counts. Plain. -/
import Derived.Test.YtgahmlbemaagbaaWords
import Derived.Test.YtgahmlbemaagbaaWhole
set_option linter.unusedSimpArgs false
set_option linter.unusedVariables false
namespace Go.Proofs.Ytgahmlbemaagbaa
open Go.RowKit

structure Ab where
  us : List Int
  ends : Nat
  sp : Bool
structure St where
  cur : List Int
  ends : Nat
  sp : Bool
  out : List Ab
def St.pend (c : St) : Bool := c.sp && decide (c.ends = 0) && !c.out.isEmpty
def stp (c : St) (u : Int) : St :=
  if u = 32 then (if c.cur = [] then ⟨[], c.ends, true, c.out⟩ else ⟨[], 0, true, c.out ++ [⟨c.cur, c.ends, c.pend⟩]⟩)
  else if u = 10 then (if c.cur = [] then ⟨[], c.ends + 1, c.sp, c.out⟩ else ⟨[], 1, false, c.out ++ [⟨c.cur, c.ends, c.pend⟩]⟩)
  else ⟨c.cur ++ [u], c.ends, c.sp, c.out⟩
def St.nil : St := ⟨[], 0, false, []⟩
def runA (l : List Int) : St := l.foldl stp St.nil
def finA (c : St) : List Ab := if c.cur = [] then c.out else c.out ++ [⟨c.cur, c.ends, c.pend⟩]
def absF (l : List Int) : List Ab := finA (runA l)
theorem runA_snoc (l : List Int) (u : Int) : runA (l ++ [u]) = stp (runA l) u := by simp [runA]

def absOf (l : List Int) (pre : List Sp) : List Ab := pre.foldl (fun o s => o ++ [⟨part l s, s.ends, gapIs o.isEmpty s⟩]) []
theorem absOf_snoc (l : List Int) (pre : List Sp) (s : Sp) : absOf l (pre ++ [s]) = absOf l pre ++ [⟨part l s, s.ends, gapIs (absOf l pre).isEmpty s⟩] := by simp [absOf]
theorem gapIs_eq (o : List Ab) (s : Sp) : gapIs o.isEmpty s = (s.sp && decide (s.ends = 0) && !o.isEmpty) := rfl
theorem run_sc (l : List Int) : ∀ k, k ≤ l.length → runA (l.take k) = ⟨if (sc l k).ins then seg l (sc l k).s.fr k else [], (sc l k).s.ends, (sc l k).s.sp, absOf l (sc l k).out⟩ ∧ ((sc l k).ins = true → (sc l k).s.fr < k) := by
  intro k
  induction k with
  | zero => intro _; simp [runA, sc, absOf, St.nil, Sp.nil]
  | succ k ih =>
    intro hk
    have hlt : k < l.length := by omega
    obtain ⟨h1, h2⟩ := ih (by omega)
    have hu : l[k]?.getD 0 = l[k] := by simp [hlt]
    rw [List.take_succ_eq_append_getElem hlt, runA_snoc, h1]
    simp only [sc, scStep, hu]
    unfold stp
    by_cases h32 : l[k] = 32
    · simp only [if_pos h32]
      rcases hi : (sc l k).ins with _ | _
      · simp
      · have hne : seg l (sc l k).s.fr k ≠ [] := by
          have := h2 hi
          intro he
          have := congrArg List.length he
          simp [seg] at this; omega
        simp only [if_true, if_neg hne, Bool.false_eq_true, if_false, absOf_snoc, gapIs_eq]
        exact ⟨rfl, fun h => by cases h⟩
    · simp only [if_neg h32]
      by_cases h10 : l[k] = 10
      · simp only [if_pos h10]
        rcases hi : (sc l k).ins with _ | _
        · simp
        · have hne : seg l (sc l k).s.fr k ≠ [] := by
            have := h2 hi
            intro he
            have := congrArg List.length he
            simp [seg] at this; omega
          simp only [if_true, if_neg hne, Bool.false_eq_true, if_false, absOf_snoc, gapIs_eq]
          exact ⟨rfl, fun h => by cases h⟩
      · simp only [if_neg h10]
        rcases hi : (sc l k).ins with _ | _
        · simp [seg_snoc l (Nat.le_refl k) hlt, seg_nil]
        · simp [hi, seg_snoc l (Nat.le_of_lt (h2 hi)) hlt, Nat.lt_succ_of_lt (h2 hi)]
theorem abs_spans (l : List Int) : absF l = absOf l (spansF l) := by
  obtain ⟨h1, h2⟩ := run_sc l l.length (Nat.le_refl _)
  rw [List.take_of_length_le (Nat.le_refl _)] at h1
  unfold absF spansF
  rw [h1]
  unfold finA
  rcases hi : (sc l l.length).ins with _ | _
  · simp
  · have hne : seg l (sc l l.length).s.fr l.length ≠ [] := by
      have := h2 hi
      intro he
      have := congrArg List.length he
      simp [seg] at this; omega
    simp only [if_true, if_neg hne, absOf_snoc, gapIs_eq]
    rfl

/-- What of a word says how wide it is. -/
def vw (x : Wd) : Int × Int × Int × Int := (x.w, x.gap, x.forced, x.up - x.fr)
def va (t : List Int) (a : Ab) : Int × Int × Int × Int := (cutF (advs t a.us).sum, if a.sp then cutF (adv t 32) else 0, a.ends, a.us.length)
def oa (t : List Int) (a : Ab) : Bool := cutB (advs t a.us).sum || (a.sp && cutB (adv t 32))
theorem words_abs_of (t l : List Int) (pre : List Sp) : (∀ s ∈ pre, s.fr < s.up ∧ s.up ≤ l.length) → ∀ (c : List Wd × Bool) (o : List Ab), c.1.map vw = o.map (va t) → c.2 = o.any (oa t) → c.1.isEmpty = o.isEmpty →
    (pre.foldl (stepW t l) c).1.map vw = (pre.foldl (fun o s => o ++ [⟨part l s, s.ends, gapIs o.isEmpty s⟩]) o).map (va t) ∧ (pre.foldl (stepW t l) c).2 = (pre.foldl (fun o s => o ++ [⟨part l s, s.ends, gapIs o.isEmpty s⟩]) o).any (oa t) := by
  induction pre with
  | nil => intro _ c o h1 h2 h3; exact ⟨h1, h2⟩
  | cons s pre ih =>
    intro hb c o h1 h2 h3
    have hs := hb s (by simp)
    rw [List.foldl_cons, List.foldl_cons]
    refine ih (fun s hs => hb s (by simp [hs])) _ _ ?_ ?_ (by rw [Bool.eq_iff_iff]; simp [stepW])
    · simp only [stepW, List.map_append, h1, h3, List.map_cons, List.map_nil]
      congr 1
      have hp : ((part l s).length : Int) = (s.up : Int) - s.fr := by simp [part]; omega
      simp [vw, va, mkW, hp]
    · simp [stepW, h2, h3, overW, oa]
theorem words_abs (t l : List Int) : (wordsF t l).1.map vw = (absF l).map (va t) ∧ (wordsF t l).2 = (absF l).any (oa t) := by
  rw [abs_spans]
  exact words_abs_of t l (spansF l) (fun s hs => ⟨(spans_bounds l s hs).1, (spans_bounds l s hs).2.1⟩) ([], false) [] rfl rfl rfl

/-! ### Spaces that say nothing -/
def keepS : List Int → Bool
  | [] => false
  | u :: r => if u = 32 then keepS r else !decide (u = 10)
def tidyF : Bool → List Int → List Int
  | _, [] => []
  | p, u :: r => if u = 32 then (if p && keepS r then 32 :: tidyF false r else tidyF p r) else u :: tidyF (isLet u) r
def Rel (p : Bool) (r : List Int) (A B : St) : Prop :=
  if p then B.cur ≠ [] ∧ ((A.cur = B.cur ∧ A.ends = B.ends ∧ A.out = B.out ∧ A.pend = B.pend) ∨ (keepS r = false ∧ A = ⟨[], 0, true, B.out ++ [⟨B.cur, B.ends, B.pend⟩]⟩))
  else A.cur = [] ∧ B.cur = [] ∧ A.ends = B.ends ∧ A.out = B.out ∧ A.pend = B.pend ∧ A.pend = (decide (A.ends = 0) && !A.out.isEmpty)
theorem tidy_rel : ∀ (r : List Int) (p : Bool) (A B : St), Rel p r A B → finA (r.foldl stp A) = finA ((tidyF p r).foldl stp B) := by
  intro r
  induction r with
  | nil =>
    intro p A B h
    simp only [tidyF, List.foldl_nil]
    unfold Rel at h
    rcases p with _ | _
    · obtain ⟨h1, h2, h3, h4, h5, h6⟩ := h
      simp [finA, h1, h2, h4]
    · obtain ⟨hb, ⟨h1, h2, h3, h4⟩ | ⟨_, rfl⟩⟩ := h
      · simp [finA, h1, h2, h3, h4]
      · simp [finA, hb]
  | cons u r ih =>
    intro p A B h
    simp only [tidyF]
    unfold Rel at h
    by_cases h32 : u = 32
    · subst h32
      rw [if_pos rfl]
      rcases p with _ | _
      · obtain ⟨h1, h2, h3, h4, h5, h6⟩ := h
        simp only [Bool.false_and, Bool.false_eq_true, if_false, List.foldl_cons]
        refine ih false _ _ ?_
        simp only [Rel, Bool.false_eq_true, if_false]
        unfold stp
        rw [if_pos rfl, if_pos h1]
        exact ⟨rfl, h2, h3, h4, by rw [← h5, h6]; simp [St.pend], by simp [St.pend]⟩
      · obtain ⟨hb, h⟩ := h
        rcases hk : keepS r with _ | _
        · simp only [Bool.true_and, Bool.false_eq_true, if_false, List.foldl_cons]
          refine ih true _ _ ?_
          simp only [Rel, if_true]
          refine ⟨hb, .inr ⟨hk, ?_⟩⟩
          unfold stp
          rw [if_pos rfl]
          rcases h with ⟨h1, h2, h3, h4⟩ | ⟨_, rfl⟩
          · rw [if_neg (by rw [h1]; exact hb), h1, h2, h3, h4]
          · rw [if_pos rfl]
        · simp only [Bool.true_and, if_true, List.foldl_cons]
          refine ih false _ _ ?_
          simp only [Rel, Bool.false_eq_true, if_false]
          rcases h with ⟨h1, h2, h3, h4⟩ | ⟨h5, _⟩
          · unfold stp
            rw [if_pos rfl, if_pos rfl, if_neg (by rw [h1]; exact hb), if_neg hb, h1, h2, h3, h4]
            exact ⟨rfl, rfl, rfl, rfl, rfl, by simp [St.pend]⟩
          · simp [keepS, hk] at h5
    · rw [if_neg h32, List.foldl_cons, List.foldl_cons]
      refine ih _ _ _ ?_
      unfold stp
      simp only [if_neg h32]
      by_cases h10 : u = 10
      · subst h10
        simp only [if_true, Rel, isLet]
        rcases p with _ | _
        · obtain ⟨h1, h2, h3, h4, h5, h6⟩ := h
          simp [h1, h2, h3, h4, St.pend]
        · obtain ⟨hb, ⟨h1, h2, h3, h4⟩ | ⟨_, rfl⟩⟩ := h
          · have ha : A.cur ≠ [] := by rw [h1]; exact hb
            simp [h1, h2, h3, h4, hb]
            simp [St.pend]
          · simp [hb]
            simp [St.pend]
      · simp only [if_neg h10, Rel, isLet, h32, h10, decide_false, Bool.not_false, Bool.and_true, if_true, if_false]
        rcases p with _ | _
        · obtain ⟨h1, h2, h3, h4, h5, h6⟩ := h
          exact ⟨by simp, .inl ⟨by rw [h1, h2], h3, h4, h5⟩⟩
        · obtain ⟨hb, ⟨h1, h2, h3, h4⟩ | ⟨hk, _⟩⟩ := h
          · exact ⟨by simp, .inl ⟨by rw [h1], h2, h3, h4⟩⟩
          · simp [keepS, h32, h10] at hk
theorem tidy_same (l : List Int) : absF (tidyF false l) = absF l := by
  refine (tidy_rel l false St.nil St.nil ?_).symm
  simp [Rel, St.nil, St.pend]

/-! ### Of advances that are at least 0 -/
theorem cut_mono {a b : Int} (h : a ≤ b) : cutF a ≤ cutF b := by unfold cutF; repeat' split
                                                                 all_goals omega
theorem cut_le {a : Int} (h : 0 ≤ a) : cutF a ≤ a ∧ 0 ≤ cutF a ∧ cutF (cutF a) = cutF a := by
  unfold cutF
  repeat' split
  all_goals omega
theorem sum_nn {l : List Int} (h : ∀ x ∈ l, 0 ≤ x) : 0 ≤ l.sum := by
  induction l with
  | nil => simp
  | cons a r ih =>
    have h1 := h a (by simp)
    have h2 := ih fun x hx => h x (by simp [hx])
    simp only [List.sum_cons]; omega
theorem adv_nn {t : List Int} (h : ∀ x ∈ t, 0 ≤ x) (u : Int) : 0 ≤ adv t u := by
  unfold adv
  rcases Nat.lt_or_ge u.toNat t.length with hl | hl
  · rw [List.getElem?_eq_getElem hl]; exact h _ (List.getElem_mem hl)
  · rw [List.getElem?_eq_none hl]; simp
theorem advs_nn {t : List Int} (h : ∀ x ∈ t, 0 ≤ x) (l : List Int) : 0 ≤ (advs t l).sum := sum_nn fun x hx => by
  simp only [advs, List.mem_map] at hx
  obtain ⟨u, _, rfl⟩ := hx
  exact adv_nn h u
/-- How much words and gaps bear. -/
def wt (t : List Int) (a : Ab) : Int := (advs t a.us).sum + if a.sp then adv t 32 else 0
def wts (t : List Int) (l : List Ab) : Int := (l.map (wt t)).sum
theorem wts_snoc (t : List Int) (l : List Ab) (a : Ab) : wts t (l ++ [a]) = wts t l + wt t a := by simp [wts]
theorem advs_snoc (t l : List Int) (u : Int) : (advs t (l ++ [u])).sum = (advs t l).sum + adv t u := by simp [advs]
theorem pend_le {t : List Int} (h : ∀ x ∈ t, 0 ≤ x) (c : St) : (if c.pend = true then adv t 32 else 0) ≤ if c.sp = true then adv t 32 else 0 := by
  have h1 := adv_nn h 32
  rcases hs : c.sp with _ | _
  · have : c.pend = false := by simp [St.pend, hs]
    simp [this]
  · simp only [if_true]; split <;> omega
theorem run_wt {t : List Int} (h : ∀ x ∈ t, 0 ≤ x) (l : List Int) : ∀ c : St, wts t (l.foldl stp c).out + (advs t (l.foldl stp c).cur).sum + (if (l.foldl stp c).sp = true then adv t 32 else 0) ≤ wts t c.out + (advs t c.cur).sum + (if c.sp = true then adv t 32 else 0) + (advs t l).sum := by
  induction l with
  | nil => intro c; simp [advs]; exact Int.le_refl _
  | cons u r ih =>
    intro c
    rw [List.foldl_cons]
    refine Int.le_trans (ih _) ?_
    have e : (advs t (u :: r)).sum = adv t u + (advs t r).sum := by simp [advs]
    rw [e]
    suffices hs : wts t (stp c u).out + (advs t (stp c u).cur).sum + (if (stp c u).sp = true then adv t 32 else 0) ≤ wts t c.out + (advs t c.cur).sum + (if c.sp = true then adv t 32 else 0) + adv t u by omega
    have h1 := adv_nn h 32
    have h2 := adv_nn h u
    have h3 := pend_le h c
    have e0 : (advs t []).sum = 0 := rfl
    unfold stp
    by_cases h32 : u = 32
    · subst h32
      rw [if_pos rfl]
      by_cases hc : c.cur = []
      · rw [if_pos hc, hc]; simp only [if_true, e0]; split <;> omega
      · rw [if_neg hc]; simp only [if_true, e0, wts_snoc, wt]; omega
    · rw [if_neg h32]
      by_cases h10 : u = 10
      · rw [if_pos h10]
        by_cases hc : c.cur = []
        · rw [if_pos hc, hc]; simp only [e0]; omega
        · rw [if_neg hc]; simp only [e0, wts_snoc, wt, Bool.false_eq_true, if_false]; omega
      · rw [if_neg h10]; simp only [advs_snoc]; omega
theorem abs_wt {t : List Int} (h : ∀ x ∈ t, 0 ≤ x) (l : List Int) : wts t (absF l) ≤ (advs t l).sum := by
  have h1 := run_wt h l St.nil
  have h2 := advs_nn h (runA l).cur
  have h3 := pend_le h (runA l)
  have h4 := adv_nn h 32
  have e0 : wts t St.nil.out + (advs t St.nil.cur).sum + (if St.nil.sp = true then adv t 32 else 0) = 0 := rfl
  rw [e0] at h1
  unfold absF finA
  have h5 : (0 : Int) ≤ if (runA l).sp = true then adv t 32 else 0 := by split <;> omega
  change wts t (runA l).out + (advs t (runA l).cur).sum + (if (runA l).sp = true then adv t 32 else 0) ≤ _ at h1
  split
  · omega
  · rw [wts_snoc, wt]; dsimp only; omega
end Go.Proofs.Ytgahmlbemaagbaa
