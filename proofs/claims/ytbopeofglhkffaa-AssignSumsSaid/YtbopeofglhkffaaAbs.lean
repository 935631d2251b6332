/- Words without their places: the units of each, the ends ahead, whether a gap counts. Plain. -/
import Derived.Test.YtbopeofglhkffaaAsa
import Derived.Test.YtbopeofglhkffaaItg
import Derived.Test.YtbopeofglhkffaaApp
set_option linter.unusedSimpArgs false
set_option linter.unusedVariables false
namespace Go.Proofs.Ytbopeofglhkffaa
/-- What is known of what a child gets. -/
structure KidG (s : Sty) (ki u1 least : Int) (t : Int × Int × Int) (b : Bool) : Prop where
  w : 0 ≤ t.1 ∧ t.1 ≤ 1099511627776
  l : -1099511627776 ≤ t.2.1 ∧ t.2.1 ≤ 1099511627776
  r : -1099511627776 ≤ t.2.2 ∧ t.2.2 ≤ 1099511627776
  text : s.kind = 3 → t = (0, 0, 0)
  flow : s.kind ≠ 3 → ki = 1 → s.float = 0 → b = false → t.2.1 + frameF s + t.1 + t.2.2 = u1
  float : s.kind ≠ 3 → ki ≠ 2 → s.float ≠ 0 → b = false → s.w.k = 0 → s.minw.k = 0 → t.1 ≤ max (u1 - frameF s - t.2.1 - t.2.2) (max least 0)
theorem cutF_bdK (a : Int) : -1099511627776 ≤ cutF a ∧ cutF a ≤ 1099511627776 := by unfold cutF; repeat' split; all_goals omega
theorem cutF_idK {a : Int} (h : cutB a = false) : cutF a = a := by
  unfold cutB at h
  simp at h
  unfold cutF
  repeat' split
  all_goals omega
theorem cutF_posK {a : Int} (h : 0 ≤ a) : 0 ≤ cutF a := by unfold cutF; repeat' split; all_goals omega
theorem clampF_posK (s : Sty) (c v : Int) : 0 ≤ clampF s c v := by unfold clampF; dsimp only; exact Int.le_max_right ..
theorem flowN_pos (s : Sty) (c : Int) : 0 ≤ (flowN s c).1 := by
  unfold flowN flowL
  dsimp only
  generalize hv : (bif (resF s.w c).2 then (resF s.w c).1 else max (c - frameF s - (resF s.m3 c).1 - (resF s.m1 c).1) 0) = v
  have h := clampF_posK s c v
  cases h1 : ((resF s.w c).2 || clampF s c v != v)
  · simp only [cond_false]
    rw [Bool.or_eq_false_iff] at h1
    have h2 : clampF s c v = v := by simpa using h1.2
    omega
  · simpa only [cond_true] using h
theorem flowN_sum (s : Sty) (c : Int) : (flowN s c).2.1 + frameF s + (flowN s c).1 + (flowN s c).2.2 = c := by
  unfold flowN flowL
  dsimp only
  generalize (bif (resF s.w c).2 then (resF s.w c).1 else max (c - frameF s - (resF s.m3 c).1 - (resF s.m1 c).1) 0) = v
  cases ((resF s.w c).2 || clampF s c v != v)
  · simp only [cond_false]; omega
  · simp only [cond_true]; omega
theorem overN_no {t : Int × Int × Int} (h : overN t = false) : usedN t = t := by
  unfold overN at h
  rw [Bool.or_eq_false_iff, Bool.or_eq_false_iff] at h
  unfold usedN
  rw [cutF_idK h.1.1, cutF_idK h.1.2, cutF_idK h.2]
theorem shrN_le (s : Sty) (c least greatest : Int) (hw : s.w.k = 0) (hm : s.minw.k = 0) : (shrN s c least greatest).1 ≤ max (c - frameF s - (shrN s c least greatest).2.1 - (shrN s c least greatest).2.2) (max least 0) := by
  have h1 : (resF s.w c).2 = false := by unfold resF; rw [if_neg (by omega), if_neg (by omega)]
  have h2 : (resF s.minw c).2 = false := by unfold resF; rw [if_neg (by omega), if_neg (by omega)]
  unfold shrN
  dsimp only
  rw [h1]
  unfold clampF
  rw [h2]
  dsimp only
  simp only [Bool.false_eq_true, if_false]
  split <;> omega
theorem kid_good (s : Sty) (ki c : Int) (x : Cn) : KidG s ki c x.least (kidU s c x) (kidB s c x) := by
  unfold kidU kidB
  by_cases h3 : s.kind = 3
  · rw [if_pos h3, if_pos h3]
    exact ⟨⟨by decide, by decide⟩, ⟨by decide, by decide⟩, ⟨by decide, by decide⟩, fun _ => rfl, fun h => absurd h3 h, fun h => absurd h3 h⟩
  · rw [if_neg h3, if_neg h3]
    refine ⟨⟨cutF_posK ?_, (cutF_bdK _).2⟩, cutF_bdK _, cutF_bdK _, fun h => absurd h h3, fun _ _ hf hb => ?_, fun _ _ hf hb hw hm => ?_⟩
    · unfold kidK
      rw [if_neg h3]
      split
      · exact clampF_posK ..
      · exact flowN_pos ..
    · rw [overN_no hb]
      unfold kidK
      rw [if_neg h3, if_neg (by omega)]
      exact flowN_sum s c
    · rw [overN_no hb]
      unfold kidK
      rw [if_neg h3, if_pos hf]
      exact shrN_le s c _ _ hw hm
/-! Items are no narrower than 0. -/
structure ItP (x : It) : Prop where
  w : 0 ≤ x.width
  g : 0 ≤ x.guess
theorem start_p {grows : Bool} {M : Nat → It} (ks : List Nat) (h : ∀ k, ItP (M k)) (k : Nat) : ItP (startM grows M ks k) := by
  unfold startM
  split
  · unfold startI
    split
    · exact ⟨(h k).g, (h k).g⟩
    · exact ⟨(h k).w, (h k).g⟩
  · exact h k
theorem round_p {room : Int} {grows : Bool} {M : Nat → It} (ks : List Nat) (h : ∀ k, ItP (M k)) (k : Nat) : ItP (roundM room grows M ks k) := by
  have ha : ∀ k, ItP (aimsM M (othM M ks) (restM room M ks) grows k) := fun k => by
    unfold aimsM
    split
    · exact ⟨(h k).w, (h k).g⟩
    · exact h k
  unfold roundM holdM
  split
  · unfold holdI
    split
    · exact ⟨clampF_posK .., (ha k).g⟩
    · exact ha k
  · exact ha k
theorem loop_p : ∀ (n : Nat) (room : Int) (grows : Bool) (M : Nat → It) (ks : List Nat), (∀ k, ItP (M k)) → ∀ k, ItP (loopM n room grows M ks k)
  | 0, _, _, _, _, h => h
  | n + 1, room, grows, M, ks, h => by
    intro k
    rw [loopM]
    split
    · exact h k
    · exact loop_p n room grows _ ks (round_p ks h) k
theorem fit_p (c : Int) {M : Nat → It} (ks : List Nat) (h : ∀ k, ItP (M k)) (k : Nat) : ItP (fitM c M ks k) := loop_p _ _ _ _ _ (start_p ks h) k
theorem fits_p (c : Int) : ∀ (rows : List (List Nat)) (M : Nat → It), (∀ k, ItP (M k)) → ∀ k, ItP (fitsM c M rows k)
  | [], _, h => h
  | r :: t, M, h => fits_p c t _ (fit_p c r h)
theorem mains_p (s : Sty) (c : Int) (l : List Sty) (got : List Cn) (k : Nat) : 0 ≤ (mainsM s c l got k).width :=
  (fits_p c _ _ (fun k => ⟨Int.le_refl _, clampF_posK ..⟩) k).w
theorem used_good (s s2 : Sty) (c c2 least : Int) (l : List Sty) (got : List Cn) (k : Nat) (h3 : s2.kind ≠ 3) : KidG s2 2 c2 least (usedT (mainsM s c l got k)) (usedB (mainsM s c l got k)) := by
  refine ⟨⟨cutF_posK ?_, (cutF_bdK _).2⟩, cutF_bdK _, cutF_bdK _, fun h => absurd h h3, fun _ h => absurd h (by decide), fun _ h => absurd rfl h⟩
  have := mains_p s c l got k
  unfold numF
  repeat' split
  all_goals omega
end Go.Proofs.Ytbopeofglhkffaa
namespace Go.Proofs.Ytbopeofglhkffaa
def o2P (s : Sty) (v : Int) : Int := if s.maxw.k = 1 ∧ s.maxw.n ≤ cutF (out1 s v) then s.maxw.n else out1 s v
def o3P (s : Sty) (v : Int) : Int := if s.minw.k = 1 ∧ cutF (o2P s v) ≤ s.minw.n then s.minw.n else o2P s v
def outP (s : Sty) (v : Int) : Int := max (o3P s v + frameF s + bareF s.m3 + bareF s.m1) 0
theorem cutF_cases (a : Int) : (a < -1099511627776 ∧ cutF a = -1099511627776) ∨ (1099511627776 < a ∧ cutF a = 1099511627776) ∨ (-1099511627776 ≤ a ∧ a ≤ 1099511627776 ∧ cutF a = a) := by
  unfold cutF; repeat' split
  all_goals omega
theorem out1_mono (s : Sty) {a b : Int} (h : a ≤ b) : out1 s a ≤ out1 s b := by unfold out1; split <;> omega
theorem o2P_mono {s : Sty} (hs : StyB s) {a b : Int} (h : a ≤ b) : o2P s a ≤ o2P s b := by
  have h1 := out1_mono s h
  have h2 := cutF_cases (out1 s a)
  have h3 := cutF_cases (out1 s b)
  have := hs.maxw
  unfold o2P
  repeat' split
  all_goals omega
theorem o3P_mono {s : Sty} (hs : StyB s) {a b : Int} (h : a ≤ b) : o3P s a ≤ o3P s b := by
  have h1 := o2P_mono hs h
  have h2 := cutF_cases (o2P s a)
  have h3 := cutF_cases (o2P s b)
  have := hs.minw
  unfold o3P
  repeat' split
  all_goals omega
theorem outP_mono {s : Sty} (hs : StyB s) {a b : Int} (h : a ≤ b) : outP s a ≤ outP s b := by
  have := o3P_mono hs h
  unfold outP; omega
theorem outP_nn (s : Sty) (a : Int) : 0 ≤ outP s a := by unfold outP; omega
def conP (s : Sty) (r : Int × Int × Bool) : Cn × Bool :=
  (⟨cutF r.1, cutF r.2.1, cutF (outP s r.1), cutF (outP s r.2.1)⟩, r.2.2 || cutB r.1 || cutB r.2.1 || cutB (outP s r.1) || cutB (outP s r.2.1))
def nodeP (l : List Nd) (adv : List Int) (i : Int) (kids : List Int) (got : List Cn) : Cn × Bool :=
  match styAt l i with
  | none => (⟨0, 0, 0, 0⟩, false)
  | some s => if s.kind = 3 then (⟨0, 0, 0, 0⟩, false) else conP s (wantF l adv s kids got)
end Go.Proofs.Ytbopeofglhkffaa
namespace Go.Proofs.Ytbopeofglhkffaa
def isLet (u : Int) : Bool := !decide (u = 32) && !decide (u = 10)
def letN (l : List Int) (k : Nat) : Bool := decide (k < l.length) && isLet (l[k]?.getD 0)
def begins (l : List Int) (k : Nat) : Bool := letN l k && !(decide (0 < k) && letN l (k - 1))
end Go.Proofs.Ytbopeofglhkffaa
namespace Go.Proofs.Ytbopeofglhkffaa
def endsF (l : List Int) : Int := if l.any isLet then -1 else l.count 10
theorem endsF_of {l : List Int} {n : Nat} (h : endsF l = n) : l.any isLet = false ∧ l.count 10 = n := by
  unfold endsF at h
  split at h
  · omega
  · rename_i h'; exact ⟨by simpa using h', by omega⟩
theorem endsF_mk {l : List Int} {n : Nat} (h : l.any isLet = false) (h' : l.count 10 = n) : endsF l = n := by unfold endsF; rw [h]; simp [h']
theorem endsF_32 {l : List Int} {n : Nat} (h : endsF l = n) : endsF (l ++ [32]) = n := by
  obtain ⟨h1, h2⟩ := endsF_of h
  exact endsF_mk (by rw [List.any_append, h1]; rfl) (by rw [List.count_append, h2]; rfl)
theorem endsF_10 {l : List Int} {n : Nat} (h : endsF l = n) : endsF (l ++ [10]) = (n + 1 : Nat) := by
  obtain ⟨h1, h2⟩ := endsF_of h
  exact endsF_mk (by rw [List.any_append, h1]; rfl) (by rw [List.count_append, h2]; rfl)
def seg (l : List Int) (a b : Nat) : List Int := (l.drop a).take (b - a)
theorem seg_nil (l : List Int) (a : Nat) : seg l a a = [] := by simp [seg]
theorem seg_snoc (l : List Int) {a k : Nat} (ha : a ≤ k) (hk : k < l.length) : seg l a (k + 1) = seg l a k ++ [l[k]] := by
  unfold seg
  rw [show k + 1 - a = (k - a) + 1 by omega, List.take_succ_eq_append_getElem (by simp; omega)]
  congr 2
  simp [show a + (k - a) = k by omega]
theorem seg_end (l : List Int) (a : Nat) : seg l a l.length = l.drop a := by
  unfold seg; exact List.take_of_length_le (by simp)
def upAt (o : List Sp) (i : Nat) : Nat := if i = 0 then 0 else ((o[i - 1]?).map Sp.up).getD 0
theorem upAt_old (o : List Sp) (x : Sp) {i : Nat} (h : i ≤ o.length) : upAt (o ++ [x]) i = upAt o i := by
  unfold upAt
  by_cases hi : i = 0
  · simp [hi]
  · rw [if_neg hi, if_neg hi, List.getElem?_append_left (by omega)]
theorem upAt_new (o : List Sp) (x : Sp) : upAt (o ++ [x]) (o.length + 1) = x.up := by simp [upAt]
structure GoodSp (l : List Int) (o : List Sp) (i : Nat) (s : Sp) : Prop where
  a : upAt o i ≤ s.fr
  b : 0 < i → s.fr ≠ upAt o i
  c : s.fr < s.up
  d : s.up ≤ l.length
  e : endsF (seg l (upAt o i) s.fr) = s.ends
  f : ∀ k, s.fr ≤ k → k < s.up → letN l k = true
theorem GoodSp.old {l : List Int} {o : List Sp} {x s : Sp} {i : Nat} (h : GoodSp l o i s) (hi : i ≤ o.length) : GoodSp l (o ++ [x]) i s := by
  obtain ⟨a, b, c, d, e, f⟩ := h
  refine ⟨?_, ?_, c, d, ?_, f⟩ <;> rw [upAt_old o x hi] <;> assumption
structure Inv (l : List Int) (k : Nat) (c : Sc) : Prop where
  good : ∀ i s, c.out[i]? = some s → GoodSp l c.out i s
  up : upAt c.out c.out.length ≤ k
  out : c.ins = false → endsF (seg l (upAt c.out c.out.length) k) = c.s.ends ∧ (0 < c.out.length → upAt c.out c.out.length < k)
  ins : c.ins = true → upAt c.out c.out.length ≤ c.s.fr ∧ (0 < c.out.length → c.s.fr ≠ upAt c.out c.out.length) ∧ c.s.fr < k ∧ endsF (seg l (upAt c.out c.out.length) c.s.fr) = c.s.ends ∧ ∀ j, c.s.fr ≤ j → j < k → letN l j = true
theorem inv_close {l : List Int} {k : Nat} {c : Sc} (h : Inv l k c) (hk : k ≤ l.length) (hi : c.ins = true) : (∀ i s, (c.out ++ [⟨c.s.fr, k, c.s.ends, c.s.sp⟩])[i]? = some s → GoodSp l (c.out ++ [⟨c.s.fr, k, c.s.ends, c.s.sp⟩]) i s) := by
  obtain ⟨h1, h2, h3, h4, h5⟩ := h.ins hi
  intro i s hs
  rcases Nat.lt_or_ge i c.out.length with hlt | hge
  · rw [List.getElem?_append_left hlt] at hs
    exact (h.good i s hs).old (by omega)
  · rw [List.getElem?_append_right hge] at hs
    have hi0 : i = c.out.length := by
      have := (List.getElem?_eq_some_iff.1 hs).1
      simp at this; omega
    subst hi0
    simp at hs
    subst hs
    refine ⟨?_, ?_, h3, hk, ?_, h5⟩
    · rw [upAt_old _ _ (Nat.le_refl _)]; exact h1
    · rw [upAt_old _ _ (Nat.le_refl _)]; exact h2
    · rw [upAt_old _ _ (Nat.le_refl _)]; exact h4
theorem inv_all (l : List Int) : ∀ k, k ≤ l.length → Inv l k (sc l k) := by
  intro k
  induction k with
  | zero => intro _; exact ⟨by simp [sc], by simp [sc, upAt], fun _ => by simp [sc, upAt, seg, endsF, Sp.nil], by simp [sc]⟩
  | succ k ih =>
    intro hk
    have h := ih (by omega)
    have hlt : k < l.length := by omega
    have hu : l[k]?.getD 0 = l[k] := by simp [hlt]
    have hcl := fun hi => inv_close h (by omega) hi
    simp only [sc, scStep]
    rw [hu]
    by_cases h32 : l[k] = 32
    · rw [if_pos h32]
      rcases hi : (sc l k).ins with _ | _
      · obtain ⟨e1, e2⟩ := h.out hi
        refine ⟨h.good, Nat.le_succ_of_le h.up, fun _ => ⟨?_, fun hp => Nat.lt_succ_of_lt (e2 hp)⟩, fun hi => by cases hi⟩
        show endsF (seg l (upAt (sc l k).out (sc l k).out.length) (k + 1)) = _
        rw [seg_snoc l h.up hlt, h32]; exact endsF_32 e1
      · refine ⟨hcl hi, ?_, fun _ => ⟨?_, fun _ => ?_⟩, fun hi => by cases hi⟩
        · simp [upAt]
        · show endsF (seg l (upAt ((sc l k).out ++ [_]) ((sc l k).out ++ [_]).length) (k + 1)) = _
          rw [List.length_append, List.length_singleton, upAt_new, seg_snoc l (Nat.le_refl _) hlt, seg_nil, h32]; rfl
        · simp [upAt]
    · rw [if_neg h32]
      by_cases h10 : l[k] = 10
      · rw [if_pos h10]
        rcases hi : (sc l k).ins with _ | _
        · obtain ⟨e1, e2⟩ := h.out hi
          refine ⟨h.good, Nat.le_succ_of_le h.up, fun _ => ⟨?_, fun hp => Nat.lt_succ_of_lt (e2 hp)⟩, fun hi => by cases hi⟩
          show endsF (seg l (upAt (sc l k).out (sc l k).out.length) (k + 1)) = _
          rw [seg_snoc l h.up hlt, h10]; exact endsF_10 e1
        · refine ⟨hcl hi, ?_, fun _ => ⟨?_, fun _ => ?_⟩, fun hi => by cases hi⟩
          · simp [upAt]
          · show endsF (seg l (upAt ((sc l k).out ++ [_]) ((sc l k).out ++ [_]).length) (k + 1)) = _
            rw [List.length_append, List.length_singleton, upAt_new, seg_snoc l (Nat.le_refl _) hlt, seg_nil, h10]; rfl
          · simp [upAt]
      · rw [if_neg h10]
        have hL : letN l k = true := by simp [letN, isLet, hlt, h32, h10]
        rcases hi : (sc l k).ins with _ | _
        · obtain ⟨e1, e2⟩ := h.out hi
          refine ⟨h.good, Nat.le_succ_of_le h.up, fun hi => by simp at hi, fun _ => ⟨h.up, fun hp => Nat.ne_of_gt (e2 hp), Nat.lt_succ_self k, e1, fun j h1 h2 => ?_⟩⟩
          have : j = k := by simp at h1; omega
          rw [this]; exact hL
        · obtain ⟨e1, e2, e3, e4, e5⟩ := h.ins hi
          refine ⟨h.good, Nat.le_succ_of_le h.up, fun hi' => by simp [hi] at hi', fun _ => ⟨e1, e2, Nat.lt_succ_of_lt e3, e4, fun j h1 h2 => ?_⟩⟩
          rcases Nat.lt_succ_iff_lt_or_eq.1 h2 with h2 | rfl
          · exact e5 j h1 h2
          · exact hL
theorem whole (l : List Int) : (∀ i s, (spansF l)[i]? = some s → GoodSp l (spansF l) i s) ∧ 0 ≤ endsF (l.drop (upAt (spansF l) (spansF l).length)) ∧ upAt (spansF l) (spansF l).length ≤ l.length := by
  have h := inv_all l l.length (Nat.le_refl _)
  unfold spansF
  rcases hi : (sc l l.length).ins with _ | _
  · rw [if_neg (by simp)]
    obtain ⟨e1, _⟩ := h.out hi
    rw [seg_end] at e1
    exact ⟨h.good, by rw [e1]; omega, h.up⟩
  · rw [if_pos rfl]
    refine ⟨inv_close h (Nat.le_refl _) hi, ?_, ?_⟩
    · rw [List.length_append, List.length_singleton, upAt_new]
      simp [endsF]
    · rw [List.length_append, List.length_singleton, upAt_new]; exact Nat.le_refl _
end Go.Proofs.Ytbopeofglhkffaa
namespace Go.Proofs.Ytbopeofglhkffaa
open Go.RowKit
/-- The words of a text, index by index. -/
theorem wordsOf_mapIdx (t l : List Int) (pre : List Sp) : wordsOf t l pre = (pre.mapIdx (fun i s => mkW t l (decide (i = 0)) s), (pre.mapIdx fun i s => overW t l (decide (i = 0)) s).any id) := by
  have gen : ∀ (n : Nat) (pre : List Sp), pre.length = n → wordsOf t l pre = (pre.mapIdx (fun i s => mkW t l (decide (i = 0)) s), (pre.mapIdx fun i s => overW t l (decide (i = 0)) s).any id) := by
    intro n
    induction n with
    | zero => intro pre h; obtain rfl := List.length_eq_zero_iff.1 h; rfl
    | succ n ih =>
      intro pre h
      have hne : pre ≠ [] := by intro e; rw [e] at h; simp at h
      obtain ⟨p, s, rfl⟩ : ∃ p s, pre = p ++ [s] := ⟨pre.dropLast, pre.getLast hne, (List.dropLast_concat_getLast hne).symm⟩
      have hl : p.length = n := by simpa using h
      rw [wordsOf_snoc, stepW, ih p hl, List.mapIdx_concat, List.mapIdx_concat]
      have e : (List.mapIdx (fun i s => mkW t l (decide (i = 0)) s) p).isEmpty = decide (p.length = 0) := by
        cases p <;> simp
      simp only [e, List.any_append, List.any_cons, List.any_nil, Bool.or_false, id]
  exact gen _ pre rfl
def behind (u : List Int) : Nat := 1 + (u.drop (upAt (spansF u) (spansF u).length)).count 10
structure Mv (n b i : Nat) (x y : Sp) : Prop where
  fr : x.fr = y.fr + n
  up : x.up = y.up + n
  ends : x.ends = y.ends + if i = 0 then b else 0
  sp : 0 < i → x.sp = y.sp
end Go.Proofs.Ytbopeofglhkffaa
namespace Go.Proofs.Ytbopeofglhkffaa
open Go.RowKit
structure Ab where
  us : List Int
  ends : Nat
  sp : Bool
structure St where
  cur : List Int
  ends : Nat
  sp : Bool
  out : List Ab
def St.pend (c : St) : Bool := c.sp && decide (c.ends = 0) && !c.out.isEmpty
def stp (c : St) (u : Int) : St :=
  if u = 32 then (if c.cur = [] then ⟨[], c.ends, true, c.out⟩ else ⟨[], 0, true, c.out ++ [⟨c.cur, c.ends, c.pend⟩]⟩)
  else if u = 10 then (if c.cur = [] then ⟨[], c.ends + 1, c.sp, c.out⟩ else ⟨[], 1, false, c.out ++ [⟨c.cur, c.ends, c.pend⟩]⟩)
  else ⟨c.cur ++ [u], c.ends, c.sp, c.out⟩
def St.nil : St := ⟨[], 0, false, []⟩
def runA (l : List Int) : St := l.foldl stp St.nil
def finA (c : St) : List Ab := if c.cur = [] then c.out else c.out ++ [⟨c.cur, c.ends, c.pend⟩]
def absF (l : List Int) : List Ab := finA (runA l)
theorem runA_snoc (l : List Int) (u : Int) : runA (l ++ [u]) = stp (runA l) u := by simp [runA]
def absOf (l : List Int) (pre : List Sp) : List Ab := pre.foldl (fun o s => o ++ [⟨part l s, s.ends, gapIs o.isEmpty s⟩]) []
theorem absOf_snoc (l : List Int) (pre : List Sp) (s : Sp) : absOf l (pre ++ [s]) = absOf l pre ++ [⟨part l s, s.ends, gapIs (absOf l pre).isEmpty s⟩] := by simp [absOf]
theorem gapIs_eq (o : List Ab) (s : Sp) : gapIs o.isEmpty s = (s.sp && decide (s.ends = 0) && !o.isEmpty) := rfl
theorem run_sc (l : List Int) : ∀ k, k ≤ l.length → runA (l.take k) = ⟨if (sc l k).ins then seg l (sc l k).s.fr k else [], (sc l k).s.ends, (sc l k).s.sp, absOf l (sc l k).out⟩ ∧ ((sc l k).ins = true → (sc l k).s.fr < k) := by
  intro k
  induction k with
  | zero => intro _; simp [runA, sc, absOf, St.nil, Sp.nil]
  | succ k ih =>
    intro hk
    have hlt : k < l.length := by omega
    obtain ⟨h1, h2⟩ := ih (by omega)
    have hu : l[k]?.getD 0 = l[k] := by simp [hlt]
    rw [List.take_succ_eq_append_getElem hlt, runA_snoc, h1]
    simp only [sc, scStep, hu]
    unfold stp
    by_cases h32 : l[k] = 32
    · simp only [if_pos h32]
      rcases hi : (sc l k).ins with _ | _
      · simp
      · have hne : seg l (sc l k).s.fr k ≠ [] := by
          have := h2 hi
          intro he
          have := congrArg List.length he
          simp [seg] at this; omega
        simp only [if_true, if_neg hne, Bool.false_eq_true, if_false, absOf_snoc, gapIs_eq]
        exact ⟨rfl, fun h => by cases h⟩
    · simp only [if_neg h32]
      by_cases h10 : l[k] = 10
      · simp only [if_pos h10]
        rcases hi : (sc l k).ins with _ | _
        · simp
        · have hne : seg l (sc l k).s.fr k ≠ [] := by
            have := h2 hi
            intro he
            have := congrArg List.length he
            simp [seg] at this; omega
          simp only [if_true, if_neg hne, Bool.false_eq_true, if_false, absOf_snoc, gapIs_eq]
          exact ⟨rfl, fun h => by cases h⟩
      · simp only [if_neg h10]
        rcases hi : (sc l k).ins with _ | _
        · simp [seg_snoc l (Nat.le_refl k) hlt, seg_nil]
        · simp [hi, seg_snoc l (Nat.le_of_lt (h2 hi)) hlt, Nat.lt_succ_of_lt (h2 hi)]
theorem abs_spans (l : List Int) : absF l = absOf l (spansF l) := by
  obtain ⟨h1, h2⟩ := run_sc l l.length (Nat.le_refl _)
  rw [List.take_of_length_le (Nat.le_refl _)] at h1
  unfold absF spansF
  rw [h1]
  unfold finA
  rcases hi : (sc l l.length).ins with _ | _
  · simp
  · have hne : seg l (sc l l.length).s.fr l.length ≠ [] := by
      have := h2 hi
      intro he
      have := congrArg List.length he
      simp [seg] at this; omega
    simp only [if_true, if_neg hne, absOf_snoc, gapIs_eq]
    rfl
/-- What of a word says how wide it is. -/
def vw (x : Wd) : Int × Int × Int × Int := (x.w, x.gap, x.forced, x.up - x.fr)
def va (t : List Int) (a : Ab) : Int × Int × Int × Int := (cutF (advs t a.us).sum, if a.sp then cutF (adv t 32) else 0, a.ends, a.us.length)
def oa (t : List Int) (a : Ab) : Bool := cutB (advs t a.us).sum || (a.sp && cutB (adv t 32))
theorem words_abs_of (t l : List Int) (pre : List Sp) : (∀ s ∈ pre, s.fr < s.up ∧ s.up ≤ l.length) → ∀ (c : List Wd × Bool) (o : List Ab), c.1.map vw = o.map (va t) → c.2 = o.any (oa t) → c.1.isEmpty = o.isEmpty →
    (pre.foldl (stepW t l) c).1.map vw = (pre.foldl (fun o s => o ++ [⟨part l s, s.ends, gapIs o.isEmpty s⟩]) o).map (va t) ∧ (pre.foldl (stepW t l) c).2 = (pre.foldl (fun o s => o ++ [⟨part l s, s.ends, gapIs o.isEmpty s⟩]) o).any (oa t) := by
  induction pre with
  | nil => intro _ c o h1 h2 h3; exact ⟨h1, h2⟩
  | cons s pre ih =>
    intro hb c o h1 h2 h3
    have hs := hb s (by simp)
    rw [List.foldl_cons, List.foldl_cons]
    refine ih (fun s hs => hb s (by simp [hs])) _ _ ?_ ?_ (by rw [Bool.eq_iff_iff]; simp [stepW])
    · simp only [stepW, List.map_append, h1, h3, List.map_cons, List.map_nil]
      congr 1
      have hp : ((part l s).length : Int) = (s.up : Int) - s.fr := by simp [part]; omega
      simp [vw, va, mkW, hp]
    · simp [stepW, h2, h3, overW, oa]
theorem words_abs (t l : List Int) : (wordsF t l).1.map vw = (absF l).map (va t) ∧ (wordsF t l).2 = (absF l).any (oa t) := by
  rw [abs_spans]
  exact words_abs_of t l (spansF l) (fun s hs => ⟨(spans_bounds l s hs).1, (spans_bounds l s hs).2.1⟩) ([], false) [] rfl rfl rfl
/-! ### Spaces that say nothing -/
/-! ### Of advances that are at least 0 -/
theorem cut_mono {a b : Int} (h : a ≤ b) : cutF a ≤ cutF b := by unfold cutF; repeat' split
                                                                 all_goals omega
theorem cut_le {a : Int} (h : 0 ≤ a) : cutF a ≤ a ∧ 0 ≤ cutF a ∧ cutF (cutF a) = cutF a := by
  unfold cutF
  repeat' split
  all_goals omega
theorem adv_nn {t : List Int} (h : ∀ x ∈ t, 0 ≤ x) (u : Int) : 0 ≤ adv t u := by
  unfold adv
  rcases Nat.lt_or_ge u.toNat t.length with hl | hl
  · rw [List.getElem?_eq_getElem hl]; exact h _ (List.getElem_mem hl)
  · rw [List.getElem?_eq_none hl]; simp
theorem advs_nn {t : List Int} (h : ∀ x ∈ t, 0 ≤ x) (l : List Int) : 0 ≤ (advs t l).sum := sum_nn fun x hx => by
  simp only [advs, List.mem_map] at hx
  obtain ⟨u, _, rfl⟩ := hx
  exact adv_nn h u
/-- How much words and gaps bear. -/
def wt (t : List Int) (a : Ab) : Int := (advs t a.us).sum + if a.sp then adv t 32 else 0
def wts (t : List Int) (l : List Ab) : Int := (l.map (wt t)).sum
theorem wts_snoc (t : List Int) (l : List Ab) (a : Ab) : wts t (l ++ [a]) = wts t l + wt t a := by simp [wts]
theorem advs_snoc (t l : List Int) (u : Int) : (advs t (l ++ [u])).sum = (advs t l).sum + adv t u := by simp [advs]
theorem pend_le {t : List Int} (h : ∀ x ∈ t, 0 ≤ x) (c : St) : (if c.pend = true then adv t 32 else 0) ≤ if c.sp = true then adv t 32 else 0 := by
  have h1 := adv_nn h 32
  rcases hs : c.sp with _ | _
  · have : c.pend = false := by simp [St.pend, hs]
    simp [this]
  · simp only [if_true]; split <;> omega
theorem run_wt {t : List Int} (h : ∀ x ∈ t, 0 ≤ x) (l : List Int) : ∀ c : St, wts t (l.foldl stp c).out + (advs t (l.foldl stp c).cur).sum + (if (l.foldl stp c).sp = true then adv t 32 else 0) ≤ wts t c.out + (advs t c.cur).sum + (if c.sp = true then adv t 32 else 0) + (advs t l).sum := by
  induction l with
  | nil => intro c; simp [advs]; exact Int.le_refl _
  | cons u r ih =>
    intro c
    rw [List.foldl_cons]
    refine Int.le_trans (ih _) ?_
    have e : (advs t (u :: r)).sum = adv t u + (advs t r).sum := by simp [advs]
    rw [e]
    suffices hs : wts t (stp c u).out + (advs t (stp c u).cur).sum + (if (stp c u).sp = true then adv t 32 else 0) ≤ wts t c.out + (advs t c.cur).sum + (if c.sp = true then adv t 32 else 0) + adv t u by omega
    have h1 := adv_nn h 32
    have h2 := adv_nn h u
    have h3 := pend_le h c
    have e0 : (advs t []).sum = 0 := rfl
    unfold stp
    by_cases h32 : u = 32
    · subst h32
      rw [if_pos rfl]
      by_cases hc : c.cur = []
      · rw [if_pos hc, hc]; simp only [if_true, e0]; split <;> omega
      · rw [if_neg hc]; simp only [if_true, e0, wts_snoc, wt]; omega
    · rw [if_neg h32]
      by_cases h10 : u = 10
      · rw [if_pos h10]
        by_cases hc : c.cur = []
        · rw [if_pos hc, hc]; simp only [e0]; omega
        · rw [if_neg hc]; simp only [e0, wts_snoc, wt, Bool.false_eq_true, if_false]; omega
      · rw [if_neg h10]; simp only [advs_snoc]; omega
theorem abs_wt {t : List Int} (h : ∀ x ∈ t, 0 ≤ x) (l : List Int) : wts t (absF l) ≤ (advs t l).sum := by
  have h1 := run_wt h l St.nil
  have h2 := advs_nn h (runA l).cur
  have h3 := pend_le h (runA l)
  have h4 := adv_nn h 32
  have e0 : wts t St.nil.out + (advs t St.nil.cur).sum + (if St.nil.sp = true then adv t 32 else 0) = 0 := rfl
  rw [e0] at h1
  unfold absF finA
  have h5 : (0 : Int) ≤ if (runA l).sp = true then adv t 32 else 0 := by split <;> omega
  change wts t (runA l).out + (advs t (runA l).cur).sum + (if (runA l).sp = true then adv t 32 else 0) ≤ _ at h1
  split
  · omega
  · rw [wts_snoc, wt]; dsimp only; omega
end Go.Proofs.Ytbopeofglhkffaa
