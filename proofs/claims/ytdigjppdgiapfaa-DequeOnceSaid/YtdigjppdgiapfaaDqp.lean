/- Each task once: the rounds of the law. Plain. -/
import Derived.Test.YtdigjppdgiapfaaDqo
set_option linter.unusedSimpArgs false
set_option linter.unusedVariables false
namespace Go.Proofs.Ytdigjppdgiapfaa

/-- How many steps are left at most. -/
def rem (pc : Nat) : Nat := if pc = 0 then 0 else if pc ≤ 4 then 5 - pc else if pc ≤ 10 then 11 - pc else 15 - pc
def nxt (i k : Nat) : Nat := k + (i + 7 - k % 7) % 7
theorem rem_le (pc : Nat) : rem pc ≤ 6 := by unfold rem; split <;> (try split) <;> (try split) <;> omega
theorem rem_pos {pc : Nat} (h : 1 ≤ pc) (h2 : pc ≤ 14) : 1 ≤ rem pc := by unfold rem; split <;> (try split) <;> (try split) <;> omega
theorem rem_step (d : Dq) (h : Dop) (h1 : 1 ≤ h.pc) (h2 : h.pc ≤ 14) : rem (dstep d h).2.1.pc + 1 ≤ rem h.pc := by
  obtain ⟨q, b, t, x, sw, how⟩ := h
  dsimp only at h1 h2
  have hq : (q = 1 ∨ q = 2 ∨ q = 3 ∨ q = 4 ∨ q = 5 ∨ q = 6 ∨ q = 7) ∨ (q = 8 ∨ q = 9 ∨ q = 10 ∨ q = 11 ∨ q = 12 ∨ q = 13 ∨ q = 14) := by omega
  rcases hq with (rfl | rfl | rfl | rfl | rfl | rfl | rfl) | (rfl | rfl | rfl | rfl | rfl | rfl | rfl)
  all_goals
    simp only [dstep]
    repeat' split
  all_goals simp [rem]
theorem step_kind (d : Dq) (h : Dop) (h1 : 1 ≤ h.pc) (h2 : h.pc ≤ 10) (hp : (dstep d h).2.1.pc ≠ 0) : (h.pc ≤ 4 → (dstep d h).2.1.pc ≤ 4 ∧ (dstep d h).2.1.x = h.x) ∧ (5 ≤ h.pc → 5 ≤ (dstep d h).2.1.pc ∧ (dstep d h).2.1.pc ≤ 10) := by
  obtain ⟨q, b, t, x, sw, how⟩ := h
  dsimp only at h1 h2
  have hq : (q = 1 ∨ q = 2 ∨ q = 3 ∨ q = 4 ∨ q = 5) ∨ (q = 6 ∨ q = 7 ∨ q = 8 ∨ q = 9 ∨ q = 10) := by omega
  revert hp
  rcases hq with (rfl | rfl | rfl | rfl | rfl) | (rfl | rfl | rfl | rfl | rfl)
  all_goals
    simp only [dstep]
    repeat' split
  all_goals simp
theorem step_put_x (d : Dq) (h : Dop) (h1 : 1 ≤ h.pc) (h2 : h.pc ≤ 14) (h0 : h.how = 0) : (dstep d h).2.1.how ≤ 5 ∧ ((dstep d h).2.1.how = 1 → h.pc = 4 ∧ (dstep d h).2.1.x = h.x) ∧ ((dstep d h).2.1.how = 4 → 11 ≤ h.pc) ∧ ((dstep d h).2.1.pc = 10 → h.pc = 9) := by
  obtain ⟨q, b, t, x, sw, how⟩ := h
  dsimp only at h1 h2 h0
  subst h0
  have hq : (q = 1 ∨ q = 2 ∨ q = 3 ∨ q = 4 ∨ q = 5 ∨ q = 6 ∨ q = 7) ∨ (q = 8 ∨ q = 9 ∨ q = 10 ∨ q = 11 ∨ q = 12 ∨ q = 13 ∨ q = 14) := by omega
  rcases hq with (rfl | rfl | rfl | rfl | rfl | rfl | rfl) | (rfl | rfl | rfl | rfl | rfl | rfl | rfl)
  all_goals
    simp only [dstep]
    repeat' split
  all_goals simp
theorem Tells.of_ {d : Dq} {h : Dop} (t : Tells d h) : h.pc = 0 ↔ h.how ≠ 0 := t.done
/-- Who lost was robbed: of one thief. -/
def Rob (d : Dq) (o : Dop) (gets s : Int) (t : Dop) : Prop := 12 ≤ t.pc → t.t < d.top → s < gets ∨ (o.pc = 10 ∧ o.sw = true)
theorem Rob.own {d : Dq} {o : Dop} {gets s : Int} {t : Dop} (hd : DqOk d o) (ht : ThOk d o t) (hs : s ≤ gets) (h : Rob d o gets s t) (hp : 1 ≤ o.pc) : Rob (dstep d o).1 (dstep d o).2.1 (if (dstep d o).2.1.how = 2 ∧ (dstep d o).2.1.pc = 0 then gets + 1 else gets) s t := by
  intro h12 hlt
  have hto := ht.t (by omega)
  have pc := hd.pc
  obtain ⟨q, b, tt, x, sw, how⟩ := o
  obtain ⟨top, bot, sl⟩ := d
  unfold Rob at h
  dsimp only at *
  have hq : q = 1 ∨ q = 2 ∨ q = 3 ∨ q = 4 ∨ q = 5 ∨ q = 6 ∨ q = 7 ∨ q = 8 ∨ q = 9 ∨ q = 10 := by omega
  rcases hq with rfl | rfl | rfl | rfl | rfl | rfl | rfl | rfl | rfl | rfl
  all_goals
    revert hlt
    simp only [dstep, Dq.put]
    repeat' split
  all_goals first | (intro hlt; have := h h12 hlt; simp_all; done) | (intro hlt; simp_all; omega) | (intro hlt; cases sw <;> simp_all <;> omega) | skip
theorem Rob.swap {d : Dq} {o : Dop} {gets s : Int} {t : Dop} (hs : s ≤ gets) : Rob ⟨d.top + 1, d.bot, d.sl⟩ o (gets + 1) s t := fun _ _ => .inl (by omega)
/-- What a worker's step comes to. -/
structure OStep (i : Nat) (d' : Dq) (o o' h h' : Dop) (T : Nat) (seen : List Int) (last gets s : Int) : Prop where
  goes : h'.how = 0 → On d' o' T seen last
  put : h'.how = 1 → i = 0 ∧ h.pc = 4 ∧ h'.x = h.x ∧ Sn seen h'.x 0 ∧ On d' o' T (snSet seen h'.x 1) last
  got : h'.how = 2 → Sn seen h'.x 1 ∧ (0 < i → last < h'.x) ∧ On d' o' T (snSet seen h'.x 2) (if i = 0 then last else h'.x)
  els : 3 ≤ h'.how → On d' o' T seen last
  lost : h'.how = 4 → 0 < i ∧ (s < gets ∨ (o.pc = 10 ∧ o.sw = true))
  hw : h'.how ≤ 5
theorem once_step {i : Nat} {d : Dq} {o h : Dop} {T : Nat} {seen : List Int} {last gets s : Int} (hd : DqOk d o) (h0 : i = 0 → h = o) (hth : 0 < i → ThOk d o h ∧ 11 ≤ h.pc) (hp : 1 ≤ h.pc) (hh : h.how = 0) (ht : Tells (dstep d h).1 (dstep d h).2.1) (on : On d o T seen last) (rob : 0 < i → Rob d o gets s h) :
    OStep i (dstep d h).1 o (if i = 0 then (dstep d h).2.1 else o) h (dstep d h).2.1 T seen last gets s := by
  have hpc : h.pc ≤ 14 := by
    rcases Nat.eq_zero_or_pos i with hi | hi
    · rw [h0 hi]; have := hd.pc; omega
    · have := (hth hi).1.pc; omega
  obtain ⟨x1, x2, x3, x4⟩ := step_put_x d h hp hpc hh
  by_cases hi : i = 0
  · have := h0 hi
    subst this
    obtain ⟨g1, g2, g3, g4⟩ := on_own hd on hp hh
    rw [if_pos hi]
    have hdn := ht.done
    refine ⟨fun e => g1 (by omega), fun e => ?_, fun e => ?_, fun e => g4 (by omega) (by omega) (by omega), fun e => ?_, x1⟩
    · obtain ⟨y1, y2⟩ := x2 e
      obtain ⟨z1, z2⟩ := g2 (by omega) e
      exact ⟨hi, y1, y2, z1, z2⟩
    · obtain ⟨z1, z2⟩ := g3 (by omega) e
      exact ⟨z1, fun x => by omega, by rw [if_pos hi]; exact z2⟩
    · have := x3 e; have := hd.pc; omega
  · obtain ⟨ho, h11⟩ := hth (by omega)
    rw [if_neg hi]
    by_cases hsw : h.pc = 14 ∧ d.top = h.t
    · obtain ⟨e1, e2, e3, e4⟩ := th_swap hd ho hsw.1 hsw.2
      obtain ⟨f1, f2, f3⟩ := on_swap hd on e3
      rw [e1, e2]
      rw [e4]
      exact ⟨by simp, by simp, fun _ => ⟨f2, fun _ => f1, by rw [if_neg hi]; exact f3⟩, by simp, by simp, by simp⟩
    · obtain ⟨e1, e2⟩ := th_rest hd ho h11 hsw
      rw [e1]
      refine ⟨fun _ => on, fun e => ?_, fun e => ?_, fun _ => on, fun e => ⟨by omega, ?_⟩, x1⟩
      · have := (x2 e).1; omega
      · exfalso
        obtain ⟨q, b, t, x, sw, how⟩ := h
        dsimp only at *
        subst hh
        have hq : q = 11 ∨ q = 12 ∨ q = 13 ∨ q = 14 := by omega
        revert e
        rcases hq with rfl | rfl | rfl | rfl
        all_goals
          simp only [dstep]
          repeat' split
        all_goals simp
        rename_i hx
        exact hsw ⟨rfl, hx⟩
      · have h14 : h.pc = 14 := by
          obtain ⟨q, b, t, x, sw, how⟩ := h
          dsimp only at *
          subst hh
          have hq : q = 11 ∨ q = 12 ∨ q = 13 ∨ q = 14 := by omega
          revert e
          rcases hq with rfl | rfl | rfl | rfl
          all_goals
            simp only [dstep]
            repeat' split
          all_goals simp
        have h12 := ho.t (by omega)
        exact rob (by omega) (by omega) (by have : ¬ d.top = h.t := fun x => hsw ⟨h14, x⟩; omega)
/-- What holds at the head of round k, of numbers alone. -/
structure Ob (L k : Nat) (d : Dq) (o : Dop) (hs : List (Option (Nat × Dop))) (T : Nat) (gets last : Int) (since seen ord : List Int) : Prop where
  on : On d o T seen last
  h7 : hs.length = 7
  s7 : since.length = 7
  m : seen.length = L + 1
  tk : T ≤ k ∧ T ≤ L
  g0 : 0 ≤ gets ∧ gets ≤ k
  ol : ord.length ≤ k
  pc : ∀ (i g : Nat) (h : Dop), hs[i]? = some (some (g, h)) → 1 ≤ h.pc ∧ h.pc ≤ 14 ∧ (L ≤ k → nxt i k + 7 * rem h.pc < L + 49)
  lo : ∀ (g : Nat) (h : Dop), hs[0]? = some (some (g, h)) → h = o ∧ ∃ z, ord.getLast? = some z ∧ (h.pc ≤ 4 → z = h.x) ∧ (5 ≤ h.pc → z = -1)
  sn : ∀ (i : Nat) (s : Int), since[i]? = some s → s ≤ gets
  rob : ∀ (i g : Nat) (h : Dop) (s : Int), 0 < i → hs[i]? = some (some (g, h)) → since[i]? = some s → Rob d o gets s h
theorem nxt_ge (i k : Nat) : k ≤ nxt i k := by unfold nxt; omega
theorem nxt_le (i k : Nat) : nxt i k ≤ k + 6 := by unfold nxt; omega
theorem nxt_hit {i k : Nat} (h : i = k % 7) : nxt i k = k ∧ nxt i (k + 1) = k + 7 := by unfold nxt; omega
theorem nxt_miss {i k : Nat} (hi : i < 7) (h : i ≠ k % 7) : nxt i (k + 1) = nxt i k := by unfold nxt; omega
theorem nxt_one {i k : Nat} (hi : i < 7) : nxt i (k + 1) ≤ nxt i k + 7 := by unfold nxt; omega
section
variable {L k : Nat} {d : Dq} {o : Dop} {hs : List (Option (Nat × Dop))} {T : Nat} {gets last : Int} {since seen ord : List Int}
theorem Ob.idx (b : Ob L k d o hs T gets last since seen ord) {i g : Nat} {h : Dop} (e : hs[i]? = some (some (g, h))) : i < 7 := by
  have := (List.getElem?_eq_some_iff.1 e).1; have := b.h7; omega
/-- Of the others the bound on what is left holds one round later. -/
theorem Ob.left (b : Ob L k d o hs T gets last since seen ord) {wi i g : Nat} {h : Dop} (hw : L ≤ k → wi = k % 7) (e : hs[i]? = some (some (g, h))) (hne : i ≠ wi) : L ≤ k + 1 → nxt i (k + 1) + 7 * rem h.pc < L + 49 := by
  intro hL
  have hi := b.idx e
  by_cases hk : L ≤ k
  · rw [nxt_miss hi (by rw [← hw hk]; exact hne)]; exact (b.pc i g h e).2.2 hk
  · have := nxt_le i (k + 1); have := rem_le h.pc; omega
theorem set_cases {α : Type} {l : List α} {i j : Nat} {a x : α} (h : (l.set i a)[j]? = some x) : (j = i ∧ x = a) ∨ (j ≠ i ∧ l[j]? = some x) := by
  by_cases hj : j = i
  · subst hj
    have hl : j < l.length := by
      have := (List.getElem?_eq_some_iff.1 h).1
      simpa using this
    rw [List.getElem?_set_self hl] at h
    injection h with h
    exact .inl ⟨rfl, h.symm⟩
  · rw [List.getElem?_set_ne (Ne.symm hj)] at h
    exact .inr ⟨hj, h⟩
theorem Ob.idle (b : Ob L k d o hs T gets last since seen ord) {wi : Nat} (hw : L ≤ k → wi = k % 7) (hL : L ≤ k) (hi : hs[wi]? = some none) : Ob L (k + 1) d o hs T gets last since seen ord := by
  refine ⟨b.on, b.h7, b.s7, b.m, by have := b.tk; omega, by have := b.g0; omega, by have := b.ol; omega, fun i g h e => ?_, b.lo, b.sn, b.rob⟩
  obtain ⟨p1, p2, p3⟩ := b.pc i g h e
  refine ⟨p1, p2, b.left hw e (fun x => ?_)⟩
  subst x; rw [hi] at e; injection e with e; cases e
theorem Ob.steal (b : Ob L k d o hs T gets last since seen ord) {wi : Nat} (hL : k < L) (h0 : 0 < wi) (g : Nat) : Ob L (k + 1) d o (hs.set wi (some (g, opSteal))) T gets last (since.set wi gets) seen ord := by
  refine ⟨b.on, by simp [b.h7], by simp [b.s7], b.m, by have := b.tk; omega, by have := b.g0; omega, by have := b.ol; omega, fun i g' h e => ?_, fun g' h e => ?_, fun i s e => ?_, fun i g' h s hp e f => ?_⟩
  · rcases set_cases e with ⟨x, y⟩ | ⟨x, y⟩
    · injection y with y; injection y with y1 y2
      subst y2
      have := nxt_le i (k + 1)
      exact ⟨by simp [opSteal], by simp [opSteal], fun _ => by have : rem opSteal.pc = 4 := rfl; omega⟩
    · obtain ⟨p1, p2, p3⟩ := b.pc i g' h y
      exact ⟨p1, p2, b.left (wi := wi) (fun x => by omega) y x⟩
  · rcases set_cases e with ⟨x, y⟩ | ⟨x, y⟩
    · omega
    · exact b.lo g' h y
  · rcases set_cases e with ⟨x, y⟩ | ⟨x, y⟩
    · omega
    · exact b.sn i s y
  · rcases set_cases e with ⟨x, y⟩ | ⟨x, y⟩
    · injection y with y; injection y with y1 y2
      subst y2
      intro h12; simp [opSteal] at h12
    · rcases set_cases f with ⟨z, _⟩ | ⟨_, z⟩
      · exact absurd z x
      · exact b.rob i g' h s hp y z
theorem Ob.begun (b : Ob L k d o hs T gets last since seen ord) (hL : k < L) (hpc : o.pc = 0) (g : Nat) {o' : Dop} {T' : Nat} {z : Int} (hon : On d o' T' seen last) (hT : T' ≤ T + 1) (hq : (o'.pc = 1 ∧ z = o'.x) ∨ (o'.pc = 5 ∧ z = -1)) :
    Ob L (k + 1) d o' (hs.set 0 (some (g, o'))) T' gets last (since.set 0 gets) seen (ord ++ [z]) := by
  refine ⟨hon, by simp [b.h7], by simp [b.s7], b.m, by have := b.tk; omega, by have := b.g0; omega, by simp; have := b.ol; omega, fun i g' h e => ?_, fun g' h e => ?_, fun i s e => ?_, fun i g' h s hp e f => ?_⟩
  · rcases set_cases e with ⟨x, y⟩ | ⟨x, y⟩
    · injection y with y; injection y with y1 y2
      subst y2
      have := nxt_le i (k + 1)
      have := rem_le h.pc
      exact ⟨by omega, by omega, fun _ => by omega⟩
    · obtain ⟨p1, p2, p3⟩ := b.pc i g' h y
      exact ⟨p1, p2, b.left (wi := 0) (fun x => by omega) y x⟩
  · rcases set_cases e with ⟨x, y⟩ | ⟨x, y⟩
    · injection y with y; injection y with y1 y2
      exact ⟨y2, z, by simp, by rw [y2]; omega, by rw [y2]; omega⟩
    · exact absurd rfl x
  · rcases set_cases e with ⟨x, y⟩ | ⟨x, y⟩
    · omega
    · exact b.sn i s y
  · rcases set_cases e with ⟨x, _⟩ | ⟨x, y⟩
    · omega
    · rcases set_cases f with ⟨z, _⟩ | ⟨_, z⟩
      · exact absurd z x
      · intro a c
        rcases b.rob i g' h s hp y z a c with h1 | ⟨h1, _⟩
        · exact .inl h1
        · omega
/-- A step of worker wi that does not end. -/
theorem Ob.goes (b : Ob L k d o hs T gets last since seen ord) {wi g : Nat} {h : Dop} (hw : L ≤ k → wi = k % 7) (hi : hs[wi]? = some (some (g, h))) (hd : DqOk d o) (hth : 0 < wi → ThOk d o h ∧ 11 ≤ h.pc) (hths : ∀ (i g : Nat) (t : Dop), 0 < i → hs[i]? = some (some (g, t)) → ThOk d o t)
    (hon : On (dstep d h).1 (if wi = 0 then (dstep d h).2.1 else o) T seen last) (hp : (dstep d h).2.1.pc ≠ 0) (hpc' : (dstep d h).2.1.pc ≤ 14) (hsame : 0 < wi → (dstep d h).1 = d) : Ob L (k + 1) (dstep d h).1 (if wi = 0 then (dstep d h).2.1 else o) (hs.set wi (some (g, (dstep d h).2.1))) T gets last since seen ord := by
  obtain ⟨p1, p2, p3⟩ := b.pc wi g h hi
  have hrs := rem_step d h p1 p2
  have hl7 : wi < hs.length := (List.getElem?_eq_some_iff.1 hi).1
  refine ⟨hon, by simp [b.h7], b.s7, b.m, by have := b.tk; omega, by have := b.g0; omega, by have := b.ol; omega, fun i g' h' e => ?_, fun g' h' e => ?_, b.sn, fun i g' h' s hp' e f => ?_⟩
  · rcases set_cases e with ⟨x, y⟩ | ⟨x, y⟩
    · injection y with y; injection y with y1 y2
      subst y2 x
      refine ⟨by omega, hpc', fun hL => ?_⟩
      by_cases hk : L ≤ k
      · have h1 := nxt_hit (hw hk)
        have := p3 hk
        omega
      · have := nxt_le i (k + 1); have := rem_le h.pc; omega
    · obtain ⟨q1, q2, q3⟩ := b.pc i g' h' y
      exact ⟨q1, q2, b.left hw y x⟩
  · rcases set_cases e with ⟨x, y⟩ | ⟨x, y⟩
    · injection y with y; injection y with y1 y2
      subst x
      obtain ⟨e1, z, z1, z2, z3⟩ := b.lo g h hi
      have hk := step_kind d h p1 (by rw [e1]; exact hd.pc) hp
      refine ⟨by rw [if_pos rfl]; exact y2, z, z1, fun h4 => ?_, fun h5 => ?_⟩
      · rw [y2] at h4 ⊢
        have : h.pc ≤ 4 := by
          by_cases h6 : h.pc ≤ 4
          · exact h6
          · have := (hk.2 (by omega)).1; omega
        rw [(hk.1 this).2]; exact z2 this
      · rw [y2] at h5
        refine z3 ?_
        by_cases h6 : h.pc ≤ 4
        · have := (hk.1 h6).1; omega
        · omega
    · have hw0 : wi ≠ 0 := Ne.symm x
      rw [if_neg hw0]
      exact b.lo g' h' y
  · by_cases h0 : wi = 0
    · rw [if_pos h0]
      have hho : h = o := by subst h0; exact (b.lo g h hi).1
      rcases set_cases e with ⟨x, _⟩ | ⟨x, y⟩
      · omega
      · have := (b.rob i g' h' s hp' y f).own hd (hths i g' h' hp' y) (b.sn i s f) (by rw [← hho]; exact p1)
        rw [← hho, if_neg (by omega)] at this
        exact this
    · rw [if_neg h0, hsame (by omega)]
      rcases set_cases e with ⟨x, y⟩ | ⟨x, y⟩
      · injection y with y; injection y with y1 y2
        subst x
        have hr := b.rob i g h s hp' hi f
        obtain ⟨ht, h11⟩ := hth hp'
        rw [y2]
        intro h12 hlt
        have hq : h.pc = 11 ∨ h.pc = 12 ∨ h.pc = 13 ∨ h.pc = 14 := by omega
        rcases hq with hq | hq | hq | hq
        · simp [dstep, hq] at hlt
        · refine hr (by omega) ?_
          revert hlt; simp only [dstep, hq]; split <;> simp
        · refine hr (by omega) ?_
          revert hlt; simp only [dstep, hq]; simp
        · exfalso; revert hp; simp only [dstep, hq]; split <;> simp
      · exact b.rob i g' h' s hp' y f
/-- A step of worker wi that ends. -/
theorem Ob.ends (b : Ob L k d o hs T gets last since seen ord) {wi g : Nat} {h : Dop} (hw : L ≤ k → wi = k % 7) (hi : hs[wi]? = some (some (g, h))) (hd : DqOk d o) (hths : ∀ (i g : Nat) (t : Dop), 0 < i → hs[i]? = some (some (g, t)) → ThOk d o t) {seen' : List Int} {last' : Int}
    (hon : On (dstep d h).1 (if wi = 0 then (dstep d h).2.1 else o) T seen' last') (hp : (dstep d h).2.1.pc = 0) (hm : seen'.length = seen.length) (htop : 0 < wi → (dstep d h).1 = d ∨ ((dstep d h).2.1.how = 2 ∧ (dstep d h).1 = ⟨d.top + 1, d.bot, d.sl⟩)) :
    Ob L (k + 1) (dstep d h).1 (if wi = 0 then (dstep d h).2.1 else o) (hs.set wi none) T (if (dstep d h).2.1.how = 2 then gets + 1 else gets) last' since seen' ord := by
  obtain ⟨p1, p2, p3⟩ := b.pc wi g h hi
  have hg : gets ≤ (if (dstep d h).2.1.how = 2 then gets + 1 else gets) := by split <;> omega
  refine ⟨hon, by simp [b.h7], b.s7, by rw [hm]; exact b.m, by have := b.tk; omega, ?_, by have := b.ol; omega, fun i g' h' e => ?_, fun g' h' e => ?_, fun i s e => ?_, fun i g' h' s hp' e f => ?_⟩
  · have := b.g0; split <;> omega
  · rcases set_cases e with ⟨x, y⟩ | ⟨x, y⟩
    · cases y
    · obtain ⟨q1, q2, q3⟩ := b.pc i g' h' y
      exact ⟨q1, q2, b.left hw y x⟩
  · rcases set_cases e with ⟨x, y⟩ | ⟨x, y⟩
    · cases y
    · rw [if_neg (Ne.symm x)]; exact b.lo g' h' y
  · have := b.sn i s e; omega
  · rcases set_cases e with ⟨x, y⟩ | ⟨x, y⟩
    · cases y
    · by_cases h0 : wi = 0
      · rw [if_pos h0]
        have hho : h = o := by subst h0; exact (b.lo g h hi).1
        have := (b.rob i g' h' s hp' y f).own hd (hths i g' h' hp' y) (b.sn i s f) (by rw [← hho]; exact p1)
        rw [← hho] at this
        simp only [hp, and_true] at this
        exact this
      · rw [if_neg h0]
        rcases htop (by omega) with e1 | ⟨e1, e2⟩
        · rw [e1]
          intro a c
          rcases b.rob i g' h' s hp' y f a c with r | r
          · exact .inl (by omega)
          · exact .inr r
        · rw [e2, if_pos e1]
          exact Rob.swap (b.sn i s f)
theorem Ob.start (n L : Nat) : Ob L 0 (Dq.made n) ⟨0, 0, 0, 0, false, 0⟩ (List.replicate 7 none) 0 0 (-1) (List.replicate 7 0) (List.replicate (L + 1) 0) [] := by
  have none_ : ∀ (i g : Nat) (h : Dop), (List.replicate 7 (none : Option (Nat × Dop)))[i]? ≠ some (some (g, h)) := fun i g h e => by
    rw [List.getElem?_replicate] at e
    split at e
    · injection e with e; cases e
    · cases e
  refine ⟨on_made n (L + 1), by simp, by simp, by simp, by omega, by omega, by simp, fun i g h e => absurd e (none_ i g h), fun g h e => absurd e (none_ 0 g h), fun i s e => ?_, fun i g h s _ e => absurd e (none_ i g h)⟩
  rw [List.getElem?_replicate] at e
  split at e
  · injection e with e; omega
  · cases e
theorem Ob.none_ (b : Ob L (L + 42) d o hs T gets last since seen ord) : ∀ (i g : Nat) (h : Dop), hs[i]? ≠ some (some (g, h)) := fun i g h e => by
  obtain ⟨p1, p2, p3⟩ := b.pc i g h e
  have := p3 (by omega)
  have := nxt_ge i (L + 42)
  have := rem_pos p1 p2
  omega
end
end Go.Proofs.Ytdigjppdgiapfaa
