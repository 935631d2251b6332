/- Each task once: what is there, what was put, what was got. Plain. -/
import Derived.Test.YtdigjppdgiapfaaDqw
set_option linter.unusedSimpArgs false
set_option linter.unusedVariables false
namespace Go.Proofs.Ytdigjppdgiapfaa

/-- seen[y] is v. -/
def Sn (seen : List Int) (y : Int) (v : Int) : Prop := 0 ≤ y ∧ seen[y.toNat]? = some v
/-- Put at y. -/
def snSet (seen : List Int) (y : Int) (v : Int) : List Int := seen.set y.toNat v
theorem Sn.set_self {seen : List Int} {y v u : Int} (h : Sn seen y u) : Sn (snSet seen y v) y v :=
  ⟨h.1, by unfold snSet; rw [List.getElem?_set_self (List.getElem?_eq_some_iff.1 h.2).1]⟩
theorem Sn.set_iff {seen : List Int} {y z v u w : Int} (h : Sn seen y u) : Sn (snSet seen y v) z w ↔ (z = y ∧ w = v) ∨ (z ≠ y ∧ Sn seen z w) := by
  unfold Sn snSet
  have h0 := h.1
  have hl := (List.getElem?_eq_some_iff.1 h.2).1
  by_cases hz : z = y
  · subst hz
    rw [List.getElem?_set_self hl]
    constructor
    · rintro ⟨_, e⟩; injection e with e; exact .inl ⟨rfl, e.symm⟩
    · rintro (⟨_, e⟩ | ⟨e, _⟩)
      · exact ⟨h0, by rw [e]⟩
      · exact absurd rfl e
  · by_cases hn : 0 ≤ z
    · have : y.toNat ≠ z.toNat := by omega
      rw [List.getElem?_set_ne this]
      constructor
      · rintro ⟨a, e⟩; exact .inr ⟨hz, a, e⟩
      · rintro (⟨a, _⟩ | ⟨_, a, e⟩)
        · exact absurd a hz
        · exact ⟨a, e⟩
    · constructor
      · rintro ⟨a, _⟩; omega
      · rintro (⟨a, _⟩ | ⟨_, a, _⟩) <;> omega
theorem Sn.fun_ {seen : List Int} {y v u : Int} (h : Sn seen y u) (k : Sn seen y v) : u = v := by
  have := h.2.symm.trans k.2; injection this
/-- What holds between rounds. -/
structure On (d : Dq) (o : Dop) (T : Nat) (seen : List Int) (last : Int) : Prop where
  inc : ∀ i j, d.top ≤ i → i < j → j < lim d o → d.at_ i < d.at_ j
  rng : ∀ i, d.top ≤ i → i < lim d o → last < d.at_ i ∧ d.at_ i < T
  one : ∀ y, Sn seen y 1 ↔ (∃ i, d.top ≤ i ∧ i < lim d o ∧ d.at_ i = y) ∨ (o.pc = 10 ∧ o.sw = true ∧ o.x = y)
  lst : -1 ≤ last ∧ last < T
  psh : 1 ≤ o.pc → o.pc ≤ 4 → o.x + 1 = T ∧ Sn seen o.x 0 ∧ (∀ i, d.top ≤ i → i < lim d o → d.at_ i < o.x) ∧ last < o.x
  fresh : ∀ y : Int, (T : Int) ≤ y → y < seen.length → Sn seen y 0
theorem lim_pop {d : Dq} {o : Dop} (h : o.pc < 7) : lim d o = d.bot := by unfold lim; rw [if_neg (by omega)]
theorem lim_hi {d : Dq} {o : Dop} (h : 7 ≤ o.pc) : lim d o = o.b + 1 := by unfold lim; rw [if_pos h]
/-- The same tasks, another step, none put or got. -/
theorem On.same {d d' : Dq} {o o' : Dop} {T : Nat} {seen : List Int} {last : Int} (h : On d o T seen last) (ht : d'.top = d.top) (hl : lim d' o' = lim d o) (ha : ∀ i, d.top ≤ i → i < lim d o → d'.at_ i = d.at_ i)
    (h10 : ¬ (o.pc = 10 ∧ o.sw = true)) (h10' : ¬ (o'.pc = 10 ∧ o'.sw = true)) (hp : 1 ≤ o'.pc → o'.pc ≤ 4 → 1 ≤ o.pc ∧ o.pc ≤ 4 ∧ o'.x = o.x) : On d' o' T seen last := by
  obtain ⟨inc, rng, one, lst, psh, fresh⟩ := h
  refine ⟨fun i j h1 h2 h3 => ?_, fun i h1 h2 => ?_, fun y => ?_, lst, fun h1 h2 => ?_, fresh⟩
  · rw [ht] at h1; rw [hl] at h3
    rw [ha i h1 (by omega), ha j (by omega) h3]; exact inc i j h1 h2 h3
  · rw [ht] at h1; rw [hl] at h2
    rw [ha i h1 h2]; exact rng i h1 h2
  · rw [one y]
    constructor
    · rintro (⟨i, h1, h2, h3⟩ | ⟨h1, h2, _⟩)
      · exact .inl ⟨i, by rw [ht]; exact h1, by rw [hl]; exact h2, by rw [ha i h1 h2]; exact h3⟩
      · exact absurd ⟨h1, h2⟩ h10
    · rintro (⟨i, h1, h2, h3⟩ | ⟨h1, h2, _⟩)
      · rw [ht] at h1; rw [hl] at h2; rw [ha i h1 h2] at h3; exact .inl ⟨i, h1, h2, h3⟩
      · exact absurd ⟨h1, h2⟩ h10'
  · obtain ⟨a, b, c⟩ := hp h1 h2
    obtain ⟨p1, p2, p3, p4⟩ := psh a b
    rw [c]
    refine ⟨p1, p2, fun i h3 h4 => ?_, p4⟩
    rw [ht] at h3; rw [hl] at h4
    rw [ha i h3 h4]; exact p3 i h3 h4
/-- What a step of the owner's comes to. -/
structure OnStep (d' : Dq) (o' : Dop) (T : Nat) (seen : List Int) (last : Int) : Prop where
  goes : o'.pc ≠ 0 → On d' o' T seen last
  put : o'.pc = 0 → o'.how = 1 → Sn seen o'.x 0 ∧ On d' o' T (snSet seen o'.x 1) last
  got : o'.pc = 0 → o'.how = 2 → Sn seen o'.x 1 ∧ On d' o' T (snSet seen o'.x 2) last
  els : o'.pc = 0 → o'.how ≠ 1 → o'.how ≠ 2 → On d' o' T seen last
theorem on_own {d : Dq} {o : Dop} {T : Nat} {seen : List Int} {last : Int} (hd : DqOk d o) (h : On d o T seen last) (hp : 1 ≤ o.pc) (hh : o.how = 0) : OnStep (dstep d o).1 (dstep d o).2.1 T seen last := by
  have hd0 := hd
  obtain ⟨n, t0, tl, ln, pc, p2, p3, p4, p6, p7, p8, p9, p10⟩ := hd
  have hq : o.pc = 1 ∨ o.pc = 2 ∨ o.pc = 3 ∨ o.pc = 4 ∨ o.pc = 5 ∨ o.pc = 6 ∨ o.pc = 7 ∨ o.pc = 8 ∨ o.pc = 9 ∨ o.pc = 10 := by omega
  rcases hq with hq | hq | hq | hq | hq | hq | hq | hq | hq | hq
  · have e : dstep d o = (d, { o with b := d.bot, pc := 2 }, 1, 1) := by simp [dstep, hq]
    rw [e]
    exact ⟨fun _ => h.same rfl (by simp [lim, hq]) (fun _ _ _ => rfl) (by omega) (by simp) (fun _ _ => ⟨by omega, by omega, rfl⟩), by simp, by simp, by simp⟩
  · by_cases hf : (d.sl.length : Int) ≤ o.b - d.top
    · have e : dstep d o = (d, { o with t := d.top, pc := 0, how := 5 }, 1, 0) := by simp [dstep, hq, hf]
      rw [e]
      exact ⟨by simp, by simp, by simp, fun _ _ _ => h.same rfl (by simp [lim, hq]) (fun _ _ _ => rfl) (by omega) (by simp) (by simp)⟩
    · have e : dstep d o = (d, { o with t := d.top, pc := 3 }, 1, 0) := by simp [dstep, hq, hf]
      rw [e]
      exact ⟨fun _ => h.same rfl (by simp [lim, hq]) (fun _ _ _ => rfl) (by omega) (by simp) (fun _ _ => ⟨by omega, by omega, rfl⟩), by simp, by simp, by simp⟩
  · have e : dstep d o = (d.put o.b o.x, { o with pc := 4 }, 2, 2 + (d.ix o.b : Int)) := by simp [dstep, hq]
    obtain ⟨hb, hr⟩ := p3 hq
    rw [e]
    exact ⟨fun _ => h.same rfl (by simp [lim, hq, Dq.put]) (fun i h1 h2 => by
      have h2' : i < d.bot := by rw [lim_pop (by omega)] at h2; exact h2
      exact set_far d.sl n o.x (by omega) (by omega) (by omega)) (by omega) (by simp) (fun _ _ => ⟨by omega, by omega, rfl⟩), by simp, by simp, by simp⟩
  · have e : dstep d o = (⟨d.top, o.b + 1, d.sl⟩, { o with pc := 0, how := 1 }, 2, 1) := by simp [dstep, hq]
    obtain ⟨hb, hr, hx⟩ := p4 hq
    rw [e]
    obtain ⟨inc, rng, one, lst, psh, fresh⟩ := h
    obtain ⟨q1, q2, q3, q4⟩ := psh (by omega) (by omega)
    have hl : lim d o = d.bot := lim_pop (by omega)
    rw [hl] at inc rng one q3
    refine ⟨by simp, fun _ _ => ⟨q2, ?_⟩, by simp, by simp⟩
    have hl2 : lim (⟨d.top, o.b + 1, d.sl⟩ : Dq) { o with pc := 0, how := 1 } = d.bot + 1 := by rw [lim_pop (by dsimp only; omega), hb]
    refine ⟨fun i j h1 h2 h3 => ?_, fun i h1 h2 => ?_, fun y => ?_, lst, by simp, fun y h1 h2 => ?_⟩
    · rw [hl2] at h3
      show d.at_ i < d.at_ j
      by_cases hj : j < d.bot
      · exact inc i j h1 h2 hj
      · rw [show j = o.b by omega, hx]; exact q3 i h1 (by omega)
    · rw [hl2] at h2
      show last < d.at_ i ∧ d.at_ i < T
      by_cases hi : i < d.bot
      · exact rng i h1 hi
      · rw [show i = o.b by omega, hx]; omega
    · show Sn (snSet seen o.x 1) y 1 ↔ (∃ i, d.top ≤ i ∧ i < _ ∧ d.at_ i = y) ∨ _
      rw [hl2, q2.set_iff, one y]
      have htb : d.top ≤ d.bot := by unfold safe at tl; rw [hl, if_neg (by omega)] at tl; exact tl
      constructor
      · rintro (⟨rfl, _⟩ | ⟨h1, ⟨i, h2, h3, h4⟩ | ⟨h2, _⟩⟩)
        · exact .inl ⟨o.b, by omega, by omega, hx⟩
        · exact .inl ⟨i, h2, by omega, h4⟩
        · omega
      · rintro (⟨i, h2, h3, h4⟩ | ⟨h2, _⟩)
        · by_cases hi : i < d.bot
          · exact .inr ⟨by have := q3 i h2 hi; omega, .inl ⟨i, h2, hi, h4⟩⟩
          · rw [show i = o.b by omega, hx] at h4; exact .inl ⟨h4.symm, rfl⟩
        · simp at h2
    · rw [q2.set_iff]
      exact .inr ⟨by omega, fresh y h1 (by simpa [snSet] using h2)⟩
  · have e : dstep d o = (d, { o with b := d.bot - 1, pc := 6 }, 1, 1) := by simp [dstep, hq]
    rw [e]
    exact ⟨fun _ => h.same rfl (by simp [lim, hq]) (fun _ _ _ => rfl) (by omega) (by simp) (by simp), by simp, by simp, by simp⟩
  · have e : dstep d o = (⟨d.top, o.b, d.sl⟩, { o with pc := 7 }, 2, 1) := by simp [dstep, hq]
    have hb := p6 hq
    rw [e]
    exact ⟨fun _ => h.same rfl (by simp [lim, hq]; omega) (fun _ _ _ => rfl) (by omega) (by simp) (by simp), by simp, by simp, by simp⟩
  · have e : dstep d o = (d, { o with t := d.top, pc := 8 }, 1, 0) := by simp [dstep, hq]
    rw [e]
    exact ⟨fun _ => h.same rfl (by simp [lim, hq]) (fun _ _ _ => rfl) (by omega) (by simp) (by simp), by simp, by simp, by simp⟩
  · have hb := p7 (by omega)
    have hl : lim d o = o.b + 1 := lim_hi (by omega)
    by_cases hbt : o.b < o.t
    · have e : dstep d o = (⟨d.top, o.b + 1, d.sl⟩, { o with pc := 0, how := 3 }, 2, 1) := by simp [dstep, hq, hbt]
      rw [e]
      exact ⟨by simp, by simp, by simp, fun _ _ _ => h.same rfl (by rw [hl, lim_pop (by dsimp only; omega)]) (fun _ _ _ => rfl) (by omega) (by simp) (by simp)⟩
    · by_cases htb : o.t < o.b
      · have e : dstep d o = (d, { o with x := d.at_ o.b, pc := 0, how := 2 }, 1, 2 + (d.ix o.b : Int)) := by simp [dstep, hq, hbt, htb]
        have hs : safe d o = o.b := by unfold safe; rw [if_pos ⟨hq, htb⟩]
        rw [hs] at tl
        rw [e]
        obtain ⟨inc, rng, one, lst, psh, fresh⟩ := h
        rw [hl] at inc rng one
        have h1 : Sn seen (d.at_ o.b) 1 := (one _).2 (.inl ⟨o.b, tl, by omega, rfl⟩)
        refine ⟨by simp, by simp, fun _ _ => ⟨h1, ?_⟩, by simp⟩
        have hl2 : lim d { o with x := d.at_ o.b, pc := 0, how := 2 } = o.b := by rw [lim_pop (by dsimp only; omega), hb]
        refine ⟨fun i j a b c => ?_, fun i a b => ?_, fun y => ?_, lst, by simp, fun y a b => ?_⟩
        · rw [hl2] at c; exact inc i j a b (by omega)
        · rw [hl2] at b; exact rng i a (by omega)
        · rw [hl2, h1.set_iff, one y]
          constructor
          · rintro (⟨_, a⟩ | ⟨a, ⟨i, b, c, f⟩ | ⟨b, _⟩⟩)
            · exact absurd a (by decide)
            · have : i ≠ o.b := fun x => a (by rw [← f, x])
              exact .inl ⟨i, b, by omega, f⟩
            · omega
          · rintro (⟨i, b, c, f⟩ | ⟨b, _⟩)
            · exact .inr ⟨fun hy => absurd (inc i o.b b c (by omega)) (by have f' : d.at_ i = y := f; have hy' : y = d.at_ o.b := hy; omega), .inl ⟨i, b, by omega, f⟩⟩
            · simp at b
        · rw [h1.set_iff]
          refine .inr ⟨?_, fresh y a (by simpa [snSet] using b)⟩
          have := (rng o.b tl (by omega)).2
          omega
      · have e : dstep d o = (d, { o with x := d.at_ o.b, pc := 9 }, 1, 2 + (d.ix o.b : Int)) := by simp [dstep, hq, hbt, htb]
        rw [e]
        exact ⟨fun _ => h.same rfl (by simp [lim, hq]) (fun _ _ _ => rfl) (by omega) (by simp) (by simp), by simp, by simp, by simp⟩
  · have hb := p7 (by omega)
    obtain ⟨e1, e2, e3, e4⟩ := p9 hq
    have hl : lim d o = o.b + 1 := lim_hi (by omega)
    by_cases ht : d.top = o.t
    · have e : dstep d o = (⟨o.t + 1, d.bot, d.sl⟩, { o with sw := true, pc := 10 }, 3, 0) := by simp [dstep, hq, ht]
      rw [e]
      obtain ⟨inc, rng, one, lst, psh, fresh⟩ := h
      rw [hl] at inc rng one
      have hx := e4 (by omega)
      refine ⟨fun _ => ?_, by simp, by simp, by simp⟩
      have hl2 : lim (⟨o.t + 1, d.bot, d.sl⟩ : Dq) { o with sw := true, pc := 10 } = o.b + 1 := lim_hi (by simp)
      refine ⟨fun i j a b c => ?_, fun i a b => ?_, fun y => ?_, lst, by simp, fresh⟩
      · rw [hl2] at c; dsimp only at a; omega
      · rw [hl2] at b; dsimp only at a; omega
      · rw [hl2, one y]
        constructor
        · rintro (⟨i, b, c, f⟩ | ⟨b, _⟩)
          · refine .inr ⟨rfl, rfl, ?_⟩
            rw [hx, ← f, show i = o.b by omega]
          · omega
        · rintro (⟨i, b, c, f⟩ | ⟨_, _, f⟩)
          · dsimp only at b; omega
          · exact .inl ⟨o.b, by omega, by omega, by rw [← hx]; exact f⟩
    · have e : dstep d o = (d, { o with sw := false, pc := 10 }, 4, 0) := by simp [dstep, hq, ht]
      rw [e]
      exact ⟨fun _ => h.same rfl (by simp [lim, hq]) (fun _ _ _ => rfl) (by omega) (by simp) (by simp), by simp, by simp, by simp⟩
  · have hb := p7 (by omega)
    have ht := p10 hq
    have hl : lim d o = o.b + 1 := lim_hi (by omega)
    have e : dstep d o = (⟨d.top, o.b + 1, d.sl⟩, { o with pc := 0, how := if o.sw then 2 else 3 }, 2, 1) := by simp [dstep, hq]
    rw [e]
    have hl2 : lim (⟨d.top, o.b + 1, d.sl⟩ : Dq) { o with pc := 0, how := if o.sw then 2 else 3 } = o.b + 1 := by rw [lim_pop (by dsimp only; omega)]
    by_cases hs : o.sw = true
    · obtain ⟨inc, rng, one, lst, psh, fresh⟩ := h
      rw [hl] at inc rng one
      have h1 : Sn seen o.x 1 := (one _).2 (.inr ⟨hq, hs, rfl⟩)
      refine ⟨by simp, by simp [hs], fun _ _ => ⟨h1, ?_⟩, by simp [hs]⟩
      refine ⟨fun i j a b c => ?_, fun i a b => ?_, fun y => ?_, lst, by simp, fun y a b => ?_⟩
      · rw [hl2] at c; dsimp only at a; omega
      · rw [hl2] at b; dsimp only at a; omega
      · rw [hl2, h1.set_iff, one y]
        constructor
        · rintro (⟨_, a⟩ | ⟨a, ⟨i, b, c, f⟩ | ⟨_, _, b⟩⟩)
          · exact absurd a (by decide)
          · omega
          · exact absurd b.symm a
        · rintro (⟨i, b, c, f⟩ | ⟨b, _⟩)
          · dsimp only at b; omega
          · simp at b
      · rw [h1.set_iff]
        refine .inr ⟨?_, fresh y a (by simpa [snSet] using b)⟩
        rintro rfl
        have h0 := fresh _ a (by simpa [snSet] using b)
        have := h0.fun_ h1
        omega
    · have hs' : o.sw = false := by cases hb : o.sw; rfl; exact absurd hb hs
      refine ⟨by simp, by simp [hs'], by simp [hs'], fun _ _ _ => ?_⟩
      exact h.same rfl (by rw [hl2, hl]) (fun _ _ _ => rfl) (by simp [hs']) (by simp) (by simp)
/-- A thief's swap. -/
theorem on_swap {d : Dq} {o : Dop} {T : Nat} {seen : List Int} {last : Int} (hd : DqOk d o) (h : On d o T seen last) (hs : d.top < safe d o) : last < d.at_ d.top ∧ Sn seen (d.at_ d.top) 1 ∧ On ⟨d.top + 1, d.bot, d.sl⟩ o T (snSet seen (d.at_ d.top) 2) (d.at_ d.top) := by
  have p10 := hd.p10
  obtain ⟨inc, rng, one, lst, psh, fresh⟩ := h
  have hsl : safe d o ≤ lim d o := by
    unfold safe
    split
    · rename_i hx
      rw [lim_hi (by omega)]; omega
    · exact Int.le_refl _
  have hl : lim (⟨d.top + 1, d.bot, d.sl⟩ : Dq) o = lim d o := rfl
  have h1 : Sn seen (d.at_ d.top) 1 := (one _).2 (.inl ⟨d.top, Int.le_refl _, by omega, rfl⟩)
  have hr := rng d.top (Int.le_refl _) (by omega)
  have hn10 : o.pc ≠ 10 := fun x => by
    have := p10 x
    have h2 : lim d o = o.b + 1 := lim_hi (by omega)
    omega
  refine ⟨hr.1, h1, ⟨fun i j a b c => inc i j (by dsimp only at a; omega) b c, fun i a b => ⟨inc d.top i (Int.le_refl _) (by dsimp only at a; omega) b, (rng i (by dsimp only at a; omega) b).2⟩, fun y => ?_, ⟨by omega, hr.2⟩, fun a b => ?_, fun y a b => ?_⟩⟩
  · rw [h1.set_iff, one y, hl]
    constructor
    · rintro (⟨_, a⟩ | ⟨a, ⟨i, b, c, f⟩ | ⟨b, _⟩⟩)
      · exact absurd a (by decide)
      · have : i ≠ d.top := fun x => a (by rw [← f, x])
        exact .inl ⟨i, by dsimp only; omega, c, f⟩
      · exact absurd b hn10
    · rintro (⟨i, b, c, f⟩ | ⟨b, _⟩)
      · dsimp only at b
        refine .inr ⟨?_, .inl ⟨i, by omega, c, f⟩⟩
        have := inc d.top i (Int.le_refl _) (by omega) c
        have f' : d.at_ i = y := f
        omega
      · exact absurd b hn10
  · obtain ⟨q1, q2, q3, q4⟩ := psh a b
    have h5 := q3 d.top (Int.le_refl _) (by omega)
    refine ⟨q1, h1.set_iff.2 (.inr ⟨by omega, q2⟩), fun i c f => q3 i (by dsimp only at c; omega) f, h5⟩
  · rw [h1.set_iff]
    exact .inr ⟨by omega, fresh y a (by simpa [snSet] using b)⟩
theorem on_push {d : Dq} {o : Dop} {T : Nat} {seen : List Int} {last : Int} (h : On d o T seen last) (hp : o.pc = 0) (hT : T < seen.length) : On d (opPush T) (T + 1) seen last := by
  obtain ⟨inc, rng, one, lst, psh, fresh⟩ := h
  have e : lim d (opPush (T : Int)) = lim d o := by rw [lim_pop (by simp [opPush]), lim_pop (by omega)]
  refine ⟨by rw [e]; exact inc, fun i a b => ?_, fun y => ?_, ⟨lst.1, by omega⟩, fun _ _ => ⟨by simp [opPush], fresh _ (Int.le_refl _) (by simp [opPush]; omega), fun i a b => ?_, by simp [opPush]; exact lst.2⟩, fun y a b => fresh y (by omega) b⟩
  · rw [e] at b; have := rng i a b; omega
  · rw [e, one y]
    constructor
    · rintro (x | ⟨x, _⟩)
      · exact .inl x
      · omega
    · rintro (x | ⟨x, _⟩)
      · exact .inl x
      · simp [opPush] at x
  · rw [e] at b; have := rng i a b; simp [opPush]; omega
theorem on_pop {d : Dq} {o : Dop} {T : Nat} {seen : List Int} {last : Int} (h : On d o T seen last) (hp : o.pc = 0) : On d opPop T seen last :=
  h.same rfl (by rw [lim_pop (by simp [opPop]), lim_pop (by omega)]) (fun _ _ _ => rfl) (by omega) (by simp [opPop]) (by simp [opPop])
theorem on_made (n m : Nat) : On (Dq.made n) ⟨0, 0, 0, 0, false, 0⟩ 0 (List.replicate m 0) (-1) := by
  have hl : lim (Dq.made n) ⟨0, 0, 0, 0, false, 0⟩ = 0 := rfl
  refine ⟨fun i j a b c => ?_, fun i a b => ?_, fun y => ?_, by omega, by simp, fun y a b => ?_⟩
  · rw [hl] at c; simp [Dq.made] at a; omega
  · rw [hl] at b; simp [Dq.made] at a; omega
  · rw [hl]
    constructor
    · rintro ⟨_, e⟩
      rw [List.getElem?_replicate] at e
      split at e
      · simp at e
      · cases e
    · rintro (⟨i, a, b, _⟩ | ⟨a, _⟩)
      · simp [Dq.made] at a; omega
      · simp at a
  · refine ⟨by omega, ?_⟩
    rw [List.getElem?_replicate, if_pos (by simp at b; omega)]
end Go.Proofs.Ytdigjppdgiapfaa
