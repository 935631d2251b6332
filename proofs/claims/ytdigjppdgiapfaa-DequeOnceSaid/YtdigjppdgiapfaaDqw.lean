/- What each step of a deque's operations tells: plain. -/
import Derived.Test.YtdigjppdgiapfaaDso
set_option linter.unusedSimpArgs false
set_option linter.unusedVariables false
namespace Go.Proofs.Ytdigjppdgiapfaa

/-- What a step's end says of the deque behind it. -/
structure Tells (d : Dq) (h : Dop) : Prop where
  done : h.pc = 0 ↔ h.how ≠ 0
  bare : h.how = 3 → d.bot ≤ d.top
  full : h.how = 5 → d.bot - d.top = d.sl.length
/-- Numbers are small. -/
structure Bd (c : Nat) (d : Dq) : Prop where
  b0 : -1 ≤ d.bot
  b1 : d.bot ≤ c
  t0 : 0 ≤ d.top
  t1 : d.top ≤ c
structure Bo (c : Nat) (h : Dop) : Prop where
  b0 : -1 ≤ h.b
  b1 : h.b ≤ c
  t0 : 0 ≤ h.t
  t1 : h.t ≤ c
theorem Bd.more {c : Nat} {d : Dq} (h : Bd c d) : Bd (c + 1) d := by obtain ⟨a, b, e, f⟩ := h; constructor <;> omega
theorem Bo.more {c : Nat} {d : Dop} (h : Bo c d) : Bo (c + 1) d := by obtain ⟨a, b, e, f⟩ := h; constructor <;> omega
theorem step_len (d : Dq) (h : Dop) : (dstep d h).1.sl.length = d.sl.length := by
  unfold dstep
  split <;> (try split) <;> simp [Dq.put]
theorem own_tells {d : Dq} {o : Dop} (h : DqOk d o) (hp : 1 ≤ o.pc) (hh : o.how = 0) : Tells (dstep d o).1 (dstep d o).2.1 := by
  obtain ⟨n, t0, tl, ln, pc, p2, p3, p4, p6, p7, p8, p9, p10⟩ := h
  obtain ⟨q, b, t, x, sw, how⟩ := o
  obtain ⟨top, bot, sl⟩ := d
  dsimp only at *
  have hq : q = 1 ∨ q = 2 ∨ q = 3 ∨ q = 4 ∨ q = 5 ∨ q = 6 ∨ q = 7 ∨ q = 8 ∨ q = 9 ∨ q = 10 := by omega
  rcases hq with rfl | rfl | rfl | rfl | rfl | rfl | rfl | rfl | rfl | rfl
  all_goals
    simp [lim, safe, Dq.at_] at tl ln p2 p3 p4 p6 p7 p8 p9 p10
    simp only [dstep, Dq.put, Dq.at_, Dq.ix]
    repeat' split
  all_goals
    subst hh
    constructor <;> dsimp only <;> first | omega | (intros; omega) | simp | (cases sw <;> simp <;> omega)
theorem own_bd {c : Nat} {d : Dq} {o : Dop} (h : DqOk d o) (hp : 1 ≤ o.pc) (hd : Bd c d) (ho : Bo c o) : Bd (c + 1) (dstep d o).1 ∧ Bo (c + 1) (dstep d o).2.1 := by
  obtain ⟨n, t0, tl, ln, pc, p2, p3, p4, p6, p7, p8, p9, p10⟩ := h
  obtain ⟨a1, a2, a3, a4⟩ := hd
  obtain ⟨e1, e2, e3, e4⟩ := ho
  obtain ⟨q, b, t, x, sw, how⟩ := o
  obtain ⟨top, bot, sl⟩ := d
  dsimp only at *
  have hq : q = 1 ∨ q = 2 ∨ q = 3 ∨ q = 4 ∨ q = 5 ∨ q = 6 ∨ q = 7 ∨ q = 8 ∨ q = 9 ∨ q = 10 := by omega
  rcases hq with rfl | rfl | rfl | rfl | rfl | rfl | rfl | rfl | rfl | rfl
  all_goals
    simp [lim, safe, Dq.at_] at tl ln p2 p3 p4 p6 p7 p8 p9 p10
    simp only [dstep, Dq.put, Dq.at_, Dq.ix]
    repeat' split
  all_goals
    refine ⟨?_, ?_⟩ <;> constructor <;> dsimp only <;> omega
theorem th_tells {d : Dq} {o h : Dop} (hd : DqOk d o) (hh : ThOk d o h) (hp : 11 ≤ h.pc) (hw : h.how = 0) : Tells (dstep d h).1 (dstep d h).2.1 := by
  obtain ⟨h1, h2, h3, h4⟩ := hh
  obtain ⟨q, b, t, x, sw, how⟩ := h
  dsimp only at *
  have hq : q = 11 ∨ q = 12 ∨ q = 13 ∨ q = 14 := by omega
  rcases hq with rfl | rfl | rfl | rfl
  all_goals
    simp only [dstep]
    repeat' split
  all_goals
    subst hw
    simp at h2
    constructor <;> dsimp only <;> first | omega | (intros; omega) | simp
theorem th_bd {c : Nat} {d : Dq} {h : Dop} (hp : 11 ≤ h.pc) (hq : h.pc ≤ 14) (hd : Bd c d) (ho : Bo c h) : Bd (c + 1) (dstep d h).1 ∧ Bo (c + 1) (dstep d h).2.1 := by
  obtain ⟨a1, a2, a3, a4⟩ := hd
  obtain ⟨e1, e2, e3, e4⟩ := ho
  obtain ⟨q, b, t, x, sw, how⟩ := h
  obtain ⟨top, bot, sl⟩ := d
  dsimp only at *
  have hq : q = 11 ∨ q = 12 ∨ q = 13 ∨ q = 14 := by omega
  rcases hq with rfl | rfl | rfl | rfl
  all_goals
    simp only [dstep]
    repeat' split
  all_goals
    refine ⟨?_, ?_⟩ <;> constructor <;> dsimp only <;> omega
theorem own_can {c : Nat} {d : Dq} {o : Dop} (h : DqOk d o) (hd : Bd c d) (ho : Bo c o) (hc : c ≤ 100000) (hl : d.sl.length ≤ 1000000) : Can d o := by
  obtain ⟨n, t0, tl, ln, pc, p2, p3, p4, p6, p7, p8, p9, p10⟩ := h
  obtain ⟨a1, a2, a3, a4⟩ := hd
  obtain ⟨e1, e2, e3, e4⟩ := ho
  refine ⟨n, hl, by omega, by omega, by omega, by omega, by omega, by omega, by omega, by omega, by omega, fun hp => ?_, fun hp hn => by omega, fun hp => by omega⟩
  have := p3 hp
  have htl : d.top ≤ d.bot := by unfold safe lim at tl; rw [if_neg (by omega), if_neg (by omega)] at tl; exact tl
  omega
theorem th_can {c : Nat} {d : Dq} {o h : Dop} (hd : DqOk d o) (hh : ThOk d o h) (hb : Bd c d) (ho : Bo c h) (hc : c ≤ 100000) (hl : d.sl.length ≤ 1000000) : Can d h := by
  have h1 := hh.pc
  obtain ⟨a1, a2, a3, a4⟩ := hb
  obtain ⟨e1, e2, e3, e4⟩ := ho
  exact ⟨hd.n, hl, by omega, by omega, by omega, by omega, by omega, by omega, by omega, by omega, by omega, fun hp => by omega, fun hp hn => by omega, fun hp => by omega⟩
theorem DqOk.len {d : Dq} {o : Dop} (h : DqOk d o) : d.bot - d.top ≤ d.sl.length := by
  have h1 := h.ln
  have h7 := h.p7
  unfold lim at h1
  split at h1
  · rename_i hp; have := h7 hp; omega
  · exact h1
/-- The owner begins anew. -/
theorem own_begin {d : Dq} {o : Dop} (h : DqOk d o) (hp : o.pc = 0) (o' : Dop) (hq : o'.pc = 1 ∨ o'.pc = 5) : DqOk d o' ∧ ∀ t, ThOk d o t → ThOk d o' t := by
  have hl : lim d o' = lim d o := by unfold lim; rw [if_neg (by omega), if_neg (by omega)]
  have hs : safe d o' = safe d o := by unfold safe; rw [hl, if_neg (by omega), if_neg (by omega)]
  obtain ⟨n, t0, tl, ln, pc, p2, p3, p4, p6, p7, p8, p9, p10⟩ := h
  refine ⟨⟨n, t0, by rw [hs]; exact tl, by rw [hl]; exact ln, by omega, by omega, by omega, by omega, by omega, by omega, by omega, by omega, by omega⟩, fun t ht => ?_⟩
  obtain ⟨h1, h2, h3, h4⟩ := ht
  exact ⟨h1, h2, fun a b => by rw [hs]; exact h3 a b, h4⟩
theorem made_ok (n : Nat) (h : 0 < n) (o : Dop) (ho : o.pc = 0) : DqOk (Dq.made n) o := by
  have hl : lim (Dq.made n) o = 0 := by unfold lim; rw [if_neg (by omega)]; rfl
  have hs : safe (Dq.made n) o = 0 := by unfold safe; rw [hl, if_neg (by omega)]
  refine ⟨by simp [Dq.made]; exact h, by simp [Dq.made], by rw [hs]; simp [Dq.made], by rw [hl]; simp [Dq.made], ?_, ?_, ?_, ?_, ?_, ?_, ?_, ?_, ?_⟩ <;> omega
theorem steal_ok (d : Dq) (o : Dop) : ThOk d o opSteal := ⟨by simp [opSteal], by simp [opSteal], by simp [opSteal], by simp [opSteal]⟩
theorem th_ended (d : Dq) (o h : Dop) (hp : h.pc = 0) : ThOk d o h := ⟨.inl hp, by omega, by omega, by omega⟩
end Go.Proofs.Ytdigjppdgiapfaa
