/- What holds of a deque whatever steps come: plain. -/
import Derived.Test.YtdigjppdgiapfaaDq
set_option linter.unusedSimpArgs false
set_option linter.unusedVariables false
namespace Go.Proofs.Ytdigjppdgiapfaa

/-- Where the tasks end, whether or not the owner has lowered bottom. -/
def lim (d : Dq) (o : Dop) : Int := if 7 ≤ o.pc then o.b + 1 else d.bot
/-- What thieves may still take ends here. -/
def safe (d : Dq) (o : Dop) : Int := if o.pc = 8 ∧ o.t < o.b then o.b else lim d o

structure DqOk (d : Dq) (o : Dop) : Prop where
  n : 0 < d.sl.length
  t0 : 0 ≤ d.top
  tl : d.top ≤ safe d o
  ln : lim d o - d.top ≤ d.sl.length
  pc : o.pc ≤ 10
  p2 : o.pc = 2 → o.b = d.bot
  p3 : o.pc = 3 → o.b = d.bot ∧ o.b - d.top < d.sl.length
  p4 : o.pc = 4 → o.b = d.bot ∧ o.b - d.top < d.sl.length ∧ d.at_ o.b = o.x
  p6 : o.pc = 6 → o.b = d.bot - 1
  p7 : 7 ≤ o.pc → d.bot = o.b
  p8 : o.pc = 8 → 0 ≤ o.t ∧ o.t ≤ d.top
  p9 : o.pc = 9 → o.t = o.b ∧ o.b ≤ d.top ∧ 0 ≤ o.b ∧ (d.top = o.b → o.x = d.at_ o.b)
  p10 : o.pc = 10 → d.top = o.b + 1
structure ThOk (d : Dq) (o : Dop) (h : Dop) : Prop where
  pc : h.pc = 0 ∨ 11 ≤ h.pc ∧ h.pc ≤ 14
  t : 12 ≤ h.pc → 0 ≤ h.t ∧ h.t ≤ d.top
  s : 13 ≤ h.pc → h.t = d.top → h.t < safe d o
  x : h.pc = 14 → h.t = d.top → h.x = d.at_ h.t

theorem ix_lt (sl : List Int) (h : 0 < sl.length) (i : Int) : slIx sl i < sl.length := by
  unfold slIx
  have h1 := Int.emod_nonneg i (show (sl.length : Int) ≠ 0 by omega)
  have h2 := Int.emod_lt_of_pos i (show (0 : Int) < sl.length by omega)
  omega
theorem emod_inj {n i j : Int} (hn : 0 < n) (h1 : -n < i - j) (h2 : i - j < n) (h : i % n = j % n) : i = j := by
  have e1 := Int.emod_add_mul_ediv i n
  have e2 := Int.emod_add_mul_ediv j n
  have hq : n * (i / n) - n * (j / n) = i - j := by omega
  have hm : n * (i / n - j / n) = i - j := by rw [Int.mul_sub]; exact hq
  have hz : i / n - j / n = 0 := by
    rcases Int.lt_trichotomy (i / n - j / n) 0 with h | h | h
    · have : n * (i / n - j / n) ≤ n * (-1) := Int.mul_le_mul_of_nonneg_left (by omega) (by omega)
      omega
    · exact h
    · have : n * 1 ≤ n * (i / n - j / n) := Int.mul_le_mul_of_nonneg_left (by omega) (by omega)
      omega
  rw [hz] at hm
  omega
theorem ix_inj (sl : List Int) (hn : 0 < sl.length) {i j : Int} (h1 : -(sl.length : Int) < i - j) (h2 : i - j < sl.length) (h : slIx sl i = slIx sl j) : i = j := by
  unfold slIx at h
  have a1 := Int.emod_nonneg i (show (sl.length : Int) ≠ 0 by omega)
  have a2 := Int.emod_nonneg j (show (sl.length : Int) ≠ 0 by omega)
  exact emod_inj (by omega) h1 h2 (by omega)
theorem set_at (sl : List Int) (hn : 0 < sl.length) (b v : Int) : slAt (sl.set (slIx sl b) v) b = v := by
  have hl := ix_lt sl hn b
  have e : slIx (sl.set (slIx sl b) v) b = slIx sl b := by simp [slIx]
  unfold slAt
  rw [e]
  simp [hl]
theorem set_far (sl : List Int) (hn : 0 < sl.length) {b i : Int} (v : Int) (h1 : -(sl.length : Int) < i - b) (h2 : i - b < sl.length) (hne : i ≠ b) : slAt (sl.set (slIx sl b) v) i = slAt sl i := by
  have e : slIx (sl.set (slIx sl b) v) i = slIx sl i := by simp [slIx]
  unfold slAt
  rw [e]
  have : slIx sl b ≠ slIx sl i := fun h => hne (ix_inj sl hn h1 h2 h.symm)
  simp [this]

/-- A step of the owner's keeps it; and all thieves'. -/
theorem own_step {d : Dq} {o : Dop} (h : DqOk d o) (hp : 1 ≤ o.pc) : DqOk (dstep d o).1 (dstep d o).2.1 ∧ ∀ t, ThOk d o t → ThOk (dstep d o).1 (dstep d o).2.1 t := by
  obtain ⟨n, t0, tl, ln, pc, p2, p3, p4, p6, p7, p8, p9, p10⟩ := h
  obtain ⟨q, b, t, x, sw, how⟩ := o
  obtain ⟨top, bot, sl⟩ := d
  dsimp only at *
  have hq : q = 1 ∨ q = 2 ∨ q = 3 ∨ q = 4 ∨ q = 5 ∨ q = 6 ∨ q = 7 ∨ q = 8 ∨ q = 9 ∨ q = 10 := by omega
  rcases hq with rfl | rfl | rfl | rfl | rfl | rfl | rfl | rfl | rfl | rfl
  all_goals
    simp [lim, safe, Dq.at_] at tl ln p2 p3 p4 p6 p7 p8 p9 p10
    simp only [dstep, Dq.put, Dq.at_, Dq.ix]
    repeat' split
  all_goals
    refine ⟨?_, fun h ht => ?_⟩
    · have hs1 := set_at sl n b x
      constructor <;> (try simp [lim, safe, Dq.at_]) <;> first | omega | (intros; omega) | (refine ⟨?_, ?_, ?_⟩ <;> omega) | (split at tl <;> omega) | (refine ⟨?_, ?_⟩ <;> first | omega | exact hs1) | (split <;> omega) | skip
    · obtain ⟨h1, h2, h3, h4⟩ := ht
      simp [lim, safe, Dq.at_] at h2 h3 h4
      have hs2 := fun hne h1 h2 => set_far sl n (b := b) (i := h.t) x h1 h2 hne
      constructor <;> (try simp [lim, safe, Dq.at_]) <;> first | omega | (intros; omega) | skip

/-- Top one more: what a thief's swap does. -/
theorem top_more {d : Dq} {o : Dop} (hd : DqOk d o) (hs : d.top < safe d o) : DqOk ⟨d.top + 1, d.bot, d.sl⟩ o ∧ ∀ t, ThOk d o t → ThOk ⟨d.top + 1, d.bot, d.sl⟩ o t := by
  obtain ⟨n, t0, tl, ln, pc, p2, p3, p4, p6, p7, p8, p9, p10⟩ := hd
  obtain ⟨top, bot, sl⟩ := d
  have hsl : safe ⟨top + 1, bot, sl⟩ o = safe ⟨top, bot, sl⟩ o := rfl
  have hll : lim ⟨top + 1, bot, sl⟩ o = lim ⟨top, bot, sl⟩ o := rfl
  refine ⟨⟨n, ?_, ?_, ?_, pc, p2, ?_, ?_, p6, p7, ?_, ?_, ?_⟩, fun t ht => ?_⟩
  · dsimp only at *; omega
  · rw [hsl]; dsimp only at *; omega
  · rw [hll]; dsimp only at *; omega
  · intro h; have := p3 h; dsimp only at *; omega
  · intro h; obtain ⟨a, b, c⟩ := p4 h; dsimp only at *; exact ⟨a, by omega, c⟩
  · intro h; have := p8 h; dsimp only at *; omega
  · intro h; obtain ⟨a, b, c, e⟩ := p9 h; dsimp only at *; exact ⟨a, by omega, c, fun h => by omega⟩
  · intro h
    have h1 := p10 h
    have h2 : safe ⟨top, bot, sl⟩ o = o.b + 1 := by unfold safe lim; rw [if_neg (by omega), if_pos (by omega)]
    dsimp only at *; omega
  · obtain ⟨h1, h2, h3, h4⟩ := ht
    refine ⟨h1, fun h => ?_, fun h e => ?_, fun h e => ?_⟩
    · have := h2 h; dsimp only at *; omega
    · have := h2 (by omega); dsimp only at *; omega
    · have := h2 (by omega); dsimp only at *; omega
/-- A step of a thief's that does not swap. -/
theorem th_rest {d : Dq} {o h : Dop} (hd : DqOk d o) (hh : ThOk d o h) (hp : 11 ≤ h.pc) (hn : ¬ (h.pc = 14 ∧ d.top = h.t)) : (dstep d h).1 = d ∧ ThOk d o (dstep d h).2.1 := by
  have hsl : d.bot ≤ safe d o := by
    have h7 := hd.p7
    have htl := hd.tl
    unfold safe lim
    split
    · rename_i h; have := h7 (by omega); omega
    · split
      · rename_i h; have := h7 h; omega
      · omega
  have t0 := hd.t0
  obtain ⟨h1, h2, h3, h4⟩ := hh
  obtain ⟨q, b, t, x, sw, how⟩ := h
  dsimp only at *
  have hq : q = 11 ∨ q = 12 ∨ q = 13 ∨ q = 14 := by omega
  rcases hq with rfl | rfl | rfl | rfl
  · refine ⟨rfl, ⟨?_, ?_, ?_, ?_⟩⟩ <;> simp only [dstep] <;> first | omega | (intros; omega)
  · have := h2 (by decide)
    simp only [dstep]
    split
    · refine ⟨trivial, ⟨?_, ?_, ?_, ?_⟩⟩ <;> dsimp only <;> first | omega | (intros; omega)
    · refine ⟨trivial, ⟨?_, ?_, ?_, ?_⟩⟩ <;> dsimp only <;> first | omega | (intros; omega)
  · have := h2 (by decide)
    refine ⟨rfl, ⟨?_, ?_, ?_, ?_⟩⟩ <;> simp only [dstep] <;> first | omega | (intros; omega) | exact fun _ e => h3 (by decide) e | exact fun _ _ => trivial
  · simp only [dstep]
    rw [if_neg (fun e => hn ⟨rfl, e⟩)]
    refine ⟨rfl, ⟨?_, ?_, ?_, ?_⟩⟩ <;> dsimp only <;> first | omega | (intros; omega)
/-- A thief's swap that is done. -/
theorem th_swap {d : Dq} {o h : Dop} (hd : DqOk d o) (hh : ThOk d o h) (hp : h.pc = 14) (ht : d.top = h.t) : (dstep d h).1 = ⟨d.top + 1, d.bot, d.sl⟩ ∧ (dstep d h).2.1 = { h with pc := 0, how := 2 } ∧ d.top < safe d o ∧ h.x = d.at_ d.top := by
  have h1 := hh.s (by omega) ht.symm
  have h2 := hh.x hp ht.symm
  unfold dstep
  rw [hp]
  simp only [if_pos ht]
  exact ⟨by rw [ht], trivial, by omega, by rw [h2, ht]⟩
end Go.Proofs.Ytdigjppdgiapfaa
