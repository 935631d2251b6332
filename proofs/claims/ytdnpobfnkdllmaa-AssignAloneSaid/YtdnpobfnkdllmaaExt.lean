/- Extents of words, as a plain function; package jambref06's way to it. -/
import Derived.Test.YtdnpobfnkdllmaaWd
set_option linter.unusedSimpArgs false
set_option linter.unusedVariables false
namespace Go.Proofs.Ytdnpobfnkdllmaa

/-- What a reader holds behind words: least, greatest, far, the row at hand. -/
structure Ex where
  least : Int
  great : Int
  far : Bool
  row : Int
def starts (k : Nat) (x : Wd) : Bool := decide (k = 0) || decide (0 < x.forced)
def exShut (c : Ex) : Ex := ⟨c.least, max c.great (cutF c.row), c.far || cutB c.row, c.row⟩
def exLeast (k : Nat) (m : Int) (x : Wd) : Int := if k = 0 ∨ m < x.w then x.w else m
def exStep (k : Nat) (c : Ex) (x : Wd) : Ex :=
  if starts k x then ⟨exLeast k c.least x, (exShut c).great, (exShut c).far, x.w⟩ else ⟨exLeast k c.least x, c.great, c.far, c.row + (x.gap + x.w)⟩
def exAt (l : List Wd) : Nat → Ex
  | 0 => ⟨0, 0, false, 0⟩
  | k + 1 => match l[k]? with | some x => exStep k (exAt l k) x | none => exAt l k
/-- least, greatest, far -/
def extF (l : List Wd) : Int × Int × Bool := ((exAt l l.length).least, (exShut (exAt l l.length)).great, (exShut (exAt l l.length)).far)

theorem exAt_succ (l : List Wd) {k : Nat} (h : k < l.length) : exAt l (k + 1) = exStep k (exAt l k) l[k] := by simp [exAt, h]

/-- What the row at hand bears yet. -/
def restOf : List Wd → Int
  | [] => 0
  | x :: t => if 0 < x.forced then 0 else x.w + x.gap + restOf t
def restAt (l : List Wd) (k : Nat) : Int := restOf (l.drop k)
theorem restAt_end (l : List Wd) {k : Nat} (h : l.length ≤ k) : restAt l k = 0 := by unfold restAt; rw [List.drop_eq_nil_of_le h]; rfl
theorem restAt_at (l : List Wd) {k : Nat} (h : k < l.length) : restAt l k = if 0 < l[k].forced then 0 else l[k].w + l[k].gap + restAt l (k + 1) := by
  unfold restAt; rw [List.drop_eq_getElem_cons h]; rfl
/-- The reference's greatest and far, behind k words. -/
def refG (l : List Wd) (k : Nat) : Int × Bool := if k = 0 then (0, false) else (max (exAt l k).great (cutF ((exAt l k).row + restAt l k)), (exAt l k).far || cutB ((exAt l k).row + restAt l k))
theorem refG_end (l : List Wd) : refG l l.length = ((extF l).2.1, (extF l).2.2) := by
  unfold refG extF exShut
  rw [restAt_end l (Nat.le_refl _)]
  by_cases h : l.length = 0
  · rw [if_pos h, h]; simp [exAt, cutF, cutB]
  · rw [if_neg h]; simp
theorem refG_go (l : List Wd) {k : Nat} (h : k < l.length) (hs : starts k l[k] = false) : refG l (k + 1) = refG l k := by
  have hs' := hs
  simp only [starts, Bool.or_eq_false_iff, decide_eq_false_iff_not] at hs'
  have e : (exAt l k).row + restAt l k = (exAt l (k + 1)).row + restAt l (k + 1) := by
    rw [restAt_at l h, if_neg hs'.2, exAt_succ l h, exStep, if_neg (by simp [hs])]
    show _ = (exAt l k).row + (l[k].gap + l[k].w) + _
    omega
  unfold refG
  rw [if_neg (by omega), if_neg hs'.1, e, exAt_succ l h, exStep, if_neg (by simp [hs])]
theorem refG_new (l : List Wd) {k : Nat} (h : k < l.length) (hs : starts k l[k] = true) :
    refG l (k + 1) = (max (refG l k).1 (cutF (l[k].w + restAt l (k + 1))), (refG l k).2 || cutB (l[k].w + restAt l (k + 1))) := by
  unfold refG
  rw [if_neg (by omega), exAt_succ l h, exStep, if_pos hs]
  by_cases h0 : k = 0
  · subst h0; simp [exShut, exAt, cutF, cutB]
  · have hf : 0 < l[k].forced := by simpa [starts, h0] using hs
    rw [if_neg h0, restAt_at l h, if_pos hf]
    simp [exShut]
theorem exLeast_at (l : List Wd) {k : Nat} (h : k < l.length) : (exAt l (k + 1)).least = exLeast k (exAt l k).least l[k] := by
  rw [exAt_succ l h, exStep]; split <;> rfl
def W64 (x : Wd) : Prop := (-9223372036854775808 ≤ x.w ∧ x.w < 9223372036854775808) ∧ (-9223372036854775808 ≤ x.gap ∧ x.gap < 9223372036854775808)
def Ws64 (l : List Wd) : Prop := ∀ x ∈ l, W64 x
theorem Ws64.at_ {l : List Wd} (h : Ws64 l) {k : Nat} (hk : k < l.length) : W64 l[k] := h _ (List.getElem_mem hk)
end Go.Proofs.Ytdnpobfnkdllmaa
