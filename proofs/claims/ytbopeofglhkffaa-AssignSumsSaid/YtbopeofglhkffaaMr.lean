/- Mains: items that just fit; items that are handed in the other way round: plain. -/
import Derived.Test.YtbopeofglhkffaaWi
import Derived.Test.YtbopeofglhkffaaNt
import Derived.Test.YtbopeofglhkffaaWy
set_option linter.unusedSimpArgs false
set_option linter.unusedVariables false
namespace Go.Proofs.Ytbopeofglhkffaa
structure It where
  s : Sty
  c : Int
  left : Int
  right : Int
  sides : Int
  base : Int
  guess : Int
  factor : Int
  aim : Int
  width : Int
  held : Bool
def baseF (s : Sty) (c g : Int) : Int := if (resF s.basis c).2 then (resF s.basis c).1 else if (resF s.w c).2 then (resF s.w c).1 else g
/-- The item of a style and its contents. -/
def measF (s : Sty) (c g : Int) : It := ⟨s, c, (resF s.m3 c).1, (resF s.m1 c).1, (resF s.m3 c).1 + (resF s.m1 c).1 + frameF s, baseF s c g, clampF s c (baseF s c g), 0, 0, 0, false⟩
def sumM (M : Nat → It) (f : It → Int) (ks : List Nat) : Int := (ks.map fun k => f (M k)).sum
def rowStep (wrap : Bool) (c : Int) (own : Nat → Int) (p : List (List Nat) × Int) (k : Nat) : List (List Nat) × Int :=
  if p.1.length = 0 ∨ (wrap = true ∧ c < p.2 + own k) then (p.1 ++ [[k]], own k) else (p.1.dropLast ++ [(p.1.getLast?.getD []) ++ [k]], p.2 + own k)
def rowsF (wrap : Bool) (c : Int) (own : Nat → Int) (l : List Nat) : List (List Nat) := (l.foldl (rowStep wrap c own) ([], 0)).1
def ownM (M : Nat → It) (k : Nat) : Int := (M k).sides + (M k).guess
def facI (grows : Bool) (x : It) : Int := if grows then x.s.grow else x.s.shrink * x.base
def stopI (grows : Bool) (x : It) : Bool := decide (facI grows x = 0) || (grows && decide (x.guess < x.base)) || (!grows && decide (x.base < x.guess))
def startI (grows : Bool) (x : It) : It := if stopI grows x then { x with factor := facI grows x, held := true, width := x.guess } else { x with factor := facI grows x }
def startM (grows : Bool) (M : Nat → It) (ks : List Nat) : Nat → It := fun k => if k ∈ ks then startI grows (M k) else M k
def othM (M : Nat → It) (ks : List Nat) : List Nat := ks.filter fun k => !(M k).held
def restM (room : Int) (M : Nat → It) (ks : List Nat) : Int := room - sumM M (fun x => if x.held then x.width else x.base) ks
def partM (M : Nat → It) (amount all : Int) (k : Nat) : Int := amount * (M k).factor / all
def aimF (M : Nat → It) (oth : List Nat) (rest : Int) (grows : Bool) (k : Nat) : Int :=
  let all := sumM M It.factor oth
  let amount := if grows then rest else -rest
  if amount ≤ 0 ∨ all ≤ 0 then (M k).base else
    let more := partM M amount all k + (if (oth.idxOf k : Int) < amount - (oth.map (partM M amount all)).sum then 1 else 0)
    if grows then (M k).base + more else (M k).base - more
def aimsM (M : Nat → It) (oth : List Nat) (rest : Int) (grows : Bool) : Nat → It := fun k => if k ∈ oth then { M k with aim := aimF M oth rest grows k } else M k
def clW (x : It) : Int := clampF x.s x.c x.aim
def wayM (M : Nat → It) (oth : List Nat) : Int := cmpI (sumM M (fun x => clW x - x.aim) oth) 0
def holdI (way : Int) (x : It) : It := if way = 0 ∨ cmpI (clW x) x.aim = way then { x with held := true, width := clW x } else x
def holdM (M : Nat → It) (oth : List Nat) : Nat → It := fun k => if k ∈ oth then holdI (wayM M oth) (M k) else M k
def roundM (room : Int) (grows : Bool) (M : Nat → It) (ks : List Nat) : Nat → It := holdM (aimsM M (othM M ks) (restM room M ks) grows) (othM M ks)
def loopM : Nat → Int → Bool → (Nat → It) → List Nat → (Nat → It)
  | 0, _, _, M, _ => M
  | n + 1, room, grows, M, ks => if othM M ks = [] then M else loopM n room grows (roundM room grows M ks) ks
def roomM (c : Int) (M : Nat → It) (ks : List Nat) : Int := c - sumM M It.sides ks
def growsM (c : Int) (M : Nat → It) (ks : List Nat) : Bool := decide (sumM M It.guess ks < roomM c M ks)
def fitM (c : Int) (M : Nat → It) (ks : List Nat) : Nat → It := loopM ks.length (roomM c M ks) (growsM c M ks) (startM (growsM c M ks) M ks) ks
/-! Each round holds one at least. -/
theorem sum_pos_ex (l : List Nat) (f : Nat → Int) (h : 0 < (l.map f).sum) : ∃ k ∈ l, 0 < f k := by
  induction l with
  | nil => simp at h
  | cons a t ih =>
    rw [List.map_cons, List.sum_cons] at h
    by_cases ha : 0 < f a
    · exact ⟨a, by simp, ha⟩
    · obtain ⟨k, hk, h2⟩ := ih (by omega)
      exact ⟨k, by simp [hk], h2⟩
theorem sum_neg_ex (l : List Nat) (f : Nat → Int) (h : (l.map f).sum < 0) : ∃ k ∈ l, f k < 0 := by
  induction l with
  | nil => simp at h
  | cons a t ih =>
    rw [List.map_cons, List.sum_cons] at h
    by_cases ha : f a < 0
    · exact ⟨a, by simp, ha⟩
    · obtain ⟨k, hk, h2⟩ := ih (by omega)
      exact ⟨k, by simp [hk], h2⟩
theorem hold_one (M : Nat → It) (oth : List Nat) (h : oth ≠ []) : ∃ k ∈ oth, (holdM M oth k).held = true := by
  have hh : ∀ k ∈ oth, (wayM M oth = 0 ∨ cmpI (clW (M k)) (M k).aim = wayM M oth) → (holdM M oth k).held = true := fun k hk hc => by
    unfold holdM holdI; rw [if_pos hk, if_pos hc]
  unfold wayM at hh
  rcases Int.lt_trichotomy (sumM M (fun x => clW x - x.aim) oth) 0 with hs | hs | hs
  · obtain ⟨k, hk, h2⟩ := sum_neg_ex oth _ hs
    have h2 : clW (M k) - (M k).aim < 0 := h2
    exact ⟨k, hk, hh k hk (.inr (by unfold cmpI; rw [if_pos (by omega), if_pos hs]))⟩
  · obtain ⟨k, hk⟩ := List.exists_mem_of_ne_nil _ h
    exact ⟨k, hk, hh k hk (.inl (by rw [hs]; rfl))⟩
  · obtain ⟨k, hk, h2⟩ := sum_pos_ex oth _ hs
    have h2 : 0 < clW (M k) - (M k).aim := h2
    exact ⟨k, hk, hh k hk (.inr (by unfold cmpI; rw [if_neg (by omega), if_pos (by omega), if_neg (by omega), if_pos hs]))⟩
theorem hold_held (M : Nat → It) (oth : List Nat) (k : Nat) (h : (M k).held = true) : (holdM M oth k).held = true := by
  unfold holdM holdI
  split
  · split
    · rfl
    · exact h
  · exact h
theorem aims_held (M : Nat → It) (oth : List Nat) (rest : Int) (grows : Bool) (k : Nat) : (aimsM M oth rest grows k).held = (M k).held := by
  unfold aimsM; split <;> rfl
theorem filter_shrinks (l : List Nat) (p q : Nat → Bool) (h : ∀ k ∈ l, q k = true → p k = true) (h2 : ∃ k ∈ l, p k = true ∧ q k = false) : (l.filter q).length < (l.filter p).length := by
  induction l with
  | nil => obtain ⟨k, hk, _⟩ := h2; simp at hk
  | cons a t ih =>
    have hle : ∀ l : List Nat, (∀ k ∈ l, q k = true → p k = true) → (l.filter q).length ≤ (l.filter p).length := fun l => by
      induction l with
      | nil => intro _; simp
      | cons b u ih2 =>
        intro hb
        have := ih2 fun k hk => hb k (by simp [hk])
        have hb2 := hb b (by simp)
        cases hq : q b
        · cases hp : p b <;> simp [List.filter_cons, hq, hp] <;> omega
        · simp [List.filter_cons, hq, hb2 hq]; omega
    have ht : ∀ k ∈ t, q k = true → p k = true := fun k hk => h k (by simp [hk])
    have ha := h a (by simp)
    obtain ⟨k, hk, hp, hq⟩ := h2
    rcases List.mem_cons.1 hk with e | e
    · subst e
      have := hle t ht
      simp [List.filter_cons, hq, hp]; omega
    · have := ih ht ⟨k, e, hp, hq⟩
      cases hqa : q a
      · cases hpa : p a <;> simp [List.filter_cons, hqa, hpa] <;> omega
      · simp [List.filter_cons, hqa, ha hqa]; omega
theorem round_less (room : Int) (grows : Bool) (M : Nat → It) (ks : List Nat) (h : othM M ks ≠ []) : (othM (roundM room grows M ks) ks).length < (othM M ks).length := by
  refine filter_shrinks ks _ _ (fun k hk h1 => ?_) ?_
  · cases hh : (M k).held
    · rfl
    · exfalso
      have : (roundM room grows M ks k).held = true := hold_held _ _ k (by rw [aims_held]; exact hh)
      rw [this] at h1; cases h1
  · obtain ⟨k, hk, hh⟩ := hold_one (aimsM M (othM M ks) (restM room M ks) grows) (othM M ks) h
    obtain ⟨hk1, hk2⟩ := List.mem_filter.1 hk
    exact ⟨k, hk1, hk2, by show (!(roundM room grows M ks k).held) = false; unfold roundM; rw [hh]; rfl⟩
/-- Enough rounds are enough. -/
theorem loop_fuel : ∀ (n m : Nat) (room : Int) (grows : Bool) (M : Nat → It) (ks : List Nat), (othM M ks).length ≤ n → (othM M ks).length ≤ m → loopM n room grows M ks = loopM m room grows M ks
  | 0, 0, _, _, _, _, _, _ => rfl
  | 0, m + 1, room, grows, M, ks, h, _ => by
    have : othM M ks = [] := List.length_eq_zero_iff.1 (by omega)
    rw [loopM, loopM, if_pos this]
  | n + 1, 0, room, grows, M, ks, _, h => by
    have : othM M ks = [] := List.length_eq_zero_iff.1 (by omega)
    rw [loopM, loopM, if_pos this]
  | n + 1, m + 1, room, grows, M, ks, h1, h2 => by
    rw [loopM, loopM]
    split
    · rfl
    · rename_i h
      have := round_less room grows M ks h
      exact loop_fuel n m room grows _ ks (by omega) (by omega)
theorem loop_step (room : Int) (grows : Bool) (M : Nat → It) (ks : List Nat) (n : Nat) (hn : (othM M ks).length ≤ n) (h : othM M ks ≠ []) : loopM n room grows M ks = loopM n room grows (roundM room grows M ks) ks := by
  rcases n with _ | n
  · exact absurd (List.length_eq_zero_iff.1 (by omega)) h
  · have := round_less room grows M ks h
    rw [loopM, if_neg h]
    exact loop_fuel n (n + 1) room grows _ ks (by omega) (by omega)
theorem loop_done (room : Int) (grows : Bool) (M : Nat → It) (ks : List Nat) (n : Nat) (h : othM M ks = []) : loopM n room grows M ks = M := by
  rcases n with _ | n
  · rfl
  · rw [loopM, if_pos h]
/-! Other names for the items. -/
end Go.Proofs.Ytbopeofglhkffaa
set_option linter.unusedSimpArgs false
set_option linter.unusedVariables false
namespace Go.Proofs.Ytbopeofglhkffaa
end Go.Proofs.Ytbopeofglhkffaa
set_option linter.unusedSimpArgs false
set_option linter.unusedVariables false
namespace Go.Proofs.Ytbopeofglhkffaa
/-- What no round turns. -/
structure SameI (x y : It) : Prop where
  s : y.s = x.s
  c : y.c = x.c
  left : y.left = x.left
  right : y.right = x.right
  sides : y.sides = x.sides
  base : y.base = x.base
  guess : y.guess = x.guess
theorem SameI.refl (x : It) : SameI x x := ⟨rfl, rfl, rfl, rfl, rfl, rfl, rfl⟩
theorem SameI.trans {x y z : It} (h : SameI x y) (k : SameI y z) : SameI x z := ⟨k.s.trans h.s, k.c.trans h.c, k.left.trans h.left, k.right.trans h.right, k.sides.trans h.sides, k.base.trans h.base, k.guess.trans h.guess⟩
theorem start_same (grows : Bool) (M : Nat → It) (ks : List Nat) (k : Nat) : SameI (M k) (startM grows M ks k) := by
  unfold startM startI
  split
  · split <;> exact ⟨rfl, rfl, rfl, rfl, rfl, rfl, rfl⟩
  · exact SameI.refl _
theorem round_same (room : Int) (grows : Bool) (M : Nat → It) (ks : List Nat) (k : Nat) : SameI (M k) (roundM room grows M ks k) := by
  have h1 : SameI (M k) (aimsM M (othM M ks) (restM room M ks) grows k) := by
    unfold aimsM
    split
    · exact ⟨rfl, rfl, rfl, rfl, rfl, rfl, rfl⟩
    · exact SameI.refl _
  refine h1.trans ?_
  unfold roundM holdM holdI
  split
  · split
    · exact ⟨rfl, rfl, rfl, rfl, rfl, rfl, rfl⟩
    · exact SameI.refl _
  · exact SameI.refl _
/-- What no item of the row is stays. -/
theorem loop_out : ∀ (n : Nat) (room : Int) (grows : Bool) (M : Nat → It) (ks : List Nat) (k : Nat), k ∉ ks → loopM n room grows M ks k = M k
  | 0, _, _, M, _, k, _ => rfl
  | n + 1, room, grows, M, ks, k, h => by
    have ho : k ∉ othM M ks := fun h2 => h (List.mem_filter.1 h2).1
    have hr : roundM room grows M ks k = M k := by
      unfold roundM holdM aimsM
      rw [if_neg ho, if_neg ho]
    rw [loopM]
    split
    · rfl
    · rw [loop_out n room grows _ ks k h, hr]
theorem fit_out (c : Int) (M : Nat → It) (ks : List Nat) (k : Nat) (h : k ∉ ks) : fitM c M ks k = M k := by
  unfold fitM
  rw [loop_out _ _ _ _ _ _ h]
  unfold startM; rw [if_neg h]
/-! The other way round. -/
def fitsM (c : Int) (M : Nat → It) (rows : List (List Nat)) : Nat → It := rows.foldl (fitM c) M
end Go.Proofs.Ytbopeofglhkffaa
