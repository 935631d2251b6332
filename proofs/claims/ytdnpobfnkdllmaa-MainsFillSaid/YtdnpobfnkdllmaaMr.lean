/- Mains: items that just fit; items that are handed in the other way round: plain. -/
import Derived.Test.YtdnpobfnkdllmaaWi
import Derived.Test.YtdnpobfnkdllmaaNt
import Derived.Test.YtdnpobfnkdllmaaWy
/- Mains: items without bounds: plain. -/
/- Mains: what the program computes, plain. -/
set_option linter.unusedSimpArgs false
set_option linter.unusedVariables false
namespace Go.Proofs.Ytdnpobfnkdllmaa

structure It where
  s : Sty
  c : Int
  left : Int
  right : Int
  sides : Int
  base : Int
  guess : Int
  factor : Int
  aim : Int
  width : Int
  held : Bool
def baseF (s : Sty) (c g : Int) : Int := if (resF s.basis c).2 then (resF s.basis c).1 else if (resF s.w c).2 then (resF s.w c).1 else g
/-- The item of a style and its contents. -/
def measF (s : Sty) (c g : Int) : It := ⟨s, c, (resF s.m3 c).1, (resF s.m1 c).1, (resF s.m3 c).1 + (resF s.m1 c).1 + frameF s, baseF s c g, clampF s c (baseF s c g), 0, 0, 0, false⟩
def sumM (M : Nat → It) (f : It → Int) (ks : List Nat) : Int := (ks.map fun k => f (M k)).sum
def rowStep (wrap : Bool) (c : Int) (own : Nat → Int) (p : List (List Nat) × Int) (k : Nat) : List (List Nat) × Int :=
  if p.1.length = 0 ∨ (wrap = true ∧ c < p.2 + own k) then (p.1 ++ [[k]], own k) else (p.1.dropLast ++ [(p.1.getLast?.getD []) ++ [k]], p.2 + own k)
def rowsF (wrap : Bool) (c : Int) (own : Nat → Int) (l : List Nat) : List (List Nat) := (l.foldl (rowStep wrap c own) ([], 0)).1
def ownM (M : Nat → It) (k : Nat) : Int := (M k).sides + (M k).guess
def facI (grows : Bool) (x : It) : Int := if grows then x.s.grow else x.s.shrink * x.base
def stopI (grows : Bool) (x : It) : Bool := decide (facI grows x = 0) || (grows && decide (x.guess < x.base)) || (!grows && decide (x.base < x.guess))
def startI (grows : Bool) (x : It) : It := if stopI grows x then { x with factor := facI grows x, held := true, width := x.guess } else { x with factor := facI grows x }
def startM (grows : Bool) (M : Nat → It) (ks : List Nat) : Nat → It := fun k => if k ∈ ks then startI grows (M k) else M k
def othM (M : Nat → It) (ks : List Nat) : List Nat := ks.filter fun k => !(M k).held
def restM (room : Int) (M : Nat → It) (ks : List Nat) : Int := room - sumM M (fun x => if x.held then x.width else x.base) ks
def partM (M : Nat → It) (amount all : Int) (k : Nat) : Int := amount * (M k).factor / all
def aimF (M : Nat → It) (oth : List Nat) (rest : Int) (grows : Bool) (k : Nat) : Int :=
  let all := sumM M It.factor oth
  let amount := if grows then rest else -rest
  if amount ≤ 0 ∨ all ≤ 0 then (M k).base else
    let more := partM M amount all k + (if (oth.idxOf k : Int) < amount - (oth.map (partM M amount all)).sum then 1 else 0)
    if grows then (M k).base + more else (M k).base - more
def aimsM (M : Nat → It) (oth : List Nat) (rest : Int) (grows : Bool) : Nat → It := fun k => if k ∈ oth then { M k with aim := aimF M oth rest grows k } else M k
def clW (x : It) : Int := clampF x.s x.c x.aim
def wayM (M : Nat → It) (oth : List Nat) : Int := cmpI (sumM M (fun x => clW x - x.aim) oth) 0
def holdI (way : Int) (x : It) : It := if way = 0 ∨ cmpI (clW x) x.aim = way then { x with held := true, width := clW x } else x
def holdM (M : Nat → It) (oth : List Nat) : Nat → It := fun k => if k ∈ oth then holdI (wayM M oth) (M k) else M k
def roundM (room : Int) (grows : Bool) (M : Nat → It) (ks : List Nat) : Nat → It := holdM (aimsM M (othM M ks) (restM room M ks) grows) (othM M ks)
def loopM : Nat → Int → Bool → (Nat → It) → List Nat → (Nat → It)
  | 0, _, _, M, _ => M
  | n + 1, room, grows, M, ks => if othM M ks = [] then M else loopM n room grows (roundM room grows M ks) ks
def roomM (c : Int) (M : Nat → It) (ks : List Nat) : Int := c - sumM M It.sides ks
def growsM (c : Int) (M : Nat → It) (ks : List Nat) : Bool := decide (sumM M It.guess ks < roomM c M ks)
def fitM (c : Int) (M : Nat → It) (ks : List Nat) : Nat → It := loopM ks.length (roomM c M ks) (growsM c M ks) (startM (growsM c M ks) M ks) ks

/-! Each round holds one at least. -/
theorem sum_pos_ex (l : List Nat) (f : Nat → Int) (h : 0 < (l.map f).sum) : ∃ k ∈ l, 0 < f k := by
  induction l with
  | nil => simp at h
  | cons a t ih =>
    rw [List.map_cons, List.sum_cons] at h
    by_cases ha : 0 < f a
    · exact ⟨a, by simp, ha⟩
    · obtain ⟨k, hk, h2⟩ := ih (by omega)
      exact ⟨k, by simp [hk], h2⟩
theorem sum_neg_ex (l : List Nat) (f : Nat → Int) (h : (l.map f).sum < 0) : ∃ k ∈ l, f k < 0 := by
  induction l with
  | nil => simp at h
  | cons a t ih =>
    rw [List.map_cons, List.sum_cons] at h
    by_cases ha : f a < 0
    · exact ⟨a, by simp, ha⟩
    · obtain ⟨k, hk, h2⟩ := ih (by omega)
      exact ⟨k, by simp [hk], h2⟩
theorem hold_one (M : Nat → It) (oth : List Nat) (h : oth ≠ []) : ∃ k ∈ oth, (holdM M oth k).held = true := by
  have hh : ∀ k ∈ oth, (wayM M oth = 0 ∨ cmpI (clW (M k)) (M k).aim = wayM M oth) → (holdM M oth k).held = true := fun k hk hc => by
    unfold holdM holdI; rw [if_pos hk, if_pos hc]
  unfold wayM at hh
  rcases Int.lt_trichotomy (sumM M (fun x => clW x - x.aim) oth) 0 with hs | hs | hs
  · obtain ⟨k, hk, h2⟩ := sum_neg_ex oth _ hs
    have h2 : clW (M k) - (M k).aim < 0 := h2
    exact ⟨k, hk, hh k hk (.inr (by unfold cmpI; rw [if_pos (by omega), if_pos hs]))⟩
  · obtain ⟨k, hk⟩ := List.exists_mem_of_ne_nil _ h
    exact ⟨k, hk, hh k hk (.inl (by rw [hs]; rfl))⟩
  · obtain ⟨k, hk, h2⟩ := sum_pos_ex oth _ hs
    have h2 : 0 < clW (M k) - (M k).aim := h2
    exact ⟨k, hk, hh k hk (.inr (by unfold cmpI; rw [if_neg (by omega), if_pos (by omega), if_neg (by omega), if_pos hs]))⟩
theorem hold_held (M : Nat → It) (oth : List Nat) (k : Nat) (h : (M k).held = true) : (holdM M oth k).held = true := by
  unfold holdM holdI
  split
  · split
    · rfl
    · exact h
  · exact h
theorem aims_held (M : Nat → It) (oth : List Nat) (rest : Int) (grows : Bool) (k : Nat) : (aimsM M oth rest grows k).held = (M k).held := by
  unfold aimsM; split <;> rfl
theorem filter_shrinks (l : List Nat) (p q : Nat → Bool) (h : ∀ k ∈ l, q k = true → p k = true) (h2 : ∃ k ∈ l, p k = true ∧ q k = false) : (l.filter q).length < (l.filter p).length := by
  induction l with
  | nil => obtain ⟨k, hk, _⟩ := h2; simp at hk
  | cons a t ih =>
    have hle : ∀ l : List Nat, (∀ k ∈ l, q k = true → p k = true) → (l.filter q).length ≤ (l.filter p).length := fun l => by
      induction l with
      | nil => intro _; simp
      | cons b u ih2 =>
        intro hb
        have := ih2 fun k hk => hb k (by simp [hk])
        have hb2 := hb b (by simp)
        cases hq : q b
        · cases hp : p b <;> simp [List.filter_cons, hq, hp] <;> omega
        · simp [List.filter_cons, hq, hb2 hq]; omega
    have ht : ∀ k ∈ t, q k = true → p k = true := fun k hk => h k (by simp [hk])
    have ha := h a (by simp)
    obtain ⟨k, hk, hp, hq⟩ := h2
    rcases List.mem_cons.1 hk with e | e
    · subst e
      have := hle t ht
      simp [List.filter_cons, hq, hp]; omega
    · have := ih ht ⟨k, e, hp, hq⟩
      cases hqa : q a
      · cases hpa : p a <;> simp [List.filter_cons, hqa, hpa] <;> omega
      · simp [List.filter_cons, hqa, ha hqa]; omega
theorem round_less (room : Int) (grows : Bool) (M : Nat → It) (ks : List Nat) (h : othM M ks ≠ []) : (othM (roundM room grows M ks) ks).length < (othM M ks).length := by
  refine filter_shrinks ks _ _ (fun k hk h1 => ?_) ?_
  · cases hh : (M k).held
    · rfl
    · exfalso
      have : (roundM room grows M ks k).held = true := hold_held _ _ k (by rw [aims_held]; exact hh)
      rw [this] at h1; cases h1
  · obtain ⟨k, hk, hh⟩ := hold_one (aimsM M (othM M ks) (restM room M ks) grows) (othM M ks) h
    obtain ⟨hk1, hk2⟩ := List.mem_filter.1 hk
    exact ⟨k, hk1, hk2, by show (!(roundM room grows M ks k).held) = false; unfold roundM; rw [hh]; rfl⟩
/-- Enough rounds are enough. -/
theorem loop_fuel : ∀ (n m : Nat) (room : Int) (grows : Bool) (M : Nat → It) (ks : List Nat), (othM M ks).length ≤ n → (othM M ks).length ≤ m → loopM n room grows M ks = loopM m room grows M ks
  | 0, 0, _, _, _, _, _, _ => rfl
  | 0, m + 1, room, grows, M, ks, h, _ => by
    have : othM M ks = [] := List.length_eq_zero_iff.1 (by omega)
    rw [loopM, loopM, if_pos this]
  | n + 1, 0, room, grows, M, ks, _, h => by
    have : othM M ks = [] := List.length_eq_zero_iff.1 (by omega)
    rw [loopM, loopM, if_pos this]
  | n + 1, m + 1, room, grows, M, ks, h1, h2 => by
    rw [loopM, loopM]
    split
    · rfl
    · rename_i h
      have := round_less room grows M ks h
      exact loop_fuel n m room grows _ ks (by omega) (by omega)
theorem loop_step (room : Int) (grows : Bool) (M : Nat → It) (ks : List Nat) (n : Nat) (hn : (othM M ks).length ≤ n) (h : othM M ks ≠ []) : loopM n room grows M ks = loopM n room grows (roundM room grows M ks) ks := by
  rcases n with _ | n
  · exact absurd (List.length_eq_zero_iff.1 (by omega)) h
  · have := round_less room grows M ks h
    rw [loopM, if_neg h]
    exact loop_fuel n (n + 1) room grows _ ks (by omega) (by omega)
theorem loop_done (room : Int) (grows : Bool) (M : Nat → It) (ks : List Nat) (n : Nat) (h : othM M ks = []) : loopM n room grows M ks = M := by
  rcases n with _ | n
  · rfl
  · rw [loopM, if_pos h]
/-! Other names for the items. -/
theorem sumM_ren (σ : Nat → Nat) (M : Nat → It) (f : It → Int) (ks : List Nat) : sumM (fun k => M (σ k)) f ks = sumM M f (ks.map σ) := by
  unfold sumM; rw [List.map_map]; rfl
theorem mem_ren (σ : Nat → Nat) (hσ : ∀ x y, σ x = σ y → x = y) (k : Nat) (ks : List Nat) : σ k ∈ ks.map σ ↔ k ∈ ks := by
  rw [List.mem_map]
  constructor
  · rintro ⟨x, hx, e⟩; rw [← hσ _ _ e]; exact hx
  · intro h; exact ⟨k, h, rfl⟩
theorem idx_ren (σ : Nat → Nat) (hσ : ∀ x y, σ x = σ y → x = y) (k : Nat) (ks : List Nat) : (ks.map σ).idxOf (σ k) = ks.idxOf k := by
  induction ks with
  | nil => rfl
  | cons a t ih =>
    have hb : (σ a == σ k) = (a == k) := by
      by_cases h : a = k
      · subst h; rw [beq_self_eq_true, beq_self_eq_true]
      · rw [beq_eq_false_iff_ne.2 h, beq_eq_false_iff_ne.2 (fun e => h (hσ _ _ e))]
    rw [List.map_cons, List.idxOf_cons, List.idxOf_cons, ih, hb]
theorem oth_ren (σ : Nat → Nat) (M : Nat → It) (ks : List Nat) : (othM (fun k => M (σ k)) ks).map σ = othM M (ks.map σ) := by
  unfold othM; rw [List.filter_map]; rfl
theorem start_ren (σ : Nat → Nat) (hσ : ∀ x y, σ x = σ y → x = y) (grows : Bool) (M : Nat → It) (ks : List Nat) : startM grows (fun k => M (σ k)) ks = fun k => startM grows M (ks.map σ) (σ k) := by
  funext k; unfold startM; simp only [mem_ren σ hσ]
theorem aims_ren (σ : Nat → Nat) (hσ : ∀ x y, σ x = σ y → x = y) (M : Nat → It) (oth : List Nat) (rest : Int) (grows : Bool) : aimsM (fun k => M (σ k)) oth rest grows = fun k => aimsM M (oth.map σ) rest grows (σ k) := by
  funext k
  unfold aimsM
  simp only [mem_ren σ hσ]
  split
  · congr 1
    unfold aimF
    simp only [sumM_ren σ, idx_ren σ hσ, List.map_map]
    rfl
  · rfl
theorem hold_ren (σ : Nat → Nat) (hσ : ∀ x y, σ x = σ y → x = y) (M : Nat → It) (oth : List Nat) : holdM (fun k => M (σ k)) oth = fun k => holdM M (oth.map σ) (σ k) := by
  funext k
  unfold holdM wayM
  simp only [mem_ren σ hσ, sumM_ren σ]
theorem round_ren (σ : Nat → Nat) (hσ : ∀ x y, σ x = σ y → x = y) (room : Int) (grows : Bool) (M : Nat → It) (ks : List Nat) : roundM room grows (fun k => M (σ k)) ks = fun k => roundM room grows M (ks.map σ) (σ k) := by
  unfold roundM
  rw [aims_ren σ hσ, hold_ren σ hσ, oth_ren σ]
  unfold restM
  rw [sumM_ren σ]
theorem loop_ren (σ : Nat → Nat) (hσ : ∀ x y, σ x = σ y → x = y) : ∀ (n : Nat) (room : Int) (grows : Bool) (M : Nat → It) (ks : List Nat), loopM n room grows (fun k => M (σ k)) ks = fun k => loopM n room grows M (ks.map σ) (σ k)
  | 0, _, _, _, _ => rfl
  | n + 1, room, grows, M, ks => by
    have e : (othM (fun k => M (σ k)) ks = []) ↔ (othM M (ks.map σ) = []) := by
      rw [← oth_ren σ, List.map_eq_nil_iff]
    rw [loopM]
    by_cases h : othM (fun k => M (σ k)) ks = []
    · rw [if_pos h]
      funext k; rw [loopM, if_pos (e.1 h)]
    · rw [if_neg h, round_ren σ hσ, loop_ren σ hσ n room grows]
      funext k; rw [loopM, if_neg (fun h2 => h (e.2 h2))]
theorem fit_ren (σ : Nat → Nat) (hσ : ∀ x y, σ x = σ y → x = y) (c : Int) (M : Nat → It) (ks : List Nat) : fitM c (fun k => M (σ k)) ks = fun k => fitM c M (ks.map σ) (σ k) := by
  have e1 : roomM c (fun k => M (σ k)) ks = roomM c M (ks.map σ) := by unfold roomM; rw [sumM_ren σ]
  have e2 : growsM c (fun k => M (σ k)) ks = growsM c M (ks.map σ) := by unfold growsM; rw [sumM_ren σ, e1]
  unfold fitM
  rw [e1, e2, start_ren σ hσ, loop_ren σ hσ, List.length_map]
end Go.Proofs.Ytdnpobfnkdllmaa
set_option linter.unusedSimpArgs false
set_option linter.unusedVariables false
namespace Go.Proofs.Ytdnpobfnkdllmaa

def l00 : Ln := ⟨0, 0⟩
/-- A style that says a basis, how it grows and how it shrinks, alone. -/
def itemS (b g sh : Int) (uv : Value) : Sty := ⟨1, false, 0, 0, l00, l00, l00, l00, l00, l00, l00, l00, l00, l00, 0, 0, 0, 0, 0, 0, 0, 0, 0, 0, false, 0, 0, 0, g, sh, ⟨1, b⟩, [], uv⟩
theorem clamp_item (b g sh c v : Int) (uv : Value) : clampF (itemS b g sh uv) c v = max v 0 := by
  simp [clampF, itemS, l00, resF]
theorem meas_item (b g sh c x : Int) (uv : Value) : measF (itemS b g sh uv) c x = ⟨itemS b g sh uv, c, 0, 0, 0, b, max b 0, 0, 0, 0, false⟩ := by
  have e : baseF (itemS b g sh uv) c x = b := by simp [baseF, itemS, l00, resF]
  unfold measF
  rw [e, clamp_item]
  simp [itemS, l00, resF, frameF]
theorem sum_zero (l : List Nat) (f : Nat → Int) (h : ∀ k ∈ l, f k = 0) : (l.map f).sum = 0 := by
  induction l with
  | nil => rfl
  | cons a t ih => rw [List.map_cons, List.sum_cons, h a (by simp), ih fun k hk => h k (by simp [hk])]; rfl
theorem sum_eqs (l : List Nat) (f g : Nat → Int) (h : ∀ k ∈ l, f k = g k) : (l.map f).sum = (l.map g).sum := by
  induction l with
  | nil => rfl
  | cons a t ih => rw [List.map_cons, List.map_cons, List.sum_cons, List.sum_cons, h a (by simp), ih fun k hk => h k (by simp [hk])]
theorem sum_add (l : List Nat) (f g : Nat → Int) : (l.map fun k => f k + g k).sum = (l.map f).sum + (l.map g).sum := by
  induction l with
  | nil => rfl
  | cons a t ih => rw [List.map_cons, List.map_cons, List.map_cons, List.sum_cons, List.sum_cons, List.sum_cons, ih]; omega
theorem sum_nneg (l : List Nat) (f : Nat → Int) (h : ∀ k ∈ l, 0 ≤ f k) : 0 ≤ (l.map f).sum := by
  induction l with
  | nil => exact Int.le_refl _
  | cons a t ih =>
    rw [List.map_cons, List.sum_cons]
    have := h a (by simp)
    have := ih fun k hk => h k (by simp [hk])
    omega
theorem sum_one (l : List Nat) (f : Nat → Int) (h : ∀ k ∈ l, 1 ≤ f k) : (l.length : Int) ≤ (l.map f).sum := by
  induction l with
  | nil => exact Int.le_refl _
  | cons a t ih =>
    rw [List.map_cons, List.sum_cons, List.length_cons]
    have := h a (by simp)
    have := ih fun k hk => h k (by simp [hk])
    omega
theorem sum_below (n : Nat) (L : Int) (h0 : 0 ≤ L) : ((List.range n).map fun k : Nat => if (k : Int) < L then (1 : Int) else 0).sum = min L n := by
  induction n with
  | zero => simp; omega
  | succ n ih =>
    rw [List.range_succ, List.map_append, List.sum_append, ih]
    simp only [List.map_cons, List.map_nil, List.sum_cons, List.sum_nil]
    split <;> omega
theorem sum_floors (l : List Nat) (g : Nat → Int) (R G : Int) (hG : 0 < G) : G * (l.map fun k => R * g k / G).sum ≤ R * (l.map g).sum ∧ R * (l.map g).sum ≤ G * (l.map fun k => R * g k / G).sum + (G - 1) * l.length := by
  induction l with
  | nil => simp
  | cons a t ih =>
    rw [List.map_cons, List.map_cons, List.sum_cons, List.sum_cons, List.length_cons, Int.mul_add, Int.mul_add]
    have e : (G - 1) * ((t.length + 1 : Nat) : Int) = (G - 1) * t.length + (G - 1) := by rw [Int.natCast_add, Int.mul_add]; simp
    rw [e]
    have h1 := Int.emod_add_mul_ediv (R * g a) G
    have h2 := Int.emod_nonneg (R * g a) (show G ≠ 0 by omega)
    have h3 := Int.emod_lt_of_pos (R * g a) hG
    omega
theorem left_bd (l : List Nat) (g : Nat → Int) (R : Int) (hl : l ≠ []) (hg : ∀ k ∈ l, 1 ≤ g k) (hR : 0 ≤ R) : 0 ≤ R - (l.map fun k => R * g k / (l.map g).sum).sum ∧ R - (l.map fun k => R * g k / (l.map g).sum).sum ≤ l.length := by
  have hG := sum_one l g hg
  have hn : 1 ≤ l.length := by rcases l with _ | ⟨a, t⟩ <;> simp at hl ⊢
  obtain ⟨G, hGe⟩ : ∃ G, G = (l.map g).sum := ⟨_, rfl⟩
  rw [← hGe] at hG ⊢
  obtain ⟨h1, h2⟩ := sum_floors l g R G (by omega)
  rw [← hGe] at h1 h2
  obtain ⟨F, hF⟩ : ∃ F, F = (l.map fun k => R * g k / G).sum := ⟨_, rfl⟩
  rw [← hF] at h1 h2 ⊢
  rw [Int.mul_comm R G] at h1 h2
  have a1 : F ≤ R := Int.le_of_mul_le_mul_left h1 (by omega)
  refine ⟨by omega, ?_⟩
  have e : (G - 1) * (l.length : Int) ≤ G * l.length := Int.mul_le_mul_of_nonneg_right (by omega) (by omega)
  have : G * R ≤ G * (F + l.length) := by rw [Int.mul_add]; omega
  have := Int.le_of_mul_le_mul_left this (by omega)
  omega
theorem idx_range (n k : Nat) (h : k < n) : (List.range n).idxOf k = k := by
  induction n with
  | zero => omega
  | succ n ih =>
    rw [List.range_succ, List.idxOf_append]
    by_cases hk : k < n
    · rw [if_pos (List.mem_range.2 hk), ih hk]
    · rw [if_neg (fun h => hk (List.mem_range.1 h)), List.length_range, show k = n by omega]; simp
theorem oth_all (M : Nat → It) (ks : List Nat) (h : ∀ k ∈ ks, (M k).held = false) : othM M ks = ks := by
  unfold othM; rw [List.filter_eq_self]; intro k hk; rw [h k hk]; rfl
theorem oth_none (M : Nat → It) (ks : List Nat) (h : ∀ k ∈ ks, (M k).held = true) : othM M ks = [] := by
  unfold othM; rw [List.filter_eq_nil_iff]; intro k hk; rw [h k hk]; simp
/-- Items that do not grow stand at their guesses. -/
theorem fit_still (c : Int) (M : Nat → It) (ks : List Nat) (h : ∀ k ∈ ks, stopI (growsM c M ks) (M k) = true) (k : Nat) (hk : k ∈ ks) : (fitM c M ks k).width = (M k).guess := by
  have hs : ∀ k ∈ ks, startM (growsM c M ks) M ks k = { M k with factor := facI (growsM c M ks) (M k), held := true, width := (M k).guess } := fun k hk => by
    unfold startM startI; rw [if_pos hk, h k hk, if_pos rfl]
  unfold fitM
  rw [loop_done _ _ _ _ _ (oth_none _ _ fun k hk => by rw [hs k hk]), hs k hk]
/-- A round that holds all. -/
theorem round_all (room : Int) (grows : Bool) (M : Nat → It) (ks : List Nat) (n : Nat) (hne : ks ≠ []) (hn : ks.length ≤ n) (hu : ∀ k ∈ ks, (M k).held = false) (hc : ∀ k ∈ ks, clampF (M k).s (M k).c (aimF M ks (restM room M ks) grows k) = aimF M ks (restM room M ks) grows k) (k : Nat) (hk : k ∈ ks) :
    (loopM n room grows M ks k).width = aimF M ks (restM room M ks) grows k ∧ (loopM n room grows M ks k).left = (M k).left ∧ (loopM n room grows M ks k).right = (M k).right := by
  have ho := oth_all M ks hu
  have ha : ∀ k ∈ ks, aimsM M ks (restM room M ks) grows k = { M k with aim := aimF M ks (restM room M ks) grows k } := fun k hk => by unfold aimsM; rw [if_pos hk]
  have hw : wayM (aimsM M ks (restM room M ks) grows) ks = 0 := by
    unfold wayM sumM
    rw [sum_zero ks (fun k => clW (aimsM M ks (restM room M ks) grows k) - (aimsM M ks (restM room M ks) grows k).aim) fun k hk => by
      rw [ha k hk]; show clampF (M k).s (M k).c (aimF M ks (restM room M ks) grows k) - aimF M ks (restM room M ks) grows k = 0; rw [hc k hk]; omega]
    rfl
  have hr : ∀ k ∈ ks, roundM room grows M ks k = { M k with aim := aimF M ks (restM room M ks) grows k, held := true, width := aimF M ks (restM room M ks) grows k } := fun k hk => by
    unfold roundM holdM
    rw [ho, if_pos hk, hw]
    unfold holdI
    rw [if_pos (.inl rfl), ha k hk]
    show ({ M k with aim := _, held := true, width := clampF (M k).s (M k).c _ } : It) = _
    rw [hc k hk]
  rw [loop_step room grows M ks n (by rw [ho]; exact hn) (by rw [ho]; exact hne), loop_done _ _ _ _ _ (oth_none _ _ fun k hk => by rw [hr k hk]), hr k hk]
  exact ⟨rfl, rfl, rfl⟩
/-- Items that share what is left. -/
theorem fit_shares (n : Nat) (c b : Int) (g : Nat → Int) (uv : Value) (hn : 0 < n) (hb : 0 ≤ b) (hg : ∀ k, k < n → 1 ≤ g k) (M : Nat → It) (hM : ∀ k, k < n → M k = measF (itemS b (g k) 0 uv) c 0) (hR : 0 < c - n * b) :
    let R := c - n * b
    let G := ((List.range n).map g).sum
    let L := R - ((List.range n).map fun k => R * g k / G).sum
    (∀ k, k < n → (fitM c M (List.range n) k).width = b + (R * g k / G + if (k : Int) < L then 1 else 0)) ∧ 0 ≤ L ∧ L ≤ n := by
  intro R G L
  have hks : ∀ k ∈ List.range n, k < n := fun k hk => List.mem_range.1 hk
  have hM2 : ∀ k, k < n → M k = ⟨itemS b (g k) 0 uv, c, 0, 0, 0, b, b, 0, 0, 0, false⟩ := fun k hk => by rw [hM k hk, meas_item, show max b 0 = b by omega]
  have hsum : ∀ v : Int, ((List.range n).map fun _ => v).sum = n * v := fun v => by
    have : ∀ l : List Nat, (l.map fun _ => v).sum = l.length * v := fun l => by
      induction l with
      | nil => simp
      | cons a t ih => rw [List.map_cons, List.sum_cons, ih, List.length_cons, Int.natCast_add, Int.add_mul]; simp; omega
    rw [this, List.length_range]
  have hroom : roomM c M (List.range n) = c := by
    unfold roomM sumM
    rw [sum_zero (List.range n) (fun k => (M k).sides) fun k hk => by rw [hM2 k (hks k hk)]]; omega
  have hgs : sumM M It.guess (List.range n) = n * b := by
    unfold sumM
    rw [sum_eqs (List.range n) (fun k => (M k).guess) (fun _ => b) fun k hk => by rw [hM2 k (hks k hk)], hsum]
  have hgrow : growsM c M (List.range n) = true := by unfold growsM; rw [hroom, hgs]; exact decide_eq_true (by omega)
  have hst : ∀ k, k < n → startM true M (List.range n) k = ⟨itemS b (g k) 0 uv, c, 0, 0, 0, b, b, g k, 0, 0, false⟩ := fun k hk => by
    have hs : stopI true (M k) = false := by
      rw [hM2 k hk]
      have := hg k hk
      have h2 : ¬ g k = 0 := by omega
      simp [stopI, facI, itemS, h2]
    unfold startM startI
    rw [if_pos (List.mem_range.2 hk), hs, if_neg (by simp), hM2 k hk]
    rfl
  have hrest : restM c (startM true M (List.range n)) (List.range n) = R := by
    unfold restM sumM
    rw [sum_eqs (List.range n) _ (fun _ => b) fun k hk => by rw [hst k (hks k hk)]; rfl, hsum]
  have hall : sumM (startM true M (List.range n)) It.factor (List.range n) = G := by
    unfold sumM
    exact sum_eqs (List.range n) _ g fun k hk => by rw [hst k (hks k hk)]
  have hne : List.range n ≠ [] := by intro e; have := congrArg List.length e; rw [List.length_range] at this; simp at this; omega
  have hG : (n : Int) ≤ G := by have := sum_one (List.range n) g fun k hk => hg k (hks k hk); rw [List.length_range] at this; exact this
  have hpart : ∀ k, k < n → partM (startM true M (List.range n)) R G k = R * g k / G := fun k hk => by unfold partM; rw [hst k hk]
  have hL := left_bd (List.range n) g R hne (fun k hk => hg k (hks k hk)) (by omega)
  rw [List.length_range] at hL
  have haim : ∀ k, k < n → aimF (startM true M (List.range n)) (List.range n) R true k = b + (R * g k / G + if (k : Int) < L then 1 else 0) := fun k hk => by
    unfold aimF
    simp only [hall, if_true]
    rw [if_neg (by omega), hpart k hk, idx_range n k hk, sum_eqs (List.range n) (partM (startM true M (List.range n)) R G) (fun k => R * g k / G) fun k hk => hpart k (hks k hk), hst k hk]
  refine ⟨fun k hk => ?_, hL.1, hL.2⟩
  unfold fitM
  rw [hroom, hgrow]
  have := round_all c true (startM true M (List.range n)) (List.range n) (List.range n).length hne (Nat.le_refl _) (fun k hk => by rw [hst k (hks k hk)]) (fun k hk => by
    rw [hrest, haim k (hks k hk), hst k (hks k hk)]
    show clampF (itemS b (g k) 0 uv) c _ = _
    rw [clamp_item]
    have h1 : 0 ≤ R * g k / G := Int.ediv_nonneg (Int.mul_nonneg (by omega) (by have := hg k (hks k hk); omega)) (by omega)
    split <;> omega) k (List.mem_range.2 hk)
  rw [this.1, hrest, haim k hk]
end Go.Proofs.Ytdnpobfnkdllmaa
set_option linter.unusedSimpArgs false
set_option linter.unusedVariables false
namespace Go.Proofs.Ytdnpobfnkdllmaa

/-- What no round turns. -/
structure SameI (x y : It) : Prop where
  s : y.s = x.s
  c : y.c = x.c
  left : y.left = x.left
  right : y.right = x.right
  sides : y.sides = x.sides
  base : y.base = x.base
  guess : y.guess = x.guess
theorem SameI.refl (x : It) : SameI x x := ⟨rfl, rfl, rfl, rfl, rfl, rfl, rfl⟩
theorem SameI.trans {x y z : It} (h : SameI x y) (k : SameI y z) : SameI x z := ⟨k.s.trans h.s, k.c.trans h.c, k.left.trans h.left, k.right.trans h.right, k.sides.trans h.sides, k.base.trans h.base, k.guess.trans h.guess⟩
theorem start_same (grows : Bool) (M : Nat → It) (ks : List Nat) (k : Nat) : SameI (M k) (startM grows M ks k) := by
  unfold startM startI
  split
  · split <;> exact ⟨rfl, rfl, rfl, rfl, rfl, rfl, rfl⟩
  · exact SameI.refl _
theorem round_same (room : Int) (grows : Bool) (M : Nat → It) (ks : List Nat) (k : Nat) : SameI (M k) (roundM room grows M ks k) := by
  have h1 : SameI (M k) (aimsM M (othM M ks) (restM room M ks) grows k) := by
    unfold aimsM
    split
    · exact ⟨rfl, rfl, rfl, rfl, rfl, rfl, rfl⟩
    · exact SameI.refl _
  refine h1.trans ?_
  unfold roundM holdM holdI
  split
  · split
    · exact ⟨rfl, rfl, rfl, rfl, rfl, rfl, rfl⟩
    · exact SameI.refl _
  · exact SameI.refl _
theorem loop_same : ∀ (n : Nat) (room : Int) (grows : Bool) (M : Nat → It) (ks : List Nat) (k : Nat), SameI (M k) (loopM n room grows M ks k)
  | 0, _, _, M, _, k => SameI.refl _
  | n + 1, room, grows, M, ks, k => by
    rw [loopM]
    split
    · exact SameI.refl _
    · exact (round_same room grows M ks k).trans (loop_same n room grows _ ks k)
theorem fit_same (c : Int) (M : Nat → It) (ks : List Nat) (k : Nat) : SameI (M k) (fitM c M ks k) := (start_same _ M ks k).trans (loop_same _ _ _ _ ks k)
/-- What no item of the row is stays. -/
theorem loop_out : ∀ (n : Nat) (room : Int) (grows : Bool) (M : Nat → It) (ks : List Nat) (k : Nat), k ∉ ks → loopM n room grows M ks k = M k
  | 0, _, _, M, _, k, _ => rfl
  | n + 1, room, grows, M, ks, k, h => by
    have ho : k ∉ othM M ks := fun h2 => h (List.mem_filter.1 h2).1
    have hr : roundM room grows M ks k = M k := by
      unfold roundM holdM aimsM
      rw [if_neg ho, if_neg ho]
    rw [loopM]
    split
    · rfl
    · rw [loop_out n room grows _ ks k h, hr]
theorem fit_out (c : Int) (M : Nat → It) (ks : List Nat) (k : Nat) (h : k ∉ ks) : fitM c M ks k = M k := by
  unfold fitM
  rw [loop_out _ _ _ _ _ _ h]
  unfold startM; rw [if_neg h]
/-- Items that just fit. -/
theorem fit_fits (c : Int) (b : Nat → Int) (g sh : Int) (uv : Value) (ks : List Nat) (M : Nat → It) (hb : ∀ k ∈ ks, 0 ≤ b k) (hM : ∀ k ∈ ks, M k = measF (itemS (b k) g sh uv) c 0) (hc : (ks.map b).sum = c) :
    ∀ k ∈ ks, (fitM c M ks k).width = b k := by
  have hM2 : ∀ k ∈ ks, M k = ⟨itemS (b k) g sh uv, c, 0, 0, 0, b k, b k, 0, 0, 0, false⟩ := fun k hk => by rw [hM k hk, meas_item, show max (b k) 0 = b k by have := hb k hk; omega]
  have hroom : roomM c M ks = c := by
    unfold roomM sumM
    rw [sum_zero ks (fun k => (M k).sides) fun k hk => by rw [hM2 k hk]]; omega
  have hgs : sumM M It.guess ks = c := by
    unfold sumM
    rw [sum_eqs ks (fun k => (M k).guess) b fun k hk => by rw [hM2 k hk], hc]
  have hgrow : growsM c M ks = false := by unfold growsM; rw [hroom, hgs]; exact decide_eq_false (by omega)
  obtain ⟨M1, hM1⟩ : ∃ M1, M1 = startM false M ks := ⟨_, rfl⟩
  have hst : ∀ k ∈ ks, SameI (M k) (M1 k) ∧ ((M1 k).held = true → (M1 k).width = b k) := fun k hk => by
    rw [hM1]
    refine ⟨start_same false M ks k, ?_⟩
    unfold startM startI
    rw [if_pos hk]
    split
    · intro _; show (M k).guess = b k; rw [hM2 k hk]
    · intro h; rw [hM2 k hk] at h; cases h
  have hbase : ∀ k ∈ ks, (M1 k).base = b k := fun k hk => by rw [(hst k hk).1.base, hM2 k hk]
  have hrest : restM c M1 ks = 0 := by
    unfold restM sumM
    rw [sum_eqs ks _ b fun k hk => by
      show (if (M1 k).held then (M1 k).width else (M1 k).base) = b k
      split
      · rename_i h; exact (hst k hk).2 h
      · exact hbase k hk, hc]; omega
  have hsub : ∀ k ∈ othM M1 ks, k ∈ ks := fun k hk => (List.mem_filter.1 hk).1
  have haim : ∀ k ∈ ks, aimF M1 (othM M1 ks) 0 false k = b k := fun k hk => by
    unfold aimF
    simp only [Bool.false_eq_true, if_false]
    rw [if_pos (.inl (by omega)), hbase k hk]
  have hcl : ∀ k ∈ othM M1 ks, clW (aimsM M1 (othM M1 ks) 0 false k) = b k ∧ (aimsM M1 (othM M1 ks) 0 false k).aim = b k := fun k hk => by
    have hk2 := hsub k hk
    have e : aimsM M1 (othM M1 ks) 0 false k = { M1 k with aim := b k } := by unfold aimsM; rw [if_pos hk, haim k hk2]
    rw [e]
    refine ⟨?_, rfl⟩
    show clampF (M1 k).s (M1 k).c (b k) = b k
    rw [(hst k hk2).1.s, (hst k hk2).1.c, hM2 k hk2]
    show clampF (itemS (b k) g sh uv) c (b k) = b k
    rw [clamp_item]; have := hb k hk2; omega
  have hway : wayM (aimsM M1 (othM M1 ks) 0 false) (othM M1 ks) = 0 := by
    unfold wayM sumM
    rw [sum_zero (othM M1 ks) (fun k => clW (aimsM M1 (othM M1 ks) 0 false k) - (aimsM M1 (othM M1 ks) 0 false k).aim) fun k hk => by rw [(hcl k hk).1, (hcl k hk).2]; omega]
    rfl
  intro k hk
  unfold fitM
  rw [hroom, hgrow, ← hM1]
  by_cases ho : othM M1 ks = []
  · rw [loop_done _ _ _ _ _ ho]
    have hh : (M1 k).held = true := by
      cases h : (M1 k).held
      · exfalso
        have : k ∈ othM M1 ks := List.mem_filter.2 ⟨hk, by rw [h]; rfl⟩
        rw [ho] at this; simp at this
      · rfl
    exact (hst k hk).2 hh
  · have hr : ∀ k ∈ ks, (roundM c false M1 ks k).held = true ∧ (roundM c false M1 ks k).width = b k := fun k hk => by
      unfold roundM
      rw [hrest]
      unfold holdM holdI
      rw [hway]
      by_cases hko : k ∈ othM M1 ks
      · rw [if_pos hko, if_pos (.inl rfl)]
        exact ⟨rfl, (hcl k hko).1⟩
      · rw [if_neg hko]
        have e : aimsM M1 (othM M1 ks) 0 false k = M1 k := by unfold aimsM; rw [if_neg hko]
        rw [e]
        have hh : (M1 k).held = true := by
          cases h : (M1 k).held
          · exact absurd (List.mem_filter.2 ⟨hk, by rw [h]; rfl⟩) hko
          · rfl
        exact ⟨hh, (hst k hk).2 hh⟩
    rw [loop_step _ _ _ _ _ (List.length_filter_le _ _) ho, loop_done _ _ _ _ _ (oth_none _ _ fun k hk => (hr k hk).1)]
    exact (hr k hk).2
/-! The other way round. -/
theorem rowStep_ren (σ : Nat → Nat) (wrap : Bool) (c : Int) (own : Nat → Int) (p : List (List Nat) × Int) (k : Nat) :
    ((rowStep wrap c (fun k => own (σ k)) p k).1.map (List.map σ), (rowStep wrap c (fun k => own (σ k)) p k).2) = rowStep wrap c own (p.1.map (List.map σ), p.2) (σ k) := by
  unfold rowStep
  simp only [List.length_map]
  split
  · simp
  · simp only [List.map_append, List.map_cons, List.map_nil, List.dropLast_eq_take, List.map_take, List.length_map]
    congr 3
    rw [List.getLast?_map]
    cases p.1.getLast? <;> rfl
theorem rows_ren (σ : Nat → Nat) (wrap : Bool) (c : Int) (own : Nat → Int) (l : List Nat) : (rowsF wrap c (fun k => own (σ k)) l).map (List.map σ) = rowsF wrap c own (l.map σ) := by
  have : ∀ (l : List Nat) (p : List (List Nat) × Int), ((l.foldl (rowStep wrap c (fun k => own (σ k))) p).1.map (List.map σ), (l.foldl (rowStep wrap c (fun k => own (σ k))) p).2) = (l.map σ).foldl (rowStep wrap c own) (p.1.map (List.map σ), p.2) := fun l => by
    induction l with
    | nil => intro p; rfl
    | cons a t ih => intro p; rw [List.map_cons, List.foldl_cons, List.foldl_cons, ih, rowStep_ren]
  have := congrArg Prod.fst (this l ([], 0))
  exact this
def fitsM (c : Int) (M : Nat → It) (rows : List (List Nat)) : Nat → It := rows.foldl (fitM c) M
theorem fits_ren (σ : Nat → Nat) (hσ : ∀ x y, σ x = σ y → x = y) (c : Int) : ∀ (rows : List (List Nat)) (M : Nat → It), fitsM c (fun k => M (σ k)) rows = fun k => fitsM c M (rows.map (List.map σ)) (σ k)
  | [], M => rfl
  | r :: t, M => by
    show fitsM c (fitM c (fun k => M (σ k)) r) t = fun k => fitsM c (fitM c M (r.map σ)) (t.map (List.map σ)) (σ k)
    rw [fit_ren σ hσ, fits_ren σ hσ c t]
def turnN (n k : Nat) : Nat := if k < n then n - 1 - k else k
theorem turn_inj (n x y : Nat) (h : turnN n x = turnN n y) : x = y := by unfold turnN at h; split at h <;> split at h <;> omega
theorem turn_turn (n x : Nat) : turnN n (turnN n x) = x := by unfold turnN; split <;> (try split) <;> omega
theorem order_id (o : Nat → Int) (n : Nat) (h : ∀ p q, p < q → q < n → o p ≤ o q) : orderF o n = List.range n := by
  rw [← order_eq (o := o) (n := n) (d := id) (fun p q _ h2 h3 => by have := h p q h2 h3; show o p < o q ∨ (o p = o q ∧ p < q); omega) (Pin.refl _ _ _)]
  simp
theorem order_back (o : Nat → Int) (n : Nat) (h : ∀ k, k < n → o k = ((n - 1 - k : Nat) : Int)) : orderF o n = (List.range n).map (turnN n) := by
  have hs : Srt o (turnN n) 0 n := fun p q _ h2 h3 => by
    left
    have e1 : turnN n p = n - 1 - p := if_pos (by omega)
    have e2 : turnN n q = n - 1 - q := if_pos h3
    rw [e1, e2, h _ (by omega), h _ (by omega)]; omega
  have hp : Pin 0 n id (turnN n) := by
    refine ⟨fun j hj => if_neg (by omega), fun i _ h2 => ⟨turnN n i, Nat.zero_le _, ?_, rfl⟩, fun i _ h2 => ⟨turnN n i, Nat.zero_le _, ?_, (turn_turn n i).symm⟩⟩ <;> (unfold turnN; rw [if_pos h2]; omega)
  exact (order_eq hs hp).symm
/-- All that is said of the items that were turned. -/
theorem turned_all (n : Nat) (wrap : Bool) (c : Int) (M : Nat → It) (o : Nat → Int) (ho : ∀ k, k < n → o k = ((n - 1 - k : Nat) : Int)) (M2 : Nat → It) (h2 : ∀ k, M2 k = M (turnN n k)) :
    (rowsF wrap c (ownM M2) (orderF o n)).map (List.map (turnN n)) = rowsF wrap c (ownM M) (List.range n) ∧ ∀ k, fitsM c M2 (rowsF wrap c (ownM M2) (orderF o n)) k = fitsM c M (rowsF wrap c (ownM M) (List.range n)) (turnN n k) := by
  obtain rfl : M2 = fun k => M (turnN n k) := funext h2
  have e : (rowsF wrap c (ownM fun k => M (turnN n k)) (orderF o n)).map (List.map (turnN n)) = rowsF wrap c (ownM M) (List.range n) := by
    have := rows_ren (turnN n) wrap c (ownM M) (orderF o n)
    rw [order_back o n ho, List.map_map] at this
    rw [show (turnN n ∘ turnN n) = id from funext fun k => turn_turn n k, List.map_id] at this
    rw [order_back o n ho]
    exact this
  refine ⟨e, fun k => ?_⟩
  rw [fits_ren (turnN n) (turn_inj n) c, e]
end Go.Proofs.Ytdnpobfnkdllmaa
