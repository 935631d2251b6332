/- Contracts: the document's styles: Box. -/
import Derived.Test.YtjhfcpadnofdnaaGreatProg
import Derived.Test.YtjhfcpadnofdnaaGreatApp
import Derived.Deep.DeepCutAuto
import Derived.Deep.CutRange
set_option linter.unusedSimpArgs false
set_option linter.unusedVariables false
namespace Go.Proofs.YtjhfcpadnofdnaaGreat
section
variable (n : Nat) (P : Nat → Nat) (K3 rt : Nat → Bool)
/-- Is i a proper ancestor of j? -/
def isAncF (i : Nat) : Nat → Nat → Bool
  | 0, _ => false
  | f + 1, j => if j = 0 then false else P j == i || isAncF i f (P j)
def isAnc (i j : Nat) : Bool := isAncF P i j j
/-- What stands between i and m lets through. -/
def pthF (i : Nat) : Nat → Nat → Bool
  | 0, _ => false
  | f + 1, m => if m = 0 then false else P m == i || (!K3 (P m) && !rt (P m) && pthF i f (P m))
def pth (i m : Nat) : Bool := pthF P K3 rt i m m
/-- The walk of Inside: behind the children of i from k on the first node behind, and the boxes taken. -/
def dnG : Nat → Nat → Nat → Bool → Option (Nat × List Nat)
  | 0, _, _, _ => none
  | f + 1, i, k, b =>
    if k < n ∧ P k = i then
      match dnG f k (k + 1) (b && !K3 k && !rt k) with
      | none => none
      | some (e, bs) =>
        match dnG f i e b with
        | none => none
        | some (e2, bs2) => some (e2, (if b && !K3 k then k :: bs else bs) ++ bs2)
    else some (k, [])
end
section
variable {n : Nat} {P : Nat → Nat} {K3 rt : Nat → Bool} (hP : ∀ j, 0 < j → j < n → P j < j)
include hP
theorem isAncF_fuel (i : Nat) : ∀ (f g j : Nat), j ≤ f → j ≤ g → j < n → isAncF P i f j = isAncF P i g j := by
  intro f
  induction f with
  | zero =>
    intro g j h1 _ _
    obtain rfl : j = 0 := by omega
    cases g <;> simp [isAncF]
  | succ f ih =>
    intro g j h1 h2 h3
    cases g with
    | zero =>
      obtain rfl : j = 0 := by omega
      simp [isAncF]
    | succ g =>
      simp only [isAncF]
      by_cases h0 : j = 0
      · rw [if_pos h0, if_pos h0]
      · rw [if_neg h0, if_neg h0]
        have := hP j (by omega) h3
        rw [ih g (P j) (by omega) (by omega) (by omega)]
theorem isAnc_step {i j : Nat} (h0 : 0 < j) (hj : j < n) : isAnc P i j = (P j == i || isAnc P i (P j)) := by
  unfold isAnc
  obtain ⟨f, rfl⟩ : ∃ f, j = f + 1 := ⟨j - 1, by omega⟩
  have := hP (f + 1) (by omega) hj
  rw [isAncF, if_neg (by omega), isAncF_fuel hP i f (P (f + 1)) (P (f + 1)) (by omega) (Nat.le_refl _) (by omega)]
omit hP in
theorem isAnc_zero {i : Nat} : isAnc P i 0 = false := rfl
theorem isAnc_lt {i : Nat} : ∀ (j : Nat), j < n → isAnc P i j = true → i < j := by
  intro j
  induction j using Nat.strongRecOn with
  | ind j ih =>
    intro hj h
    by_cases h0 : j = 0
    · subst h0; rw [isAnc_zero] at h; cases h
    · have hp := hP j (by omega) hj
      rw [isAnc_step hP (by omega) hj, Bool.or_eq_true] at h
      rcases h with h | h
      · have := beq_iff_eq.1 h; omega
      · have := ih (P j) hp (by omega) h; omega
theorem isAnc_trans {a b : Nat} (hab : isAnc P a b = true) : ∀ (c : Nat), c < n → isAnc P b c = true → isAnc P a c = true := by
  intro c
  induction c using Nat.strongRecOn with
  | ind c ih =>
    intro hc h
    by_cases h0 : c = 0
    · subst h0; rw [isAnc_zero] at h; cases h
    · have hp := hP c (by omega) hc
      rw [isAnc_step hP (by omega) hc, Bool.or_eq_true] at h ⊢
      rcases h with h | h
      · rw [beq_iff_eq.1 h]; exact .inr hab
      · exact .inr (ih (P c) hp (by omega) h)
variable (hO : ∀ j, 0 < j → j < n → P j = j - 1 ∨ isAnc P (P j) (j - 1) = true)
include hO
theorem isAnc_down {i j : Nat} (hj : j < n) (h : isAnc P i j = true) (hi : i < j - 1) : isAnc P i (j - 1) = true := by
  have h0 : 0 < j := by omega
  rw [isAnc_step hP h0 hj, Bool.or_eq_true] at h
  rcases hO j h0 hj with e | e
  · rcases h with h | h
    · have := beq_iff_eq.1 h; omega
    · rw [e] at h; exact h
  · rcases h with h | h
    · rw [← beq_iff_eq.1 h]; exact e
    · exact isAnc_trans hP h (j - 1) (by omega) e
theorem isAnc_between {i : Nat} : ∀ (d j k : Nat), j = k + d → j < n → isAnc P i j = true → i < k → isAnc P i k = true := by
  intro d
  induction d with
  | zero => intro j k e _ h _; have : j = k := by omega
            rw [← this]; exact h
  | succ d ih =>
    intro j k e hj h hk
    exact ih (j - 1) k (by omega) (by omega) (isAnc_down hP hO hj h (by omega)) hk
omit hO in
theorem pthF_fuel (i : Nat) : ∀ (f g m : Nat), m ≤ f → m ≤ g → m < n → pthF P K3 rt i f m = pthF P K3 rt i g m := by
  intro f
  induction f with
  | zero =>
    intro g j h1 _ _
    obtain rfl : j = 0 := by omega
    cases g <;> simp [pthF]
  | succ f ih =>
    intro g j h1 h2 h3
    cases g with
    | zero =>
      obtain rfl : j = 0 := by omega
      simp [pthF]
    | succ g =>
      simp only [pthF]
      by_cases h0 : j = 0
      · rw [if_pos h0, if_pos h0]
      · rw [if_neg h0, if_neg h0]
        have := hP j (by omega) h3
        rw [ih g (P j) (by omega) (by omega) (by omega)]
omit hO in
theorem pth_step {i m : Nat} (h0 : 0 < m) (hm : m < n) : pth P K3 rt i m = (P m == i || (!K3 (P m) && !rt (P m) && pth P K3 rt i (P m))) := by
  unfold pth
  obtain ⟨f, rfl⟩ : ∃ f, m = f + 1 := ⟨m - 1, by omega⟩
  have := hP (f + 1) (by omega) hm
  rw [pthF, if_neg (by omega), pthF_fuel hP i f (P (f + 1)) (P (f + 1)) (by omega) (Nat.le_refl _) (by omega)]
omit hO in
theorem pth_child {i k : Nat} (hk : P k = i) (hk0 : i < k) (hkn : k < n) : ∀ (m : Nat), m < n → isAnc P k m = true → pth P K3 rt i m = (!K3 k && !rt k && pth P K3 rt k m) := by
  intro m
  induction m using Nat.strongRecOn with
  | ind m ih =>
    intro hm h
    have hkm := isAnc_lt hP m hm h
    have hp := hP m (by omega) hm
    rw [isAnc_step hP (by omega) hm, Bool.or_eq_true] at h
    rw [pth_step hP (i := i) (by omega) hm, pth_step hP (i := k) (by omega) hm]
    rcases h with h | h
    · have e := beq_iff_eq.1 h
      have e1 : (P m == i) = false := beq_eq_false_iff_ne.2 (by omega)
      have e2 : pth P K3 rt i k = true := by rw [pth_step hP (by omega) hkn, hk]; simp
      rw [e1, h, e, e2]
      simp
    · have hkp := isAnc_lt hP (P m) (by omega) h
      have e1 : (P m == i) = false := beq_eq_false_iff_ne.2 (by omega)
      have e2 : (P m == k) = false := beq_eq_false_iff_ne.2 (by omega)
      rw [e1, e2, ih (P m) hp (by omega) h]
      cases K3 k <;> cases rt k <;> cases K3 (P m) <;> cases rt (P m) <;> simp
/-- What is taken below i. -/
def takeG (P : Nat → Nat) (K3 rt : Nat → Bool) (b : Bool) (i m : Nat) : Bool := b && !K3 m && pth P K3 rt i m
theorem dnG_spec : ∀ (f i k : Nat) (b : Bool), n + 1 ≤ f + k → i < k → k ≤ n → (∀ m, i < m → m < k → isAnc P i m = true ∧ (k < n → isAnc P m k = false)) →
    ∃ e bs, dnG n P K3 rt f i k b = some (e, bs) ∧ k ≤ e ∧ e ≤ n ∧ (∀ m, i < m → m < e → isAnc P i m = true) ∧ (e < n → isAnc P i e = false) ∧ bs = (List.range' k (e - k)).filter (takeG P K3 rt b i) := by
  intro f
  induction f with
  | zero => intro i k b h1 h2 h3; omega
  | succ f ih =>
    intro i k b hf hik hkn hinv
    rw [dnG]
    by_cases hc : k < n ∧ P k = i
    · obtain ⟨hk, hp⟩ := hc
      rw [if_pos ⟨hk, hp⟩]
      obtain ⟨e, bs, h1, h2, h3, h4, h5, h6⟩ := ih k (k + 1) (b && !K3 k && !rt k) (by omega) (by omega) (by omega) (fun m a b => by omega)
      have hik2 : isAnc P i k = true := by rw [isAnc_step hP (by omega) hk, hp]; simp
      have hinv2 : ∀ m, i < m → m < e → isAnc P i m = true ∧ (e < n → isAnc P m e = false) := fun m a c => by
        rcases Nat.lt_trichotomy m k with hm | hm | hm
        · refine ⟨(hinv m a hm).1, fun he => ?_⟩
          cases hx : isAnc P m e
          · rfl
          · have := isAnc_between hP hO (e - k) e k (by omega) he hx hm
            rw [(hinv m a hm).2 hk] at this; cases this
        · subst hm
          exact ⟨hik2, h5⟩
        · refine ⟨isAnc_trans hP hik2 m (by omega) (h4 m hm c), fun he => ?_⟩
          cases hx : isAnc P m e
          · rfl
          · have := isAnc_trans hP (h4 m hm c) e he hx
            rw [h5 he] at this; cases this
      obtain ⟨e2, bs2, g1, g2, g3, g4, g5, g6⟩ := ih i e b (by omega) (by omega) h3 hinv2
      rw [h1]
      simp only []
      rw [g1]
      refine ⟨e2, _, rfl, by omega, g3, g4, g5, ?_⟩
      have hr : List.range' k (e2 - k) = k :: (List.range' (k + 1) (e - (k + 1)) ++ List.range' e (e2 - e)) := by
        rw [show e2 - k = 1 + ((e - (k + 1)) + (e2 - e)) by omega, Nat.add_comm 1, List.range'_succ]
        congr 1
        have e1 : e = k + 1 + (e - (k + 1)) := by omega
        conv => rhs; arg 2; rw [e1]
        rw [show k + 1 + (e - (k + 1)) = k + 1 + 1 * (e - (k + 1)) by omega, List.range'_append]
        rw [show e2 - (k + 1 + 1 * (e - (k + 1))) = e2 - e by omega]
      have hpk : pth P K3 rt i k = true := by rw [pth_step hP (by omega) hk, hp]; simp
      have hbs : bs = (List.range' (k + 1) (e - (k + 1))).filter (takeG P K3 rt b i) := by
        rw [h6]
        apply List.filter_congr
        intro m hm
        have hm2 := List.mem_range'_1.1 hm
        unfold takeG
        rw [pth_child hP hp (by omega) hk m (by omega) (h4 m (by omega) (by omega))]
        cases b <;> cases K3 k <;> cases rt k <;> cases K3 m <;> simp
      rw [hr, List.filter_cons, List.filter_append, ← hbs, ← g6]
      have ht : takeG P K3 rt b i k = (b && !K3 k) := by unfold takeG; rw [hpk, Bool.and_true]
      rw [ht]
      cases (b && !K3 k) <;> simp
    · rw [if_neg hc]
      refine ⟨k, [], rfl, Nat.le_refl _, hkn, fun m a c => (hinv m a c).1, fun hk => ?_, by simp⟩
      have hp : P k ≠ i := fun e => hc ⟨hk, e⟩
      cases hx : isAnc P i k
      · rfl
      · rw [isAnc_step hP (by omega) hk, Bool.or_eq_true] at hx
        rcases hx with hx | hx
        · exact absurd (beq_iff_eq.1 hx) hp
        · have h1 := isAnc_lt hP (P k) (by have := hP k (by omega) hk; omega) hx
          have h2 := (hinv (P k) h1 (hP k (by omega) hk)).2 hk
          rw [isAnc_step hP (by omega) hk] at h2
          simp at h2
end
end Go.Proofs.YtjhfcpadnofdnaaGreat
namespace Go.Proofs.YtjhfcpadnofdnaaGreat
section
variable {n : Nat} {P : Nat → Nat} {K3 rt : Nat → Bool} (hP : ∀ j, 0 < j → j < n → P j < j)
include hP
theorem pth_anc {r : Nat} : ∀ (m : Nat), m < n → pth P K3 rt r m = true → isAnc P r m = true := by
  intro m
  induction m using Nat.strongRecOn with
  | ind m ih =>
    intro hm h
    by_cases h0 : m = 0
    · subst h0; cases h
    · have hp := hP m (by omega) hm
      rw [pth_step hP (by omega) hm, Bool.or_eq_true] at h
      rw [isAnc_step hP (by omega) hm, Bool.or_eq_true]
      rcases h with h | h
      · exact .inl h
      · rw [Bool.and_eq_true] at h
        exact .inr (ih (P m) hp (by omega) h.2)
theorem pth_lt {r m : Nat} (hm : m < n) (h : pth P K3 rt r m = true) : r < m := isAnc_lt hP m hm (pth_anc hP m hm h)
/-- There is just one root above a node that reads it. -/
theorem one_root (h0 : rt 0 = true) (hK : ∀ m, 0 < m → m < n → K3 (P m) = false) : ∀ (m : Nat), 0 < m → m < n → ∃ q, q < m ∧ rt q = true ∧ ∀ r, (rt r = true ∧ pth P K3 rt r m = true) ↔ r = q := by
  intro m
  induction m using Nat.strongRecOn with
  | ind m ih =>
    intro hm0 hm
    have hp := hP m hm0 hm
    cases hr : rt (P m)
    · have hp0 : 0 < P m := by
        rcases Nat.eq_zero_or_pos (P m) with e | e
        · rw [e, h0] at hr; cases hr
        · exact e
      obtain ⟨q, h1, h2, h3⟩ := ih (P m) hp hp0 (by omega)
      refine ⟨q, by omega, h2, fun r => ?_⟩
      rw [pth_step hP hm0 hm, hK m hm0 hm, hr, ← h3 r]
      constructor
      · rintro ⟨a, b⟩
        refine ⟨a, ?_⟩
        rw [Bool.or_eq_true] at b
        rcases b with b | b
        · have := beq_iff_eq.1 b; subst this; rw [hr] at a; cases a
        · simpa using b
      · rintro ⟨a, b⟩
        exact ⟨a, by rw [b]; simp⟩
    · refine ⟨P m, hp, hr, fun r => ?_⟩
      rw [pth_step hP hm0 hm, hr]
      constructor
      · rintro ⟨a, b⟩
        simp at b
        exact b.symm
      · rintro rfl
        exact ⟨hr, by simp⟩
end
theorem count_single (q : Nat → Bool) (i : Nat) (h : ∀ r, q r = true ↔ r = i) : ∀ n, (List.range n).countP q = if i < n then 1 else 0 := by
  intro n
  induction n with
  | zero => simp
  | succ n ih =>
    rw [List.range_succ, List.countP_append, ih]
    by_cases e : n = i
    · subst e
      rw [if_neg (by omega), if_pos (by omega)]
      simp [(h n).2 rfl]
    · have hq : q n = false := by
        cases hx : q n
        · rfl
        · exact absurd ((h n).1 hx) e
      rw [List.countP_cons, List.countP_nil, hq]
      by_cases hi : i < n
      · have h2 : i < n + 1 := by omega
        simp [hi, h2]
      · have h2 : ¬ i < n + 1 := by omega
        simp [hi, h2]
theorem count_none (q : Nat → Bool) (h : ∀ r, q r = false) (l : List Nat) : l.countP q = 0 := by
  rw [List.countP_eq_zero]
  intro r _
  rw [h r]; decide
theorem count_or (p q : Nat → Bool) (h : ∀ r, p r = true → q r = false) (l : List Nat) : l.countP (fun r => p r || q r) = l.countP p + l.countP q := by
  induction l with
  | nil => rfl
  | cons a t ih =>
    simp only [List.countP_cons, ih]
    have := h a
    cases hp : p a <;> cases hq : q a <;> simp [hp, hq] at this ⊢ <;> omega
section
variable {n : Nat} {P : Nat → Nat} {K3 rt : Nat → Bool} (hP : ∀ j, 0 < j → j < n → P j < j)
include hP
/-- How often a node is read. -/
theorem read_count (h0 : rt 0 = true) (hK : ∀ m, 0 < m → m < n → K3 (P m) = false) (i : Nat) (hi : i < n) :
    (List.range n).countP (fun r => (rt r && (r == i)) || (rt r && pth P K3 rt r i)) = (if rt i then 1 else 0) + (if i = 0 then 0 else 1) := by
  rw [count_or (fun r => rt r && (r == i)) (fun r => rt r && pth P K3 rt r i) (fun r h => by
    rw [Bool.and_eq_true] at h
    have e := beq_iff_eq.1 h.2
    subst e
    cases hx : pth P K3 rt r r
    · simp
    · have := pth_lt hP hi hx; omega)]
  congr 1
  · cases hr : rt i
    · rw [count_none]
      · simp
      · intro r
        by_cases e : r = i
        · subst e; simp [hr]
        · have : (r == i) = false := beq_eq_false_iff_ne.2 e
          rw [this, Bool.and_false]
    · rw [count_single (i := i) (h := fun r => by
        rw [Bool.and_eq_true]
        constructor
        · exact fun h => beq_iff_eq.1 h.2
        · rintro rfl; exact ⟨hr, by simp⟩), if_pos hi]
      simp
  · by_cases e : i = 0
    · subst e
      rw [if_pos rfl, count_none]
      intro r
      have : pth P K3 rt r 0 = false := rfl
      rw [this, Bool.and_false]
    · obtain ⟨q, h1, h2, h3⟩ := one_root hP h0 hK i (by omega) hi
      rw [count_single (i := q) (h := fun r => by rw [Bool.and_eq_true]; exact h3 r), if_pos (by omega), if_neg e]
end
end Go.Proofs.YtjhfcpadnofdnaaGreat
namespace Go.Proofs.YtjhfcpadnofdnaaGreat
open Go.RowKit
attribute [local go_sem] block_of_add
def mayF (k n : Int) (b : Bool) : Bool :=
  if k = 0 then n == 0 else if k = 1 then decide (n ≤ 1099511627776) && decide ((if b then -1099511627776 else 0) ≤ n) else if k = 2 then decide (n ≤ 100000) && decide ((if b then -100000 else 0) ≤ n) else false
set_option maxHeartbeats 1000000 in
theorem may_any (k n : Int) (b : Bool) (w : World) :
    Calls Tryz.prog 189 #[.agg #[.int .u8 k, .int .i64 n], .bool b] w fun e w' => e = .returned (.bool (mayF k n b)) ∧ w.alloc (.cells #[.int .u8 k, .int .i64 n] 62) = w' := by
  by_cases h0 : k = 0
  · have e0 : (k == 0) = true := beq_iff_eq.2 h0
    have HF : Hid (mayF k n b = (n == 0)) := Lib.hid (by unfold mayF; rw [if_pos h0])
    clear h0
    cases b
    all_goals
      go_enter Tryz.func189, Tryz.ntmps189
      go_wp2
      go_ret
      exact ⟨by rw [HF.out]; rfl, rfl⟩
  have e0 : (k == 0) = false := beq_eq_false_iff_ne.2 h0
  by_cases h1 : k = 1
  · have e1 : (k == 1) = true := beq_iff_eq.2 h1
    cases b
    · have HF : Hid (mayF k n false = (decide (n ≤ 1099511627776) && decide (0 ≤ n))) := Lib.hid (by unfold mayF; rw [if_neg h0, if_pos h1]; rfl)
      clear h0 h1
      cases h2 : decide (n ≤ 1099511627776) <;> cases h3 : decide (0 ≤ n)
      all_goals
        go_enter Tryz.func189, Tryz.ntmps189
        go_wp2
        go_ret
        exact ⟨by rw [HF.out]; simp [h2, h3], rfl⟩
    · have HF : Hid (mayF k n true = (decide (n ≤ 1099511627776) && decide (-1099511627776 ≤ n))) := Lib.hid (by unfold mayF; rw [if_neg h0, if_pos h1]; rfl)
      clear h0 h1
      cases h2 : decide (n ≤ 1099511627776) <;> cases h3 : decide (-1099511627776 ≤ n)
      all_goals
        go_enter Tryz.func189, Tryz.ntmps189
        go_wp2
        go_ret
        exact ⟨by rw [HF.out]; simp [h2, h3], rfl⟩
  have e1 : (k == 1) = false := beq_eq_false_iff_ne.2 h1
  by_cases h5 : k = 2
  · have e2 : (k == 2) = true := beq_iff_eq.2 h5
    cases b
    · have HF : Hid (mayF k n false = (decide (n ≤ 100000) && decide (0 ≤ n))) := Lib.hid (by unfold mayF; rw [if_neg h0, if_neg h1, if_pos h5]; rfl)
      clear h0 h1 h5
      cases h2 : decide (n ≤ 100000) <;> cases h3 : decide (0 ≤ n)
      all_goals
        go_enter Tryz.func189, Tryz.ntmps189
        go_wp2
        go_ret
        exact ⟨by rw [HF.out]; simp [h2, h3], rfl⟩
    · have HF : Hid (mayF k n true = (decide (n ≤ 100000) && decide (-100000 ≤ n))) := Lib.hid (by unfold mayF; rw [if_neg h0, if_neg h1, if_pos h5]; rfl)
      clear h0 h1 h5
      cases h2 : decide (n ≤ 100000) <;> cases h3 : decide (-100000 ≤ n)
      all_goals
        go_enter Tryz.func189, Tryz.ntmps189
        go_wp2
        go_ret
        exact ⟨by rw [HF.out]; simp [h2, h3], rfl⟩
  have e2 : (k == 2) = false := beq_eq_false_iff_ne.2 h5
  have HF : Hid (mayF k n b = false) := Lib.hid (by unfold mayF; rw [if_neg h0, if_neg h1, if_neg h5])
  clear h0 h1 h5
  cases b
  all_goals
    go_enter Tryz.func189, Tryz.ntmps189
    go_wp2
    go_ret
    exact ⟨by rw [HF.out]; rfl, rfl⟩
end Go.Proofs.YtjhfcpadnofdnaaGreat
set_option linter.unusedSimpArgs false
set_option linter.unusedVariables false
namespace Go.Proofs.YtjhfcpadnofdnaaGreat
open Go.RowKit
attribute [local go_sem] block_of_add
def mgAt (s : Sty) : Nat → Ln | 0 => s.m0 | 1 => s.m1 | 2 => s.m2 | _ => s.m3
def bdAt (s : Sty) : Nat → Int | 0 => s.b0 | 1 => s.b1 | 2 => s.b2 | _ => s.b3
def pdAt (s : Sty) : Nat → Int | 0 => s.p0 | 1 => s.p1 | 2 => s.p2 | _ => s.p3
theorem four {k : Nat} (h : k < 4) : k = 0 ∨ k = 1 ∨ k = 2 ∨ k = 3 := by omega
theorem mg_k (s : Sty) {k : Nat} (h : k < 4) : (styCells s).toArray[16 + k * 2]? = some (.int .u8 (mgAt s k).k) ∧ (styCells s).toArray[16 + k * 2 + 1]? = some (.int .i64 (mgAt s k).n) ∧ (styCells s).toArray[24 + k]? = some (.int .i64 (bdAt s k)) ∧ (styCells s).toArray[28 + k]? = some (.int .i64 (pdAt s k)) := by
  rcases four h with rfl | rfl | rfl | rfl <;> exact ⟨rfl, rfl, rfl, rfl⟩
def wdAt (s : Sty) : Nat → Ln | 0 => s.w | 1 => s.minw | 2 => s.maxw | _ => s.basis
def hgAt (s : Sty) : Nat → Ln | 0 => s.h | 1 => s.minh | _ => s.maxh
def wdBlk (s : Sty) : Array Value := #[.int .u8 s.w.k, .int .i64 s.w.n, .int .u8 s.minw.k, .int .i64 s.minw.n, .int .u8 s.maxw.k, .int .i64 s.maxw.n, .int .u8 s.basis.k, .int .i64 s.basis.n]
def hgBlk (s : Sty) : Array Value := #[.int .u8 s.h.k, .int .i64 s.h.n, .int .u8 s.minh.k, .int .i64 s.minh.n, .int .u8 s.maxh.k, .int .i64 s.maxh.n]
theorem wd_k (s : Sty) {k : Nat} (h : k < 4) : (wdBlk s)[k * 2]? = some (.int .u8 (wdAt s k).k) ∧ (wdBlk s)[k * 2 + 1]? = some (.int .i64 (wdAt s k).n) := by
  rcases four h with rfl | rfl | rfl | rfl <;> exact ⟨rfl, rfl⟩
theorem hg_k (s : Sty) {k : Nat} (h : k < 3) : (hgBlk s)[k * 2]? = some (.int .u8 (hgAt s k).k) ∧ (hgBlk s)[k * 2 + 1]? = some (.int .i64 (hgAt s k).n) := by
  have : k = 0 ∨ k = 1 ∨ k = 2 := by omega
  rcases this with rfl | rfl | rfl <;> exact ⟨rfl, rfl⟩
/-- What the first loop has seen of edge k. -/
def EdOk (s : Sty) (k : Nat) : Prop := mayF (mgAt s k).k (mgAt s k).n true = true ∧ 0 ≤ bdAt s k ∧ bdAt s k ≤ 1099511627776 ∧ 0 ≤ pdAt s k ∧ pdAt s k ≤ 1099511627776
/-- A style with its lengths' limits. -/
structure StyL (s : Sty) : Prop where
  b : StyB s
  lim : ∀ x, x = s.w ∨ x = s.maxw ∨ x = s.minw ∨ x = s.m1 ∨ x = s.m3 ∨ x = s.basis → (-1099511627776 ≤ x.n ∧ x.n ≤ 1099511627776) ∧ (x.k = 2 → -100000 ≤ x.n ∧ x.n ≤ 100000)
/-- The factors of a box. -/
def GrS (s : Sty) : Prop := (0 ≤ s.grow ∧ s.grow ≤ 60) ∧ 0 ≤ s.shrink ∧ s.shrink ≤ 60
structure BoolAns (p : Prop) (w w' : World) (e : Ending) : Prop where
  ex : ∃ b, e = .returned (.bool b) ∧ (b = true → p)
  b : Below w.heap.size w w'
end Go.Proofs.YtjhfcpadnofdnaaGreat
