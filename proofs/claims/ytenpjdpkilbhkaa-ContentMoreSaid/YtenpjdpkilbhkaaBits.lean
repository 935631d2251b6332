/- Numbers as lists of digits of base 2, the lowest first: the plain laws of the reference's big numbers. -/
set_option linter.unusedSimpArgs false
set_option linter.unusedVariables false
namespace Go.Proofs.Ytenpjdpkilbhkaa

/-- The digit at a place; behind the last one 0. -/
def dg (l : List Bool) (i : Nat) : Int := if l[i]?.getD false then 1 else 0
/-- The value of a list of digits. -/
def val : List Bool → Int
  | [] => 0
  | b :: t => (if b then 1 else 0) + 2 * val t

theorem dg_01 (l : List Bool) (i : Nat) : 0 ≤ dg l i ∧ dg l i ≤ 1 := by unfold dg; split <;> omega
theorem dg_lt {l : List Bool} {i : Nat} (h : i < l.length) : dg l i = if l[i] then 1 else 0 := by simp [dg, h]
theorem dg_ge {l : List Bool} {i : Nat} (h : l.length ≤ i) : dg l i = 0 := by simp [dg, h]
theorem val_nn (l : List Bool) : 0 ≤ val l := by
  induction l with
  | nil => simp [val]
  | cons b t ih => simp only [val]; split <;> omega
theorem val_drop (l : List Bool) (i : Nat) : val (l.drop i) = dg l i + 2 * val (l.drop (i + 1)) := by
  induction l generalizing i with
  | nil => simp [val, dg]
  | cons b t ih =>
    cases i with
    | zero => simp [val, dg]
    | succ i => simpa [dg] using ih i
theorem val_snoc (l : List Bool) (b : Bool) : val (l ++ [b]) = val l + (if b then 1 else 0) * 2 ^ l.length := by
  induction l with
  | nil => simp [val]
  | cons c t ih => simp only [List.cons_append, val, ih, List.length_cons, Int.pow_succ]; split <;> split <;> omega
theorem val_take_succ (l : List Bool) (i : Nat) : val (l.take (i + 1)) = val (l.take i) + dg l i * 2 ^ i := by
  by_cases h : i < l.length
  · rw [List.take_succ_eq_append_getElem h, val_snoc, List.length_take_of_le (by omega), dg_lt h]
  · rw [List.take_of_length_le (by omega), List.take_of_length_le (by omega), dg_ge (by omega)]; simp
theorem val_lt (l : List Bool) : val l < 2 ^ l.length := by
  induction l with
  | nil => simp [val]
  | cons b t ih => simp only [val, List.length_cons, Int.pow_succ]; split <;> omega
theorem val_parts (l : List Bool) (i : Nat) : val l = val (l.take i) + 2 ^ i * val (l.drop i) := by
  induction i with
  | zero => simp [val]
  | succ i ih =>
    rw [val_take_succ, ih, val_drop l i, Int.pow_succ, Int.mul_add, Int.mul_assoc, Int.mul_comm (dg l i)]; omega
theorem pow2_pos (i : Nat) : (0 : Int) < 2 ^ i := Int.pow_pos (by omega)
theorem val_take_lt (l : List Bool) (i : Nat) : val (l.take i) < 2 ^ i := by
  induction i with
  | zero => simp [val]
  | succ i ih =>
    have h := dg_01 l i
    have hp := pow2_pos i
    rw [val_take_succ, Int.pow_succ]
    rcases (show dg l i = 0 ∨ dg l i = 1 by omega) with e | e <;> rw [e] <;> omega
theorem val_take_nn (l : List Bool) (i : Nat) : 0 ≤ val (l.take i) := val_nn _
theorem val_drop_len (l : List Bool) (i : Nat) (h : l.length ≤ i) : val (l.drop i) = 0 := by rw [List.drop_of_length_le h]; rfl

/-- less: the tails from a place on are alike, the digits there differ. -/
theorem less_at (a b : List Bool) (i : Nat) (h : val (a.drop (i + 1)) = val (b.drop (i + 1))) (hne : dg a i ≠ dg b i) : (val a < val b ↔ dg a i < dg b i) := by
  rw [val_parts a i, val_parts b i, val_drop a i, val_drop b i, h]
  have h1 := dg_01 a i; have h2 := dg_01 b i
  have t1 := val_take_lt a i; have t2 := val_take_lt b i; have t3 := val_take_nn a i; have t4 := val_take_nn b i
  generalize val (b.drop (i + 1)) = z at *
  generalize val (a.take i) = p at *
  generalize val (b.take i) = q at *
  have hp := pow2_pos i
  generalize (2 : Int) ^ i = m at *
  rcases (show dg a i = 0 ∧ dg b i = 1 ∨ dg a i = 1 ∧ dg b i = 0 by omega) with ⟨e1, e2⟩ | ⟨e1, e2⟩ <;> rw [e1, e2] <;> rw [Int.mul_add, Int.mul_add] <;> simp <;> omega
theorem drop_same {a b : List Bool} {i : Nat} (h : val (a.drop (i + 1)) = val (b.drop (i + 1))) (he : dg a i = dg b i) : val (a.drop i) = val (b.drop i) := by
  rw [val_drop a i, val_drop b i, h, he]

/-- plus: one place more. -/
theorem plus_step (a b out : List Bool) (more : Int) (h : val (a.take out.length) + val (b.take out.length) = val out + more * 2 ^ out.length) (s : Int) (hs : s = dg a out.length + dg b out.length + more) (hm : 0 ≤ more ∧ more ≤ 1) :
    val (a.take (out.length + 1)) + val (b.take (out.length + 1)) = val (out ++ [s % 2 == 1]) + s / 2 * 2 ^ (out.length + 1) := by
  rw [val_take_succ, val_take_succ, val_snoc, Int.pow_succ]
  have h1 := dg_01 a out.length; have h2 := dg_01 b out.length
  have hp := pow2_pos out.length
  generalize (2 : Int) ^ out.length = m at *
  generalize val (a.take out.length) = p at *
  generalize val (b.take out.length) = q at *
  generalize val out = v at *
  rcases (show dg a out.length = 0 ∨ dg a out.length = 1 by omega) with e1 | e1 <;> rcases (show dg b out.length = 0 ∨ dg b out.length = 1 by omega) with e2 | e2 <;>
    rcases (show more = 0 ∨ more = 1 by omega) with e3 | e3 <;> rw [e1, e2, e3] at hs <;> rw [e3] at h <;> subst hs <;> rw [e1, e2] <;> simp <;> omega
theorem plus_end (a b out : List Bool) (more : Int) (h : val (a.take out.length) + val (b.take out.length) = val out + more * 2 ^ out.length) (hm : 0 ≤ more ∧ more ≤ 1) (hl : max a.length b.length < out.length) : val a + val b = val out := by
  have hk : out.length = (out.length - 1) + 1 := by omega
  have ha : val a < 2 ^ (out.length - 1) := by
    have h := val_take_lt a (out.length - 1); rwa [List.take_of_length_le (by omega)] at h
  have hb : val b < 2 ^ (out.length - 1) := by
    have h := val_take_lt b (out.length - 1); rwa [List.take_of_length_le (by omega)] at h
  rw [List.take_of_length_le (by omega), List.take_of_length_le (by omega)] at h
  have hv := val_nn out
  rcases (show more = 0 ∨ more = 1 by omega) with e | e
  · rw [e] at h; omega
  · rw [e, hk, Int.pow_succ] at h; omega

/-- minus: one place more. -/
theorem minus_step (a b out : List Bool) (les : Int) (h : val (a.take out.length) - val (b.take out.length) = val out - les * 2 ^ out.length) (hm : 0 ≤ les ∧ les ≤ 1) (s s' les' : Int) (hs : s = dg a out.length - dg b out.length - les)
    (h' : s < 0 ∧ s' = s + 2 ∧ les' = 1 ∨ 0 ≤ s ∧ s' = s ∧ les' = 0) :
    val (a.take (out.length + 1)) - val (b.take (out.length + 1)) = val (out ++ [s' == 1]) - les' * 2 ^ (out.length + 1) := by
  rw [val_take_succ, val_take_succ, val_snoc, Int.pow_succ]
  have h1 := dg_01 a out.length; have h2 := dg_01 b out.length
  generalize (2 : Int) ^ out.length = m at *
  generalize val (a.take out.length) = p at *
  generalize val (b.take out.length) = q at *
  generalize val out = v at *
  rcases (show dg a out.length = 0 ∨ dg a out.length = 1 by omega) with e1 | e1 <;> rcases (show dg b out.length = 0 ∨ dg b out.length = 1 by omega) with e2 | e2 <;>
    rcases (show les = 0 ∨ les = 1 by omega) with e3 | e3 <;> rw [e1, e2, e3] at hs <;> rw [e3] at h <;> rcases h' with ⟨g1, rfl, rfl⟩ | ⟨g1, rfl, rfl⟩ <;> rw [e1, e2] <;> first | (exfalso; omega) | (subst hs; simp; omega)
theorem minus_end (a b out : List Bool) (les : Int) (h : val (a.take out.length) - val (b.take out.length) = val out - les * 2 ^ out.length) (hm : 0 ≤ les ∧ les ≤ 1) (hl : out.length = a.length) (hab : val b ≤ val a) : val a - val b = val out := by
  rw [List.take_of_length_le (by omega)] at h
  have hb := val_parts b out.length
  have ha : val a < 2 ^ out.length := by rw [hl]; exact val_lt a
  have hd := val_nn (b.drop out.length)
  have ht := val_nn (b.take out.length)
  have ho := val_lt out
  have ho' := val_nn out
  have hp := pow2_pos out.length
  have hz : val (b.drop out.length) = 0 := by
    rcases (show val (b.drop out.length) = 0 ∨ 1 ≤ val (b.drop out.length) by omega) with e | e
    · exact e
    · have := Int.mul_le_mul_of_nonneg_left e (Int.le_of_lt hp)
      omega
  rw [hz] at hb
  rcases (show les = 0 ∨ les = 1 by omega) with e | e
  · rw [e] at h; omega
  · rw [e] at h; omega

/-- short: digits behind the last 1 are 0. -/
theorem val_short (l : List Bool) (n : Nat) (h : ∀ j, n ≤ j → dg l j = 0) : val (l.take n) = val l := by
  have hz : val (l.drop n) = 0 := by
    have key : ∀ k, val (l.drop (n + k)) = 0 → val (l.drop n) = 0 := by
      intro k
      induction k with
      | zero => exact id
      | succ k ih => intro hk; exact ih (by rw [val_drop, h _ (by omega)]; rw [Nat.add_assoc, hk]; rfl)
    exact key l.length (val_drop_len _ _ (by omega))
  rw [val_parts l n, hz]; omega

/-- Of: one place more. -/
theorem of_step (l : List Bool) (y n : Int) (h : val l + y * 2 ^ l.length = n) (hy : 0 ≤ y) : val (l ++ [y % 2 == 1]) + y / 2 * 2 ^ (l.length + 1) = n := by
  rw [val_snoc, Int.pow_succ]
  generalize (2 : Int) ^ l.length = m at *
  generalize val l = v at *
  obtain ⟨q, r, hr, rfl⟩ : ∃ q r : Int, (r = 0 ∨ r = 1) ∧ y = 2 * q + r := ⟨y / 2, y % 2, by omega, by omega⟩
  have hq : (2 * q + r) / 2 = q := by omega
  have hm : q * (m * 2) = 2 * q * m := by rw [Int.mul_comm m 2, ← Int.mul_assoc, Int.mul_comm q 2]
  rw [Int.add_mul] at h
  rcases hr with rfl | rfl
  · have : ((2 * q + 0) % 2 == 1) = false := by simp
    rw [this, hq, hm]; simp at h ⊢; omega
  · have : ((2 * q + 1) % 2 == 1) = true := by simp
    rw [this, hq, hm]; simp at h ⊢; omega
theorem of_len (l : List Bool) (y n : Int) (h : val l + y * 2 ^ l.length = n) (hy : 0 < y) (hn : n ≤ 9223372036854775808) : l.length ≤ 63 := by
  rcases Nat.lt_or_ge 63 l.length with hl | hl
  · exfalso
    have h1 : (2 : Int) ^ 64 ≤ 2 ^ l.length := by
      have := Nat.pow_le_pow_right (n := 2) (by omega) (show 64 ≤ l.length by omega)
      have h2 : ((2 ^ 64 : Nat) : Int) ≤ ((2 ^ l.length : Nat) : Int) := by exact_mod_cast this
      simpa using h2
    have h3 := Int.mul_le_mul_of_nonneg_right (show 1 ≤ y by omega) (Int.le_of_lt (pow2_pos l.length))
    have := val_nn l
    omega
  · exact hl

end Go.Proofs.Ytenpjdpkilbhkaa
