/- Stable sorting: insertion within blocks, merging of blocks: plain. -/
import Derived.Test.YtbopeofglhkffaaRowk
set_option linter.unusedSimpArgs false
set_option linter.unusedVariables false
namespace Go.Proofs.Ytbopeofglhkffaa
open Go.RowKit
/-- Of less order, or of the same order and ahead. -/
def lexLt (o : Nat → Int) (a b : Nat) : Prop := o a < o b ∨ (o a = o b ∧ a < b)
theorem lexLt.trans {o : Nat → Int} {a b c : Nat} (h : lexLt o a b) (k : lexLt o b c) : lexLt o a c := by unfold lexLt at *; omega
theorem lexLt.le {o : Nat → Int} {a b : Nat} (h : lexLt o a b) : o a ≤ o b := by unfold lexLt at h; omega
theorem lexLt.asymm {o : Nat → Int} {a b : Nat} (h : lexLt o a b) : ¬ lexLt o b a := by unfold lexLt at *; omega
def Srt (o : Nat → Int) (d : Nat → Nat) (a b : Nat) : Prop := ∀ p q, a ≤ p → p < q → q < b → lexLt o (d p) (d q)
def Crs (o : Nat → Int) (d : Nat → Nat) (a m b : Nat) : Prop := ∀ p q, a ≤ p → p < m → m ≤ q → q < b → o (d p) = o (d q) → d p < d q
theorem Srt.le {o : Nat → Int} {d : Nat → Nat} {a b p q : Nat} (h : Srt o d a b) (h1 : a ≤ p) (h2 : p ≤ q) (h3 : q < b) : o (d p) ≤ o (d q) := by
  rcases Nat.lt_or_eq_of_le h2 with h4 | rfl
  · exact (h p q h1 h4 h3).le
  · exact Int.le_refl _
theorem Srt.le_lex {o : Nat → Int} {d : Nat → Nat} {a b p q x : Nat} (h : Srt o d a b) (h1 : a ≤ p) (h2 : p ≤ q) (h3 : q < b) (k : lexLt o (d q) x) : lexLt o (d p) x := by
  rcases Nat.lt_or_eq_of_le h2 with h4 | rfl
  · exact (h p q h1 h4 h3).trans k
  · exact k
theorem Srt.lex_le {o : Nat → Int} {d : Nat → Nat} {a b p q x : Nat} (h : Srt o d a b) (h1 : a ≤ p) (h2 : p ≤ q) (h3 : q < b) (k : lexLt o x (d p)) : lexLt o x (d q) := by
  rcases Nat.lt_or_eq_of_le h2 with h4 | rfl
  · exact k.trans (h p q h1 h4 h3)
  · exact k
theorem Crs.lex {o : Nat → Int} {d : Nat → Nat} {a m b p q : Nat} (h : Crs o d a m b) (h1 : a ≤ p) (h2 : p < m) (h3 : m ≤ q) (h4 : q < b) (k : ¬ o (d q) < o (d p)) : lexLt o (d p) (d q) := by
  by_cases e : o (d p) = o (d q)
  · exact .inr ⟨e, h p q h1 h2 h3 h4 e⟩
  · exact .inl (by omega)
/-- The same numbers between two places, and as they were elsewhere. -/
structure Pin (a b : Nat) (d d' : Nat → Nat) : Prop where
  out : ∀ j, ¬ (a ≤ j ∧ j < b) → d' j = d j
  fro : ∀ i, a ≤ i → i < b → ∃ j, a ≤ j ∧ j < b ∧ d' i = d j
  bak : ∀ i, a ≤ i → i < b → ∃ j, a ≤ j ∧ j < b ∧ d i = d' j
theorem Pin.refl (a b : Nat) (d : Nat → Nat) : Pin a b d d := ⟨fun _ _ => rfl, fun i h k => ⟨i, h, k, rfl⟩, fun i h k => ⟨i, h, k, rfl⟩⟩
theorem Pin.trans {a b : Nat} {d e f : Nat → Nat} (h : Pin a b d e) (k : Pin a b e f) : Pin a b d f := by
  refine ⟨fun j hj => (k.out j hj).trans (h.out j hj), fun i h1 h2 => ?_, fun i h1 h2 => ?_⟩
  · obtain ⟨j, j1, j2, e1⟩ := k.fro i h1 h2
    obtain ⟨l, l1, l2, e2⟩ := h.fro j j1 j2
    exact ⟨l, l1, l2, e1.trans e2⟩
  · obtain ⟨j, j1, j2, e1⟩ := h.bak i h1 h2
    obtain ⟨l, l1, l2, e2⟩ := k.bak j j1 j2
    exact ⟨l, l1, l2, e1.trans e2⟩
theorem Pin.mono {a b a' b' : Nat} {d e : Nat → Nat} (h : Pin a b d e) (ha : a' ≤ a) (hb : b ≤ b') : Pin a' b' d e := by
  refine ⟨fun j hj => h.out j (by omega), fun i h1 h2 => ?_, fun i h1 h2 => ?_⟩
  · by_cases hi : a ≤ i ∧ i < b
    · obtain ⟨j, j1, j2, e1⟩ := h.fro i hi.1 hi.2
      exact ⟨j, by omega, by omega, e1⟩
    · exact ⟨i, h1, h2, h.out i hi⟩
  · by_cases hi : a ≤ i ∧ i < b
    · obtain ⟨j, j1, j2, e1⟩ := h.bak i hi.1 hi.2
      exact ⟨j, by omega, by omega, e1⟩
    · exact ⟨i, h1, h2, (h.out i hi).symm⟩
def swp (d : Nat → Nat) (i j : Nat) : Nat → Nat := fun x => if x = i then d j else if x = j then d i else d x
theorem Pin.swp {a b i j : Nat} (d : Nat → Nat) (hi : a ≤ i ∧ i < b) (hj : a ≤ j ∧ j < b) : Pin a b d (swp d i j) := by
  refine ⟨fun x hx => ?_, fun x h1 h2 => ?_, fun x h1 h2 => ?_⟩
  · unfold Go.Proofs.Ytbopeofglhkffaa.swp; rw [if_neg (by omega), if_neg (by omega)]
  · unfold Go.Proofs.Ytbopeofglhkffaa.swp
    by_cases e : x = i
    · exact ⟨j, hj.1, hj.2, by rw [if_pos e]⟩
    · by_cases e2 : x = j
      · exact ⟨i, hi.1, hi.2, by rw [if_neg e, if_pos e2]⟩
      · exact ⟨x, h1, h2, by rw [if_neg e, if_neg e2]⟩
  · by_cases e : x = i
    · exact ⟨j, hj.1, hj.2, by
        unfold Go.Proofs.Ytbopeofglhkffaa.swp
        by_cases e2 : j = i
        · rw [if_pos e2, e, e2]
        · rw [if_neg e2, if_pos rfl, e]⟩
    · by_cases e2 : x = j
      · exact ⟨i, hi.1, hi.2, by unfold Go.Proofs.Ytbopeofglhkffaa.swp; rw [if_pos rfl, e2]⟩
      · exact ⟨x, h1, h2, by unfold Go.Proofs.Ytbopeofglhkffaa.swp; rw [if_neg e, if_neg e2]⟩
/-- Two pieces that change places. -/
def rot (d : Nat → Nat) (a m b : Nat) : Nat → Nat := fun x => if a ≤ x ∧ x < a + (b - m) then d (x + (m - a)) else if a + (b - m) ≤ x ∧ x < b then d (x - (b - m)) else d x
def swpR (d : Nat → Nat) (a b n : Nat) : Nat → Nat := fun x => if a ≤ x ∧ x < a + n then d (x - a + b) else if b ≤ x ∧ x < b + n then d (x - b + a) else d x
theorem rot_step1 (d : Nat → Nat) (m i j : Nat) (h : j < i) (hi : i ≤ m) : rot (swpR d (m - i) m j) (m - (i - j)) m (m + j) = rot d (m - i) m (m + j) := by
  funext x
  unfold rot swpR
  repeat' split
  all_goals first | omega | (congr 1; omega) | skip
theorem rot_step2 (d : Nat → Nat) (m i j : Nat) (h : i < j) (hi : i ≤ m) : rot (swpR d (m - i) (m + j - i) i) (m - i) m (m + (j - i)) = rot d (m - i) m (m + j) := by
  funext x
  unfold rot swpR
  repeat' split
  all_goals first | omega | (congr 1; omega) | skip
theorem rot_end (d : Nat → Nat) (m i : Nat) (hi : i ≤ m) : swpR d (m - i) m i = rot d (m - i) m (m + i) := by
  funext x
  unfold rot swpR
  repeat' split
  all_goals first | omega | (congr 1; omega) | skip
theorem rot_none (d : Nat → Nat) (a m b : Nat) (h : m ≤ a ∨ b ≤ m) (ha : a ≤ m) (hb : m ≤ b) : rot d a m b = d := by
  funext x
  unfold rot
  repeat' split
  all_goals first | omega | (congr 1; omega) | rfl
theorem Pin.rot (d : Nat → Nat) {a m b : Nat} (h1 : a ≤ m) (h2 : m ≤ b) : Pin a b d (rot d a m b) := by
  refine ⟨fun x hx => ?_, fun x k1 k2 => ?_, fun x k1 k2 => ?_⟩
  · unfold Go.Proofs.Ytbopeofglhkffaa.rot; rw [if_neg (by omega), if_neg (by omega)]
  · unfold Go.Proofs.Ytbopeofglhkffaa.rot
    by_cases e : x < a + (b - m)
    · exact ⟨x + (m - a), by omega, by omega, by rw [if_pos ⟨k1, e⟩]⟩
    · exact ⟨x - (b - m), by omega, by omega, by rw [if_neg (by omega), if_pos ⟨by omega, k2⟩]⟩
  · unfold Go.Proofs.Ytbopeofglhkffaa.rot
    by_cases e : x < m
    · exact ⟨x + (b - m), by omega, by omega, by rw [if_neg (by omega), if_pos ⟨by omega, by omega⟩]; congr 1; omega⟩
    · exact ⟨x - (m - a), by omega, by omega, by rw [if_pos ⟨by omega, by omega⟩]; congr 1; omega⟩
/-- The first one of a piece put behind some others. -/
def shl (d : Nat → Nat) (a k : Nat) : Nat → Nat := fun x => if a ≤ x ∧ x < k then d (x + 1) else if x = k then d a else d x
theorem shl_start (d : Nat → Nat) (a : Nat) : shl d a a = d := by
  funext x; unfold shl; rw [if_neg (by omega)]; split
  · rename_i h; rw [h]
  · rfl
theorem shl_step (d : Nat → Nat) (a k : Nat) (h : a ≤ k) : swp (shl d a k) k (k + 1) = shl d a (k + 1) := by
  funext x
  unfold swp shl
  repeat' split
  all_goals first | omega | (congr 1; omega) | skip
/-- The last one of a piece put ahead of some others. -/
def shr (d : Nat → Nat) (i m : Nat) : Nat → Nat := fun x => if x = i then d m else if i < x ∧ x ≤ m then d (x - 1) else d x
theorem shr_start (d : Nat → Nat) (m : Nat) : shr d m m = d := by
  funext x; unfold shr; split
  · rename_i h; rw [h]
  · rw [if_neg (by omega)]
theorem shr_step (d : Nat → Nat) (k m : Nat) (h : k < m) : swp (shr d (k + 1) m) (k + 1) k = shr d k m := by
  funext x
  unfold swp shr
  repeat' split
  all_goals first | omega | (congr 1; omega) | skip
theorem Pin.shl (d : Nat → Nat) {a k b : Nat} (h1 : a ≤ k) (h2 : k < b) : Pin a b d (shl d a k) := by
  refine ⟨fun x hx => ?_, fun x k1 k2 => ?_, fun x k1 k2 => ?_⟩
  · unfold Go.Proofs.Ytbopeofglhkffaa.shl; rw [if_neg (by omega), if_neg (by omega)]
  · unfold Go.Proofs.Ytbopeofglhkffaa.shl
    by_cases e : x < k
    · exact ⟨x + 1, by omega, by omega, by rw [if_pos ⟨k1, e⟩]⟩
    · by_cases e2 : x = k
      · exact ⟨a, by omega, by omega, by rw [if_neg (by omega), if_pos e2]⟩
      · exact ⟨x, k1, k2, by rw [if_neg (by omega), if_neg e2]⟩
  · unfold Go.Proofs.Ytbopeofglhkffaa.shl
    by_cases e : x = a
    · exact ⟨k, by omega, by omega, by rw [if_neg (by omega), if_pos rfl, e]⟩
    · by_cases e2 : x ≤ k
      · exact ⟨x - 1, by omega, by omega, by rw [if_pos ⟨by omega, by omega⟩]; congr 1; omega⟩
      · exact ⟨x, k1, k2, by rw [if_neg (by omega), if_neg (by omega)]⟩
theorem Pin.shr (d : Nat → Nat) {a i m b : Nat} (h0 : a ≤ i) (h1 : i ≤ m) (h2 : m < b) : Pin a b d (shr d i m) := by
  refine ⟨fun x hx => ?_, fun x k1 k2 => ?_, fun x k1 k2 => ?_⟩
  · unfold Go.Proofs.Ytbopeofglhkffaa.shr; rw [if_neg (by omega), if_neg (by omega)]
  · unfold Go.Proofs.Ytbopeofglhkffaa.shr
    by_cases e : x = i
    · exact ⟨m, by omega, by omega, by rw [if_pos e]⟩
    · by_cases e2 : i < x ∧ x ≤ m
      · exact ⟨x - 1, by omega, by omega, by rw [if_neg e, if_pos e2]⟩
      · exact ⟨x, k1, k2, by rw [if_neg e, if_neg e2]⟩
  · unfold Go.Proofs.Ytbopeofglhkffaa.shr
    by_cases e : x = m
    · exact ⟨i, by omega, by omega, by rw [if_pos rfl, e]⟩
    · by_cases e2 : i ≤ x ∧ x < m
      · exact ⟨x + 1, by omega, by omega, by rw [if_neg (by omega), if_pos ⟨by omega, by omega⟩]; congr 1⟩
      · exact ⟨x, k1, k2, by rw [if_neg (by omega), if_neg (by omega)]⟩
/-- One element into a sorted piece behind it. -/
theorem srt_shl {o : Nat → Int} {d : Nat → Nat} {a i b : Nat} (hs : Srt o d (a + 1) b) (h1 : a + 1 ≤ i) (h2 : i ≤ b) (hl : ∀ p, a + 1 ≤ p → p < i → lexLt o (d p) (d a)) (hr : ∀ q, i ≤ q → q < b → lexLt o (d a) (d q)) :
    Srt o (shl d a (i - 1)) a b := by
  intro p q hp hpq hq
  unfold shl
  by_cases p1 : p < i - 1
  · rw [if_pos ⟨hp, p1⟩]
    by_cases q1 : q < i - 1
    · rw [if_pos ⟨by omega, q1⟩]; exact hs _ _ (by omega) (by omega) (by omega)
    · rw [if_neg (by omega)]
      by_cases q2 : q = i - 1
      · rw [if_pos q2]; exact hl _ (by omega) (by omega)
      · rw [if_neg q2]; exact hs _ _ (by omega) (by omega) (by omega)
  · rw [if_neg (by omega)]
    rw [if_neg (show ¬ (a ≤ q ∧ q < i - 1) by omega), if_neg (show ¬ q = i - 1 by omega)]
    by_cases p2 : p = i - 1
    · rw [if_pos p2]; exact hr _ (by omega) hq
    · rw [if_neg p2]; exact hs _ _ (by omega) hpq hq
theorem srt_shr {o : Nat → Int} {d : Nat → Nat} {a i m : Nat} (hs : Srt o d a m) (h1 : a ≤ i) (h2 : i ≤ m) (hl : ∀ p, a ≤ p → p < i → lexLt o (d p) (d m)) (hr : ∀ q, i ≤ q → q < m → lexLt o (d m) (d q)) :
    Srt o (shr d i m) a (m + 1) := by
  intro p q hp hpq hq
  unfold shr
  by_cases p1 : p < i
  · rw [if_neg (show ¬ p = i by omega), if_neg (by omega)]
    by_cases q1 : q = i
    · rw [if_pos q1]; exact hl _ hp p1
    · rw [if_neg q1]
      by_cases q2 : i < q ∧ q ≤ m
      · rw [if_pos q2]
        exact hs _ _ hp (by omega) (by omega)
      · rw [if_neg q2]; exact hs _ _ hp hpq (by omega)
  · rw [if_neg (show ¬ q = i by omega), if_pos (show i < q ∧ q ≤ m by omega)]
    by_cases p2 : p = i
    · rw [if_pos p2]; exact hr _ (by omega) (by omega)
    · rw [if_neg p2, if_pos (by omega)]; exact hs _ _ (by omega) (by omega) (by omega)
/-- Where the two pieces are cut, symmetrically. -/
structure Sym (o : Nat → Int) (d : Nat → Nat) (a m b s : Nat) : Prop where
  am : a < m
  mb : m < b
  lo : (if (a + b) / 2 < m then (a + b) / 2 + m - b else a) ≤ s
  hi : s ≤ (if (a + b) / 2 < m then (a + b) / 2 else m)
  l : ∀ c, (if (a + b) / 2 < m then (a + b) / 2 + m - b else a) ≤ c → c < s → lexLt o (d c) (d ((a + b) / 2 + m - 1 - c))
  r : ∀ c, s ≤ c → c < (if (a + b) / 2 < m then (a + b) / 2 else m) → lexLt o (d ((a + b) / 2 + m - 1 - c)) (d c)
theorem Sym.nums {o : Nat → Int} {d : Nat → Nat} {a m b s : Nat} (h : Sym o d a m b s) : a ≤ s ∧ s ≤ m ∧ s ≤ (a + b) / 2 ∧ m ≤ (a + b) / 2 + m - s ∧ (a + b) / 2 ≤ (a + b) / 2 + m - s ∧ (a + b) / 2 + m - s ≤ b := by
  obtain ⟨h1, h2, h3, h4, -, -⟩ := h
  split at h3 <;> split at h4 <;> omega
/-- Behind the change of places all of the left half are ahead of all of the right one. -/
theorem Sym.halves {o : Nat → Int} {d : Nat → Nat} {a m b s : Nat} (h : Sym o d a m b s) (h1 : Srt o d a m) (h2 : Srt o d m b) (hc : Crs o d a m b) :
    Srt o (rot d s m ((a + b) / 2 + m - s)) a s ∧ Srt o (rot d s m ((a + b) / 2 + m - s)) s ((a + b) / 2) ∧ Crs o (rot d s m ((a + b) / 2 + m - s)) a s ((a + b) / 2) ∧
    Srt o (rot d s m ((a + b) / 2 + m - s)) ((a + b) / 2) ((a + b) / 2 + m - s) ∧ Srt o (rot d s m ((a + b) / 2 + m - s)) ((a + b) / 2 + m - s) b ∧ Crs o (rot d s m ((a + b) / 2 + m - s)) ((a + b) / 2) ((a + b) / 2 + m - s) b ∧
    ∀ p q, a ≤ p → p < (a + b) / 2 → (a + b) / 2 ≤ q → q < b → lexLt o (rot d s m ((a + b) / 2 + m - s) p) (rot d s m ((a + b) / 2 + m - s) q) := by
  obtain ⟨n1, n2, n3, n4, n5, n6⟩ := h.nums
  obtain ⟨ham, hmb, hlo, hhi, hl, hr⟩ := h
  obtain ⟨M, hM⟩ : ∃ M, (a + b) / 2 = M := ⟨_, rfl⟩
  rw [hM] at n3 n4 n5 n6 hlo hhi hl hr ⊢
  obtain ⟨E, hE⟩ : ∃ E, M + m - s = E := ⟨_, rfl⟩
  rw [hE] at n4 n5 n6 ⊢
  -- the four pieces
  have r1 : ∀ x, x < s → rot d s m E x = d x := fun x hx => by unfold rot; rw [if_neg (by omega), if_neg (by omega)]
  have r2 : ∀ x, s ≤ x → x < M → rot d s m E x = d (x + (m - s)) := fun x h3 h4 => by unfold rot; rw [if_pos (by omega)]
  have r3 : ∀ x, M ≤ x → x < E → rot d s m E x = d (x - (E - m)) := fun x h3 h4 => by unfold rot; rw [if_neg (by omega), if_pos (by omega)]
  have r4 : ∀ x, E ≤ x → rot d s m E x = d x := fun x h3 => by unfold rot; rw [if_neg (by omega), if_neg (by omega)]
  have hst : a < s → E < b → lexLt o (d (s - 1)) (d E) := fun h3 h4 => by
    have := hl (s - 1) (by split <;> omega) (by omega)
    rw [show M + m - 1 - (s - 1) = E by omega] at this; exact this
  have hen : s < m → m < E → lexLt o (d (E - 1)) (d s) := fun h3 h4 => by
    have := hr s (Nat.le_refl _) (by split <;> omega)
    rw [show M + m - 1 - s = E - 1 by omega] at this; exact this
  refine ⟨?_, ?_, ?_, ?_, ?_, ?_, ?_⟩
  · intro p q k1 k2 k3
    rw [r1 p (by omega), r1 q k3]; exact h1 p q k1 k2 (by omega)
  · intro p q k1 k2 k3
    rw [r2 p k1 (by omega), r2 q (by omega) k3]; exact h2 _ _ (by omega) (by omega) (by omega)
  · intro p q k1 k2 k3 k4
    rw [r1 p k2, r2 q k3 k4]; exact hc _ _ k1 (by omega) (by omega) (by omega)
  · intro p q k1 k2 k3
    rw [r3 p k1 (by omega), r3 q (by omega) k3]; exact h1 _ _ (by omega) (by omega) (by omega)
  · intro p q k1 k2 k3
    rw [r4 p k1, r4 q (by omega)]; exact h2 _ _ (by omega) k2 k3
  · intro p q k1 k2 k3 k4
    rw [r3 p k1 k2, r4 q k3]; exact hc _ _ (by omega) (by omega) (by omega) k4
  · intro p q k1 k2 k3 k4
    by_cases p1 : p < s
    · rw [r1 p p1]
      by_cases q1 : q < E
      · rw [r3 q k3 q1]; exact h1 _ _ k1 (by omega) (by omega)
      · rw [r4 q (by omega)]
        exact h1.le_lex k1 (show p ≤ s - 1 by omega) (by omega) (h2.lex_le (show m ≤ E by omega) (show E ≤ q by omega) k4 (hst (by omega) (by omega)))
    · rw [r2 p (by omega) k2]
      by_cases q1 : q < E
      · rw [r3 q k3 q1]
        exact h2.le_lex (show m ≤ p + (m - s) by omega) (show p + (m - s) ≤ E - 1 by omega) (by omega) (h1.lex_le (show a ≤ s by omega) (show s ≤ q - (E - m) by omega) (by omega) (hen (by omega) (by omega)))
      · rw [r4 q (by omega)]; exact h2 _ _ (by omega) (by omega) k4
/-- Two halves that are sorted in themselves. -/
theorem srt_halves {o : Nat → Int} {d1 d2 d3 : Nat → Nat} {a M b : Nat} (h1 : a ≤ M) (h2 : M ≤ b) (hx : ∀ p q, a ≤ p → p < M → M ≤ q → q < b → lexLt o (d1 p) (d1 q)) (p1 : Pin a M d1 d2) (s1 : Srt o d2 a M) (p2 : Pin M b d2 d3) (s2 : Srt o d3 M b) :
    Srt o d3 a b ∧ Pin a b d1 d3 := by
  refine ⟨fun p q k1 k2 k3 => ?_, (p1.mono (Nat.le_refl _) h2).trans (p2.mono h1 (Nat.le_refl _))⟩
  by_cases q1 : q < M
  · rw [p2.out p (by omega), p2.out q (by omega)]; exact s1 p q k1 k2 q1
  · by_cases pp : p < M
    · rw [p2.out p (by omega)]
      obtain ⟨j, j1, j2, e⟩ := p2.fro q (by omega) k3
      rw [e, p1.out j (by omega)]
      obtain ⟨i, i1, i2, e2⟩ := p1.fro p k1 pp
      rw [e2]; exact hx _ _ i1 i2 j1 j2
    · exact s2 p q (by omega) k2 k3
/-- Two lists without doubles that are ordered alike and have the same members are the same. -/
theorem sorted_unique {R : Nat → Nat → Prop} (ha : ∀ x y, R x y → ¬ R y x) : ∀ l m : List Nat, l.Pairwise R → m.Pairwise R → (∀ x, x ∈ l ↔ x ∈ m) → l = m
  | [], [], _, _, _ => rfl
  | [], y :: m, _, _, h => absurd ((h y).2 (by simp)) (by simp)
  | x :: l, [], _, _, h => absurd ((h x).1 (by simp)) (by simp)
  | x :: l, y :: m, h1, h2, h => by
    rw [List.pairwise_cons] at h1 h2
    have irr : ∀ z, ¬ R z z := fun z hz => ha z z hz hz
    have e : x = y := by
      rcases List.mem_cons.1 ((h x).1 (by simp)) with e | e
      · exact e
      · rcases List.mem_cons.1 ((h y).2 (by simp)) with e2 | e2
        · exact e2.symm
        · exact absurd (h1.1 y e2) (ha _ _ (h2.1 x e))
    subst e
    rw [sorted_unique ha l m h1.2 h2.2 fun z => ⟨fun hz => by
      rcases List.mem_cons.1 ((h z).1 (List.mem_cons_of_mem _ hz)) with e | e
      · subst e; exact absurd (h1.1 z hz) (irr z)
      · exact e, fun hz => by
      rcases List.mem_cons.1 ((h z).2 (List.mem_cons_of_mem _ hz)) with e | e
      · subst e; exact absurd (h2.1 z hz) (irr z)
      · exact e⟩]
/-- The numbers by their order. -/
def ins (o : Nat → Int) (i : Nat) : List Nat → List Nat
  | [] => [i]
  | x :: t => if o i < o x then i :: x :: t else x :: ins o i t
def orderF (o : Nat → Int) (n : Nat) : List Nat := (List.range n).foldl (fun p i => ins o i p) []
theorem orderF_succ (o : Nat → Int) (n : Nat) : orderF o (n + 1) = ins o n (orderF o n) := by unfold orderF; rw [List.range_succ, List.foldl_append]; rfl
theorem ins_mem (o : Nat → Int) (i : Nat) : ∀ (l : List Nat) (x : Nat), x ∈ ins o i l ↔ x = i ∨ x ∈ l
  | [], x => by simp [ins]
  | y :: t, x => by
    unfold ins
    split
    · simp
    · rw [List.mem_cons, ins_mem o i t x, List.mem_cons]
      constructor
      · rintro (h | h | h)
        · exact .inr (.inl h)
        · exact .inl h
        · exact .inr (.inr h)
      · rintro (h | h | h)
        · exact .inr (.inl h)
        · exact .inl h
        · exact .inr (.inr h)
theorem ins_len (o : Nat → Int) (i : Nat) : ∀ l : List Nat, (ins o i l).length = l.length + 1
  | [] => rfl
  | y :: t => by unfold ins; split <;> simp [ins_len o i t]
theorem ins_srt (o : Nat → Int) (i : Nat) : ∀ l : List Nat, l.Pairwise (lexLt o) → (∀ x ∈ l, x < i) → (ins o i l).Pairwise (lexLt o)
  | [], _, _ => by simp [ins]
  | y :: t, h, hb => by
    rw [List.pairwise_cons] at h
    unfold ins
    split
    · rename_i hlt
      rw [List.pairwise_cons, List.pairwise_cons]
      refine ⟨fun z hz => ?_, h⟩
      rcases List.mem_cons.1 hz with e | e
      · subst e; exact .inl hlt
      · exact lexLt.trans (.inl hlt) (h.1 z e)
    · rename_i hge
      rw [List.pairwise_cons]
      refine ⟨fun z hz => ?_, ins_srt o i t h.2 fun x hx => hb x (List.mem_cons_of_mem _ hx)⟩
      rcases (ins_mem o i t z).1 hz with e | e
      · subst e
        have := hb y (by simp)
        unfold lexLt; omega
      · exact h.1 z e
theorem orderF_mem (o : Nat → Int) (n x : Nat) : x ∈ orderF o n ↔ x < n := by
  induction n with
  | zero => simp [orderF]
  | succ n ih => rw [orderF_succ, ins_mem, ih]; omega
theorem orderF_len (o : Nat → Int) (n : Nat) : (orderF o n).length = n := by
  induction n with
  | zero => rfl
  | succ n ih => rw [orderF_succ, ins_len, ih]
theorem orderF_srt (o : Nat → Int) (n : Nat) : (orderF o n).Pairwise (lexLt o) := by
  induction n with
  | zero => exact List.Pairwise.nil
  | succ n ih => rw [orderF_succ]; exact ins_srt o n _ ih fun x hx => (orderF_mem o n x).1 hx
/-- What has been sorted is that. -/
theorem order_eq {o : Nat → Int} {n : Nat} {d : Nat → Nat} (hs : Srt o d 0 n) (hp : Pin 0 n id d) : (List.range n).map d = orderF o n := by
  refine sorted_unique (R := lexLt o) (fun x y h => h.asymm) _ _ ?_ (orderF_srt o n) fun x => ?_
  · rw [List.pairwise_map]
    refine List.Pairwise.imp_of_mem ?_ (List.pairwise_lt_range (n := n))
    intro p q _ hq hpq
    exact hs p q (Nat.zero_le _) hpq (List.mem_range.1 hq)
  · rw [orderF_mem, List.mem_map]
    constructor
    · rintro ⟨i, hi, rfl⟩
      obtain ⟨j, _, hj, e⟩ := hp.fro i (Nat.zero_le _) (List.mem_range.1 hi)
      rw [e]; exact hj
    · intro hx
      obtain ⟨j, _, hj, e⟩ := hp.bak x (Nat.zero_le _) hx
      exact ⟨j, List.mem_range.2 hj, e.symm⟩
end Go.Proofs.Ytbopeofglhkffaa
set_option linter.unusedSimpArgs false
set_option linter.unusedVariables false
namespace Go.Proofs.Ytbopeofglhkffaa
theorem swpR_l (d : Nat → Nat) {a b n x : Nat} (h : a ≤ x ∧ x < a + n) : swpR d a b n x = d (x - a + b) := if_pos h
theorem swpR_r (d : Nat → Nat) {a b n x : Nat} (h : ¬ (a ≤ x ∧ x < a + n)) (h2 : b ≤ x ∧ x < b + n) : swpR d a b n x = d (x - b + a) := by unfold swpR; rw [if_neg h, if_pos h2]
theorem swpR_o (d : Nat → Nat) {a b n x : Nat} (h : ¬ (a ≤ x ∧ x < a + n)) (h2 : ¬ (b ≤ x ∧ x < b + n)) : swpR d a b n x = d x := by unfold swpR; rw [if_neg h, if_neg h2]
theorem swpR_step (d : Nat → Nat) (a b n : Nat) (h : a + n < b) : swp (swpR d a b n) (a + n) (b + n) = swpR d a b (n + 1) := by
  funext x
  by_cases e1 : x = a + n
  · subst e1
    rw [swpR_l d (a := a) (b := b) (n := n + 1) (by omega)]
    unfold swp
    rw [if_pos rfl, swpR_o d (by omega) (by omega)]
    congr 1; omega
  · by_cases e2 : x = b + n
    · subst e2
      rw [swpR_r d (a := a) (b := b) (n := n + 1) (by omega) (by omega)]
      unfold swp
      rw [if_neg e1, if_pos rfl, swpR_o d (by omega) (by omega)]
      congr 1; omega
    · have es : swp (swpR d a b n) (a + n) (b + n) x = swpR d a b n x := by unfold swp; rw [if_neg e1, if_neg e2]
      rw [es]
      by_cases e3 : a ≤ x ∧ x < a + n
      · rw [swpR_l d e3, swpR_l d (by omega)]
      · by_cases e4 : b ≤ x ∧ x < b + n
        · rw [swpR_r d e3 e4, swpR_r d (by omega) (by omega)]
        · rw [swpR_o d e3 e4, swpR_o d (by omega) (by omega)]
theorem swpR_zero (d : Nat → Nat) (a b : Nat) : swpR d a b 0 = d := by
  funext x; unfold swpR; rw [if_neg (by omega), if_neg (by omega)]
/-- What stands in order so far; behind it all is as it was. -/
structure InsO (o : Nat → Int) (d0 d : Nat → Nat) (a i : Nat) : Prop where
  srt : Srt o d a i
  pin : Pin a i d0 d
theorem InsO.start (o : Nat → Int) (d : Nat → Nat) (a : Nat) : InsO o d d a (a + 1) := ⟨fun p q h1 h2 h3 => by omega, Pin.refl _ _ _⟩
theorem InsO.next {o : Nat → Int} {d0 d : Nat → Nat} {a i j b : Nat} (h : InsO o d0 d a i) (hinc : ∀ p q, a ≤ p → p < q → q < b → d0 p < d0 q) (hi : i < b) (h1 : a ≤ j) (h2 : j ≤ i) (gt : ∀ q, j ≤ q → q < i → o (d i) < o (d q)) (stop : j = a ∨ ¬ o (d i) < o (d (j - 1))) :
    InsO o d0 (shr d j i) a (i + 1) := by
  have num : ∀ p, a ≤ p → p < i → d p < d i := fun p k1 k2 => by
    obtain ⟨r, r1, r2, e⟩ := h.pin.fro p k1 k2
    rw [e, h.pin.out i (by omega)]
    exact hinc r i r1 r2 hi
  refine ⟨srt_shr h.srt h1 h2 (fun p k1 k2 => ?_) (fun q k1 k2 => .inl (gt q k1 k2)), ?_⟩
  · have hs : ¬ o (d i) < o (d (j - 1)) := by rcases stop with e | e <;> omega
    have := h.srt.le k1 (show p ≤ j - 1 by omega) (by omega)
    have := num p k1 (by omega)
    unfold lexLt; omega
  · exact (h.pin.mono (Nat.le_refl _) (Nat.le_succ _)).trans (Pin.shr d h1 h2 (Nat.lt_succ_self _))
/-- Each block of so many is sorted in itself and has its own numbers. -/
def Sb (o : Nat → Int) (d : Nat → Nat) (bs lo hi n : Nat) : Prop := ∀ x, x % bs = 0 → lo ≤ x → x < hi → Srt o d x (min (x + bs) n) ∧ ∀ p, x ≤ p → p < min (x + bs) n → x ≤ d p ∧ d p < x + bs
theorem blk_lt {x a m : Nat} (hx : x % m = 0) (ha : a % m = 0) (h : x < a) : x + m ≤ a := by
  obtain ⟨p, rfl⟩ := Nat.dvd_of_mod_eq_zero hx
  obtain ⟨q, rfl⟩ := Nat.dvd_of_mod_eq_zero ha
  have : p < q := Nat.lt_of_mul_lt_mul_left h
  have := Nat.mul_le_mul_left m (show p + 1 ≤ q by omega)
  rw [Nat.mul_add, Nat.mul_one] at this; exact this
theorem mod_half {a bs : Nat} (h : a % (2 * bs) = 0) : a % bs = 0 := by
  obtain ⟨p, rfl⟩ := Nat.dvd_of_mod_eq_zero h
  rw [Nat.mul_comm 2 bs, Nat.mul_assoc]; exact Nat.mul_mod_right _ _
theorem Srt.out {o : Nat → Int} {d d' : Nat → Nat} {a b x y : Nat} (h : Srt o d x y) (hp : ∀ j, ¬ (a ≤ j ∧ j < b) → d' j = d j) (hd : y ≤ a ∨ b ≤ x) : Srt o d' x y := fun p q h1 h2 h3 => by
  rw [hp p (by omega), hp q (by omega)]; exact h p q h1 h2 h3
theorem Sb.out {o : Nat → Int} {d d' : Nat → Nat} {a b bs lo hi n : Nat} (h : Sb o d bs lo hi n) (hp : ∀ j, ¬ (a ≤ j ∧ j < b) → d' j = d j) (hd : (∀ x, x % bs = 0 → lo ≤ x → x < hi → x + bs ≤ a) ∨ b ≤ lo) : Sb o d' bs lo hi n := fun x h1 h2 h3 => by
  obtain ⟨s, m⟩ := h x h1 h2 h3
  have hy : min (x + bs) n ≤ a ∨ b ≤ x := by
    rcases hd with hd | hd
    · left; have := hd x h1 h2 h3; omega
    · right; omega
  exact ⟨s.out hp hy, fun p k1 k2 => by rw [hp p (by omega)]; exact m p k1 k2⟩
theorem Sb.sub {o : Nat → Int} {d : Nat → Nat} {bs lo lo' hi n : Nat} (h : Sb o d bs lo hi n) (hl : lo ≤ lo') : Sb o d bs lo' hi n := fun x h1 h2 h3 => h x h1 (by omega) h3
/-- One block more, by insertion. -/
theorem Sb.ins {o : Nat → Int} {d d' : Nat → Nat} {a b n : Nat} (h : Sb o d 20 0 a n) (ha : a % 20 = 0) (hb : b = min (a + 20) n) (hid : ∀ x, a ≤ x → x < n → d x = x) (hi : Srt o d' a b) (hp : Pin a b d d') : Sb o d' 20 0 (a + 20) n ∧ ∀ x, b ≤ x → x < n → d' x = x := by
  refine ⟨fun x h1 h2 h3 => ?_, fun x h1 h2 => by rw [hp.out x (by omega)]; exact hid x (by omega) h2⟩
  by_cases hx : x < a
  · exact (h.out hp.out (.inl fun y k1 _ k3 => blk_lt k1 ha k3)) x h1 h2 hx
  · have : x = a := by have := @blk_lt; omega
    subst this
    rw [← hb]
    refine ⟨hi, fun p k1 k2 => ?_⟩
    obtain ⟨j, j1, j2, e⟩ := hp.fro p k1 k2
    rw [e, hid j j1 (by omega)]; omega
/-- Two blocks side by side may be merged. -/
theorem Sb.crs {o : Nat → Int} {d : Nat → Nat} {bs a n : Nat} (hbs : 0 < bs) (h : Sb o d bs a n n) (ha : a % (2 * bs) = 0) (hm : a + bs < n) :
    Srt o d a (a + bs) ∧ Srt o d (a + bs) (min (a + 2 * bs) n) ∧ Crs o d a (a + bs) (min (a + 2 * bs) n) := by
  obtain ⟨s1, m1⟩ := h a (mod_half ha) (Nat.le_refl _) (by omega)
  obtain ⟨s2, m2⟩ := h (a + bs) (by rw [Nat.add_mod_right]; exact mod_half ha) (by omega) hm
  rw [show a + bs + bs = a + 2 * bs by omega] at s2 m2
  rw [show min (a + bs) n = a + bs by omega] at s1 m1
  refine ⟨s1, s2, fun p q h1 h2 h3 h4 _ => ?_⟩
  have := m1 p h1 h2
  have := m2 q h3 h4
  omega
/-- They have been merged. -/
theorem Sb.merge {o : Nat → Int} {d d' : Nat → Nat} {bs a n e : Nat} (hbs : 0 < bs) (h1 : Sb o d (2 * bs) 0 a n) (h2 : Sb o d bs a n n) (ha : a % (2 * bs) = 0) (hm : a + bs < n) (he : e = min (a + 2 * bs) n) (hs : Srt o d' a e) (hp : Pin a e d d') :
    Sb o d' (2 * bs) 0 (a + 2 * bs) n ∧ Sb o d' bs (a + 2 * bs) n n := by
  refine ⟨fun x k1 k2 k3 => ?_, (h2.sub (by omega)).out hp.out (.inr (by omega))⟩
  by_cases hx : x < a
  · exact (h1.out hp.out (.inl fun y q1 _ q3 => blk_lt q1 ha q3)) x k1 k2 hx
  · have hxa : x = a := by
      rcases Nat.lt_or_ge a x with h | h
      · have := blk_lt ha k1 h; omega
      · omega
    subst hxa
    rw [← he]
    refine ⟨hs, fun p q1 q2 => ?_⟩
    obtain ⟨j, j1, j2, e2⟩ := hp.fro p q1 q2
    rw [e2]
    obtain ⟨-, m1⟩ := h2 x (mod_half ha) (Nat.le_refl _) (by omega)
    obtain ⟨-, m2⟩ := h2 (x + bs) (by rw [Nat.add_mod_right]; exact mod_half ha) (by omega) hm
    by_cases hj : j < x + bs
    · have := m1 j j1 (by omega); omega
    · have := m2 j (by omega) (by omega); omega
/-- The last block, that has none beside it. -/
theorem Sb.rest {o : Nat → Int} {d : Nat → Nat} {bs a n : Nat} (h1 : Sb o d (2 * bs) 0 a n) (h2 : Sb o d bs a n n) (ha : a % (2 * bs) = 0) (hm : n ≤ a + bs) : Sb o d (2 * bs) 0 n n := fun x k1 k2 k3 => by
  by_cases hx : x < a
  · exact h1 x k1 k2 hx
  · have hxa : x = a := by
      rcases Nat.lt_or_ge a x with h | h
      · have := blk_lt ha k1 h; omega
      · omega
    subst hxa
    obtain ⟨s, m⟩ := h2 x (mod_half ha) (Nat.le_refl _) k3
    rw [show min (x + 2 * bs) n = min (x + bs) n by omega]
    exact ⟨s, fun p q1 q2 => by have := m p q1 q2; omega⟩
theorem Sb.done {o : Nat → Int} {d : Nat → Nat} {bs n : Nat} (h : Sb o d bs 0 n n) (hn : n ≤ bs) : Srt o d 0 n := by
  rcases Nat.eq_zero_or_pos n with e | e
  · intro p q _ _ k; omega
  · have := (h 0 (Nat.zero_mod _) (Nat.le_refl _) e).1
    rw [show min (0 + bs) n = n by omega] at this; exact this
end Go.Proofs.Ytbopeofglhkffaa
