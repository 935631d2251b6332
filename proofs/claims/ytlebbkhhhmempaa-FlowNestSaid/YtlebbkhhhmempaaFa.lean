/- Chapter 22: floats and struts: plain. -/
import Derived.Test.YtlebbkhhhmempaaKp
import Derived.Test.YtlebbkhhhmempaaSty
import Derived.Test.YtlebbkhhhmempaaApp
set_option linter.unusedSimpArgs false
set_option linter.unusedVariables false
namespace Go.Proofs.Ytlebbkhhhmempaa
open Go.RowKit

structure Fl where
  side : Int
  x : Int
  y : Int
  w : Int
  h : Int
  deriving DecidableEq
def flCells (f : Fl) : List Value := [.int .u8 f.side, .int .i64 f.x, .int .i64 f.y, .int .i64 f.w, .int .i64 f.h]
def flsCells (l : List Fl) : List Value := l.flatMap flCells
theorem fl_len (x : Fl) : (flCells x).length = 5 := rfl
theorem flsCells_len (l : List Fl) : (flsCells l).length = l.length * 5 := by
  induction l with
  | nil => rfl
  | cons a t ih =>
    have : flsCells (a :: t) = flCells a ++ flsCells t := by simp [flsCells]
    rw [this, List.length_append, fl_len, ih, List.length_cons]; omega
theorem flsCells_at (l : List Fl) : ∀ (k i : Nat) (hk : k < l.length), i < 5 → (flsCells l)[k * 5 + i]? = (flCells l[k])[i]? := by
  induction l with
  | nil => intro k i hk; simp at hk
  | cons a t ih =>
    intro k i hk hi
    have hc : flsCells (a :: t) = flCells a ++ flsCells t := by simp [flsCells]
    rw [hc]
    rcases k with _ | k
    · rw [List.getElem?_append_left (by rw [fl_len]; omega)]; simp
    · rw [List.getElem?_append_right (by rw [fl_len]; omega), fl_len, show (k + 1) * 5 + i - 5 = k * 5 + i by omega, ih k i (by simpa using hk) hi]
      simp
theorem Reads.fl {w : World} {B n k : Nat} {A : Option Addr} {l : List Fl} (h : Reads w B 5 A n (flsCells l)) (hn : n = l.length) (hk : k < l.length) :
    ∃ ad : Addr, A = some ad ∧ ad.block < B ∧ w.cell? (ad.add (k * 5)) = some (.int .u8 l[k].side) ∧ w.cell? ⟨ad.block, (ad.add (k * 5)).off + 1, none⟩ = some (.int .i64 l[k].x) ∧ w.cell? ⟨ad.block, (ad.add (k * 5)).off + 2, none⟩ = some (.int .i64 l[k].y) ∧
      w.cell? ⟨ad.block, (ad.add (k * 5)).off + 3, none⟩ = some (.int .i64 l[k].w) ∧ w.cell? ⟨ad.block, (ad.add (k * 5)).off + 4, none⟩ = some (.int .i64 l[k].h) := by
  obtain ⟨ad, e, hb, hc⟩ := h.2 (by omega)
  have ha : ∀ i, i ≠ 0 → (⟨ad.block, (ad.add (k * 5)).off + i, none⟩ : Addr) = ad.add (k * 5 + i) := by
    intro i hi
    rw [← add_of_add, show ∀ p : Addr, p.add i = ⟨p.block, p.off + i, none⟩ from fun p => by unfold Addr.add; rw [if_neg hi], block_of_add]
  have hg : ∀ i, i < 5 → ∀ u, (flCells l[k])[i]? = some u → w.cell? (ad.add (k * 5 + i)) = some u := fun i hi u hu => hc _ u (by rw [flsCells_at l k i hk hi]; exact hu)
  refine ⟨ad, e, hb, hg 0 (by omega) _ rfl, ?_, ?_, ?_, ?_⟩
  · rw [ha 1 (by omega)]; exact hg 1 (by omega) _ rfl
  · rw [ha 2 (by omega)]; exact hg 2 (by omega) _ rfl
  · rw [ha 3 (by omega)]; exact hg 3 (by omega) _ rfl
  · rw [ha 4 (by omega)]; exact hg 4 (by omega) _ rfl

def standsF (f : Fl) (y : Int) : Bool := decide (0 < f.h) && decide (y < f.y + f.h) && decide (f.y - y < 1)
def someF (l : List Fl) (y : Int) : Bool := l.any fun f => standsF f y
def tallS (y : Int) (p : Int × Int) (f : Fl) : Int × Int := if standsF f y then (if f.side = 1 then (max p.1 (f.x + f.w), p.2) else if f.side = 2 then (p.1, min p.2 f.x) else p) else p
def tallF (l : List Fl) (y fr to : Int) : Int × Int := l.foldl (tallS y) (fr, to)
def nextS (y : Int) (o : Option Int) (f : Fl) : Option Int := if y < f.y + f.h ∧ (∀ b, o = some b → f.y + f.h < b) then some (f.y + f.h) else o
def nextF (l : List Fl) (y : Int) : Option Int := l.foldl (nextS y) none
/-- How many bottoms lie below a height. -/
def cntF (l : List Fl) (y : Int) : Nat := (l.filter fun f => decide (y < f.y + f.h)).length
def heightsN : Nat → List Fl → Int → List Int
  | 0, _, y => [y]
  | n + 1, l, y => y :: match nextF l y with
    | none => []
    | some b => heightsN n l b
def heightsF (l : List Fl) (y : Int) : List Int := heightsN (cntF l y) l y
def clearS (side : Int) (y : Int) (f : Fl) : Int := if side = 3 ∨ ((side = 1 ∨ side = 2) ∧ f.side = side) then max y (f.y + f.h) else y
def clearF (l : List Fl) (side y : Int) : Int := l.foldl (clearS side) y
def topF (l : List Fl) (y : Int) : Int := l.foldl (fun y f => max y f.y) y
def fitsF (l : List Fl) (w left right y : Int) : Bool := !(someF l y && decide ((tallF l y left right).2 - (tallF l y left right).1 < w))
def placeF (l : List Fl) (side w h left right y : Int) : Fl :=
  match (heightsF l (topF l y)).find? (fitsF l (max w 0) left right) with
  | none => ⟨if side = 2 then 2 else 1, 0, 0, max w 0, max h 0⟩
  | some z => ⟨if side = 2 then 2 else 1, if side = 2 then (tallF l z left right).2 - max w 0 else (tallF l z left right).1, z, max w 0, max h 0⟩

theorem foldl_take_succ {α β : Type} (f : β → α → β) (a : β) (l : List α) (k : Nat) (hk : k < l.length) : (l.take (k + 1)).foldl f a = f ((l.take k).foldl f a) l[k] := by
  rw [List.take_succ_eq_append_getElem hk, List.foldl_append]; rfl
theorem any_take_succ {α : Type} (p : α → Bool) (l : List α) (k : Nat) (hk : k < l.length) : (l.take (k + 1)).any p = ((l.take k).any p || p l[k]) := by
  rw [List.take_succ_eq_append_getElem hk, List.any_append]; simp

theorem nextS_cases (y : Int) (o : Option Int) (f : Fl) : (nextS y o f = o) ∨ (y < f.y + f.h ∧ nextS y o f = some (f.y + f.h)) := by
  unfold nextS; split
  · rename_i h; exact .inr ⟨h.1, rfl⟩
  · exact .inl rfl
theorem next_fold {l : List Fl} {y b : Int} : ∀ {o : Option Int}, l.foldl (nextS y) o = some b → o = some b ∨ ∃ f ∈ l, y < f.y + f.h ∧ b = f.y + f.h := by
  induction l with
  | nil => intro o h; exact .inl h
  | cons a t ih =>
    intro o h
    rw [List.foldl_cons] at h
    rcases ih h with h | ⟨f, hf, h1, h2⟩
    · rcases nextS_cases y o a with e | ⟨hy, e⟩
      · rw [e] at h; exact .inl h
      · rw [e] at h; exact .inr ⟨a, by simp, hy, by simpa using h.symm⟩
    · exact .inr ⟨f, by simp [hf], h1, h2⟩
theorem next_mem {l : List Fl} {y b : Int} (h : nextF l y = some b) : ∃ f ∈ l, y < f.y + f.h ∧ b = f.y + f.h := by
  rcases next_fold h with h | h
  · simp at h
  · exact h
theorem filter_lt {α : Type} (p q : α → Bool) : ∀ l : List α, (∀ x ∈ l, p x = true → q x = true) → (∃ x ∈ l, q x = true ∧ p x = false) → (l.filter p).length < (l.filter q).length := by
  intro l
  induction l with
  | nil => intro _ h; obtain ⟨x, hx, _⟩ := h; simp at hx
  | cons a t ih =>
    intro h1 h2
    have hle : (t.filter p).length ≤ (t.filter q).length := by
      clear ih h2
      have h1' : ∀ x ∈ t, p x = true → q x = true := fun x hx => h1 x (by simp [hx])
      clear h1
      induction t with
      | nil => simp
      | cons b s ih =>
        have := ih fun x hx => h1' x (by simp [hx])
        by_cases hb : p b = true
        · rw [List.filter_cons_of_pos hb, List.filter_cons_of_pos (h1' b (by simp) hb)]; simpa using this
        · rw [List.filter_cons_of_neg hb]
          by_cases hq : q b = true
          · rw [List.filter_cons_of_pos hq]; simp; omega
          · rw [List.filter_cons_of_neg hq]; exact this
    obtain ⟨x, hx, hq, hp⟩ := h2
    rcases List.mem_cons.1 hx with rfl | hx
    · rw [List.filter_cons_of_pos hq, List.filter_cons_of_neg (by simp [hp])]; simp; omega
    · have := ih (fun x hx => h1 x (by simp [hx])) ⟨x, hx, hq, hp⟩
      by_cases hb : p a = true
      · rw [List.filter_cons_of_pos hb, List.filter_cons_of_pos (h1 a (by simp) hb)]; simpa using this
      · rw [List.filter_cons_of_neg hb]
        by_cases hq : q a = true
        · rw [List.filter_cons_of_pos hq]; simp; omega
        · rw [List.filter_cons_of_neg hq]; exact this
theorem cnt_next {l : List Fl} {y b : Int} (h : nextF l y = some b) : cntF l b < cntF l y := by
  obtain ⟨f, hf, h1, rfl⟩ := next_mem h
  refine filter_lt _ _ l (fun x _ hx => ?_) ⟨f, hf, by simpa using h1, by simp⟩
  have := of_decide_eq_true hx
  simp; omega
theorem heights_fuel (l : List Fl) : ∀ (n m : Nat) (y : Int), cntF l y ≤ n → cntF l y ≤ m → heightsN n l y = heightsN m l y := by
  intro n
  induction n with
  | zero =>
    intro m y h1 h2
    cases m with
    | zero => rfl
    | succ m =>
      simp only [heightsN]
      cases hn : nextF l y with
      | none => rfl
      | some b => have := cnt_next hn; omega
  | succ n ih =>
    intro m y h1 h2
    cases m with
    | zero =>
      simp only [heightsN]
      cases hn : nextF l y with
      | none => rfl
      | some b => have := cnt_next hn; omega
    | succ m =>
      simp only [heightsN]
      cases hn : nextF l y with
      | none => rfl
      | some b => have := cnt_next hn; simp only; rw [ih m b (by omega) (by omega)]
theorem heights_end {l : List Fl} {y : Int} (h : nextF l y = none) : heightsF l y = [y] := by
  unfold heightsF
  cases cntF l y with
  | zero => rfl
  | succ n => simp [heightsN, h]
theorem heights_step {l : List Fl} {y b : Int} (h : nextF l y = some b) : heightsF l y = y :: heightsF l b := by
  have := cnt_next h
  unfold heightsF
  rw [show cntF l y = (cntF l y - 1) + 1 by omega]
  simp only [heightsN, h]
  rw [heights_fuel l _ (cntF l b) b (by omega) (by omega)]
theorem heights_mem {l : List Fl} : ∀ (n : Nat) (y z : Int), z ∈ heightsN n l y → z = y ∨ ∃ f ∈ l, z = f.y + f.h := by
  intro n
  induction n with
  | zero => intro y z h; simp [heightsN] at h; exact .inl h
  | succ n ih =>
    intro y z h
    simp only [heightsN] at h
    rcases List.mem_cons.1 h with h | h
    · exact .inl h
    · cases hn : nextF l y with
      | none => rw [hn] at h; simp at h
      | some b =>
        rw [hn] at h
        obtain ⟨f, hf, _, hb⟩ := next_mem hn
        rcases ih b z h with h | h
        · exact .inr ⟨f, hf, by rw [h, hb]⟩
        · exact .inr h
/-- Floats whose numbers are small. -/
def FlB (b : Int) (l : List Fl) : Prop := ∀ f ∈ l, (-b ≤ f.x ∧ f.x ≤ b) ∧ (-b ≤ f.y ∧ f.y ≤ b) ∧ (0 ≤ f.w ∧ f.w ≤ b) ∧ (0 ≤ f.h ∧ f.h ≤ b)
theorem FlB.at_ {b : Int} {l : List Fl} (h : FlB b l) {k : Nat} (hk : k < l.length) : (-b ≤ l[k].x ∧ l[k].x ≤ b) ∧ (-b ≤ l[k].y ∧ l[k].y ≤ b) ∧ (0 ≤ l[k].w ∧ l[k].w ≤ b) ∧ (0 ≤ l[k].h ∧ l[k].h ≤ b) := h _ (List.getElem_mem hk)
theorem top_bd {b : Int} {l : List Fl} (h : FlB b l) : ∀ {y : Int}, -b ≤ y → y ≤ b → y ≤ topF l y ∧ topF l y ≤ b := by
  induction l with
  | nil => intro y h1 h2; exact ⟨Int.le_refl _, h2⟩
  | cons a t ih =>
    intro y h1 h2
    have ha := h a (by simp)
    have := ih (fun f hf => h f (by simp [hf])) (y := max y a.y) (by omega) (by omega)
    show y ≤ topF t (max y a.y) ∧ topF t (max y a.y) ≤ b
    omega
theorem heights_bd {b : Int} {l : List Fl} (h : FlB b l) {y z : Int} (hy : -b ≤ y ∧ y ≤ b) (hz : z ∈ heightsF l y) : -b ≤ z ∧ z ≤ 2 * b := by
  rcases heights_mem _ _ _ hz with rfl | ⟨f, hf, rfl⟩
  · omega
  · have := h f hf; omega
theorem tall_bd {b : Int} {l : List Fl} (h : FlB b l) (y : Int) : ∀ (p : Int × Int), (-b ≤ p.1 ∧ p.1 ≤ 2 * b) ∧ (-b ≤ p.2 ∧ p.2 ≤ b) → (-b ≤ (l.foldl (tallS y) p).1 ∧ (l.foldl (tallS y) p).1 ≤ 2 * b) ∧ (-b ≤ (l.foldl (tallS y) p).2 ∧ (l.foldl (tallS y) p).2 ≤ b) := by
  induction l with
  | nil => intro p h; exact h
  | cons a t ih =>
    intro p hp
    rw [List.foldl_cons]
    have ha := h a (by simp)
    refine ih (fun f hf => h f (by simp [hf])) _ ?_
    unfold tallS
    repeat' split
    all_goals (try simp only)
    all_goals omega
theorem FlB.take {b : Int} {l : List Fl} (h : FlB b l) (k : Nat) : FlB b (l.take k) := fun f hf => h f (List.mem_of_mem_take hf)
theorem FlB.mono {b b' : Int} {l : List Fl} (h : FlB b l) (hb : b ≤ b') : FlB b' l := fun f hf => by have := h f hf; omega

/-! ### Margins -/
structure Stt where
  most : Int
  least : Int
  deriving DecidableEq
def joinF (s : Stt) (m : Int) : Stt := ⟨max s.most m, min s.least m⟩
def sumF (s : Stt) : Int := s.most + s.least
def mgF (l : Ln) : Int := if l.k = 1 then l.n else 0
def roofF (s : Sty) : Int := s.b0 + s.p0
def floorF (s : Sty) : Int := s.b2 + s.p2
def highF (s : Sty) (a : Int) : Int := max (if s.h.k = 1 then s.h.n else a) 0
end Go.Proofs.Ytlebbkhhhmempaa
