/- Contracts of small functions: struts, frames, lengths. -/
import Derived.Test.YtjhfcpadnofdnaaGreatApp
import Derived.Test.YtjhfcpadnofdnaaGreatProg
set_option linter.unusedSimpArgs false
set_option linter.unusedVariables false
namespace Go.Proofs.YtjhfcpadnofdnaaGreat
open Go.RowKit
structure Fl where
  side : Int
  x : Int
  y : Int
  w : Int
  h : Int
  deriving DecidableEq
def flCells (f : Fl) : List Value := [.int .u8 f.side, .int .i64 f.x, .int .i64 f.y, .int .i64 f.w, .int .i64 f.h]
def flsCells (l : List Fl) : List Value := l.flatMap flCells
theorem fl_len (x : Fl) : (flCells x).length = 5 := rfl
theorem flsCells_at (l : List Fl) : ∀ (k i : Nat) (hk : k < l.length), i < 5 → (flsCells l)[k * 5 + i]? = (flCells l[k])[i]? := by
  induction l with
  | nil => intro k i hk; simp at hk
  | cons a t ih =>
    intro k i hk hi
    have hc : flsCells (a :: t) = flCells a ++ flsCells t := by simp [flsCells]
    rw [hc]
    rcases k with _ | k
    · rw [List.getElem?_append_left (by rw [fl_len]; omega)]; simp
    · rw [List.getElem?_append_right (by rw [fl_len]; omega), fl_len, show (k + 1) * 5 + i - 5 = k * 5 + i by omega, ih k i (by simpa using hk) hi]
      simp
theorem Reads.fl {w : World} {B n k : Nat} {A : Option Addr} {l : List Fl} (h : Reads w B 5 A n (flsCells l)) (hn : n = l.length) (hk : k < l.length) :
    ∃ ad : Addr, A = some ad ∧ ad.block < B ∧ w.cell? (ad.add (k * 5)) = some (.int .u8 l[k].side) ∧ w.cell? ⟨ad.block, (ad.add (k * 5)).off + 1, none⟩ = some (.int .i64 l[k].x) ∧ w.cell? ⟨ad.block, (ad.add (k * 5)).off + 2, none⟩ = some (.int .i64 l[k].y) ∧
      w.cell? ⟨ad.block, (ad.add (k * 5)).off + 3, none⟩ = some (.int .i64 l[k].w) ∧ w.cell? ⟨ad.block, (ad.add (k * 5)).off + 4, none⟩ = some (.int .i64 l[k].h) := by
  obtain ⟨ad, e, hb, hc⟩ := h.2 (by omega)
  have ha : ∀ i, i ≠ 0 → (⟨ad.block, (ad.add (k * 5)).off + i, none⟩ : Addr) = ad.add (k * 5 + i) := by
    intro i hi
    rw [← add_of_add, show ∀ p : Addr, p.add i = ⟨p.block, p.off + i, none⟩ from fun p => by unfold Addr.add; rw [if_neg hi], block_of_add]
  have hg : ∀ i, i < 5 → ∀ u, (flCells l[k])[i]? = some u → w.cell? (ad.add (k * 5 + i)) = some u := fun i hi u hu => hc _ u (by rw [flsCells_at l k i hk hi]; exact hu)
  refine ⟨ad, e, hb, hg 0 (by omega) _ rfl, ?_, ?_, ?_, ?_⟩
  · rw [ha 1 (by omega)]; exact hg 1 (by omega) _ rfl
  · rw [ha 2 (by omega)]; exact hg 2 (by omega) _ rfl
  · rw [ha 3 (by omega)]; exact hg 3 (by omega) _ rfl
  · rw [ha 4 (by omega)]; exact hg 4 (by omega) _ rfl
/-- Floats whose numbers are small. -/
def FlB (b : Int) (l : List Fl) : Prop := ∀ f ∈ l, (-b ≤ f.x ∧ f.x ≤ b) ∧ (-b ≤ f.y ∧ f.y ≤ b) ∧ (0 ≤ f.w ∧ f.w ≤ b) ∧ (0 ≤ f.h ∧ f.h ≤ b)
theorem FlB.at_ {b : Int} {l : List Fl} (h : FlB b l) {k : Nat} (hk : k < l.length) : (-b ≤ l[k].x ∧ l[k].x ≤ b) ∧ (-b ≤ l[k].y ∧ l[k].y ≤ b) ∧ (0 ≤ l[k].w ∧ l[k].w ≤ b) ∧ (0 ≤ l[k].h ∧ l[k].h ≤ b) := h _ (List.getElem_mem hk)
theorem FlB.take {b : Int} {l : List Fl} (h : FlB b l) (k : Nat) : FlB b (l.take k) := fun f hf => h f (List.mem_of_mem_take hf)
theorem FlB.mono {b b' : Int} {l : List Fl} (h : FlB b l) (hb : b ≤ b') : FlB b' l := fun f hf => by have := h f hf; omega
/-! ### Margins -/
structure Stt where
  most : Int
  least : Int
  deriving DecidableEq
def roofF (s : Sty) : Int := s.b0 + s.p0
def floorF (s : Sty) : Int := s.b2 + s.p2
def highF (s : Sty) (a : Int) : Int := max (if s.h.k = 1 then s.h.n else a) 0
end Go.Proofs.YtjhfcpadnofdnaaGreat
namespace Go.Proofs.YtjhfcpadnofdnaaGreat
open Go.RowKit
attribute [local go_sem] block_of_add
theorem max_is (a b : Int) : ∃ X, Hid (X = max a b) := ⟨_, Lib.hid rfl⟩
theorem ssum_any (a b : Int) (w : World) (h : -9223372036854775808 ≤ a + b ∧ a + b < 9223372036854775808) :
    Calls Tryz.prog 228 #[.agg #[.int .i64 a, .int .i64 b]] w fun e w' => e = .returned (.int .i64 (a + b)) ∧ w.alloc (.cells #[.int .i64 a, .int .i64 b] 123) = w' := by
  have h1 : IntKind.i64.wrap (a + b) = a + b := IntWalk.i64_in _ ⟨by omega, by omega⟩
  go_enter Tryz.func228, Tryz.ntmps228
  go_wp2_with fail
  go_ret
  exact ⟨rfl, rfl⟩
/-- A style of the boxes of chapter 22's towers: numbers within 2^20, lengths in pixels or auto, no frame left and right. -/
structure StyT (s : Sty) : Prop where
  kind : s.kind = 1
  flow : s.flow = false
  hk : s.h.k = 0 ∨ s.h.k = 1
  hn : -1048576 ≤ s.h.n ∧ s.h.n ≤ 1048576
  maxh : s.maxh.k = 0
  minh : s.minh.k = 0
  m0 : (s.m0.k = 0 ∨ s.m0.k = 1) ∧ -1048576 ≤ s.m0.n ∧ s.m0.n ≤ 1048576
  m2 : (s.m2.k = 0 ∨ s.m2.k = 1) ∧ -1048576 ≤ s.m2.n ∧ s.m2.n ≤ 1048576
  b0 : 0 ≤ s.b0 ∧ s.b0 ≤ 1048576
  b2 : 0 ≤ s.b2 ∧ s.b2 ≤ 1048576
  p0 : 0 ≤ s.p0 ∧ s.p0 ≤ 1048576
  p2 : 0 ≤ s.p2 ∧ s.p2 ≤ 1048576
  b1 : s.b1 = 0
  b3 : s.b3 = 0
  p1 : s.p1 = 0
  p3 : s.p3 = 0
set_option maxRecDepth 100000 in
theorem roof_any (s : Sty) (w : World) (hs : StyT s) :
    Calls Tryz.prog 70 #[.agg (styCells s).toArray] w fun e w' => e = .returned (.int .i64 (roofF s)) ∧ w.alloc (.cells (styCells s).toArray 67) = w' := by
  have h1 : IntKind.i64.wrap (s.b0 + s.p0) = roofF s := IntWalk.i64_in _ (by have := hs.b0; have := hs.p0; omega)
  have y24 : (styCells s)[24]'(by rw [sty_len]; omega) = .int .i64 s.b0 := rfl
  have y28 : (styCells s)[28]'(by rw [sty_len]; omega) = .int .i64 s.p0 := rfl
  have z := sty_size s
  go_enter Tryz.func70, Tryz.ntmps70
  go_wp2_with fail
  go_ret
  exact ⟨rfl, rfl⟩
set_option maxRecDepth 100000 in
theorem frameT_any (s : Sty) (w : World) (hs : StyT s) :
    Calls Tryz.prog 82 #[.agg (styCells s).toArray] w fun e w' => e = .returned (.tuple #[.int .i64 0, .int .i64 (roofF s + floorF s)]) ∧ w.alloc (.cells (styCells s).toArray 67) = w' := by
  have e1 := hs.b1
  have e2 := hs.b3
  have e3 := hs.p1
  have e4 := hs.p3
  have h1 : IntKind.i64.wrap (s.b0 + s.b2) = s.b0 + s.b2 := IntWalk.i64_in _ (by have := hs.b0; have := hs.b2; omega)
  have h2 : IntKind.i64.wrap (s.b0 + s.b2 + s.p0) = s.b0 + s.b2 + s.p0 := IntWalk.i64_in _ (by have := hs.b0; have := hs.b2; have := hs.p0; omega)
  have h3 : IntKind.i64.wrap (s.b0 + s.b2 + s.p0 + s.p2) = roofF s + floorF s := by
    rw [IntWalk.i64_in _ (by have := hs.b0; have := hs.b2; have := hs.p0; have := hs.p2; omega)]; unfold roofF floorF; omega
  have y24 : (styCells s)[24]'(by rw [sty_len]; omega) = .int .i64 s.b0 := rfl
  have y25 : (styCells s)[25]'(by rw [sty_len]; omega) = .int .i64 0 := by rw [← e1]; rfl
  have y26 : (styCells s)[26]'(by rw [sty_len]; omega) = .int .i64 s.b2 := rfl
  have y27 : (styCells s)[27]'(by rw [sty_len]; omega) = .int .i64 0 := by rw [← e2]; rfl
  have y28 : (styCells s)[28]'(by rw [sty_len]; omega) = .int .i64 s.p0 := rfl
  have y29 : (styCells s)[29]'(by rw [sty_len]; omega) = .int .i64 0 := by rw [← e3]; rfl
  have y30 : (styCells s)[30]'(by rw [sty_len]; omega) = .int .i64 s.p2 := rfl
  have y31 : (styCells s)[31]'(by rw [sty_len]; omega) = .int .i64 0 := by rw [← e4]; rfl
  have z := sty_size s
  clear e1 e2 e3 e4
  go_enter Tryz.func82, Tryz.ntmps82
  go_wp2_with fail
  go_ret2
  exact ⟨rfl, rfl⟩
set_option maxRecDepth 100000 in
theorem high_any (s : Sty) (a : Int) (w : World) (hs : StyT s) :
    Calls Tryz.prog 83 #[.agg (styCells s).toArray, .int .i64 a] w fun e w' => e = .returned (.int .i64 (highF s a)) ∧ w.alloc (.cells (styCells s).toArray 67) = w' := by
  have e1 := hs.maxh
  have e2 := hs.minh
  have e3 := hs.hk
  have y6 : (styCells s)[6]'(by rw [sty_len]; omega) = .int .u8 s.h.k := rfl
  have y7 : (styCells s)[7]'(by rw [sty_len]; omega) = .int .i64 s.h.n := rfl
  have y12 : (styCells s)[12]'(by rw [sty_len]; omega) = .int .u8 0 := by rw [← e2]; rfl
  have y14 : (styCells s)[14]'(by rw [sty_len]; omega) = .int .u8 0 := by rw [← e1]; rfl
  have z := sty_size s
  clear e1 e2
  rcases e3 with e3 | e3
  · obtain ⟨X, HX⟩ := max_is a 0
    have e : highF s a = X := by rw [HX.out]; unfold highF; rw [if_neg (by omega)]
    rw [e]
    rw [e3] at y6
    clear e e3
    go_enter Tryz.func83, Tryz.ntmps83
    go_wp2_with fail
    all_goals
      have hx := HX.out
      clear HX
      go_ret
      exact ⟨by first | (rw [show X = 0 by omega]; rfl) | (rw [show X = a by omega]; rfl), rfl⟩
  · obtain ⟨X, HX⟩ := max_is s.h.n 0
    have e : highF s a = X := by rw [HX.out]; unfold highF; rw [if_pos e3]
    rw [e]
    rw [e3] at y6
    clear e e3
    go_enter Tryz.func83, Tryz.ntmps83
    go_wp2_with fail
    all_goals
      have hx := HX.out
      clear HX
      go_ret
      exact ⟨by first | (rw [show X = 0 by omega]; rfl) | (rw [show X = s.h.n by omega]; rfl), rfl⟩
end Go.Proofs.YtjhfcpadnofdnaaGreat
