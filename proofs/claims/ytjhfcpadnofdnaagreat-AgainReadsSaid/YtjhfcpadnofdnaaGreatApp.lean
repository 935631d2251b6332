/- Appending behind a block whose number is a letter; the tables of the elements; other helpers. -/
import Derived.Test.YtjhfcpadnofdnaaGreatText
import Derived.Test.YtjhfcpadnofdnaaGreatBase
import Derived.Deep.MidRow
import Derived.BigQuiet
import Derived.Laws.StructEq
import Derived.Test.YtjhfcpadnofdnaaGreatProg
import Derived.OneCell
set_option linter.unusedSimpArgs false
set_option linter.unusedVariables false
namespace Go.Proofs.YtjhfcpadnofdnaaGreat
open Go.ChangeShapes Go.WideShapes Go.ChangeAt Go.RowKit
theorem u16_of_wf {n : Int} (h : (Lit.int .u16 n).wf = true) : 0 ≤ n ∧ n < 65536 := by
  have h1 : IntKind.u16.min = 0 := rfl
  have h2 : IntKind.u16.max = 65535 := rfl
  simp only [Lit.wf, Bool.and_eq_true, decide_eq_true_eq] at h
  omega
theorem i64_wf {n : Int} (h : (Lit.int .i64 n).wf = true) : -9223372036854775808 ≤ n ∧ n < 9223372036854775808 := by
  have h1 : IntKind.i64.min = -9223372036854775808 := rfl
  have h2 : IntKind.i64.max = 9223372036854775807 := rfl
  simp only [Lit.wf, Bool.and_eq_true, decide_eq_true_eq] at h
  omega
theorem flat_map1 (f : Int → Value) (l : List Int) : l.flatMap (fun x => [f x]) = l.map f := by
  induction l with
  | nil => rfl
  | cons a t ih => simp [List.flatMap_cons, ih]
section
variable {H : Type} {enc : TypeId × Value → H}
theorem reads_u16s {W : World} {v : Value} {d : DataW H} {ps : List MemPlace} (hlt : ∀ x ∈ ps, x.block < W.heap.size) (hv : ∃ A len c, v = .slice A len c) (h : DataW.Trod enc Tryz.prog W 0 (fun _ => true) true 65 v d ps) :
    ∃ A c, ∃ l : List Int, v = .slice A l.length c ∧ l.length ≤ c ∧ U16s l ∧ Reads W W.heap.size 1 A l.length (u16s l) := by
  obtain ⟨A, c, l, e, hc, hg, hr⟩ := reads_list (encd := fun x => [Value.int .u16 x]) (good := fun x => 0 ≤ x ∧ x < 65536) Tryz.underlying65 (show Tryz.prog.cellsOf 215 = 1 by kernel_rfl) (by omega) (fun n cs y hl h => by
    obtain ⟨x, e, -, hw⟩ := DataW.trod_int Tryz.underlying215 h
    exact ⟨x, e, u16_of_wf hw⟩) hlt hv h
  rw [flat_map1] at hr
  exact ⟨A, c, l, e, hc, hg, hr⟩
theorem reads_i64s {W : World} {v : Value} {d : DataW H} {ps : List MemPlace} (hlt : ∀ x ∈ ps, x.block < W.heap.size) (hv : ∃ A len c, v = .slice A len c) (h : DataW.Trod enc Tryz.prog W 0 (fun _ => true) true 23 v d ps) :
    ∃ A c, ∃ l : List Int, v = .slice A l.length c ∧ l.length ≤ c ∧ I64s l ∧ Reads W W.heap.size 1 A l.length (i64s l) := by
  obtain ⟨A, c, l, e, hc, hg, hr⟩ := reads_list (encd := fun x => [Value.int .i64 x]) (good := fun x => -9223372036854775808 ≤ x ∧ x < 9223372036854775808) Tryz.underlying23 (show Tryz.prog.cellsOf 2 = 1 by kernel_rfl) (by omega) (fun n cs y hl h => by
    obtain ⟨x, e, -, hw⟩ := DataW.trod_int Tryz.underlying2 h
    exact ⟨x, e, i64_wf hw⟩) hlt hv h
  rw [flat_map1] at hr
  exact ⟨A, c, l, e, hc, hg, hr⟩
end
end Go.Proofs.YtjhfcpadnofdnaaGreat
namespace Go.Proofs.YtjhfcpadnofdnaaGreat
open Go.RowKit
/-- A length as a style says it. -/
structure Ln where
  k : Int
  n : Int
  deriving DecidableEq
structure Sty where
  kind : Int
  flow : Bool
  float : Int
  clear : Int
  w : Ln
  h : Ln
  minw : Ln
  maxw : Ln
  minh : Ln
  maxh : Ln
  m0 : Ln
  m1 : Ln
  m2 : Ln
  m3 : Ln
  b0 : Int
  b1 : Int
  b2 : Int
  b3 : Int
  p0 : Int
  p1 : Int
  p2 : Int
  p3 : Int
  align : Int
  line : Int
  wrap : Bool
  justify : Int
  items : Int
  order : Int
  grow : Int
  shrink : Int
  basis : Ln
  units : List Int
  uv : Value
/-- Its cells; the units' slice value is uv. -/
def styCells (s : Sty) : List Value := [.int .u8 s.kind, .bool s.flow, .int .u8 s.float, .int .u8 s.clear, .int .u8 s.w.k, .int .i64 s.w.n, .int .u8 s.h.k, .int .i64 s.h.n, .int .u8 s.minw.k, .int .i64 s.minw.n, .int .u8 s.maxw.k, .int .i64 s.maxw.n, .int .u8 s.minh.k, .int .i64 s.minh.n, .int .u8 s.maxh.k, .int .i64 s.maxh.n, .int .u8 s.m0.k, .int .i64 s.m0.n, .int .u8 s.m1.k, .int .i64 s.m1.n, .int .u8 s.m2.k, .int .i64 s.m2.n, .int .u8 s.m3.k, .int .i64 s.m3.n, .int .i64 s.b0, .int .i64 s.b1, .int .i64 s.b2, .int .i64 s.b3, .int .i64 s.p0, .int .i64 s.p1, .int .i64 s.p2, .int .i64 s.p3, .int .u8 s.align, .int .i64 s.line, .bool s.wrap, .int .u8 s.justify, .int .u8 s.items, .int .i64 s.order, .int .i64 s.grow, .int .i64 s.shrink, .int .u8 s.basis.k, .int .i64 s.basis.n, s.uv]
theorem sty_len (s : Sty) : (styCells s).length = 43 := rfl
theorem sty_size (s : Sty) : (styCells s).toArray.size = 43 := rfl
theorem sty_a0 (s : Sty) : (styCells s).toArray[0]? = some (.int .u8 s.kind) := rfl
theorem sty_a1 (s : Sty) : (styCells s).toArray[1]? = some (.bool s.flow) := rfl
theorem sty_a2 (s : Sty) : (styCells s).toArray[2]? = some (.int .u8 s.float) := rfl
theorem sty_a3 (s : Sty) : (styCells s).toArray[3]? = some (.int .u8 s.clear) := rfl
theorem sty_a4 (s : Sty) : (styCells s).toArray[4]? = some (.int .u8 s.w.k) := rfl
theorem sty_a5 (s : Sty) : (styCells s).toArray[5]? = some (.int .i64 s.w.n) := rfl
theorem sty_a6 (s : Sty) : (styCells s).toArray[6]? = some (.int .u8 s.h.k) := rfl
theorem sty_a7 (s : Sty) : (styCells s).toArray[7]? = some (.int .i64 s.h.n) := rfl
theorem sty_a8 (s : Sty) : (styCells s).toArray[8]? = some (.int .u8 s.minw.k) := rfl
theorem sty_a9 (s : Sty) : (styCells s).toArray[9]? = some (.int .i64 s.minw.n) := rfl
theorem sty_a10 (s : Sty) : (styCells s).toArray[10]? = some (.int .u8 s.maxw.k) := rfl
theorem sty_a11 (s : Sty) : (styCells s).toArray[11]? = some (.int .i64 s.maxw.n) := rfl
theorem sty_a12 (s : Sty) : (styCells s).toArray[12]? = some (.int .u8 s.minh.k) := rfl
theorem sty_a13 (s : Sty) : (styCells s).toArray[13]? = some (.int .i64 s.minh.n) := rfl
theorem sty_a14 (s : Sty) : (styCells s).toArray[14]? = some (.int .u8 s.maxh.k) := rfl
theorem sty_a15 (s : Sty) : (styCells s).toArray[15]? = some (.int .i64 s.maxh.n) := rfl
theorem sty_a18 (s : Sty) : (styCells s).toArray[18]? = some (.int .u8 s.m1.k) := rfl
theorem sty_a19 (s : Sty) : (styCells s).toArray[19]? = some (.int .i64 s.m1.n) := rfl
theorem sty_a22 (s : Sty) : (styCells s).toArray[22]? = some (.int .u8 s.m3.k) := rfl
theorem sty_a23 (s : Sty) : (styCells s).toArray[23]? = some (.int .i64 s.m3.n) := rfl
theorem sty_a32 (s : Sty) : (styCells s).toArray[32]? = some (.int .u8 s.align) := rfl
theorem sty_a33 (s : Sty) : (styCells s).toArray[33]? = some (.int .i64 s.line) := rfl
theorem sty_a34 (s : Sty) : (styCells s).toArray[34]? = some (.bool s.wrap) := rfl
theorem sty_a35 (s : Sty) : (styCells s).toArray[35]? = some (.int .u8 s.justify) := rfl
theorem sty_a36 (s : Sty) : (styCells s).toArray[36]? = some (.int .u8 s.items) := rfl
theorem sty_a37 (s : Sty) : (styCells s).toArray[37]? = some (.int .i64 s.order) := rfl
theorem sty_a38 (s : Sty) : (styCells s).toArray[38]? = some (.int .i64 s.grow) := rfl
theorem sty_a39 (s : Sty) : (styCells s).toArray[39]? = some (.int .i64 s.shrink) := rfl
theorem sty_a40 (s : Sty) : (styCells s).toArray[40]? = some (.int .u8 s.basis.k) := rfl
theorem sty_a41 (s : Sty) : (styCells s).toArray[41]? = some (.int .i64 s.basis.n) := rfl
theorem sty_a42 (s : Sty) : (styCells s).toArray[42]? = some (s.uv) := rfl
structure Nd where
  parent : Int
  s : Sty
def ndCells (x : Nd) : List Value := .int .i64 x.parent :: styCells x.s
def ndsCells (l : List Nd) : List Value := l.flatMap ndCells
theorem nd_len (x : Nd) : (ndCells x).length = 44 := rfl
theorem ndsCells_at (l : List Nd) : ∀ (k i : Nat) (hk : k < l.length), i < 44 → (ndsCells l)[k * 44 + i]? = (ndCells l[k])[i]? := by
  induction l with
  | nil => intro k i hk; simp at hk
  | cons a t ih =>
    intro k i hk hi
    have hc : ndsCells (a :: t) = ndCells a ++ ndsCells t := by simp [ndsCells]
    rw [hc]
    rcases k with _ | k
    · rw [List.getElem?_append_left (by rw [nd_len]; omega)]; simp
    · rw [List.getElem?_append_right (by rw [nd_len]; omega), nd_len, show (k + 1) * 44 + i - 44 = k * 44 + i by omega, ih k i (by simpa using hk) hi]
      simp
/-- A node of a slice that reads as the list: its cells one by one (as the walk spells their places). -/
structure NdAt (w : World) (B : Nat) (p : Addr) (x : Nd) : Prop where
  lt : p.block < B
  par : w.cell? p = some (.int .i64 x.parent)
  cs : ∀ i u, (styCells x.s)[i]? = some u → w.cell? ⟨p.block, p.off + (1 + i), none⟩ = some u
theorem Reads.nd {w : World} {B n k : Nat} {A : Option Addr} {l : List Nd} (h : Reads w B 44 A n (ndsCells l)) (hn : n = l.length) (hk : k < l.length) :
    ∃ ad : Addr, A = some ad ∧ NdAt w B (ad.add (k * 44)) l[k] := by
  obtain ⟨ad, e, hb, hc⟩ := h.2 (by omega)
  refine ⟨ad, e, ⟨by rw [block_of_add]; exact hb, ?_, fun i u hu => ?_⟩⟩
  · exact hc _ _ (by have := ndsCells_at l k 0 hk (by omega); rw [Nat.add_zero] at this; rw [this]; rfl)
  · have hi : i < 43 := by have := (List.getElem?_eq_some_iff.1 hu).1; rw [sty_len] at this; exact this
    have ha : (⟨(ad.add (k * 44)).block, (ad.add (k * 44)).off + (1 + i), none⟩ : Addr) = ad.add (k * 44 + (1 + i)) := by
      rw [← add_of_add, show ∀ p : Addr, p.add (1 + i) = ⟨p.block, p.off + (1 + i), none⟩ from fun p => by unfold Addr.add; rw [if_neg (by omega)]]
    rw [ha]
    exact hc _ u (by rw [ndsCells_at l k (1 + i) hk (by omega), show 1 + i = i + 1 by omega]; exact hu)
theorem NdAt.keep {w w' : World} {B : Nat} {p : Addr} {x : Nd} (h : NdAt w B p x) (hk : ∀ q : Addr, q.block < B → w'.cell? q = w.cell? q) : NdAt w' B p x :=
  ⟨h.lt, (hk p h.lt).trans h.par, fun i u hu => (hk ⟨p.block, p.off + (1 + i), none⟩ h.lt).trans (h.cs i u hu)⟩
theorem NdAt.range {w : World} {B : Nat} {p : Addr} {x : Nd} (h : NdAt w B p x) : w.rangeAt p.block (p.off + 1) (styCells x.s) := fun j v hv => by
  have := h.cs j v hv
  rw [← Nat.add_assoc] at this
  exact this
/-- A tree: its nodes, its advances, its view, all of it below block B. -/
structure TreeAt (w : World) (B : Nat) (v : Value) (l : List Nd) (adv : List Int) (view : Int) : Prop where
  ex : ∃ A c A2 c2, v = .agg #[.slice A l.length c, .slice A2 adv.length c2, .int .i64 view] ∧ Reads w B 44 A l.length (ndsCells l) ∧ Reads w B 1 A2 adv.length (adv.map (Value.int .i64))
  un : ∀ x ∈ l, ∃ A c, x.s.uv = .slice A x.s.units.length c ∧ x.s.units.length ≤ c ∧ Reads w B 1 A x.s.units.length (x.s.units.map (Value.int .u16))
theorem TreeAt.keep {w w' : World} {B : Nat} {v : Value} {l : List Nd} {adv : List Int} {view : Int} (h : TreeAt w B v l adv view) (hk : ∀ q : Addr, q.block < B → w'.cell? q = w.cell? q) : TreeAt w' B v l adv view := by
  obtain ⟨⟨A, c, A2, c2, e, h1, h2⟩, hu⟩ := h
  refine ⟨⟨A, c, A2, c2, e, h1.keep hk, h2.keep hk⟩, fun x hx => ?_⟩
  obtain ⟨A3, c3, e3, h3, h4⟩ := hu x hx
  exact ⟨A3, c3, e3, h3, h4.keep hk⟩
theorem TreeAt.below {w w' : World} {B : Nat} {v : Value} {l : List Nd} {adv : List Int} {view : Int} (h : TreeAt w B v l adv view) (hb : Below B w w') : TreeAt w' B v l adv view := h.keep fun _ hp => hb.cell hp
end Go.Proofs.YtjhfcpadnofdnaaGreat
namespace Go.Proofs.YtjhfcpadnofdnaaGreat
/-- A word's place, and what stands between it and the word ahead. -/
structure Sp where
  fr : Nat
  up : Nat
  ends : Nat
  sp : Bool
/-- Where the reader stands: the word at hand, whether it is inside of it, the words behind. -/
structure Sc where
  s : Sp
  ins : Bool
  out : List Sp
def Sp.nil : Sp := ⟨0, 0, 0, false⟩
def gap (u : Int) : Bool := decide (u = 32) || decide (u = 10)
end Go.Proofs.YtjhfcpadnofdnaaGreat
set_option linter.unusedSimpArgs false
set_option linter.unusedVariables false
namespace Go.Proofs.YtjhfcpadnofdnaaGreat
open Go.RowKit
/-- A word, as api.Word has it. -/
structure Wd where
  fr : Int
  up : Int
  w : Int
  gap : Int
  forced : Int
def wdCells (x : Wd) : List Value := [.int .i64 x.fr, .int .i64 x.up, .int .i64 x.w, .int .i64 x.gap, .int .i64 x.forced]
def wdsCells (l : List Wd) : List Value := l.flatMap wdCells
def part (l : List Int) (s : Sp) : List Int := (l.drop s.fr).take (s.up - s.fr)
end Go.Proofs.YtjhfcpadnofdnaaGreat
set_option linter.unusedSimpArgs false
set_option linter.unusedVariables false
namespace Go.Proofs.YtjhfcpadnofdnaaGreat
open Go.RowKit
attribute [local go_sem] block_of_add
theorem Wd.ext_iff' (a b : Wd) : a = b ↔ a.fr = b.fr ∧ a.up = b.up ∧ a.w = b.w ∧ a.gap = b.gap ∧ a.forced = b.forced := by
  constructor
  · rintro rfl; simp
  · rintro ⟨h1, h2, h3, h4, h5⟩; cases a; cases b; simp_all
instance : DecidableEq Wd := fun a b => decidable_of_iff _ (Wd.ext_iff' a b).symm
theorem wdsCells_at (l : List Wd) : ∀ (k i : Nat) (hk : k < l.length), i < 5 → (wdsCells l)[k * 5 + i]? = (wdCells l[k])[i]? := by
  induction l with
  | nil => intro k i hk; simp at hk
  | cons a t ih =>
    intro k i hk hi
    have hl : (wdCells a).length = 5 := rfl
    have hc : wdsCells (a :: t) = wdCells a ++ wdsCells t := by simp [wdsCells]
    rw [hc]
    rcases k with _ | k
    · rw [List.getElem?_append_left (by omega)]; simp
    · rw [List.getElem?_append_right (by omega), show (k + 1) * 5 + i - (wdCells a).length = k * 5 + i by omega, ih k i (by simpa using hk) hi]
      simp
theorem Reads.wd {w : World} {B n k : Nat} {A : Option Addr} {l : List Wd} (h : Reads w B 5 A n (wdsCells l)) (hn : n = l.length) (hk : k < l.length) :
    ∃ ad : Addr, A = some ad ∧ ad.block < B ∧ w.cell? (ad.add (k * 5)) = some (.int .i64 l[k].fr) ∧ w.cell? ⟨ad.block, (ad.add (k * 5)).off + 1, none⟩ = some (.int .i64 l[k].up) ∧ w.cell? ⟨ad.block, (ad.add (k * 5)).off + 2, none⟩ = some (.int .i64 l[k].w) ∧
      w.cell? ⟨ad.block, (ad.add (k * 5)).off + 3, none⟩ = some (.int .i64 l[k].gap) ∧ w.cell? ⟨ad.block, (ad.add (k * 5)).off + 4, none⟩ = some (.int .i64 l[k].forced) := by
  obtain ⟨ad, e, hb, hc⟩ := h.2 (by omega)
  have ha : ∀ i, i ≠ 0 → (⟨ad.block, (ad.add (k * 5)).off + i, none⟩ : Addr) = ad.add (k * 5 + i) := by
    intro i hi
    rw [← add_of_add, show ∀ p : Addr, p.add i = ⟨p.block, p.off + i, none⟩ from fun p => by unfold Addr.add; rw [if_neg hi], block_of_add]
  have hg : ∀ i, i < 5 → ∀ u, (wdCells l[k])[i]? = some u → w.cell? (ad.add (k * 5 + i)) = some u := fun i hi u hu => hc _ u (by rw [wdsCells_at l k i hk hi]; exact hu)
  refine ⟨ad, e, hb, hg 0 (by omega) _ rfl, ?_, ?_, ?_, ?_⟩
  · rw [ha 1 (by omega)]; exact hg 1 (by omega) _ rfl
  · rw [ha 2 (by omega)]; exact hg 2 (by omega) _ rfl
  · rw [ha 3 (by omega)]; exact hg 3 (by omega) _ rfl
  · rw [ha 4 (by omega)]; exact hg 4 (by omega) _ rfl
theorem eqW (a1 a2 a3 a4 a5 b1 b2 b3 b4 b5 : Int) (w : World) : (Op.equalIn 10000 213 (.agg #[.int .i64 a1, .int .i64 a2, .int .i64 a3, .int .i64 a4, .int .i64 a5]) (.agg #[.int .i64 b1, .int .i64 b2, .int .i64 b3, .int .i64 b4, .int .i64 b5])).run Tryz.prog w = .ok (a1 == b1 && a2 == b2 && a3 == b3 && a4 == b4 && a5 == b5) w := by
  have u2 := Tryz.underlying2
  have u3 := Tryz.underlying3
  have g2 := Tryz.isAgg2
  have g3 := Tryz.isAgg3
  have z2 := Tryz.sizeOf2
  have z3 := Tryz.sizeOf3
  have hS : Tryz.prog.underlying 213 = some (.struct (Tryz.prog.fieldsOf 213)) := by kernel_rfl
  have hp : Tryz.prog.stoodInHeld 213 = false := by kernel_rfl
  rw [show (10000 : Nat) = 9999 + 1 from rfl, run_equalIn_agg w 9999 213 _ _ hS hp]
  simp only [Program.fieldsOf, Tryz.underlying213]
  go_simp
  by_cases h1 : a1 = b1 <;> by_cases h2 : a2 = b2 <;> by_cases h3 : a3 = b3 <;> by_cases h4 : a4 = b4 <;> by_cases h5 : a5 = b5 <;> simp [h1, h2, h3, h4, h5]
theorem Wd.cases (x y : Wd) : x = y ∨ x ≠ y ∧ (x.fr ≠ y.fr ∨ x.fr = y.fr ∧ x.up ≠ y.up ∨ x.fr = y.fr ∧ x.up = y.up ∧ x.w ≠ y.w ∨ x.fr = y.fr ∧ x.up = y.up ∧ x.w = y.w ∧ x.gap ≠ y.gap ∨ x.fr = y.fr ∧ x.up = y.up ∧ x.w = y.w ∧ x.gap = y.gap ∧ x.forced ≠ y.forced) := by
  by_cases h : x = y
  · exact .inl h
  · refine .inr ⟨h, ?_⟩
    rw [Wd.ext_iff'] at h
    by_cases h1 : x.fr = y.fr <;> by_cases h2 : x.up = y.up <;> by_cases h3 : x.w = y.w <;> by_cases h4 : x.gap = y.gap <;> by_cases h5 : x.forced = y.forced <;> simp_all
theorem guardW (op : BinOp) (x y : Operand) (xs ys : Array Value) (w : World) : (eqGuard op 213 x y (.agg xs) (.agg ys)).run Tryz.prog w = .ok () w := run_eqGuard_agg w op _ x y xs ys (by kernel_rfl)
attribute [local go_sem] eqW guardW
end Go.Proofs.YtjhfcpadnofdnaaGreat
namespace Go.Proofs.YtjhfcpadnofdnaaGreat
/-- What a reader holds behind words: least, greatest, far, the row at hand. -/
structure Ex where
  least : Int
  great : Int
  far : Bool
  row : Int
def W64 (x : Wd) : Prop := (-9223372036854775808 ≤ x.w ∧ x.w < 9223372036854775808) ∧ (-9223372036854775808 ≤ x.gap ∧ x.gap < 9223372036854775808)
def Ws64 (l : List Wd) : Prop := ∀ x ∈ l, W64 x
theorem Ws64.at_ {l : List Wd} (h : Ws64 l) {k : Nat} (hk : k < l.length) : W64 l[k] := h _ (List.getElem_mem hk)
end Go.Proofs.YtjhfcpadnofdnaaGreat
namespace Go.Proofs.YtjhfcpadnofdnaaGreat
structure Cn where
  least : Int
  greatest : Int
  ol : Int
  og : Int
  deriving DecidableEq
def cnCells (c : Cn) : List Value := [.int .i64 c.least, .int .i64 c.greatest, .int .i64 c.ol, .int .i64 c.og]
def gAt (got : List Cn) (k : Nat) : Cn := (got[k]?).getD ⟨0, 0, 0, 0⟩
def allF (got : List Cn) (n : Nat) : List Cn := (List.range n).map (gAt got)
def mostF (l : List Int) : Int := l.foldl max 0
def frameF (s : Sty) : Int := s.b3 + s.b1 + s.p3 + s.p1
def bareF (l : Ln) : Int := if l.k = 1 then l.n else 0
/-- How wide a box is whose contents are v wide. -/
def out1 (s : Sty) (v : Int) : Int := if s.w.k = 1 then s.w.n else v
/-- A style's numbers are within their bounds. -/
structure StyB (s : Sty) : Prop where
  w : 0 ≤ s.w.n ∧ s.w.n ≤ 1099511627776
  maxw : 0 ≤ s.maxw.n ∧ s.maxw.n ≤ 1099511627776
  minw : 0 ≤ s.minw.n ∧ s.minw.n ≤ 1099511627776
  m1 : -1099511627776 ≤ s.m1.n ∧ s.m1.n ≤ 1099511627776
  m3 : -1099511627776 ≤ s.m3.n ∧ s.m3.n ≤ 1099511627776
  b1 : 0 ≤ s.b1 ∧ s.b1 ≤ 1099511627776
  b3 : 0 ≤ s.b3 ∧ s.b3 ≤ 1099511627776
  p1 : 0 ≤ s.p1 ∧ s.p1 ≤ 1099511627776
  p3 : 0 ≤ s.p3 ∧ s.p3 ≤ 1099511627776
end Go.Proofs.YtjhfcpadnofdnaaGreat
namespace Go.Proofs.YtjhfcpadnofdnaaGreat
open Go.RowKit
/-- Of what was there nothing has turned but the blocks that are named. -/
structure Kp (bad : Nat → Prop) (w w' : World) : Prop where
  os : w'.os = w.os
  tape : w'.tape = w.tape
  output : w'.output = w.output
  size : w.heap.size ≤ w'.heap.size
  block : ∀ k, k < w.heap.size → ¬ bad k → w'.heap[k]? = w.heap[k]?
section
variable {bad bad' : Nat → Prop} {a b w w' : World} {B g : Nat} {t : TypeId} {cs : Array Value}
theorem Kp.refl (bad : Nat → Prop) (w : World) : Kp bad w w := ⟨rfl, rfl, rfl, Nat.le_refl _, fun _ _ _ => rfl⟩
theorem Kp.trans (h : Kp bad a b) (k : Kp bad b w) : Kp bad a w :=
  ⟨k.os.trans h.os, k.tape.trans h.tape, k.output.trans h.output, Nat.le_trans h.size k.size, fun i hi hn => (k.block i (Nat.lt_of_lt_of_le hi h.size) hn).trans (h.block i hi hn)⟩
theorem Kp.mono (h : Kp bad a b) (hb : ∀ k, bad k → bad' k) : Kp bad' a b := ⟨h.os, h.tape, h.output, h.size, fun k hk hn => h.block k hk fun x => hn (hb k x)⟩
theorem Kp.drew (h : Kp bad a w) : Kp bad a w.drew := ⟨h.os, h.tape, h.output, h.size, h.block⟩
theorem Kp.drewN (h : Kp bad a w) (n : Nat) : Kp bad a (w.drewN n) := ⟨h.os, h.tape, h.output, h.size, h.block⟩
theorem Kp.alloc (h : Kp bad a w) (o : Obj) : Kp bad a (w.alloc o) := h.trans ⟨rfl, rfl, rfl, by simp, fun k hk _ => Below.heap_alloc _ _ _ hk⟩
theorem Kp.setCell (h : Kp bad a w) {p : Addr} (hp : bad p.block ∨ a.heap.size ≤ p.block) (u : Value) : Kp bad a (w.setCell p u) :=
  ⟨h.os, h.tape, h.output, by simpa [World.setCell] using h.size, fun k hk hn => (Below.heap_setCell w p u k (by
    rintro rfl
    rcases hp with hp | hp
    · exact hn hp
    · omega)).trans (h.block k hk hn)⟩
theorem Kp.below (h : Kp bad w w') (hb : ∀ k, bad k → B ≤ k) (hB : B ≤ w.heap.size) : Below B w w' := ⟨h.os, h.tape, h.output, h.size, fun k hk => h.block k (by omega) (fun x => by have := hb k x; omega)⟩
theorem Kp.grown {row : Option Nat} (h : Kp bad a w) (hg : w.grownBy w' row) (hr : ∀ g, row = some g → bad g ∨ a.heap.size ≤ g) : Kp bad a w' :=
  ⟨hg.os.trans h.os, hg.tape.trans h.tape, hg.output.trans h.output, Nat.le_trans h.size hg.size, fun k hk hn => (hg.block k (Nat.lt_of_lt_of_le hk h.size) (fun e => by
    rcases hr k e.symm with x | x
    · exact hn x
    · omega)).trans (h.block k hk hn)⟩
theorem Kp.cell (h : Kp bad w w') {p : Addr} (hp : p.block < w.heap.size) (hn : ¬ bad p.block) : w'.cell? p = w.cell? p := World.cell?_of_block (w := w) (h.block p.block hp hn)
theorem Kp.frozen (h : Kp bad w w') {p : Addr} (hp : p.block < w.heap.size) (hn : ¬ bad p.block) : w'.frozen? p = w.frozen? p := World.frozen?_of_block (w := w) (h.block p.block hp hn)
theorem Blk.kp (h : Blk w g t cs) (hk : Kp bad w w') (hn : ¬ bad g) : Blk w' g t cs := (hk.block g h.lt hn).trans h
theorem own_kp {base : Nat} {e : TypeId} {size n : Nat} {v : Value} {xs : List Value} (h : w.ownsRow base e size v n xs) (hk : Kp bad w w') (hn : ∀ g, v.ownBlock = some g → ¬ bad g) : w'.ownsRow base e size v n xs := by
  obtain ⟨h1, h2⟩ := h
  refine ⟨h1, ?_⟩
  rcases h2 with h2 | ⟨g, cap, cur, hv, hb, hh, hr⟩
  · exact .inl h2
  · have hl : g < w.heap.size := (Array.getElem?_eq_some_iff.1 hh).1
    exact .inr ⟨g, cap, cur, hv, hb, (hk.block g hl (hn g (by rw [hv]; simp [Value.ownBlock]))).trans hh, hr⟩
theorem Reads.kp {B size n : Nat} {A : Option Addr} {xs : List Value} (h : Reads w B size A n xs) (hk : Kp bad w w') (hB : B ≤ w.heap.size) (hn : ∀ k, bad k → B ≤ k) : Reads w' B size A n xs := h.below (hk.below hn hB)
end
end Go.Proofs.YtjhfcpadnofdnaaGreat
namespace Go.Proofs.YtjhfcpadnofdnaaGreat
open Go.RowKit
theorem wpList_appG {P : Program} {w : World} {o : Oper} {a : Act} {t e : TypeId} {z : Value} {size bytes base n m : Nat} {v : Value} {xs : List Value} {ops : Array Oper} {rest : List Oper} {Q : Exit → Act → World → Prop} (hgd : o.guard = none) (s x : Operand)
    (ho : o.op = .call { callee := .builtin .append, args := #[s, x], argTypes := #[t, t] }) (hE : El P t e z size bytes) (hown : w.ownsRow base e size v n xs) (hbase : base ≤ w.heap.size) (hs : a.eval s = v)
    (news : List Value) {g : Nat} (hx : a.eval x = .slice (some ⟨g, 0, none⟩) m m) (hgs : g = w.heap.size) (hl : news.length = m * size) (h1 : ∀ u ∈ news, u.oneCell' = true) (h63 : n + m ≤ 4294967296) (hby : bytes ≤ 32768)
    (h : ∀ A' c' w', w'.ownsRow base e size (.slice A' (n + m) c') (n + m) (xs ++ news) → (∀ B w0, B ≤ base → Below B w0 w → Below B w0 w') → w.grownBy w' v.ownBlock →
      ((Value.slice A' (n + m) c').ownBlock = v.ownBlock ∨ w.heap.size ≤ ((Value.slice A' (n + m) c').ownBlock).getD w.heap.size) → wpList P ops Q rest (a.put o.dst (.slice A' (n + m) c')) w') :
    wpList P ops Q (o :: rest) a (w.alloc (.cells news.toArray e)) := by
  subst hgs
  exact wpList_app hgd s x ho hE hown hbase hs news hx hl h1 h63 hby h
theorem step_appG {P : Program} {w : World} {o : Oper} {a : Act} {t e : TypeId} {z : Value} {size bytes base n m : Nat} {v : Value} {xs : List Value} {ops : Array Oper} {K : Act → World → Prop} {Q : Exit → Act → World → Prop} {E : Prop} (hgd : o.guard = none) (s x : Operand)
    (ho : o.op = .call { callee := .builtin .append, args := #[s, x], argTypes := #[t, t] }) (hE : El P t e z size bytes) (hown : w.ownsRow base e size v n xs) (hbase : base ≤ w.heap.size) (hs : a.eval s = v)
    (news : List Value) {g : Nat} (hx : a.eval x = .slice (some ⟨g, 0, none⟩) m m) (hgs : g = w.heap.size) (hl : news.length = m * size) (h1 : ∀ u ∈ news, u.oneCell' = true) (h63 : n + m ≤ 4294967296) (hby : bytes ≤ 32768)
    (h : ∀ A' c' w', w'.ownsRow base e size (.slice A' (n + m) c') (n + m) (xs ++ news) → (∀ B w0, B ≤ base → Below B w0 w → Below B w0 w') → w.grownBy w' v.ownBlock →
      ((Value.slice A' (n + m) c').ownBlock = v.ownBlock ∨ w.heap.size ≤ ((Value.slice A' (n + m) c').ownBlock).getD w.heap.size) → K (a.put o.dst (.slice A' (n + m) c')) w') :
    if Region.wanted o (yielded ops a.tmps) = true then Oper.wp P o a (w.alloc (.cells news.toArray e)) K Q else E := by
  subst hgs
  exact step_app hgd s x ho hE hown hbase hs news hx hl h1 h63 hby h
theorem el_int2 : El Tryz.prog 50 3 (.int .i64 0) 1 8 := ⟨Tryz.underlying50, by kernel_rfl, rfl, by decide⟩
end Go.Proofs.YtjhfcpadnofdnaaGreat
