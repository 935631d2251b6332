/- Styles, nodes and trees as cells. -/
import Derived.Test.YtlebbkhhhmempaaBase
import Derived.Deep.MidRow
set_option linter.unusedSimpArgs false
set_option linter.unusedVariables false
namespace Go.Proofs.Ytlebbkhhhmempaa
open Go.RowKit

/-- A length as a style says it. -/
structure Ln where
  k : Int
  n : Int
  deriving DecidableEq
structure Sty where
  kind : Int
  flow : Bool
  float : Int
  clear : Int
  w : Ln
  h : Ln
  minw : Ln
  maxw : Ln
  minh : Ln
  maxh : Ln
  m0 : Ln
  m1 : Ln
  m2 : Ln
  m3 : Ln
  b0 : Int
  b1 : Int
  b2 : Int
  b3 : Int
  p0 : Int
  p1 : Int
  p2 : Int
  p3 : Int
  align : Int
  line : Int
  wrap : Bool
  justify : Int
  items : Int
  order : Int
  grow : Int
  shrink : Int
  basis : Ln
  units : List Int
  uv : Value
/-- Its cells; the units' slice value is uv. -/
def styCells (s : Sty) : List Value := [.int .u8 s.kind, .bool s.flow, .int .u8 s.float, .int .u8 s.clear, .int .u8 s.w.k, .int .i64 s.w.n, .int .u8 s.h.k, .int .i64 s.h.n, .int .u8 s.minw.k, .int .i64 s.minw.n, .int .u8 s.maxw.k, .int .i64 s.maxw.n, .int .u8 s.minh.k, .int .i64 s.minh.n, .int .u8 s.maxh.k, .int .i64 s.maxh.n, .int .u8 s.m0.k, .int .i64 s.m0.n, .int .u8 s.m1.k, .int .i64 s.m1.n, .int .u8 s.m2.k, .int .i64 s.m2.n, .int .u8 s.m3.k, .int .i64 s.m3.n, .int .i64 s.b0, .int .i64 s.b1, .int .i64 s.b2, .int .i64 s.b3, .int .i64 s.p0, .int .i64 s.p1, .int .i64 s.p2, .int .i64 s.p3, .int .u8 s.align, .int .i64 s.line, .bool s.wrap, .int .u8 s.justify, .int .u8 s.items, .int .i64 s.order, .int .i64 s.grow, .int .i64 s.shrink, .int .u8 s.basis.k, .int .i64 s.basis.n, s.uv]
theorem sty_len (s : Sty) : (styCells s).length = 43 := rfl
theorem sty_size (s : Sty) : (styCells s).toArray.size = 43 := rfl
theorem sty_a0 (s : Sty) : (styCells s).toArray[0]? = some (.int .u8 s.kind) := rfl
theorem sty_a1 (s : Sty) : (styCells s).toArray[1]? = some (.bool s.flow) := rfl
theorem sty_a2 (s : Sty) : (styCells s).toArray[2]? = some (.int .u8 s.float) := rfl
theorem sty_a3 (s : Sty) : (styCells s).toArray[3]? = some (.int .u8 s.clear) := rfl
theorem sty_a4 (s : Sty) : (styCells s).toArray[4]? = some (.int .u8 s.w.k) := rfl
theorem sty_a5 (s : Sty) : (styCells s).toArray[5]? = some (.int .i64 s.w.n) := rfl
theorem sty_a6 (s : Sty) : (styCells s).toArray[6]? = some (.int .u8 s.h.k) := rfl
theorem sty_a7 (s : Sty) : (styCells s).toArray[7]? = some (.int .i64 s.h.n) := rfl
theorem sty_a8 (s : Sty) : (styCells s).toArray[8]? = some (.int .u8 s.minw.k) := rfl
theorem sty_a9 (s : Sty) : (styCells s).toArray[9]? = some (.int .i64 s.minw.n) := rfl
theorem sty_a10 (s : Sty) : (styCells s).toArray[10]? = some (.int .u8 s.maxw.k) := rfl
theorem sty_a11 (s : Sty) : (styCells s).toArray[11]? = some (.int .i64 s.maxw.n) := rfl
theorem sty_a12 (s : Sty) : (styCells s).toArray[12]? = some (.int .u8 s.minh.k) := rfl
theorem sty_a13 (s : Sty) : (styCells s).toArray[13]? = some (.int .i64 s.minh.n) := rfl
theorem sty_a14 (s : Sty) : (styCells s).toArray[14]? = some (.int .u8 s.maxh.k) := rfl
theorem sty_a15 (s : Sty) : (styCells s).toArray[15]? = some (.int .i64 s.maxh.n) := rfl
theorem sty_a16 (s : Sty) : (styCells s).toArray[16]? = some (.int .u8 s.m0.k) := rfl
theorem sty_a17 (s : Sty) : (styCells s).toArray[17]? = some (.int .i64 s.m0.n) := rfl
theorem sty_a18 (s : Sty) : (styCells s).toArray[18]? = some (.int .u8 s.m1.k) := rfl
theorem sty_a19 (s : Sty) : (styCells s).toArray[19]? = some (.int .i64 s.m1.n) := rfl
theorem sty_a20 (s : Sty) : (styCells s).toArray[20]? = some (.int .u8 s.m2.k) := rfl
theorem sty_a21 (s : Sty) : (styCells s).toArray[21]? = some (.int .i64 s.m2.n) := rfl
theorem sty_a22 (s : Sty) : (styCells s).toArray[22]? = some (.int .u8 s.m3.k) := rfl
theorem sty_a23 (s : Sty) : (styCells s).toArray[23]? = some (.int .i64 s.m3.n) := rfl
theorem sty_a24 (s : Sty) : (styCells s).toArray[24]? = some (.int .i64 s.b0) := rfl
theorem sty_a25 (s : Sty) : (styCells s).toArray[25]? = some (.int .i64 s.b1) := rfl
theorem sty_a26 (s : Sty) : (styCells s).toArray[26]? = some (.int .i64 s.b2) := rfl
theorem sty_a27 (s : Sty) : (styCells s).toArray[27]? = some (.int .i64 s.b3) := rfl
theorem sty_a28 (s : Sty) : (styCells s).toArray[28]? = some (.int .i64 s.p0) := rfl
theorem sty_a29 (s : Sty) : (styCells s).toArray[29]? = some (.int .i64 s.p1) := rfl
theorem sty_a30 (s : Sty) : (styCells s).toArray[30]? = some (.int .i64 s.p2) := rfl
theorem sty_a31 (s : Sty) : (styCells s).toArray[31]? = some (.int .i64 s.p3) := rfl
theorem sty_a32 (s : Sty) : (styCells s).toArray[32]? = some (.int .u8 s.align) := rfl
theorem sty_a33 (s : Sty) : (styCells s).toArray[33]? = some (.int .i64 s.line) := rfl
theorem sty_a34 (s : Sty) : (styCells s).toArray[34]? = some (.bool s.wrap) := rfl
theorem sty_a35 (s : Sty) : (styCells s).toArray[35]? = some (.int .u8 s.justify) := rfl
theorem sty_a36 (s : Sty) : (styCells s).toArray[36]? = some (.int .u8 s.items) := rfl
theorem sty_a37 (s : Sty) : (styCells s).toArray[37]? = some (.int .i64 s.order) := rfl
theorem sty_a38 (s : Sty) : (styCells s).toArray[38]? = some (.int .i64 s.grow) := rfl
theorem sty_a39 (s : Sty) : (styCells s).toArray[39]? = some (.int .i64 s.shrink) := rfl
theorem sty_a40 (s : Sty) : (styCells s).toArray[40]? = some (.int .u8 s.basis.k) := rfl
theorem sty_a41 (s : Sty) : (styCells s).toArray[41]? = some (.int .i64 s.basis.n) := rfl
theorem sty_a42 (s : Sty) : (styCells s).toArray[42]? = some (s.uv) := rfl
structure Nd where
  parent : Int
  s : Sty
def ndCells (x : Nd) : List Value := .int .i64 x.parent :: styCells x.s
def ndsCells (l : List Nd) : List Value := l.flatMap ndCells
theorem nd_len (x : Nd) : (ndCells x).length = 44 := rfl
theorem ndsCells_len (l : List Nd) : (ndsCells l).length = l.length * 44 := by
  induction l with
  | nil => rfl
  | cons a t ih =>
    have : ndsCells (a :: t) = ndCells a ++ ndsCells t := by simp [ndsCells]
    rw [this, List.length_append, nd_len, ih, List.length_cons]; omega
theorem ndsCells_at (l : List Nd) : ∀ (k i : Nat) (hk : k < l.length), i < 44 → (ndsCells l)[k * 44 + i]? = (ndCells l[k])[i]? := by
  induction l with
  | nil => intro k i hk; simp at hk
  | cons a t ih =>
    intro k i hk hi
    have hc : ndsCells (a :: t) = ndCells a ++ ndsCells t := by simp [ndsCells]
    rw [hc]
    rcases k with _ | k
    · rw [List.getElem?_append_left (by rw [nd_len]; omega)]; simp
    · rw [List.getElem?_append_right (by rw [nd_len]; omega), nd_len, show (k + 1) * 44 + i - 44 = k * 44 + i by omega, ih k i (by simpa using hk) hi]
      simp
/-- A node of a slice that reads as the list: its cells one by one (as the walk spells their places). -/
structure NdAt (w : World) (B : Nat) (p : Addr) (x : Nd) : Prop where
  lt : p.block < B
  par : w.cell? p = some (.int .i64 x.parent)
  cs : ∀ i u, (styCells x.s)[i]? = some u → w.cell? ⟨p.block, p.off + (1 + i), none⟩ = some u
theorem Reads.nd {w : World} {B n k : Nat} {A : Option Addr} {l : List Nd} (h : Reads w B 44 A n (ndsCells l)) (hn : n = l.length) (hk : k < l.length) :
    ∃ ad : Addr, A = some ad ∧ NdAt w B (ad.add (k * 44)) l[k] := by
  obtain ⟨ad, e, hb, hc⟩ := h.2 (by omega)
  refine ⟨ad, e, ⟨by rw [block_of_add]; exact hb, ?_, fun i u hu => ?_⟩⟩
  · exact hc _ _ (by have := ndsCells_at l k 0 hk (by omega); rw [Nat.add_zero] at this; rw [this]; rfl)
  · have hi : i < 43 := by have := (List.getElem?_eq_some_iff.1 hu).1; rw [sty_len] at this; exact this
    have ha : (⟨(ad.add (k * 44)).block, (ad.add (k * 44)).off + (1 + i), none⟩ : Addr) = ad.add (k * 44 + (1 + i)) := by
      rw [← add_of_add, show ∀ p : Addr, p.add (1 + i) = ⟨p.block, p.off + (1 + i), none⟩ from fun p => by unfold Addr.add; rw [if_neg (by omega)]]
    rw [ha]
    exact hc _ u (by rw [ndsCells_at l k (1 + i) hk (by omega), show 1 + i = i + 1 by omega]; exact hu)
theorem NdAt.keep {w w' : World} {B : Nat} {p : Addr} {x : Nd} (h : NdAt w B p x) (hk : ∀ q : Addr, q.block < B → w'.cell? q = w.cell? q) : NdAt w' B p x :=
  ⟨h.lt, (hk p h.lt).trans h.par, fun i u hu => (hk ⟨p.block, p.off + (1 + i), none⟩ h.lt).trans (h.cs i u hu)⟩
theorem NdAt.range {w : World} {B : Nat} {p : Addr} {x : Nd} (h : NdAt w B p x) : w.rangeAt p.block (p.off + 1) (styCells x.s) := fun j v hv => by
  have := h.cs j v hv
  rw [← Nat.add_assoc] at this
  exact this
/-- A tree: its nodes, its advances, its view, all of it below block B. -/
structure TreeAt (w : World) (B : Nat) (v : Value) (l : List Nd) (adv : List Int) (view : Int) : Prop where
  ex : ∃ A c A2 c2, v = .agg #[.slice A l.length c, .slice A2 adv.length c2, .int .i64 view] ∧ Reads w B 44 A l.length (ndsCells l) ∧ Reads w B 1 A2 adv.length (adv.map (Value.int .i64))
  un : ∀ x ∈ l, ∃ A c, x.s.uv = .slice A x.s.units.length c ∧ x.s.units.length ≤ c ∧ Reads w B 1 A x.s.units.length (x.s.units.map (Value.int .u16))
theorem TreeAt.keep {w w' : World} {B : Nat} {v : Value} {l : List Nd} {adv : List Int} {view : Int} (h : TreeAt w B v l adv view) (hk : ∀ q : Addr, q.block < B → w'.cell? q = w.cell? q) : TreeAt w' B v l adv view := by
  obtain ⟨⟨A, c, A2, c2, e, h1, h2⟩, hu⟩ := h
  refine ⟨⟨A, c, A2, c2, e, h1.keep hk, h2.keep hk⟩, fun x hx => ?_⟩
  obtain ⟨A3, c3, e3, h3, h4⟩ := hu x hx
  exact ⟨A3, c3, e3, h3, h4.keep hk⟩
theorem TreeAt.below {w w' : World} {B : Nat} {v : Value} {l : List Nd} {adv : List Int} {view : Int} (h : TreeAt w B v l adv view) (hb : Below B w w') : TreeAt w' B v l adv view := h.keep fun _ hp => hb.cell hp
end Go.Proofs.Ytlebbkhhhmempaa
