/- Appending behind a block whose number is a letter; the tables of the elements; other helpers. -/
import Derived.Test.YtbopeofglhkffaaSty
import Derived.BigQuiet
import Derived.Laws.StructEq
import Derived.Test.YtbopeofglhkffaaRowk
import Derived.Test.YtbopeofglhkffaaProg
import Derived.OneCell
set_option linter.unusedSimpArgs false
set_option linter.unusedVariables false
namespace Go.Proofs.Ytbopeofglhkffaa
/-- A word's place, and what stands between it and the word ahead. -/
structure Sp where
  fr : Nat
  up : Nat
  ends : Nat
  sp : Bool
/-- Where the reader stands: the word at hand, whether it is inside of it, the words behind. -/
structure Sc where
  s : Sp
  ins : Bool
  out : List Sp
def Sp.nil : Sp := ⟨0, 0, 0, false⟩
def gap (u : Int) : Bool := decide (u = 32) || decide (u = 10)
def scStep (c : Sc) (i : Nat) (u : Int) : Sc :=
  if u = 32 then
    if c.ins then ⟨⟨0, 0, 0, true⟩, false, c.out ++ [⟨c.s.fr, i, c.s.ends, c.s.sp⟩]⟩ else ⟨⟨c.s.fr, c.s.up, c.s.ends, true⟩, false, c.out⟩
  else if u = 10 then
    if c.ins then ⟨⟨0, 0, 1, false⟩, false, c.out ++ [⟨c.s.fr, i, c.s.ends, c.s.sp⟩]⟩ else ⟨⟨c.s.fr, c.s.up, c.s.ends + 1, c.s.sp⟩, false, c.out⟩
  else if c.ins then c else ⟨⟨i, c.s.up, c.s.ends, c.s.sp⟩, true, c.out⟩
def sc (l : List Int) : Nat → Sc
  | 0 => ⟨Sp.nil, false, []⟩
  | k + 1 => scStep (sc l k) k (l[k]?.getD 0)
def spansF (l : List Int) : List Sp :=
  if (sc l l.length).ins then (sc l l.length).out ++ [⟨(sc l l.length).s.fr, l.length, (sc l l.length).s.ends, (sc l l.length).s.sp⟩] else (sc l l.length).out
theorem sc_ends (l : List Int) (k : Nat) : (sc l k).s.ends ≤ k := by
  induction k with
  | zero => simp [sc, Sp.nil]
  | succ k ih =>
    simp only [sc, scStep]
    repeat' split
    all_goals try dsimp only
    all_goals omega
theorem out_prefix (l : List Int) {k m : Nat} (h : k ≤ m) : (sc l k).out <+: (sc l m).out := by
  induction m with
  | zero => obtain rfl : k = 0 := by omega
            exact List.prefix_refl _
  | succ m ih =>
    rcases Nat.eq_or_lt_of_le h with rfl | h
    · exact List.prefix_refl _
    · refine (ih (by omega)).trans ?_
      simp only [sc, scStep]
      split
      · split
        · exact List.prefix_append _ _
        · exact List.prefix_refl _
      · split
        · split
          · exact List.prefix_append _ _
          · exact List.prefix_refl _
        · split
          · exact List.prefix_refl _
          · exact List.prefix_refl _
theorem spans_prefix (l : List Int) {k : Nat} (h : k ≤ l.length) : (sc l k).out <+: spansF l := by
  refine (out_prefix l h).trans ?_
  unfold spansF
  split
  · exact List.prefix_append _ _
  · exact List.prefix_refl _
/-- What the reader holds true: its word begins ahead of where it stands; the words behind have ended. -/
theorem sc_bounds (l : List Int) (k : Nat) : ((sc l k).ins = true → (sc l k).s.fr < k) ∧ (∀ s ∈ (sc l k).out, s.fr < s.up ∧ s.up ≤ k ∧ s.ends ≤ k) := by
  induction k with
  | zero => simp [sc, Sp.nil]
  | succ k ih =>
    obtain ⟨h1, h2⟩ := ih
    have he := sc_ends l k
    simp only [sc, scStep]
    repeat' split
    all_goals refine ⟨?_, fun s hs => ?_⟩
    all_goals first
      | (intro hi; first | (simp at hi; done) | (have := h1 hi; omega) | (dsimp only; omega))
      | (dsimp only at hs
         rcases List.mem_append.1 hs with hs | hs
         · have := h2 s hs; omega
         · rw [List.mem_singleton] at hs; subst hs; have := h1 ‹_›; dsimp only; omega)
      | (have := h2 s hs; omega)
theorem spans_bounds (l : List Int) : ∀ s ∈ spansF l, s.fr < s.up ∧ s.up ≤ l.length ∧ s.ends ≤ l.length := by
  intro s hs
  obtain ⟨h1, h2⟩ := sc_bounds l l.length
  have he := sc_ends l l.length
  unfold spansF at hs
  split at hs
  · rcases List.mem_append.1 hs with hs | hs
    · exact h2 s hs
    · rw [List.mem_singleton] at hs; subst hs; have := h1 ‹_›; dsimp only; omega
  · exact h2 s hs
theorem spans_len (l : List Int) (k : Nat) : (sc l k).out.length + (if (sc l k).ins then 1 else 0) ≤ k := by
  induction k with
  | zero => simp [sc]
  | succ k ih =>
    simp only [sc, scStep]
    repeat' split
    all_goals simp_all
    all_goals omega
theorem spansF_len (l : List Int) : (spansF l).length ≤ l.length := by
  have := spans_len l l.length
  unfold spansF
  split
  · simp_all
  · simp_all
end Go.Proofs.Ytbopeofglhkffaa
set_option linter.unusedSimpArgs false
set_option linter.unusedVariables false
namespace Go.Proofs.Ytbopeofglhkffaa
open Go.RowKit
/-- A word, as api.Word has it. -/
structure Wd where
  fr : Int
  up : Int
  w : Int
  gap : Int
  forced : Int
def wdCells (x : Wd) : List Value := [.int .i64 x.fr, .int .i64 x.up, .int .i64 x.w, .int .i64 x.gap, .int .i64 x.forced]
def wdsCells (l : List Wd) : List Value := l.flatMap wdCells
theorem wdsCells_snoc (l : List Wd) (x : Wd) : wdsCells (l ++ [x]) = wdsCells l ++ wdCells x := by simp [wdsCells]
def part (l : List Int) (s : Sp) : List Int := (l.drop s.fr).take (s.up - s.fr)
def gapIs (first : Bool) (s : Sp) : Bool := s.sp && decide (s.ends = 0) && !first
def mkW (t l : List Int) (first : Bool) (s : Sp) : Wd := ⟨s.fr, s.up, cutF (advs t (part l s)).sum, if gapIs first s then cutF (adv t 32) else 0, s.ends⟩
def overW (t l : List Int) (first : Bool) (s : Sp) : Bool := cutB (advs t (part l s)).sum || (gapIs first s && cutB (adv t 32))
def stepW (t l : List Int) (c : List Wd × Bool) (s : Sp) : List Wd × Bool := (c.1 ++ [mkW t l c.1.isEmpty s], c.2 || overW t l c.1.isEmpty s)
def wordsOf (t l : List Int) (pre : List Sp) : List Wd × Bool := pre.foldl (stepW t l) ([], false)
theorem wordsOf_snoc (t l : List Int) (pre : List Sp) (s : Sp) : wordsOf t l (pre ++ [s]) = stepW t l (wordsOf t l pre) s := by simp [wordsOf]
theorem foldl_stepW_len (t l : List Int) (pre : List Sp) : ∀ c : List Wd × Bool, (pre.foldl (stepW t l) c).1.length = c.1.length + pre.length := by
  induction pre with
  | nil => intro c; simp
  | cons s pre ih => intro c; rw [List.foldl_cons, ih]; simp [stepW]; omega
theorem wordsOf_len (t l : List Int) (pre : List Sp) : (wordsOf t l pre).1.length = pre.length := by
  rw [wordsOf, foldl_stepW_len]; simp
def wordsF (t l : List Int) : List Wd × Bool := wordsOf t l (spansF l)
end Go.Proofs.Ytbopeofglhkffaa
set_option linter.unusedSimpArgs false
set_option linter.unusedVariables false
namespace Go.Proofs.Ytbopeofglhkffaa
open Go.RowKit
attribute [local go_sem] block_of_add
theorem Wd.ext_iff' (a b : Wd) : a = b ↔ a.fr = b.fr ∧ a.up = b.up ∧ a.w = b.w ∧ a.gap = b.gap ∧ a.forced = b.forced := by
  constructor
  · rintro rfl; simp
  · rintro ⟨h1, h2, h3, h4, h5⟩; cases a; cases b; simp_all
instance : DecidableEq Wd := fun a b => decidable_of_iff _ (Wd.ext_iff' a b).symm
theorem wdsCells_at (l : List Wd) : ∀ (k i : Nat) (hk : k < l.length), i < 5 → (wdsCells l)[k * 5 + i]? = (wdCells l[k])[i]? := by
  induction l with
  | nil => intro k i hk; simp at hk
  | cons a t ih =>
    intro k i hk hi
    have hl : (wdCells a).length = 5 := rfl
    have hc : wdsCells (a :: t) = wdCells a ++ wdsCells t := by simp [wdsCells]
    rw [hc]
    rcases k with _ | k
    · rw [List.getElem?_append_left (by omega)]; simp
    · rw [List.getElem?_append_right (by omega), show (k + 1) * 5 + i - (wdCells a).length = k * 5 + i by omega, ih k i (by simpa using hk) hi]
      simp
theorem Reads.wd {w : World} {B n k : Nat} {A : Option Addr} {l : List Wd} (h : Reads w B 5 A n (wdsCells l)) (hn : n = l.length) (hk : k < l.length) :
    ∃ ad : Addr, A = some ad ∧ ad.block < B ∧ w.cell? (ad.add (k * 5)) = some (.int .i64 l[k].fr) ∧ w.cell? ⟨ad.block, (ad.add (k * 5)).off + 1, none⟩ = some (.int .i64 l[k].up) ∧ w.cell? ⟨ad.block, (ad.add (k * 5)).off + 2, none⟩ = some (.int .i64 l[k].w) ∧
      w.cell? ⟨ad.block, (ad.add (k * 5)).off + 3, none⟩ = some (.int .i64 l[k].gap) ∧ w.cell? ⟨ad.block, (ad.add (k * 5)).off + 4, none⟩ = some (.int .i64 l[k].forced) := by
  obtain ⟨ad, e, hb, hc⟩ := h.2 (by omega)
  have ha : ∀ i, i ≠ 0 → (⟨ad.block, (ad.add (k * 5)).off + i, none⟩ : Addr) = ad.add (k * 5 + i) := by
    intro i hi
    rw [← add_of_add, show ∀ p : Addr, p.add i = ⟨p.block, p.off + i, none⟩ from fun p => by unfold Addr.add; rw [if_neg hi], block_of_add]
  have hg : ∀ i, i < 5 → ∀ u, (wdCells l[k])[i]? = some u → w.cell? (ad.add (k * 5 + i)) = some u := fun i hi u hu => hc _ u (by rw [wdsCells_at l k i hk hi]; exact hu)
  refine ⟨ad, e, hb, hg 0 (by omega) _ rfl, ?_, ?_, ?_, ?_⟩
  · rw [ha 1 (by omega)]; exact hg 1 (by omega) _ rfl
  · rw [ha 2 (by omega)]; exact hg 2 (by omega) _ rfl
  · rw [ha 3 (by omega)]; exact hg 3 (by omega) _ rfl
  · rw [ha 4 (by omega)]; exact hg 4 (by omega) _ rfl
theorem eqW (a1 a2 a3 a4 a5 b1 b2 b3 b4 b5 : Int) (w : World) : (Op.equalIn 10000 146 (.agg #[.int .i64 a1, .int .i64 a2, .int .i64 a3, .int .i64 a4, .int .i64 a5]) (.agg #[.int .i64 b1, .int .i64 b2, .int .i64 b3, .int .i64 b4, .int .i64 b5])).run Try.prog w = .ok (a1 == b1 && a2 == b2 && a3 == b3 && a4 == b4 && a5 == b5) w := by
  have u2 := Try.underlying2
  have u3 := Try.underlying3
  have g2 := Try.isAgg2
  have g3 := Try.isAgg3
  have z2 := Try.sizeOf2
  have z3 := Try.sizeOf3
  have hS : Try.prog.underlying 146 = some (.struct (Try.prog.fieldsOf 146)) := by kernel_rfl
  have hp : Try.prog.stoodInHeld 146 = false := by kernel_rfl
  rw [show (10000 : Nat) = 9999 + 1 from rfl, run_equalIn_agg w 9999 146 _ _ hS hp]
  simp only [Program.fieldsOf, Try.underlying146]
  go_simp
  by_cases h1 : a1 = b1 <;> by_cases h2 : a2 = b2 <;> by_cases h3 : a3 = b3 <;> by_cases h4 : a4 = b4 <;> by_cases h5 : a5 = b5 <;> simp [h1, h2, h3, h4, h5]
theorem Wd.cases (x y : Wd) : x = y ∨ x ≠ y ∧ (x.fr ≠ y.fr ∨ x.fr = y.fr ∧ x.up ≠ y.up ∨ x.fr = y.fr ∧ x.up = y.up ∧ x.w ≠ y.w ∨ x.fr = y.fr ∧ x.up = y.up ∧ x.w = y.w ∧ x.gap ≠ y.gap ∨ x.fr = y.fr ∧ x.up = y.up ∧ x.w = y.w ∧ x.gap = y.gap ∧ x.forced ≠ y.forced) := by
  by_cases h : x = y
  · exact .inl h
  · refine .inr ⟨h, ?_⟩
    rw [Wd.ext_iff'] at h
    by_cases h1 : x.fr = y.fr <;> by_cases h2 : x.up = y.up <;> by_cases h3 : x.w = y.w <;> by_cases h4 : x.gap = y.gap <;> by_cases h5 : x.forced = y.forced <;> simp_all
theorem guardW (op : BinOp) (x y : Operand) (xs ys : Array Value) (w : World) : (eqGuard op 146 x y (.agg xs) (.agg ys)).run Try.prog w = .ok () w := run_eqGuard_agg w op _ x y xs ys (by kernel_rfl)
attribute [local go_sem] eqW guardW
end Go.Proofs.Ytbopeofglhkffaa
namespace Go.Proofs.Ytbopeofglhkffaa
/-- What a reader holds behind words: least, greatest, far, the row at hand. -/
structure Ex where
  least : Int
  great : Int
  far : Bool
  row : Int
def starts (k : Nat) (x : Wd) : Bool := decide (k = 0) || decide (0 < x.forced)
def exShut (c : Ex) : Ex := ⟨c.least, max c.great (cutF c.row), c.far || cutB c.row, c.row⟩
def exLeast (k : Nat) (m : Int) (x : Wd) : Int := if k = 0 ∨ m < x.w then x.w else m
def exStep (k : Nat) (c : Ex) (x : Wd) : Ex :=
  if starts k x then ⟨exLeast k c.least x, (exShut c).great, (exShut c).far, x.w⟩ else ⟨exLeast k c.least x, c.great, c.far, c.row + (x.gap + x.w)⟩
def exAt (l : List Wd) : Nat → Ex
  | 0 => ⟨0, 0, false, 0⟩
  | k + 1 => match l[k]? with | some x => exStep k (exAt l k) x | none => exAt l k
/-- least, greatest, far -/
def extF (l : List Wd) : Int × Int × Bool := ((exAt l l.length).least, (exShut (exAt l l.length)).great, (exShut (exAt l l.length)).far)
theorem exAt_succ (l : List Wd) {k : Nat} (h : k < l.length) : exAt l (k + 1) = exStep k (exAt l k) l[k] := by simp [exAt, h]
def W64 (x : Wd) : Prop := (-9223372036854775808 ≤ x.w ∧ x.w < 9223372036854775808) ∧ (-9223372036854775808 ≤ x.gap ∧ x.gap < 9223372036854775808)
def Ws64 (l : List Wd) : Prop := ∀ x ∈ l, W64 x
theorem Ws64.at_ {l : List Wd} (h : Ws64 l) {k : Nat} (hk : k < l.length) : W64 l[k] := h _ (List.getElem_mem hk)
end Go.Proofs.Ytbopeofglhkffaa
namespace Go.Proofs.Ytbopeofglhkffaa
structure Cn where
  least : Int
  greatest : Int
  ol : Int
  og : Int
  deriving DecidableEq
def cnCells (c : Cn) : List Value := [.int .i64 c.least, .int .i64 c.greatest, .int .i64 c.ol, .int .i64 c.og]
def gAt (got : List Cn) (k : Nat) : Cn := (got[k]?).getD ⟨0, 0, 0, 0⟩
def allF (got : List Cn) (n : Nat) : List Cn := (List.range n).map (gAt got)
def mostF (l : List Int) : Int := l.foldl max 0
def frameF (s : Sty) : Int := s.b3 + s.b1 + s.p3 + s.p1
def bareF (l : Ln) : Int := if l.k = 1 then l.n else 0
/-- How wide a box is whose contents are v wide. -/
def out1 (s : Sty) (v : Int) : Int := if s.w.k = 1 then s.w.n else v
def styAt (l : List Nd) (i : Int) : Option Sty := if 0 ≤ i then (l[i.toNat]?).map Nd.s else none
def floatAt (l : List Nd) (i : Int) : Int := ((styAt l i).map Sty.float).getD 0
def kindAt (l : List Nd) (i : Int) : Int := ((styAt l i).map Sty.kind).getD 0
/-- The words of texts, node by node. -/
def gatherF (l : List Nd) (adv : List Int) : List Int → List Wd × List Int × Bool
  | [] => ([], [], false)
  | k :: t => match styAt l k with
    | none => gatherF l adv t
    | some s => let r := wordsF adv s.units; let g := gatherF l adv t; (r.1 ++ g.1, List.replicate r.1.length k ++ g.2.1, r.2 || g.2.2)
def flowF (l : List Nd) (kids : List Int) (ogs : List Int) : List Int := ((kids.zip ogs).filter fun p => floatAt l p.1 == 0).map Prod.snd
def sideF (l : List Nd) (kids : List Int) (ogs : List Int) : List Int := ((kids.zip ogs).filter fun p => !(floatAt l p.1 == 0)).map Prod.snd
def linesK (l : List Nd) (kids : List Int) : Bool := match kids with
  | [] => false
  | k :: _ => kindAt l k == 3
/-- The least and the greatest width that its contents want, exact; whether something was beyond. -/
def wantF (l : List Nd) (adv : List Int) (s : Sty) (kids : List Int) (got : List Cn) : Int × Int × Bool :=
  let all := allF got kids.length
  if s.kind = 2 then (if s.wrap then mostF (all.map Cn.ol) else (all.map Cn.ol).sum, (all.map Cn.og).sum, false)
  else if linesK l kids then let g := gatherF l adv kids; ((extF g.1).1, (extF g.1).2.1, g.2.2 || (extF g.1).2.2)
  else (mostF (all.map Cn.ol), max (mostF (flowF l kids (all.map Cn.og))) (sideF l kids (all.map Cn.og)).sum, false)
/-- A style's numbers are within their bounds. -/
structure StyB (s : Sty) : Prop where
  w : 0 ≤ s.w.n ∧ s.w.n ≤ 1099511627776
  maxw : 0 ≤ s.maxw.n ∧ s.maxw.n ≤ 1099511627776
  minw : 0 ≤ s.minw.n ∧ s.minw.n ≤ 1099511627776
  m1 : -1099511627776 ≤ s.m1.n ∧ s.m1.n ≤ 1099511627776
  m3 : -1099511627776 ≤ s.m3.n ∧ s.m3.n ≤ 1099511627776
  b1 : 0 ≤ s.b1 ∧ s.b1 ≤ 1099511627776
  b3 : 0 ≤ s.b3 ∧ s.b3 ≤ 1099511627776
  p1 : 0 ≤ s.p1 ∧ s.p1 ≤ 1099511627776
  p3 : 0 ≤ s.p3 ∧ s.p3 ≤ 1099511627776
theorem cutF_mono {a b : Int} (h : a ≤ b) : cutF a ≤ cutF b := by unfold cutF; repeat' split; all_goals omega
theorem cutF_le (a : Int) : cutF a ≤ 1099511627776 := by unfold cutF; repeat' split; all_goals omega
theorem cutF_nn {a : Int} (h : 0 ≤ a) : 0 ≤ cutF a := by unfold cutF; repeat' split; all_goals omega
theorem foldmax_ge (l : List Int) : ∀ a : Int, a ≤ l.foldl max a ∧ ∀ x ∈ l, x ≤ l.foldl max a := by
  induction l with
  | nil => intro a; simp
  | cons b t ih =>
    intro a
    obtain ⟨h1, h2⟩ := ih (max a b)
    simp only [List.foldl_cons]
    refine ⟨by omega, fun x hx => ?_⟩
    rcases List.mem_cons.1 hx with rfl | hx
    · omega
    · exact h2 x hx
theorem foldmax_le {c : Int} (l : List Int) : ∀ a : Int, a ≤ c → (∀ x ∈ l, x ≤ c) → l.foldl max a ≤ c := by
  induction l with
  | nil => intro a h _; exact h
  | cons b t ih =>
    intro a h hx
    simp only [List.foldl_cons]
    exact ih _ (by have := hx b (by simp); omega) (fun x h2 => hx x (by simp [h2]))
theorem mostF_nn (l : List Int) : 0 ≤ mostF l := (foldmax_ge l 0).1
theorem mostF_ge {l : List Int} {x : Int} (h : x ∈ l) : x ≤ mostF l := (foldmax_ge l 0).2 x h
theorem mostF_le {l : List Int} {c : Int} (h0 : 0 ≤ c) (h : ∀ x ∈ l, x ≤ c) : mostF l ≤ c := foldmax_le l 0 h0 h
theorem sum_nn {l : List Int} (h : ∀ x ∈ l, 0 ≤ x) : 0 ≤ l.sum := by
  induction l with
  | nil => simp
  | cons a t ih =>
    have h1 := h a (by simp)
    have h2 := ih fun x hx => h x (by simp [hx])
    simp only [List.sum_cons]; omega
theorem sum_ge {l : List Int} (h : ∀ x ∈ l, 0 ≤ x) {x : Int} (hx : x ∈ l) : x ≤ l.sum := by
  induction l with
  | nil => simp at hx
  | cons a t ih =>
    have h1 := h a (by simp)
    have h2 := sum_nn fun x hx => h x (List.mem_cons_of_mem _ hx)
    simp only [List.sum_cons]
    rcases List.mem_cons.1 hx with rfl | hx
    · omega
    · have := ih (fun x hx => h x (List.mem_cons_of_mem _ hx)) hx; omega
end Go.Proofs.Ytbopeofglhkffaa
namespace Go.Proofs.Ytbopeofglhkffaa
open Go.RowKit
/-- Of what was there nothing has turned but the blocks that are named. -/
structure Kp (bad : Nat → Prop) (w w' : World) : Prop where
  os : w'.os = w.os
  tape : w'.tape = w.tape
  output : w'.output = w.output
  size : w.heap.size ≤ w'.heap.size
  block : ∀ k, k < w.heap.size → ¬ bad k → w'.heap[k]? = w.heap[k]?
section
variable {bad bad' : Nat → Prop} {a b w w' : World} {B g : Nat} {t : TypeId} {cs : Array Value}
theorem Kp.refl (bad : Nat → Prop) (w : World) : Kp bad w w := ⟨rfl, rfl, rfl, Nat.le_refl _, fun _ _ _ => rfl⟩
theorem Kp.trans (h : Kp bad a b) (k : Kp bad b w) : Kp bad a w :=
  ⟨k.os.trans h.os, k.tape.trans h.tape, k.output.trans h.output, Nat.le_trans h.size k.size, fun i hi hn => (k.block i (Nat.lt_of_lt_of_le hi h.size) hn).trans (h.block i hi hn)⟩
theorem Kp.mono (h : Kp bad a b) (hb : ∀ k, bad k → bad' k) : Kp bad' a b := ⟨h.os, h.tape, h.output, h.size, fun k hk hn => h.block k hk fun x => hn (hb k x)⟩
theorem Kp.drew (h : Kp bad a w) : Kp bad a w.drew := ⟨h.os, h.tape, h.output, h.size, h.block⟩
theorem Kp.drewN (h : Kp bad a w) (n : Nat) : Kp bad a (w.drewN n) := ⟨h.os, h.tape, h.output, h.size, h.block⟩
theorem Kp.alloc (h : Kp bad a w) (o : Obj) : Kp bad a (w.alloc o) := h.trans ⟨rfl, rfl, rfl, by simp, fun k hk _ => Below.heap_alloc _ _ _ hk⟩
theorem Kp.setCell (h : Kp bad a w) {p : Addr} (hp : bad p.block ∨ a.heap.size ≤ p.block) (u : Value) : Kp bad a (w.setCell p u) :=
  ⟨h.os, h.tape, h.output, by simpa [World.setCell] using h.size, fun k hk hn => (Below.heap_setCell w p u k (by
    rintro rfl
    rcases hp with hp | hp
    · exact hn hp
    · omega)).trans (h.block k hk hn)⟩
theorem Kp.of_below (h : Below w.heap.size w w') (bad : Nat → Prop) : Kp bad w w' := ⟨h.os, h.tape, h.output, h.size, fun k hk _ => h.block k hk⟩
theorem Kp.below (h : Kp bad w w') (hb : ∀ k, bad k → B ≤ k) (hB : B ≤ w.heap.size) : Below B w w' := ⟨h.os, h.tape, h.output, h.size, fun k hk => h.block k (by omega) (fun x => by have := hb k x; omega)⟩
theorem Kp.grown {row : Option Nat} (h : Kp bad a w) (hg : w.grownBy w' row) (hr : ∀ g, row = some g → bad g ∨ a.heap.size ≤ g) : Kp bad a w' :=
  ⟨hg.os.trans h.os, hg.tape.trans h.tape, hg.output.trans h.output, Nat.le_trans h.size hg.size, fun k hk hn => (hg.block k (Nat.lt_of_lt_of_le hk h.size) (fun e => by
    rcases hr k e.symm with x | x
    · exact hn x
    · omega)).trans (h.block k hk hn)⟩
theorem Kp.cell (h : Kp bad w w') {p : Addr} (hp : p.block < w.heap.size) (hn : ¬ bad p.block) : w'.cell? p = w.cell? p := World.cell?_of_block (w := w) (h.block p.block hp hn)
theorem Kp.frozen (h : Kp bad w w') {p : Addr} (hp : p.block < w.heap.size) (hn : ¬ bad p.block) : w'.frozen? p = w.frozen? p := World.frozen?_of_block (w := w) (h.block p.block hp hn)
theorem Blk.kp (h : Blk w g t cs) (hk : Kp bad w w') (hn : ¬ bad g) : Blk w' g t cs := (hk.block g h.lt hn).trans h
theorem Reads.kp {B size n : Nat} {A : Option Addr} {xs : List Value} (h : Reads w B size A n xs) (hk : Kp bad w w') (hB : B ≤ w.heap.size) (hn : ∀ k, bad k → B ≤ k) : Reads w' B size A n xs := h.below (hk.below hn hB)
end
end Go.Proofs.Ytbopeofglhkffaa
namespace Go.Proofs.Ytbopeofglhkffaa
open Go.RowKit
theorem below_dr {B : Nat} {a w : World} (h : Below B a w) (n : Nat) : Below B a (w.drewN n) := ⟨h.os, h.tape, h.output, h.size, h.block⟩
theorem wpList_appG {P : Program} {w : World} {o : Oper} {a : Act} {t e : TypeId} {z : Value} {size bytes base n m : Nat} {v : Value} {xs : List Value} {ops : Array Oper} {rest : List Oper} {Q : Exit → Act → World → Prop} (hgd : o.guard = none) (s x : Operand)
    (ho : o.op = .call { callee := .builtin .append, args := #[s, x], argTypes := #[t, t] }) (hE : El P t e z size bytes) (hown : w.ownsRow base e size v n xs) (hbase : base ≤ w.heap.size) (hs : a.eval s = v)
    (news : List Value) {g : Nat} (hx : a.eval x = .slice (some ⟨g, 0, none⟩) m m) (hgs : g = w.heap.size) (hl : news.length = m * size) (h1 : ∀ u ∈ news, u.oneCell' = true) (h63 : n + m ≤ 4294967296) (hby : bytes ≤ 32768)
    (h : ∀ A' c' w', w'.ownsRow base e size (.slice A' (n + m) c') (n + m) (xs ++ news) → (∀ B w0, B ≤ base → Below B w0 w → Below B w0 w') → w.grownBy w' v.ownBlock →
      ((Value.slice A' (n + m) c').ownBlock = v.ownBlock ∨ w.heap.size ≤ ((Value.slice A' (n + m) c').ownBlock).getD w.heap.size) → wpList P ops Q rest (a.put o.dst (.slice A' (n + m) c')) w') :
    wpList P ops Q (o :: rest) a (w.alloc (.cells news.toArray e)) := by
  subst hgs
  exact wpList_app hgd s x ho hE hown hbase hs news hx hl h1 h63 hby h
theorem step_appG {P : Program} {w : World} {o : Oper} {a : Act} {t e : TypeId} {z : Value} {size bytes base n m : Nat} {v : Value} {xs : List Value} {ops : Array Oper} {K : Act → World → Prop} {Q : Exit → Act → World → Prop} {E : Prop} (hgd : o.guard = none) (s x : Operand)
    (ho : o.op = .call { callee := .builtin .append, args := #[s, x], argTypes := #[t, t] }) (hE : El P t e z size bytes) (hown : w.ownsRow base e size v n xs) (hbase : base ≤ w.heap.size) (hs : a.eval s = v)
    (news : List Value) {g : Nat} (hx : a.eval x = .slice (some ⟨g, 0, none⟩) m m) (hgs : g = w.heap.size) (hl : news.length = m * size) (h1 : ∀ u ∈ news, u.oneCell' = true) (h63 : n + m ≤ 4294967296) (hby : bytes ≤ 32768)
    (h : ∀ A' c' w', w'.ownsRow base e size (.slice A' (n + m) c') (n + m) (xs ++ news) → (∀ B w0, B ≤ base → Below B w0 w → Below B w0 w') → w.grownBy w' v.ownBlock →
      ((Value.slice A' (n + m) c').ownBlock = v.ownBlock ∨ w.heap.size ≤ ((Value.slice A' (n + m) c').ownBlock).getD w.heap.size) → K (a.put o.dst (.slice A' (n + m) c')) w') :
    if Region.wanted o (yielded ops a.tmps) = true then Oper.wp P o a (w.alloc (.cells news.toArray e)) K Q else E := by
  subst hgs
  exact step_app hgd s x ho hE hown hbase hs news hx hl h1 h63 hby h
theorem el_int2 : El Try.prog 36 3 (.int .i64 0) 1 8 := ⟨Try.underlying36, by kernel_rfl, rfl, by decide⟩
end Go.Proofs.Ytbopeofglhkffaa
