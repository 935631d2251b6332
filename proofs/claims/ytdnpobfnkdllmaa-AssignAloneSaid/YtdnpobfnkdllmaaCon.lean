/- What a node wants: plain. -/
import Derived.Test.YtdnpobfnkdllmaaSty
import Derived.Test.YtdnpobfnkdllmaaExt
import Derived.Test.YtdnpobfnkdllmaaAu
set_option linter.unusedSimpArgs false
set_option linter.unusedVariables false
namespace Go.Proofs.Ytdnpobfnkdllmaa

structure Cn where
  least : Int
  greatest : Int
  ol : Int
  og : Int
  deriving DecidableEq
def cnCells (c : Cn) : List Value := [.int .i64 c.least, .int .i64 c.greatest, .int .i64 c.ol, .int .i64 c.og]
def gAt (got : List Cn) (k : Nat) : Cn := (got[k]?).getD ⟨0, 0, 0, 0⟩
def allF (got : List Cn) (n : Nat) : List Cn := (List.range n).map (gAt got)
def mostF (l : List Int) : Int := l.foldl max 0
def frameF (s : Sty) : Int := s.b3 + s.b1 + s.p3 + s.p1
def bareF (l : Ln) : Int := if l.k = 1 then l.n else 0
/-- How wide a box is whose contents are v wide. -/
def out1 (s : Sty) (v : Int) : Int := if s.w.k = 1 then s.w.n else v
def out2 (s : Sty) (v : Int) : Int := if s.maxw.k = 1 then min (out1 s v) s.maxw.n else out1 s v
def out3 (s : Sty) (v : Int) : Int := if s.minw.k = 1 then max (out2 s v) s.minw.n else out2 s v
def outX (s : Sty) (v : Int) : Int := max (out3 s v + frameF s + bareF s.m3 + bareF s.m1) 0
def styAt (l : List Nd) (i : Int) : Option Sty := if 0 ≤ i then (l[i.toNat]?).map Nd.s else none
def floatAt (l : List Nd) (i : Int) : Int := ((styAt l i).map Sty.float).getD 0
def kindAt (l : List Nd) (i : Int) : Int := ((styAt l i).map Sty.kind).getD 0
/-- The words of texts, node by node. -/
def gatherF (l : List Nd) (adv : List Int) : List Int → List Wd × List Int × Bool
  | [] => ([], [], false)
  | k :: t => match styAt l k with
    | none => gatherF l adv t
    | some s => let r := wordsF adv s.units; let g := gatherF l adv t; (r.1 ++ g.1, List.replicate r.1.length k ++ g.2.1, r.2 || g.2.2)
def flowF (l : List Nd) (kids : List Int) (ogs : List Int) : List Int := ((kids.zip ogs).filter fun p => floatAt l p.1 == 0).map Prod.snd
def sideF (l : List Nd) (kids : List Int) (ogs : List Int) : List Int := ((kids.zip ogs).filter fun p => !(floatAt l p.1 == 0)).map Prod.snd
def linesK (l : List Nd) (kids : List Int) : Bool := match kids with
  | [] => false
  | k :: _ => kindAt l k == 3
/-- The least and the greatest width that its contents want, exact; whether something was beyond. -/
def wantF (l : List Nd) (adv : List Int) (s : Sty) (kids : List Int) (got : List Cn) : Int × Int × Bool :=
  let all := allF got kids.length
  if s.kind = 2 then (if s.wrap then mostF (all.map Cn.ol) else (all.map Cn.ol).sum, (all.map Cn.og).sum, false)
  else if linesK l kids then let g := gatherF l adv kids; ((extF g.1).1, (extF g.1).2.1, g.2.2 || (extF g.1).2.2)
  else (mostF (all.map Cn.ol), max (mostF (flowF l kids (all.map Cn.og))) (sideF l kids (all.map Cn.og)).sum, false)
def conF (s : Sty) (r : Int × Int × Bool) : Cn × Bool :=
  (⟨cutF r.1, cutF r.2.1, cutF (outX s r.1), cutF (outX s r.2.1)⟩, r.2.2 || cutB r.1 || cutB r.2.1 || cutB (outX s r.1) || cutB (outX s r.2.1))
def nodeF (l : List Nd) (adv : List Int) (i : Int) (kids : List Int) (got : List Cn) : Cn × Bool :=
  match styAt l i with
  | none => (⟨0, 0, 0, 0⟩, false)
  | some s => if s.kind = 3 then (⟨0, 0, 0, 0⟩, false) else conF s (wantF l adv s kids got)

/-- A style's numbers are within their bounds. -/
structure StyB (s : Sty) : Prop where
  w : 0 ≤ s.w.n ∧ s.w.n ≤ 1099511627776
  maxw : 0 ≤ s.maxw.n ∧ s.maxw.n ≤ 1099511627776
  minw : 0 ≤ s.minw.n ∧ s.minw.n ≤ 1099511627776
  m1 : -1099511627776 ≤ s.m1.n ∧ s.m1.n ≤ 1099511627776
  m3 : -1099511627776 ≤ s.m3.n ∧ s.m3.n ≤ 1099511627776
  b1 : 0 ≤ s.b1 ∧ s.b1 ≤ 1099511627776
  b3 : 0 ≤ s.b3 ∧ s.b3 ≤ 1099511627776
  p1 : 0 ≤ s.p1 ∧ s.p1 ≤ 1099511627776
  p3 : 0 ≤ s.p3 ∧ s.p3 ≤ 1099511627776
theorem cutF_mono {a b : Int} (h : a ≤ b) : cutF a ≤ cutF b := by unfold cutF; repeat' split; all_goals omega
theorem cutF_in {a : Int} (h0 : -1099511627776 ≤ a) (h : a ≤ 1099511627776) : cutF a = a := by unfold cutF; rw [if_neg (by omega), if_neg (by omega)]
theorem cutF_le (a : Int) : cutF a ≤ 1099511627776 := by unfold cutF; repeat' split; all_goals omega
theorem cutF_nn {a : Int} (h : 0 ≤ a) : 0 ≤ cutF a := by unfold cutF; repeat' split; all_goals omega
theorem cutB_in {a : Int} (h : cutB a = false) : -1099511627776 ≤ a ∧ a ≤ 1099511627776 := by unfold cutB at h; simp at h; omega
theorem outX_mono (s : Sty) {a b : Int} (h : a ≤ b) : outX s a ≤ outX s b := by
  unfold outX out3 out2 out1
  repeat' split
  all_goals omega
theorem outX_nn (s : Sty) (a : Int) : 0 ≤ outX s a := by unfold outX; omega
theorem foldmax_ge (l : List Int) : ∀ a : Int, a ≤ l.foldl max a ∧ ∀ x ∈ l, x ≤ l.foldl max a := by
  induction l with
  | nil => intro a; simp
  | cons b t ih =>
    intro a
    obtain ⟨h1, h2⟩ := ih (max a b)
    simp only [List.foldl_cons]
    refine ⟨by omega, fun x hx => ?_⟩
    rcases List.mem_cons.1 hx with rfl | hx
    · omega
    · exact h2 x hx
theorem foldmax_le {c : Int} (l : List Int) : ∀ a : Int, a ≤ c → (∀ x ∈ l, x ≤ c) → l.foldl max a ≤ c := by
  induction l with
  | nil => intro a h _; exact h
  | cons b t ih =>
    intro a h hx
    simp only [List.foldl_cons]
    exact ih _ (by have := hx b (by simp); omega) (fun x h2 => hx x (by simp [h2]))
theorem mostF_nn (l : List Int) : 0 ≤ mostF l := (foldmax_ge l 0).1
theorem mostF_ge {l : List Int} {x : Int} (h : x ∈ l) : x ≤ mostF l := (foldmax_ge l 0).2 x h
theorem mostF_le {l : List Int} {c : Int} (h0 : 0 ≤ c) (h : ∀ x ∈ l, x ≤ c) : mostF l ≤ c := foldmax_le l 0 h0 h
theorem sum_nn {l : List Int} (h : ∀ x ∈ l, 0 ≤ x) : 0 ≤ l.sum := by
  induction l with
  | nil => simp
  | cons a t ih =>
    have h1 := h a (by simp)
    have h2 := ih fun x hx => h x (by simp [hx])
    simp only [List.sum_cons]; omega
theorem sum_ge {l : List Int} (h : ∀ x ∈ l, 0 ≤ x) {x : Int} (hx : x ∈ l) : x ≤ l.sum := by
  induction l with
  | nil => simp at hx
  | cons a t ih =>
    have h1 := h a (by simp)
    have h2 := sum_nn fun x hx => h x (List.mem_cons_of_mem _ hx)
    simp only [List.sum_cons]
    rcases List.mem_cons.1 hx with rfl | hx
    · omega
    · have := ih (fun x hx => h x (List.mem_cons_of_mem _ hx)) hx; omega
theorem sum_bdc {l : List Int} {c : Int} (h : ∀ x ∈ l, x ≤ c) : l.sum ≤ c * l.length := by
  induction l with
  | nil => simp
  | cons a t ih =>
    have h1 := h a (by simp)
    have h2 := ih fun x hx => h x (by simp [hx])
    simp only [List.sum_cons, List.length_cons]
    have : c * ((t.length + 1 : Nat) : Int) = c * t.length + c := by rw [Int.natCast_add, Int.mul_add]; simp
    omega
end Go.Proofs.Ytdnpobfnkdllmaa
