/- What the program's box wants: plain. -/
import Derived.Test.YtgahmlbemaagbaaCon
set_option linter.unusedSimpArgs false
set_option linter.unusedVariables false
namespace Go.Proofs.Ytgahmlbemaagbaa

def o2P (s : Sty) (v : Int) : Int := if s.maxw.k = 1 ∧ s.maxw.n ≤ cutF (out1 s v) then s.maxw.n else out1 s v
def o3P (s : Sty) (v : Int) : Int := if s.minw.k = 1 ∧ cutF (o2P s v) ≤ s.minw.n then s.minw.n else o2P s v
def outP (s : Sty) (v : Int) : Int := max (o3P s v + frameF s + bareF s.m3 + bareF s.m1) 0
theorem cutF_cases (a : Int) : (a < -1099511627776 ∧ cutF a = -1099511627776) ∨ (1099511627776 < a ∧ cutF a = 1099511627776) ∨ (-1099511627776 ≤ a ∧ a ≤ 1099511627776 ∧ cutF a = a) := by
  unfold cutF; repeat' split
  all_goals omega
theorem out1_mono (s : Sty) {a b : Int} (h : a ≤ b) : out1 s a ≤ out1 s b := by unfold out1; split <;> omega
theorem o2P_mono {s : Sty} (hs : StyB s) {a b : Int} (h : a ≤ b) : o2P s a ≤ o2P s b := by
  have h1 := out1_mono s h
  have h2 := cutF_cases (out1 s a)
  have h3 := cutF_cases (out1 s b)
  have := hs.maxw
  unfold o2P
  repeat' split
  all_goals omega
theorem o3P_mono {s : Sty} (hs : StyB s) {a b : Int} (h : a ≤ b) : o3P s a ≤ o3P s b := by
  have h1 := o2P_mono hs h
  have h2 := cutF_cases (o2P s a)
  have h3 := cutF_cases (o2P s b)
  have := hs.minw
  unfold o3P
  repeat' split
  all_goals omega
theorem outP_mono {s : Sty} (hs : StyB s) {a b : Int} (h : a ≤ b) : outP s a ≤ outP s b := by
  have := o3P_mono hs h
  unfold outP; omega
theorem outP_nn (s : Sty) (a : Int) : 0 ≤ outP s a := by unfold outP; omega
def conP (s : Sty) (r : Int × Int × Bool) : Cn × Bool :=
  (⟨cutF r.1, cutF r.2.1, cutF (outP s r.1), cutF (outP s r.2.1)⟩, r.2.2 || cutB r.1 || cutB r.2.1 || cutB (outP s r.1) || cutB (outP s r.2.1))
def nodeP (l : List Nd) (adv : List Int) (i : Int) (kids : List Int) (got : List Cn) : Cn × Bool :=
  match styAt l i with
  | none => (⟨0, 0, 0, 0⟩, false)
  | some s => if s.kind = 3 then (⟨0, 0, 0, 0⟩, false) else conP s (wantF l adv s kids got)
end Go.Proofs.Ytgahmlbemaagbaa
