/-
  No cell of these rows narrows 'for every input' (looked for: loops, veiled, ifaces, maps, wideKeys, modest, calm, conditions, laid).
  DERIVED. THE GIVEN ROWS OF THIS SEAT. 2 by the template 'for every input the law returns true; each argument reads behind the call as it read before'; 0 by the template 'total and deterministic' (their statements: YtbopeofglhkffaaTotals.lean).
  GIVEN WITH THE SEED: the statements are not yours to turn. If you find one false, say at which input.
  Laid BY PROGRAM, IN A SANDBOX (cutbox-rows.mjs): the forced cells as the released guide's own fill.sh prints them over the translation 7811c1fea07aa8be… (all of the seat's roots in one cut). By AI agents, Wed Nov 11 2026. No macro, syntax, notation, axiom, sorry.
-/
import Derived.Test.YtbopeofglhkffaaChecked
import GoSem.Claim
import GoSem.ClaimJoined
import GoSem.ClaimMapViews
import Derived.JoinedTies
import Derived.KernelRfl
namespace Go.Proofs.Ytbopeofglhkffaa
/- THE CELL 'sum', in the pinned program and in every row, IS THE sha256 OF THE DUMP (.gsa) THAT YtbopeofglhkffaaProg.lean LOADS. Nothing in Lean hashes anything: it is a label: what it is worth is what the hold of that sum in a sandbox is worth. -/
noncomputable def Try.pinned : Pinned := { name := "ytbopeofglhkffaa", sum := "7811c1fea07aa8befdc7d3fbfe6414a378b8f082dc975d474fe099e4bcf82da7", checked := Try.checked }
namespace Rows
def none {H : Type} : Left H := { results := [], args := [] }

/-- 'jamblaw21.AssignPlays': WHATEVER THE INPUT: true; the input reads as it did. -/
def assignPlaysSpec : ChangeSpec := { name := "assignPlays", fn := fun _ => fun
  | [d1, d2, d3] => { results := [.lit (.bool true)], args := [d1, d2, d3] }
  | _ => none }
def assignPlaysRow : OpenClaim := { program := "ytbopeofglhkffaa", sum := "7811c1fea07aa8befdc7d3fbfe6414a378b8f082dc975d474fe099e4bcf82da7", func := "jamb/jamblaw21.AssignPlays", spec := "assignPlays", inPlace := ["math/bits.Add64", "math/bits.Sub64"], unfollowed := true, recurses := true, apart := false }
def AssignPlaysSaid : Prop := assignPlaysRow.holds Try.pinned (OpenSpec.ofChange assignPlaysSpec)

/-- ITS FALSE NEIGHBOUR: 'it returns false'. Refute it at one input. -/
def assignPlaysWrong : ChangeSpec := { name := "assignPlays", fn := fun _ => fun
  | [d1, d2, d3] => { results := [.lit (.bool false)], args := [d1, d2, d3] }
  | _ => none }
def AssignPlaysWrongFalsely : Prop := assignPlaysRow.holds Try.pinned (OpenSpec.ofChange assignPlaysWrong)

/-- 'jamblaw21.AssignSums': WHATEVER THE INPUT: true; the input reads as it did. -/
def assignSumsSpec : ChangeSpec := { name := "assignSums", fn := fun _ => fun
  | [d] => { results := [.lit (.bool true)], args := [d] }
  | _ => none }
def assignSumsRow : OpenClaim := { program := "ytbopeofglhkffaa", sum := "7811c1fea07aa8befdc7d3fbfe6414a378b8f082dc975d474fe099e4bcf82da7", func := "jamb/jamblaw21.AssignSums", spec := "assignSums", inPlace := ["math/bits.Add64", "math/bits.Sub64"], unfollowed := true, recurses := true, apart := false }
def AssignSumsSaid : Prop := assignSumsRow.holds Try.pinned (OpenSpec.ofChange assignSumsSpec)

/-- ITS FALSE NEIGHBOUR: 'it returns false'. Refute it at one input. -/
def assignSumsWrong : ChangeSpec := { name := "assignSums", fn := fun _ => fun
  | [d] => { results := [.lit (.bool false)], args := [d] }
  | _ => none }
def AssignSumsWrongFalsely : Prop := assignSumsRow.holds Try.pinned (OpenSpec.ofChange assignSumsWrong)

/- THE SECOND FORM. 'bulk': how many values and letters a reading holds, each counted each time it is reached (what is shared counts as often as it is met; a slice's spare places count too). A statement '..UptoSaid' is the law's where the arguments, and the package variables that the reading takes, are together of bulk at most 1048576: NARROWER than '..Said'. Prove '..Said' where nothing that the law and all that it calls make is longer than what came in: it says more and counts as full. Else prove '..UptoSaid'. A law counts once. -/
mutual
def uptoBulk {H : Type} : DataW H → Nat
  | .lit (.string bytes) => bytes.length + 1
  | .lit _ => 1
  | .nil => 1
  | .ptr d => uptoBulk d + 1
  | .slice elems spare => uptoBulkAll elems + uptoBulkAll spare + 1
  | .agg parts => uptoBulkAll parts + 1
  | .iface _ d => uptoBulk d + 1
  | .map entries => uptoBulkEntries entries + 1
  | .held _ => 1
def uptoBulkAll {H : Type} : List (DataW H) → Nat
  | [] => 0
  | d :: r => uptoBulk d + uptoBulkAll r
def uptoBulkEntries {H : Type} : List (Lit × DataW H) → Nat
  | [] => 0
  | x :: r => uptoBulkEntry x + uptoBulkEntries r
def uptoBulkEntry {H : Type} : Lit × DataW H → Nat
  | (.string bytes, d) => bytes.length + uptoBulk d + 1
  | (_, d) => uptoBulk d + 1
 end
def uptoSmall : (H : Type) → List (DataW H) → Bool := fun _ ds => decide (uptoBulkAll ds ≤ 1048576)
def OpenSpec.upto (s : _root_.Go.ChangeSpec) : _root_.Go.OpenSpec := { _root_.Go.OpenSpec.ofChange s with cond := some uptoSmall }

/-- 'jamblaw21.AssignPlays', WHERE WHAT IT READS IS OF BULK AT MOST 1048576: true; the input reads as it did. -/
def assignPlaysUptoRow : OpenClaim := { program := "ytbopeofglhkffaa", sum := "7811c1fea07aa8befdc7d3fbfe6414a378b8f082dc975d474fe099e4bcf82da7", func := "jamb/jamblaw21.AssignPlays", spec := "assignPlays", inPlace := ["math/bits.Add64", "math/bits.Sub64"], unfollowed := true, recurses := true, apart := false, narrowed := true }
def AssignPlaysUptoSaid : Prop := assignPlaysUptoRow.holds Try.pinned (OpenSpec.upto assignPlaysSpec)

/-- 'jamblaw21.AssignSums', WHERE WHAT IT READS IS OF BULK AT MOST 1048576: true; the input reads as it did. -/
def assignSumsUptoRow : OpenClaim := { program := "ytbopeofglhkffaa", sum := "7811c1fea07aa8befdc7d3fbfe6414a378b8f082dc975d474fe099e4bcf82da7", func := "jamb/jamblaw21.AssignSums", spec := "assignSums", inPlace := ["math/bits.Add64", "math/bits.Sub64"], unfollowed := true, recurses := true, apart := false, narrowed := true }
def AssignSumsUptoSaid : Prop := assignSumsUptoRow.holds Try.pinned (OpenSpec.upto assignSumsSpec)

end Rows
end Go.Proofs.Ytbopeofglhkffaa
