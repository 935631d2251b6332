/-
  No cell of these rows narrows 'for every input' (looked for: loops, veiled, ifaces, maps, wideKeys, modest, calm, conditions, laid).
  DERIVED. THE GIVEN ROWS OF THIS SEAT. 7 by the template 'for every input the law returns true; each argument reads behind the call as it read before'; 0 by the template 'total and deterministic' (their statements: YtlebbkhhhmempaaTotals.lean).
  GIVEN WITH THE SEED: the statements are not yours to turn. If you find one false, say at which input.
  Laid BY PROGRAM, IN A SANDBOX (cutbox-rows.mjs): the forced cells as the released guide's own fill.sh prints them over the translation 6f92af736602a928… (all of the seat's roots in one cut). By AI agents, Wed Nov 11 2026. No macro, syntax, notation, axiom, sorry.
-/
import Derived.Test.YtlebbkhhhmempaaChecked
import GoSem.Claim
import GoSem.ClaimJoined
import GoSem.ClaimMapViews
import Derived.JoinedTies
import Derived.KernelRfl
namespace Go.Proofs.Ytlebbkhhhmempaa
/- THE CELL 'sum', in the pinned program and in every row, IS THE sha256 OF THE DUMP (.gsa) THAT YtlebbkhhhmempaaProg.lean LOADS. Nothing in Lean hashes anything: it is a label: what it is worth is what the hold of that sum in a sandbox is worth. -/
noncomputable def Try.pinned : Pinned := { name := "ytlebbkhhhmempaa", sum := "6f92af736602a928ce0b61776c38b4a27c2276e857a34887fffb31cce3a1ca67", checked := Try.checked }
namespace Rows
def none {H : Type} : Left H := { results := [], args := [] }

/-- 'jamblaw21.AssignPlays': WHATEVER THE INPUT: true; the input reads as it did. -/
def assignPlaysSpec : ChangeSpec := { name := "assignPlays", fn := fun _ => fun
  | [d1, d2, d3] => { results := [.lit (.bool true)], args := [d1, d2, d3] }
  | _ => none }
def assignPlaysRow : OpenClaim := { program := "ytlebbkhhhmempaa", sum := "6f92af736602a928ce0b61776c38b4a27c2276e857a34887fffb31cce3a1ca67", func := "jamb/jamblaw21.AssignPlays", spec := "assignPlays", inPlace := ["math/bits.Add64", "math/bits.Sub64"], unfollowed := true, recurses := true, apart := false }
def AssignPlaysSaid : Prop := assignPlaysRow.holds Try.pinned (OpenSpec.ofChange assignPlaysSpec)

/-- ITS FALSE NEIGHBOUR: 'it returns false'. Refute it at one input. -/
def assignPlaysWrong : ChangeSpec := { name := "assignPlays", fn := fun _ => fun
  | [d1, d2, d3] => { results := [.lit (.bool false)], args := [d1, d2, d3] }
  | _ => none }
def AssignPlaysWrongFalsely : Prop := assignPlaysRow.holds Try.pinned (OpenSpec.ofChange assignPlaysWrong)

/-- 'jamblaw22.FlowTower': WHATEVER THE INPUT: true; the input reads as it did. -/
def flowTowerSpec : ChangeSpec := { name := "flowTower", fn := fun _ => fun
  | [d] => { results := [.lit (.bool true)], args := [d] }
  | _ => none }
def flowTowerRow : OpenClaim := { program := "ytlebbkhhhmempaa", sum := "6f92af736602a928ce0b61776c38b4a27c2276e857a34887fffb31cce3a1ca67", func := "jamb/jamblaw22.FlowTower", spec := "flowTower", inPlace := ["math/bits.Add64"], unfollowed := true, recurses := true, apart := false }
def FlowTowerSaid : Prop := flowTowerRow.holds Try.pinned (OpenSpec.ofChange flowTowerSpec)

/-- ITS FALSE NEIGHBOUR: 'it returns false'. Refute it at one input. -/
def flowTowerWrong : ChangeSpec := { name := "flowTower", fn := fun _ => fun
  | [d] => { results := [.lit (.bool false)], args := [d] }
  | _ => none }
def FlowTowerWrongFalsely : Prop := flowTowerRow.holds Try.pinned (OpenSpec.ofChange flowTowerWrong)

/-- 'jamblaw22.FlowNest': WHATEVER THE INPUT: true; the input reads as it did. -/
def flowNestSpec : ChangeSpec := { name := "flowNest", fn := fun _ => fun
  | [d1, d2, d3] => { results := [.lit (.bool true)], args := [d1, d2, d3] }
  | _ => none }
def flowNestRow : OpenClaim := { program := "ytlebbkhhhmempaa", sum := "6f92af736602a928ce0b61776c38b4a27c2276e857a34887fffb31cce3a1ca67", func := "jamb/jamblaw22.FlowNest", spec := "flowNest", inPlace := ["math/bits.Add64"], unfollowed := true, recurses := true, apart := false }
def FlowNestSaid : Prop := flowNestRow.holds Try.pinned (OpenSpec.ofChange flowNestSpec)

/-- ITS FALSE NEIGHBOUR: 'it returns false'. Refute it at one input. -/
def flowNestWrong : ChangeSpec := { name := "flowNest", fn := fun _ => fun
  | [d1, d2, d3] => { results := [.lit (.bool false)], args := [d1, d2, d3] }
  | _ => none }
def FlowNestWrongFalsely : Prop := flowNestRow.holds Try.pinned (OpenSpec.ofChange flowNestWrong)

/-- 'jamblaw22.FlowEnds': WHATEVER THE INPUT: true; the input reads as it did. -/
def flowEndsSpec : ChangeSpec := { name := "flowEnds", fn := fun _ => fun
  | [d1, d2] => { results := [.lit (.bool true)], args := [d1, d2] }
  | _ => none }
def flowEndsRow : OpenClaim := { program := "ytlebbkhhhmempaa", sum := "6f92af736602a928ce0b61776c38b4a27c2276e857a34887fffb31cce3a1ca67", func := "jamb/jamblaw22.FlowEnds", spec := "flowEnds", inPlace := ["math/bits.Add64"], unfollowed := true, recurses := true, apart := false }
def FlowEndsSaid : Prop := flowEndsRow.holds Try.pinned (OpenSpec.ofChange flowEndsSpec)

/-- ITS FALSE NEIGHBOUR: 'it returns false'. Refute it at one input. -/
def flowEndsWrong : ChangeSpec := { name := "flowEnds", fn := fun _ => fun
  | [d1, d2] => { results := [.lit (.bool false)], args := [d1, d2] }
  | _ => none }
def FlowEndsWrongFalsely : Prop := flowEndsRow.holds Try.pinned (OpenSpec.ofChange flowEndsWrong)

/-- 'jamblaw22.FlowClear': WHATEVER THE INPUT: true; the input reads as it did. -/
def flowClearSpec : ChangeSpec := { name := "flowClear", fn := fun _ => fun
  | [d1, d2] => { results := [.lit (.bool true)], args := [d1, d2] }
  | _ => none }
def flowClearRow : OpenClaim := { program := "ytlebbkhhhmempaa", sum := "6f92af736602a928ce0b61776c38b4a27c2276e857a34887fffb31cce3a1ca67", func := "jamb/jamblaw22.FlowClear", spec := "flowClear", inPlace := ["math/bits.Add64"], unfollowed := true, recurses := true, apart := false }
def FlowClearSaid : Prop := flowClearRow.holds Try.pinned (OpenSpec.ofChange flowClearSpec)

/-- ITS FALSE NEIGHBOUR: 'it returns false'. Refute it at one input. -/
def flowClearWrong : ChangeSpec := { name := "flowClear", fn := fun _ => fun
  | [d1, d2] => { results := [.lit (.bool false)], args := [d1, d2] }
  | _ => none }
def FlowClearWrongFalsely : Prop := flowClearRow.holds Try.pinned (OpenSpec.ofChange flowClearWrong)

/-- 'jamblaw22.FlowDown': WHATEVER THE INPUT: true; the input reads as it did. -/
def flowDownSpec : ChangeSpec := { name := "flowDown", fn := fun _ => fun
  | [d1, d2, d3] => { results := [.lit (.bool true)], args := [d1, d2, d3] }
  | _ => none }
def flowDownRow : OpenClaim := { program := "ytlebbkhhhmempaa", sum := "6f92af736602a928ce0b61776c38b4a27c2276e857a34887fffb31cce3a1ca67", func := "jamb/jamblaw22.FlowDown", spec := "flowDown", inPlace := ["math/bits.Add64"], unfollowed := true, recurses := true, apart := false }
def FlowDownSaid : Prop := flowDownRow.holds Try.pinned (OpenSpec.ofChange flowDownSpec)

/-- ITS FALSE NEIGHBOUR: 'it returns false'. Refute it at one input. -/
def flowDownWrong : ChangeSpec := { name := "flowDown", fn := fun _ => fun
  | [d1, d2, d3] => { results := [.lit (.bool false)], args := [d1, d2, d3] }
  | _ => none }
def FlowDownWrongFalsely : Prop := flowDownRow.holds Try.pinned (OpenSpec.ofChange flowDownWrong)

/-- 'jamblaw21.AssignSums': WHATEVER THE INPUT: true; the input reads as it did. -/
def assignSumsSpec : ChangeSpec := { name := "assignSums", fn := fun _ => fun
  | [d] => { results := [.lit (.bool true)], args := [d] }
  | _ => none }
def assignSumsRow : OpenClaim := { program := "ytlebbkhhhmempaa", sum := "6f92af736602a928ce0b61776c38b4a27c2276e857a34887fffb31cce3a1ca67", func := "jamb/jamblaw21.AssignSums", spec := "assignSums", inPlace := ["math/bits.Add64", "math/bits.Sub64"], unfollowed := true, recurses := true, apart := false }
def AssignSumsSaid : Prop := assignSumsRow.holds Try.pinned (OpenSpec.ofChange assignSumsSpec)

/-- ITS FALSE NEIGHBOUR: 'it returns false'. Refute it at one input. -/
def assignSumsWrong : ChangeSpec := { name := "assignSums", fn := fun _ => fun
  | [d] => { results := [.lit (.bool false)], args := [d] }
  | _ => none }
def AssignSumsWrongFalsely : Prop := assignSumsRow.holds Try.pinned (OpenSpec.ofChange assignSumsWrong)

/- THE SECOND FORM. 'bulk': how many values and letters a reading holds, each counted each time it is reached (what is shared counts as often as it is met; a slice's spare places count too). A statement '..UptoSaid' is the law's where the arguments, and the package variables that the reading takes, are together of bulk at most 1048576: NARROWER than '..Said'. Prove '..Said' where nothing that the law and all that it calls make is longer than what came in: it says more and counts as full. Else prove '..UptoSaid'. A law counts once. -/
mutual
def uptoBulk {H : Type} : DataW H → Nat
  | .lit (.string bytes) => bytes.length + 1
  | .lit _ => 1
  | .nil => 1
  | .ptr d => uptoBulk d + 1
  | .slice elems spare => uptoBulkAll elems + uptoBulkAll spare + 1
  | .agg parts => uptoBulkAll parts + 1
  | .iface _ d => uptoBulk d + 1
  | .map entries => uptoBulkEntries entries + 1
  | .held _ => 1
def uptoBulkAll {H : Type} : List (DataW H) → Nat
  | [] => 0
  | d :: r => uptoBulk d + uptoBulkAll r
def uptoBulkEntries {H : Type} : List (Lit × DataW H) → Nat
  | [] => 0
  | x :: r => uptoBulkEntry x + uptoBulkEntries r
def uptoBulkEntry {H : Type} : Lit × DataW H → Nat
  | (.string bytes, d) => bytes.length + uptoBulk d + 1
  | (_, d) => uptoBulk d + 1
 end
def uptoSmall : (H : Type) → List (DataW H) → Bool := fun _ ds => decide (uptoBulkAll ds ≤ 1048576)
def OpenSpec.upto (s : _root_.Go.ChangeSpec) : _root_.Go.OpenSpec := { _root_.Go.OpenSpec.ofChange s with cond := some uptoSmall }

/-- 'jamblaw21.AssignPlays', WHERE WHAT IT READS IS OF BULK AT MOST 1048576: true; the input reads as it did. -/
def assignPlaysUptoRow : OpenClaim := { program := "ytlebbkhhhmempaa", sum := "6f92af736602a928ce0b61776c38b4a27c2276e857a34887fffb31cce3a1ca67", func := "jamb/jamblaw21.AssignPlays", spec := "assignPlays", inPlace := ["math/bits.Add64", "math/bits.Sub64"], unfollowed := true, recurses := true, apart := false, narrowed := true }
def AssignPlaysUptoSaid : Prop := assignPlaysUptoRow.holds Try.pinned (OpenSpec.upto assignPlaysSpec)

/-- 'jamblaw22.FlowTower', WHERE WHAT IT READS IS OF BULK AT MOST 1048576: true; the input reads as it did. -/
def flowTowerUptoRow : OpenClaim := { program := "ytlebbkhhhmempaa", sum := "6f92af736602a928ce0b61776c38b4a27c2276e857a34887fffb31cce3a1ca67", func := "jamb/jamblaw22.FlowTower", spec := "flowTower", inPlace := ["math/bits.Add64"], unfollowed := true, recurses := true, apart := false, narrowed := true }
def FlowTowerUptoSaid : Prop := flowTowerUptoRow.holds Try.pinned (OpenSpec.upto flowTowerSpec)

/-- 'jamblaw22.FlowNest', WHERE WHAT IT READS IS OF BULK AT MOST 1048576: true; the input reads as it did. -/
def flowNestUptoRow : OpenClaim := { program := "ytlebbkhhhmempaa", sum := "6f92af736602a928ce0b61776c38b4a27c2276e857a34887fffb31cce3a1ca67", func := "jamb/jamblaw22.FlowNest", spec := "flowNest", inPlace := ["math/bits.Add64"], unfollowed := true, recurses := true, apart := false, narrowed := true }
def FlowNestUptoSaid : Prop := flowNestUptoRow.holds Try.pinned (OpenSpec.upto flowNestSpec)

/-- 'jamblaw22.FlowEnds', WHERE WHAT IT READS IS OF BULK AT MOST 1048576: true; the input reads as it did. -/
def flowEndsUptoRow : OpenClaim := { program := "ytlebbkhhhmempaa", sum := "6f92af736602a928ce0b61776c38b4a27c2276e857a34887fffb31cce3a1ca67", func := "jamb/jamblaw22.FlowEnds", spec := "flowEnds", inPlace := ["math/bits.Add64"], unfollowed := true, recurses := true, apart := false, narrowed := true }
def FlowEndsUptoSaid : Prop := flowEndsUptoRow.holds Try.pinned (OpenSpec.upto flowEndsSpec)

/-- 'jamblaw22.FlowClear', WHERE WHAT IT READS IS OF BULK AT MOST 1048576: true; the input reads as it did. -/
def flowClearUptoRow : OpenClaim := { program := "ytlebbkhhhmempaa", sum := "6f92af736602a928ce0b61776c38b4a27c2276e857a34887fffb31cce3a1ca67", func := "jamb/jamblaw22.FlowClear", spec := "flowClear", inPlace := ["math/bits.Add64"], unfollowed := true, recurses := true, apart := false, narrowed := true }
def FlowClearUptoSaid : Prop := flowClearUptoRow.holds Try.pinned (OpenSpec.upto flowClearSpec)

/-- 'jamblaw22.FlowDown', WHERE WHAT IT READS IS OF BULK AT MOST 1048576: true; the input reads as it did. -/
def flowDownUptoRow : OpenClaim := { program := "ytlebbkhhhmempaa", sum := "6f92af736602a928ce0b61776c38b4a27c2276e857a34887fffb31cce3a1ca67", func := "jamb/jamblaw22.FlowDown", spec := "flowDown", inPlace := ["math/bits.Add64"], unfollowed := true, recurses := true, apart := false, narrowed := true }
def FlowDownUptoSaid : Prop := flowDownUptoRow.holds Try.pinned (OpenSpec.upto flowDownSpec)

/-- 'jamblaw21.AssignSums', WHERE WHAT IT READS IS OF BULK AT MOST 1048576: true; the input reads as it did. -/
def assignSumsUptoRow : OpenClaim := { program := "ytlebbkhhhmempaa", sum := "6f92af736602a928ce0b61776c38b4a27c2276e857a34887fffb31cce3a1ca67", func := "jamb/jamblaw21.AssignSums", spec := "assignSums", inPlace := ["math/bits.Add64", "math/bits.Sub64"], unfollowed := true, recurses := true, apart := false, narrowed := true }
def AssignSumsUptoSaid : Prop := assignSumsUptoRow.holds Try.pinned (OpenSpec.upto assignSumsSpec)

end Rows
end Go.Proofs.Ytlebbkhhhmempaa
