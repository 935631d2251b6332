/-
  No cell of these rows narrows 'for every input' (looked for: loops, veiled, ifaces, maps, wideKeys, modest, calm, conditions, laid).
  DERIVED. THE GIVEN ROWS OF THIS SEAT. 4 by the template 'for every input the law returns true; each argument reads behind the call as it read before'; 0 by the template 'total and deterministic' (their statements: YtenpjdpkilbhkaaTotals.lean).
  GIVEN WITH THE SEED: the statements are not yours to turn. If you find one false, say at which input.
  Laid BY PROGRAM, IN A SANDBOX (cutbox-rows.mjs): the forced cells as the released guide's own fill.sh prints them over the translation 1683258a7747caa9… (all of the seat's roots in one cut). By AI agents, Wed Nov 11 2026. No macro, syntax, notation, axiom, sorry.
-/
import Derived.Test.YtenpjdpkilbhkaaChecked
import GoSem.Claim
import GoSem.ClaimJoined
import GoSem.ClaimMapViews
import Derived.JoinedTies
import Derived.KernelRfl
namespace Go.Proofs.Ytenpjdpkilbhkaa
/- THE CELL 'sum', in the pinned program and in every row, IS THE sha256 OF THE DUMP (.gsa) THAT YtenpjdpkilbhkaaProg.lean LOADS. Nothing in Lean hashes anything: it is a label: what it is worth is what the hold of that sum in a sandbox is worth. -/
noncomputable def Try.pinned : Pinned := { name := "ytenpjdpkilbhkaa", sum := "1683258a7747caa973c1ac369356ab3c87e64e64f4e7e088792d2b4df16a61ee", checked := Try.checked }
namespace Rows
def none {H : Type} : Left H := { results := [], args := [] }

/-- 'jamblaw17.ContentOrder': WHATEVER THE INPUT: true; the input reads as it did. -/
def contentOrderSpec : ChangeSpec := { name := "contentOrder", fn := fun _ => fun
  | [d] => { results := [.lit (.bool true)], args := [d] }
  | _ => none }
def contentOrderRow : OpenClaim := { program := "ytenpjdpkilbhkaa", sum := "1683258a7747caa973c1ac369356ab3c87e64e64f4e7e088792d2b4df16a61ee", func := "jamb/jamblaw17.ContentOrder", spec := "contentOrder", inPlace := ["math/bits.Add64"], unfollowed := true, recurses := true, apart := false }
def ContentOrderSaid : Prop := contentOrderRow.holds Try.pinned (OpenSpec.ofChange contentOrderSpec)

/-- ITS FALSE NEIGHBOUR: 'it returns false'. Refute it at one input. -/
def contentOrderWrong : ChangeSpec := { name := "contentOrder", fn := fun _ => fun
  | [d] => { results := [.lit (.bool false)], args := [d] }
  | _ => none }
def ContentOrderWrongFalsely : Prop := contentOrderRow.holds Try.pinned (OpenSpec.ofChange contentOrderWrong)

/-- 'jamblaw17.ContentLines': WHATEVER THE INPUT: true; the input reads as it did. -/
def contentLinesSpec : ChangeSpec := { name := "contentLines", fn := fun _ => fun
  | [d1, d2, d3] => { results := [.lit (.bool true)], args := [d1, d2, d3] }
  | _ => none }
def contentLinesRow : OpenClaim := { program := "ytenpjdpkilbhkaa", sum := "1683258a7747caa973c1ac369356ab3c87e64e64f4e7e088792d2b4df16a61ee", func := "jamb/jamblaw17.ContentLines", spec := "contentLines", inPlace := ["math/bits.Add64"], unfollowed := true, recurses := true, apart := false }
def ContentLinesSaid : Prop := contentLinesRow.holds Try.pinned (OpenSpec.ofChange contentLinesSpec)

/-- ITS FALSE NEIGHBOUR: 'it returns false'. Refute it at one input. -/
def contentLinesWrong : ChangeSpec := { name := "contentLines", fn := fun _ => fun
  | [d1, d2, d3] => { results := [.lit (.bool false)], args := [d1, d2, d3] }
  | _ => none }
def ContentLinesWrongFalsely : Prop := contentLinesRow.holds Try.pinned (OpenSpec.ofChange contentLinesWrong)

/-- 'jamblaw17.ContentMore': WHATEVER THE INPUT: true; the input reads as it did. -/
def contentMoreSpec : ChangeSpec := { name := "contentMore", fn := fun _ => fun
  | [d1, d2, d3, d4] => { results := [.lit (.bool true)], args := [d1, d2, d3, d4] }
  | _ => none }
def contentMoreRow : OpenClaim := { program := "ytenpjdpkilbhkaa", sum := "1683258a7747caa973c1ac369356ab3c87e64e64f4e7e088792d2b4df16a61ee", func := "jamb/jamblaw17.ContentMore", spec := "contentMore", inPlace := ["math/bits.Add64"], unfollowed := true, recurses := true, apart := false }
def ContentMoreSaid : Prop := contentMoreRow.holds Try.pinned (OpenSpec.ofChange contentMoreSpec)

/-- ITS FALSE NEIGHBOUR: 'it returns false'. Refute it at one input. -/
def contentMoreWrong : ChangeSpec := { name := "contentMore", fn := fun _ => fun
  | [d1, d2, d3, d4] => { results := [.lit (.bool false)], args := [d1, d2, d3, d4] }
  | _ => none }
def ContentMoreWrongFalsely : Prop := contentMoreRow.holds Try.pinned (OpenSpec.ofChange contentMoreWrong)

/-- 'jamblaw17.ContentPlays': WHATEVER THE INPUT: true; the input reads as it did. -/
def contentPlaysSpec : ChangeSpec := { name := "contentPlays", fn := fun _ => fun
  | [d1, d2] => { results := [.lit (.bool true)], args := [d1, d2] }
  | _ => none }
def contentPlaysRow : OpenClaim := { program := "ytenpjdpkilbhkaa", sum := "1683258a7747caa973c1ac369356ab3c87e64e64f4e7e088792d2b4df16a61ee", func := "jamb/jamblaw17.ContentPlays", spec := "contentPlays", inPlace := ["math/bits.Add64"], unfollowed := true, recurses := true, apart := false }
def ContentPlaysSaid : Prop := contentPlaysRow.holds Try.pinned (OpenSpec.ofChange contentPlaysSpec)

/-- ITS FALSE NEIGHBOUR: 'it returns false'. Refute it at one input. -/
def contentPlaysWrong : ChangeSpec := { name := "contentPlays", fn := fun _ => fun
  | [d1, d2] => { results := [.lit (.bool false)], args := [d1, d2] }
  | _ => none }
def ContentPlaysWrongFalsely : Prop := contentPlaysRow.holds Try.pinned (OpenSpec.ofChange contentPlaysWrong)

/- THE SECOND FORM. 'bulk': how many values and letters a reading holds, each counted each time it is reached (what is shared counts as often as it is met; a slice's spare places count too). A statement '..UptoSaid' is the law's where the arguments, and the package variables that the reading takes, are together of bulk at most 1048576: NARROWER than '..Said'. Prove '..Said' where nothing that the law and all that it calls make is longer than what came in: it says more and counts as full. Else prove '..UptoSaid'. A law counts once. -/
mutual
def uptoBulk {H : Type} : DataW H → Nat
  | .lit (.string bytes) => bytes.length + 1
  | .lit _ => 1
  | .nil => 1
  | .ptr d => uptoBulk d + 1
  | .slice elems spare => uptoBulkAll elems + uptoBulkAll spare + 1
  | .agg parts => uptoBulkAll parts + 1
  | .iface _ d => uptoBulk d + 1
  | .map entries => uptoBulkEntries entries + 1
  | .held _ => 1
def uptoBulkAll {H : Type} : List (DataW H) → Nat
  | [] => 0
  | d :: r => uptoBulk d + uptoBulkAll r
def uptoBulkEntries {H : Type} : List (Lit × DataW H) → Nat
  | [] => 0
  | x :: r => uptoBulkEntry x + uptoBulkEntries r
def uptoBulkEntry {H : Type} : Lit × DataW H → Nat
  | (.string bytes, d) => bytes.length + uptoBulk d + 1
  | (_, d) => uptoBulk d + 1
 end
def uptoSmall : (H : Type) → List (DataW H) → Bool := fun _ ds => decide (uptoBulkAll ds ≤ 1048576)
def OpenSpec.upto (s : _root_.Go.ChangeSpec) : _root_.Go.OpenSpec := { _root_.Go.OpenSpec.ofChange s with cond := some uptoSmall }

/-- 'jamblaw17.ContentOrder', WHERE WHAT IT READS IS OF BULK AT MOST 1048576: true; the input reads as it did. -/
def contentOrderUptoRow : OpenClaim := { program := "ytenpjdpkilbhkaa", sum := "1683258a7747caa973c1ac369356ab3c87e64e64f4e7e088792d2b4df16a61ee", func := "jamb/jamblaw17.ContentOrder", spec := "contentOrder", inPlace := ["math/bits.Add64"], unfollowed := true, recurses := true, apart := false, narrowed := true }
def ContentOrderUptoSaid : Prop := contentOrderUptoRow.holds Try.pinned (OpenSpec.upto contentOrderSpec)

/-- 'jamblaw17.ContentLines', WHERE WHAT IT READS IS OF BULK AT MOST 1048576: true; the input reads as it did. -/
def contentLinesUptoRow : OpenClaim := { program := "ytenpjdpkilbhkaa", sum := "1683258a7747caa973c1ac369356ab3c87e64e64f4e7e088792d2b4df16a61ee", func := "jamb/jamblaw17.ContentLines", spec := "contentLines", inPlace := ["math/bits.Add64"], unfollowed := true, recurses := true, apart := false, narrowed := true }
def ContentLinesUptoSaid : Prop := contentLinesUptoRow.holds Try.pinned (OpenSpec.upto contentLinesSpec)

/-- 'jamblaw17.ContentMore', WHERE WHAT IT READS IS OF BULK AT MOST 1048576: true; the input reads as it did. -/
def contentMoreUptoRow : OpenClaim := { program := "ytenpjdpkilbhkaa", sum := "1683258a7747caa973c1ac369356ab3c87e64e64f4e7e088792d2b4df16a61ee", func := "jamb/jamblaw17.ContentMore", spec := "contentMore", inPlace := ["math/bits.Add64"], unfollowed := true, recurses := true, apart := false, narrowed := true }
def ContentMoreUptoSaid : Prop := contentMoreUptoRow.holds Try.pinned (OpenSpec.upto contentMoreSpec)

/-- 'jamblaw17.ContentPlays', WHERE WHAT IT READS IS OF BULK AT MOST 1048576: true; the input reads as it did. -/
def contentPlaysUptoRow : OpenClaim := { program := "ytenpjdpkilbhkaa", sum := "1683258a7747caa973c1ac369356ab3c87e64e64f4e7e088792d2b4df16a61ee", func := "jamb/jamblaw17.ContentPlays", spec := "contentPlays", inPlace := ["math/bits.Add64"], unfollowed := true, recurses := true, apart := false, narrowed := true }
def ContentPlaysUptoSaid : Prop := contentPlaysUptoRow.holds Try.pinned (OpenSpec.upto contentPlaysSpec)

end Rows
end Go.Proofs.Ytenpjdpkilbhkaa
