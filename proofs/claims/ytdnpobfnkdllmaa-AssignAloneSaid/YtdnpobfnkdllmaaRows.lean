/-
  No cell of these rows narrows 'for every input' (looked for: loops, veiled, ifaces, maps, wideKeys, modest, calm, conditions, laid).
  DERIVED. THE GIVEN ROWS OF THIS SEAT. 9 by the template 'for every input the law returns true; each argument reads behind the call as it read before'; 0 by the template 'total and deterministic' (their statements: YtdnpobfnkdllmaaTotals.lean).
  GIVEN WITH THE SEED: the statements are not yours to turn. If you find one false, say at which input.
  Laid BY PROGRAM, IN A SANDBOX (cutbox-rows.mjs): the forced cells as the released guide's own fill.sh prints them over the translation d7a20df01290adbc… (all of the seat's roots in one cut). By AI agents, Wed Nov 11 2026. No macro, syntax, notation, axiom, sorry.
-/
import Derived.Test.YtdnpobfnkdllmaaChecked
import GoSem.Claim
import GoSem.ClaimJoined
import GoSem.ClaimMapViews
import Derived.JoinedTies
import Derived.KernelRfl
namespace Go.Proofs.Ytdnpobfnkdllmaa
/- THE CELL 'sum', in the pinned program and in every row, IS THE sha256 OF THE DUMP (.gsa) THAT YtdnpobfnkdllmaaProg.lean LOADS. Nothing in Lean hashes anything: it is a label: what it is worth is what the hold of that sum in a sandbox is worth. -/
noncomputable def Try.pinned : Pinned := { name := "ytdnpobfnkdllmaa", sum := "d7a20df01290adbcd590d17fc38289ebc16f6c843154a619f0ee64b556671c7c", checked := Try.checked }
namespace Rows
def none {H : Type} : Left H := { results := [], args := [] }

/-- 'jamblaw19.MainsShares': WHATEVER THE INPUT: true; the input reads as it did. -/
def mainsSharesSpec : ChangeSpec := { name := "mainsShares", fn := fun _ => fun
  | [d1, d2, d3] => { results := [.lit (.bool true)], args := [d1, d2, d3] }
  | _ => none }
def mainsSharesRow : OpenClaim := { program := "ytdnpobfnkdllmaa", sum := "d7a20df01290adbcd590d17fc38289ebc16f6c843154a619f0ee64b556671c7c", func := "jamb/jamblaw19.MainsShares", spec := "mainsShares", inPlace := ["math/bits.Add64", "math/bits.Sub64"], unfollowed := true, recurses := true, apart := false }
def MainsSharesSaid : Prop := mainsSharesRow.holds Try.pinned (OpenSpec.ofChange mainsSharesSpec)

/-- ITS FALSE NEIGHBOUR: 'it returns false'. Refute it at one input. -/
def mainsSharesWrong : ChangeSpec := { name := "mainsShares", fn := fun _ => fun
  | [d1, d2, d3] => { results := [.lit (.bool false)], args := [d1, d2, d3] }
  | _ => none }
def MainsSharesWrongFalsely : Prop := mainsSharesRow.holds Try.pinned (OpenSpec.ofChange mainsSharesWrong)

/-- 'jamblaw19.MainsFits': WHATEVER THE INPUT: true; the input reads as it did. -/
def mainsFitsSpec : ChangeSpec := { name := "mainsFits", fn := fun _ => fun
  | [d1, d2, d3] => { results := [.lit (.bool true)], args := [d1, d2, d3] }
  | _ => none }
def mainsFitsRow : OpenClaim := { program := "ytdnpobfnkdllmaa", sum := "d7a20df01290adbcd590d17fc38289ebc16f6c843154a619f0ee64b556671c7c", func := "jamb/jamblaw19.MainsFits", spec := "mainsFits", inPlace := ["math/bits.Add64", "math/bits.Sub64"], unfollowed := true, recurses := true, apart := false }
def MainsFitsSaid : Prop := mainsFitsRow.holds Try.pinned (OpenSpec.ofChange mainsFitsSpec)

/-- ITS FALSE NEIGHBOUR: 'it returns false'. Refute it at one input. -/
def mainsFitsWrong : ChangeSpec := { name := "mainsFits", fn := fun _ => fun
  | [d1, d2, d3] => { results := [.lit (.bool false)], args := [d1, d2, d3] }
  | _ => none }
def MainsFitsWrongFalsely : Prop := mainsFitsRow.holds Try.pinned (OpenSpec.ofChange mainsFitsWrong)

/-- 'jamblaw19.MainsPlays': WHATEVER THE INPUT: true; the input reads as it did. -/
def mainsPlaysSpec : ChangeSpec := { name := "mainsPlays", fn := fun _ => fun
  | [d] => { results := [.lit (.bool true)], args := [d] }
  | _ => none }
def mainsPlaysRow : OpenClaim := { program := "ytdnpobfnkdllmaa", sum := "d7a20df01290adbcd590d17fc38289ebc16f6c843154a619f0ee64b556671c7c", func := "jamb/jamblaw19.MainsPlays", spec := "mainsPlays", inPlace := ["math/bits.Add64", "math/bits.Sub64"], unfollowed := true, recurses := true, apart := false }
def MainsPlaysSaid : Prop := mainsPlaysRow.holds Try.pinned (OpenSpec.ofChange mainsPlaysSpec)

/-- ITS FALSE NEIGHBOUR: 'it returns false'. Refute it at one input. -/
def mainsPlaysWrong : ChangeSpec := { name := "mainsPlays", fn := fun _ => fun
  | [d] => { results := [.lit (.bool false)], args := [d] }
  | _ => none }
def MainsPlaysWrongFalsely : Prop := mainsPlaysRow.holds Try.pinned (OpenSpec.ofChange mainsPlaysWrong)

/-- 'jamblaw19.MainsFill': WHATEVER THE INPUT: true; the input reads as it did. -/
def mainsFillSpec : ChangeSpec := { name := "mainsFill", fn := fun _ => fun
  | [d] => { results := [.lit (.bool true)], args := [d] }
  | _ => none }
def mainsFillRow : OpenClaim := { program := "ytdnpobfnkdllmaa", sum := "d7a20df01290adbcd590d17fc38289ebc16f6c843154a619f0ee64b556671c7c", func := "jamb/jamblaw19.MainsFill", spec := "mainsFill", inPlace := ["math/bits.Add64", "math/bits.Sub64"], unfollowed := true, recurses := true, apart := false }
def MainsFillSaid : Prop := mainsFillRow.holds Try.pinned (OpenSpec.ofChange mainsFillSpec)

/-- ITS FALSE NEIGHBOUR: 'it returns false'. Refute it at one input. -/
def mainsFillWrong : ChangeSpec := { name := "mainsFill", fn := fun _ => fun
  | [d] => { results := [.lit (.bool false)], args := [d] }
  | _ => none }
def MainsFillWrongFalsely : Prop := mainsFillRow.holds Try.pinned (OpenSpec.ofChange mainsFillWrong)

/-- 'jamblaw19.MainsWrap': WHATEVER THE INPUT: true; the input reads as it did. -/
def mainsWrapSpec : ChangeSpec := { name := "mainsWrap", fn := fun _ => fun
  | [d] => { results := [.lit (.bool true)], args := [d] }
  | _ => none }
def mainsWrapRow : OpenClaim := { program := "ytdnpobfnkdllmaa", sum := "d7a20df01290adbcd590d17fc38289ebc16f6c843154a619f0ee64b556671c7c", func := "jamb/jamblaw19.MainsWrap", spec := "mainsWrap", inPlace := ["math/bits.Add64", "math/bits.Sub64"], unfollowed := true, recurses := true, apart := false }
def MainsWrapSaid : Prop := mainsWrapRow.holds Try.pinned (OpenSpec.ofChange mainsWrapSpec)

/-- ITS FALSE NEIGHBOUR: 'it returns false'. Refute it at one input. -/
def mainsWrapWrong : ChangeSpec := { name := "mainsWrap", fn := fun _ => fun
  | [d] => { results := [.lit (.bool false)], args := [d] }
  | _ => none }
def MainsWrapWrongFalsely : Prop := mainsWrapRow.holds Try.pinned (OpenSpec.ofChange mainsWrapWrong)

/-- 'jamblaw19.MainsTurned': WHATEVER THE INPUT: true; the input reads as it did. -/
def mainsTurnedSpec : ChangeSpec := { name := "mainsTurned", fn := fun _ => fun
  | [d] => { results := [.lit (.bool true)], args := [d] }
  | _ => none }
def mainsTurnedRow : OpenClaim := { program := "ytdnpobfnkdllmaa", sum := "d7a20df01290adbcd590d17fc38289ebc16f6c843154a619f0ee64b556671c7c", func := "jamb/jamblaw19.MainsTurned", spec := "mainsTurned", inPlace := ["math/bits.Add64", "math/bits.Sub64"], unfollowed := true, recurses := true, apart := false }
def MainsTurnedSaid : Prop := mainsTurnedRow.holds Try.pinned (OpenSpec.ofChange mainsTurnedSpec)

/-- ITS FALSE NEIGHBOUR: 'it returns false'. Refute it at one input. -/
def mainsTurnedWrong : ChangeSpec := { name := "mainsTurned", fn := fun _ => fun
  | [d] => { results := [.lit (.bool false)], args := [d] }
  | _ => none }
def MainsTurnedWrongFalsely : Prop := mainsTurnedRow.holds Try.pinned (OpenSpec.ofChange mainsTurnedWrong)

/-- 'jamblaw21.AssignPlays': WHATEVER THE INPUT: true; the input reads as it did. -/
def assignPlaysSpec : ChangeSpec := { name := "assignPlays", fn := fun _ => fun
  | [d1, d2, d3] => { results := [.lit (.bool true)], args := [d1, d2, d3] }
  | _ => none }
def assignPlaysRow : OpenClaim := { program := "ytdnpobfnkdllmaa", sum := "d7a20df01290adbcd590d17fc38289ebc16f6c843154a619f0ee64b556671c7c", func := "jamb/jamblaw21.AssignPlays", spec := "assignPlays", inPlace := ["math/bits.Add64", "math/bits.Sub64"], unfollowed := true, recurses := true, apart := false }
def AssignPlaysSaid : Prop := assignPlaysRow.holds Try.pinned (OpenSpec.ofChange assignPlaysSpec)

/-- ITS FALSE NEIGHBOUR: 'it returns false'. Refute it at one input. -/
def assignPlaysWrong : ChangeSpec := { name := "assignPlays", fn := fun _ => fun
  | [d1, d2, d3] => { results := [.lit (.bool false)], args := [d1, d2, d3] }
  | _ => none }
def AssignPlaysWrongFalsely : Prop := assignPlaysRow.holds Try.pinned (OpenSpec.ofChange assignPlaysWrong)

/-- 'jamblaw21.AssignAlone': WHATEVER THE INPUT: true; the input reads as it did. -/
def assignAloneSpec : ChangeSpec := { name := "assignAlone", fn := fun _ => fun
  | [d1, d2, d3, d4] => { results := [.lit (.bool true)], args := [d1, d2, d3, d4] }
  | _ => none }
def assignAloneRow : OpenClaim := { program := "ytdnpobfnkdllmaa", sum := "d7a20df01290adbcd590d17fc38289ebc16f6c843154a619f0ee64b556671c7c", func := "jamb/jamblaw21.AssignAlone", spec := "assignAlone", inPlace := ["math/bits.Add64", "math/bits.Sub64"], unfollowed := true, recurses := true, apart := false }
def AssignAloneSaid : Prop := assignAloneRow.holds Try.pinned (OpenSpec.ofChange assignAloneSpec)

/-- ITS FALSE NEIGHBOUR: 'it returns false'. Refute it at one input. -/
def assignAloneWrong : ChangeSpec := { name := "assignAlone", fn := fun _ => fun
  | [d1, d2, d3, d4] => { results := [.lit (.bool false)], args := [d1, d2, d3, d4] }
  | _ => none }
def AssignAloneWrongFalsely : Prop := assignAloneRow.holds Try.pinned (OpenSpec.ofChange assignAloneWrong)

/-- 'jamblaw21.AssignSums': WHATEVER THE INPUT: true; the input reads as it did. -/
def assignSumsSpec : ChangeSpec := { name := "assignSums", fn := fun _ => fun
  | [d] => { results := [.lit (.bool true)], args := [d] }
  | _ => none }
def assignSumsRow : OpenClaim := { program := "ytdnpobfnkdllmaa", sum := "d7a20df01290adbcd590d17fc38289ebc16f6c843154a619f0ee64b556671c7c", func := "jamb/jamblaw21.AssignSums", spec := "assignSums", inPlace := ["math/bits.Add64", "math/bits.Sub64"], unfollowed := true, recurses := true, apart := false }
def AssignSumsSaid : Prop := assignSumsRow.holds Try.pinned (OpenSpec.ofChange assignSumsSpec)

/-- ITS FALSE NEIGHBOUR: 'it returns false'. Refute it at one input. -/
def assignSumsWrong : ChangeSpec := { name := "assignSums", fn := fun _ => fun
  | [d] => { results := [.lit (.bool false)], args := [d] }
  | _ => none }
def AssignSumsWrongFalsely : Prop := assignSumsRow.holds Try.pinned (OpenSpec.ofChange assignSumsWrong)

/- THE SECOND FORM. 'bulk': how many values and letters a reading holds, each counted each time it is reached (what is shared counts as often as it is met; a slice's spare places count too). A statement '..UptoSaid' is the law's where the arguments, and the package variables that the reading takes, are together of bulk at most 1048576: NARROWER than '..Said'. Prove '..Said' where nothing that the law and all that it calls make is longer than what came in: it says more and counts as full. Else prove '..UptoSaid'. A law counts once. -/
mutual
def uptoBulk {H : Type} : DataW H → Nat
  | .lit (.string bytes) => bytes.length + 1
  | .lit _ => 1
  | .nil => 1
  | .ptr d => uptoBulk d + 1
  | .slice elems spare => uptoBulkAll elems + uptoBulkAll spare + 1
  | .agg parts => uptoBulkAll parts + 1
  | .iface _ d => uptoBulk d + 1
  | .map entries => uptoBulkEntries entries + 1
  | .held _ => 1
def uptoBulkAll {H : Type} : List (DataW H) → Nat
  | [] => 0
  | d :: r => uptoBulk d + uptoBulkAll r
def uptoBulkEntries {H : Type} : List (Lit × DataW H) → Nat
  | [] => 0
  | x :: r => uptoBulkEntry x + uptoBulkEntries r
def uptoBulkEntry {H : Type} : Lit × DataW H → Nat
  | (.string bytes, d) => bytes.length + uptoBulk d + 1
  | (_, d) => uptoBulk d + 1
 end
def uptoSmall : (H : Type) → List (DataW H) → Bool := fun _ ds => decide (uptoBulkAll ds ≤ 1048576)
def OpenSpec.upto (s : _root_.Go.ChangeSpec) : _root_.Go.OpenSpec := { _root_.Go.OpenSpec.ofChange s with cond := some uptoSmall }

/-- 'jamblaw19.MainsShares', WHERE WHAT IT READS IS OF BULK AT MOST 1048576: true; the input reads as it did. -/
def mainsSharesUptoRow : OpenClaim := { program := "ytdnpobfnkdllmaa", sum := "d7a20df01290adbcd590d17fc38289ebc16f6c843154a619f0ee64b556671c7c", func := "jamb/jamblaw19.MainsShares", spec := "mainsShares", inPlace := ["math/bits.Add64", "math/bits.Sub64"], unfollowed := true, recurses := true, apart := false, narrowed := true }
def MainsSharesUptoSaid : Prop := mainsSharesUptoRow.holds Try.pinned (OpenSpec.upto mainsSharesSpec)

/-- 'jamblaw19.MainsFits', WHERE WHAT IT READS IS OF BULK AT MOST 1048576: true; the input reads as it did. -/
def mainsFitsUptoRow : OpenClaim := { program := "ytdnpobfnkdllmaa", sum := "d7a20df01290adbcd590d17fc38289ebc16f6c843154a619f0ee64b556671c7c", func := "jamb/jamblaw19.MainsFits", spec := "mainsFits", inPlace := ["math/bits.Add64", "math/bits.Sub64"], unfollowed := true, recurses := true, apart := false, narrowed := true }
def MainsFitsUptoSaid : Prop := mainsFitsUptoRow.holds Try.pinned (OpenSpec.upto mainsFitsSpec)

/-- 'jamblaw19.MainsPlays', WHERE WHAT IT READS IS OF BULK AT MOST 1048576: true; the input reads as it did. -/
def mainsPlaysUptoRow : OpenClaim := { program := "ytdnpobfnkdllmaa", sum := "d7a20df01290adbcd590d17fc38289ebc16f6c843154a619f0ee64b556671c7c", func := "jamb/jamblaw19.MainsPlays", spec := "mainsPlays", inPlace := ["math/bits.Add64", "math/bits.Sub64"], unfollowed := true, recurses := true, apart := false, narrowed := true }
def MainsPlaysUptoSaid : Prop := mainsPlaysUptoRow.holds Try.pinned (OpenSpec.upto mainsPlaysSpec)

/-- 'jamblaw19.MainsFill', WHERE WHAT IT READS IS OF BULK AT MOST 1048576: true; the input reads as it did. -/
def mainsFillUptoRow : OpenClaim := { program := "ytdnpobfnkdllmaa", sum := "d7a20df01290adbcd590d17fc38289ebc16f6c843154a619f0ee64b556671c7c", func := "jamb/jamblaw19.MainsFill", spec := "mainsFill", inPlace := ["math/bits.Add64", "math/bits.Sub64"], unfollowed := true, recurses := true, apart := false, narrowed := true }
def MainsFillUptoSaid : Prop := mainsFillUptoRow.holds Try.pinned (OpenSpec.upto mainsFillSpec)

/-- 'jamblaw19.MainsWrap', WHERE WHAT IT READS IS OF BULK AT MOST 1048576: true; the input reads as it did. -/
def mainsWrapUptoRow : OpenClaim := { program := "ytdnpobfnkdllmaa", sum := "d7a20df01290adbcd590d17fc38289ebc16f6c843154a619f0ee64b556671c7c", func := "jamb/jamblaw19.MainsWrap", spec := "mainsWrap", inPlace := ["math/bits.Add64", "math/bits.Sub64"], unfollowed := true, recurses := true, apart := false, narrowed := true }
def MainsWrapUptoSaid : Prop := mainsWrapUptoRow.holds Try.pinned (OpenSpec.upto mainsWrapSpec)

/-- 'jamblaw19.MainsTurned', WHERE WHAT IT READS IS OF BULK AT MOST 1048576: true; the input reads as it did. -/
def mainsTurnedUptoRow : OpenClaim := { program := "ytdnpobfnkdllmaa", sum := "d7a20df01290adbcd590d17fc38289ebc16f6c843154a619f0ee64b556671c7c", func := "jamb/jamblaw19.MainsTurned", spec := "mainsTurned", inPlace := ["math/bits.Add64", "math/bits.Sub64"], unfollowed := true, recurses := true, apart := false, narrowed := true }
def MainsTurnedUptoSaid : Prop := mainsTurnedUptoRow.holds Try.pinned (OpenSpec.upto mainsTurnedSpec)

/-- 'jamblaw21.AssignPlays', WHERE WHAT IT READS IS OF BULK AT MOST 1048576: true; the input reads as it did. -/
def assignPlaysUptoRow : OpenClaim := { program := "ytdnpobfnkdllmaa", sum := "d7a20df01290adbcd590d17fc38289ebc16f6c843154a619f0ee64b556671c7c", func := "jamb/jamblaw21.AssignPlays", spec := "assignPlays", inPlace := ["math/bits.Add64", "math/bits.Sub64"], unfollowed := true, recurses := true, apart := false, narrowed := true }
def AssignPlaysUptoSaid : Prop := assignPlaysUptoRow.holds Try.pinned (OpenSpec.upto assignPlaysSpec)

/-- 'jamblaw21.AssignAlone', WHERE WHAT IT READS IS OF BULK AT MOST 1048576: true; the input reads as it did. -/
def assignAloneUptoRow : OpenClaim := { program := "ytdnpobfnkdllmaa", sum := "d7a20df01290adbcd590d17fc38289ebc16f6c843154a619f0ee64b556671c7c", func := "jamb/jamblaw21.AssignAlone", spec := "assignAlone", inPlace := ["math/bits.Add64", "math/bits.Sub64"], unfollowed := true, recurses := true, apart := false, narrowed := true }
def AssignAloneUptoSaid : Prop := assignAloneUptoRow.holds Try.pinned (OpenSpec.upto assignAloneSpec)

/-- 'jamblaw21.AssignSums', WHERE WHAT IT READS IS OF BULK AT MOST 1048576: true; the input reads as it did. -/
def assignSumsUptoRow : OpenClaim := { program := "ytdnpobfnkdllmaa", sum := "d7a20df01290adbcd590d17fc38289ebc16f6c843154a619f0ee64b556671c7c", func := "jamb/jamblaw21.AssignSums", spec := "assignSums", inPlace := ["math/bits.Add64", "math/bits.Sub64"], unfollowed := true, recurses := true, apart := false, narrowed := true }
def AssignSumsUptoSaid : Prop := assignSumsUptoRow.holds Try.pinned (OpenSpec.upto assignSumsSpec)

end Rows
end Go.Proofs.Ytdnpobfnkdllmaa
