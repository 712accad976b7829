/-
  No cell of these rows narrows 'for every input' (looked for: loops, veiled, ifaces, maps, wideKeys, modest, calm, conditions, laid).
  DERIVED. THE GIVEN ROWS OF THIS SEAT. 7 by the template 'for every input the law returns true; each argument reads behind the call as it read before'; 0 by the template 'total and deterministic' (their statements: YtdognchniaojoaaTotals.lean).
  GIVEN WITH THE SEED: the statements are not yours to turn. If you find one false, say at which input.
  Laid BY PROGRAM, IN A SANDBOX (cutbox-rows.mjs): the forced cells as the released guide's own fill.sh prints them over the translation f6554ed18030f5f9… (all of the seat's roots in one cut). By AI agents, Wed Nov 11 2026. No macro, syntax, notation, axiom, sorry.
-/
import Derived.Test.YtdognchniaojoaaChecked
import GoSem.Claim
import GoSem.ClaimJoined
import GoSem.ClaimMapViews
import Derived.JoinedTies
import Derived.KernelRfl
namespace Go.Proofs.Ytdognchniaojoaa
/- THE CELL 'sum', in the pinned program and in every row, IS THE sha256 OF THE DUMP (.gsa) THAT YtdognchniaojoaaProg.lean LOADS. Nothing in Lean hashes anything: it is a label: what it is worth is what the hold of that sum in a sandbox is worth. -/
noncomputable def Try.pinned : Pinned := { name := "ytdognchniaojoaa", sum := "f6554ed18030f5f912378ec0cb19b977e68733238868f8705d3605e9b070e0e1", checked := Try.checked }
namespace Rows
def none {H : Type} : Left H := { results := [], args := [] }

/-- 'quintadenalaw03.SpansScales': WHATEVER THE INPUT: true; the input reads as it did. -/
def spansScalesSpec : ChangeSpec := { name := "spansScales", fn := fun _ => fun
  | [d1, d2, d3] => { results := [.lit (.bool true)], args := [d1, d2, d3] }
  | _ => none }
def spansScalesRow : OpenClaim := { program := "ytdognchniaojoaa", sum := "f6554ed18030f5f912378ec0cb19b977e68733238868f8705d3605e9b070e0e1", func := "quintadena/quintadenalaw03.SpansScales", spec := "spansScales", inPlace := ["math/bits.Add64"], named := ["math/bits.divideError", "math/bits.overflowError"], apart := false }
def SpansScalesSaid : Prop := spansScalesRow.holds Try.pinned (OpenSpec.ofChange spansScalesSpec)

/-- ITS FALSE NEIGHBOUR: 'it returns false'. Refute it at one input. -/
def spansScalesWrong : ChangeSpec := { name := "spansScales", fn := fun _ => fun
  | [d1, d2, d3] => { results := [.lit (.bool false)], args := [d1, d2, d3] }
  | _ => none }
def SpansScalesWrongFalsely : Prop := spansScalesRow.holds Try.pinned (OpenSpec.ofChange spansScalesWrong)

/-- 'quintadenalaw03.SpansPis': WHATEVER THE INPUT: true; the input reads as it did. -/
def spansPisSpec : ChangeSpec := { name := "spansPis", fn := fun _ => fun
  | [d] => { results := [.lit (.bool true)], args := [d] }
  | _ => none }
def spansPisRow : OpenClaim := { program := "ytdognchniaojoaa", sum := "f6554ed18030f5f912378ec0cb19b977e68733238868f8705d3605e9b070e0e1", func := "quintadena/quintadenalaw03.SpansPis", spec := "spansPis", inPlace := ["math/bits.Add64"], named := ["math/bits.divideError", "math/bits.overflowError"], apart := false }
def SpansPisSaid : Prop := spansPisRow.holds Try.pinned (OpenSpec.ofChange spansPisSpec)

/-- ITS FALSE NEIGHBOUR: 'it returns false'. Refute it at one input. -/
def spansPisWrong : ChangeSpec := { name := "spansPis", fn := fun _ => fun
  | [d] => { results := [.lit (.bool false)], args := [d] }
  | _ => none }
def SpansPisWrongFalsely : Prop := spansPisRow.holds Try.pinned (OpenSpec.ofChange spansPisWrong)

/-- 'quintadenalaw03.SpansTurn': WHATEVER THE INPUT: true; the input reads as it did. -/
def spansTurnSpec : ChangeSpec := { name := "spansTurn", fn := fun _ => fun
  | [d1, d2] => { results := [.lit (.bool true)], args := [d1, d2] }
  | _ => none }
def spansTurnRow : OpenClaim := { program := "ytdognchniaojoaa", sum := "f6554ed18030f5f912378ec0cb19b977e68733238868f8705d3605e9b070e0e1", func := "quintadena/quintadenalaw03.SpansTurn", spec := "spansTurn", inPlace := ["math/bits.Add64"], named := ["math/bits.divideError", "math/bits.overflowError"], apart := false }
def SpansTurnSaid : Prop := spansTurnRow.holds Try.pinned (OpenSpec.ofChange spansTurnSpec)

/-- ITS FALSE NEIGHBOUR: 'it returns false'. Refute it at one input. -/
def spansTurnWrong : ChangeSpec := { name := "spansTurn", fn := fun _ => fun
  | [d1, d2] => { results := [.lit (.bool false)], args := [d1, d2] }
  | _ => none }
def SpansTurnWrongFalsely : Prop := spansTurnRow.holds Try.pinned (OpenSpec.ofChange spansTurnWrong)

/-- 'quintadenalaw03.SpansInside': WHATEVER THE INPUT: true; the input reads as it did. -/
def spansInsideSpec : ChangeSpec := { name := "spansInside", fn := fun _ => fun
  | [d] => { results := [.lit (.bool true)], args := [d] }
  | _ => none }
def spansInsideRow : OpenClaim := { program := "ytdognchniaojoaa", sum := "f6554ed18030f5f912378ec0cb19b977e68733238868f8705d3605e9b070e0e1", func := "quintadena/quintadenalaw03.SpansInside", spec := "spansInside", inPlace := ["math/bits.Add64"], named := ["math/bits.divideError", "math/bits.overflowError"], apart := false }
def SpansInsideSaid : Prop := spansInsideRow.holds Try.pinned (OpenSpec.ofChange spansInsideSpec)

/-- ITS FALSE NEIGHBOUR: 'it returns false'. Refute it at one input. -/
def spansInsideWrong : ChangeSpec := { name := "spansInside", fn := fun _ => fun
  | [d] => { results := [.lit (.bool false)], args := [d] }
  | _ => none }
def SpansInsideWrongFalsely : Prop := spansInsideRow.holds Try.pinned (OpenSpec.ofChange spansInsideWrong)

/-- 'quintadenalaw03.SpansNarrow': WHATEVER THE INPUT: true; the input reads as it did. -/
def spansNarrowSpec : ChangeSpec := { name := "spansNarrow", fn := fun _ => fun
  | [d1, d2] => { results := [.lit (.bool true)], args := [d1, d2] }
  | _ => none }
def spansNarrowRow : OpenClaim := { program := "ytdognchniaojoaa", sum := "f6554ed18030f5f912378ec0cb19b977e68733238868f8705d3605e9b070e0e1", func := "quintadena/quintadenalaw03.SpansNarrow", spec := "spansNarrow", inPlace := ["math/bits.Add64"], named := ["math/bits.divideError", "math/bits.overflowError"], apart := false }
def SpansNarrowSaid : Prop := spansNarrowRow.holds Try.pinned (OpenSpec.ofChange spansNarrowSpec)

/-- ITS FALSE NEIGHBOUR: 'it returns false'. Refute it at one input. -/
def spansNarrowWrong : ChangeSpec := { name := "spansNarrow", fn := fun _ => fun
  | [d1, d2] => { results := [.lit (.bool false)], args := [d1, d2] }
  | _ => none }
def SpansNarrowWrongFalsely : Prop := spansNarrowRow.holds Try.pinned (OpenSpec.ofChange spansNarrowWrong)

/-- 'quintadenalaw03.SpansSums': WHATEVER THE INPUT: true; the input reads as it did. -/
def spansSumsSpec : ChangeSpec := { name := "spansSums", fn := fun _ => fun
  | [d1, d2] => { results := [.lit (.bool true)], args := [d1, d2] }
  | _ => none }
def spansSumsRow : OpenClaim := { program := "ytdognchniaojoaa", sum := "f6554ed18030f5f912378ec0cb19b977e68733238868f8705d3605e9b070e0e1", func := "quintadena/quintadenalaw03.SpansSums", spec := "spansSums", inPlace := ["math/bits.Add64"], named := ["math/bits.divideError", "math/bits.overflowError"], apart := false }
def SpansSumsSaid : Prop := spansSumsRow.holds Try.pinned (OpenSpec.ofChange spansSumsSpec)

/-- ITS FALSE NEIGHBOUR: 'it returns false'. Refute it at one input. -/
def spansSumsWrong : ChangeSpec := { name := "spansSums", fn := fun _ => fun
  | [d1, d2] => { results := [.lit (.bool false)], args := [d1, d2] }
  | _ => none }
def SpansSumsWrongFalsely : Prop := spansSumsRow.holds Try.pinned (OpenSpec.ofChange spansSumsWrong)

/-- 'quintadenalaw03.SpansSets': WHATEVER THE INPUT: true; the input reads as it did. -/
def spansSetsSpec : ChangeSpec := { name := "spansSets", fn := fun _ => fun
  | [d1, d2] => { results := [.lit (.bool true)], args := [d1, d2] }
  | _ => none }
def spansSetsRow : OpenClaim := { program := "ytdognchniaojoaa", sum := "f6554ed18030f5f912378ec0cb19b977e68733238868f8705d3605e9b070e0e1", func := "quintadena/quintadenalaw03.SpansSets", spec := "spansSets", inPlace := ["math/bits.Add64"], named := ["math/bits.divideError", "math/bits.overflowError"], apart := false }
def SpansSetsSaid : Prop := spansSetsRow.holds Try.pinned (OpenSpec.ofChange spansSetsSpec)

/-- ITS FALSE NEIGHBOUR: 'it returns false'. Refute it at one input. -/
def spansSetsWrong : ChangeSpec := { name := "spansSets", fn := fun _ => fun
  | [d1, d2] => { results := [.lit (.bool false)], args := [d1, d2] }
  | _ => none }
def SpansSetsWrongFalsely : Prop := spansSetsRow.holds Try.pinned (OpenSpec.ofChange spansSetsWrong)

/- THE SECOND FORM. 'bulk': how many values and letters a reading holds, each counted each time it is reached (what is shared counts as often as it is met; a slice's spare places count too). A statement '..UptoSaid' is the law's where the arguments, and the package variables that the reading takes, are together of bulk at most 1048576: NARROWER than '..Said'. Prove '..Said' where nothing that the law and all that it calls make is longer than what came in: it says more and counts as full. Else prove '..UptoSaid'. A law counts once. -/
mutual
def uptoBulk {H : Type} : DataW H → Nat
  | .lit (.string bytes) => bytes.length + 1
  | .lit _ => 1
  | .nil => 1
  | .ptr d => uptoBulk d + 1
  | .slice elems spare => uptoBulkAll elems + uptoBulkAll spare + 1
  | .agg parts => uptoBulkAll parts + 1
  | .iface _ d => uptoBulk d + 1
  | .map entries => uptoBulkEntries entries + 1
  | .held _ => 1
def uptoBulkAll {H : Type} : List (DataW H) → Nat
  | [] => 0
  | d :: r => uptoBulk d + uptoBulkAll r
def uptoBulkEntries {H : Type} : List (Lit × DataW H) → Nat
  | [] => 0
  | x :: r => uptoBulkEntry x + uptoBulkEntries r
def uptoBulkEntry {H : Type} : Lit × DataW H → Nat
  | (.string bytes, d) => bytes.length + uptoBulk d + 1
  | (_, d) => uptoBulk d + 1
 end
def uptoSmall : (H : Type) → List (DataW H) → Bool := fun _ ds => decide (uptoBulkAll ds ≤ 1048576)
def OpenSpec.upto (s : _root_.Go.ChangeSpec) : _root_.Go.OpenSpec := { _root_.Go.OpenSpec.ofChange s with cond := some uptoSmall }

/-- 'quintadenalaw03.SpansScales', WHERE WHAT IT READS IS OF BULK AT MOST 1048576: true; the input reads as it did. -/
def spansScalesUptoRow : OpenClaim := { program := "ytdognchniaojoaa", sum := "f6554ed18030f5f912378ec0cb19b977e68733238868f8705d3605e9b070e0e1", func := "quintadena/quintadenalaw03.SpansScales", spec := "spansScales", inPlace := ["math/bits.Add64"], named := ["math/bits.divideError", "math/bits.overflowError"], apart := false, narrowed := true }
def SpansScalesUptoSaid : Prop := spansScalesUptoRow.holds Try.pinned (OpenSpec.upto spansScalesSpec)

/-- 'quintadenalaw03.SpansPis', WHERE WHAT IT READS IS OF BULK AT MOST 1048576: true; the input reads as it did. -/
def spansPisUptoRow : OpenClaim := { program := "ytdognchniaojoaa", sum := "f6554ed18030f5f912378ec0cb19b977e68733238868f8705d3605e9b070e0e1", func := "quintadena/quintadenalaw03.SpansPis", spec := "spansPis", inPlace := ["math/bits.Add64"], named := ["math/bits.divideError", "math/bits.overflowError"], apart := false, narrowed := true }
def SpansPisUptoSaid : Prop := spansPisUptoRow.holds Try.pinned (OpenSpec.upto spansPisSpec)

/-- 'quintadenalaw03.SpansTurn', WHERE WHAT IT READS IS OF BULK AT MOST 1048576: true; the input reads as it did. -/
def spansTurnUptoRow : OpenClaim := { program := "ytdognchniaojoaa", sum := "f6554ed18030f5f912378ec0cb19b977e68733238868f8705d3605e9b070e0e1", func := "quintadena/quintadenalaw03.SpansTurn", spec := "spansTurn", inPlace := ["math/bits.Add64"], named := ["math/bits.divideError", "math/bits.overflowError"], apart := false, narrowed := true }
def SpansTurnUptoSaid : Prop := spansTurnUptoRow.holds Try.pinned (OpenSpec.upto spansTurnSpec)

/-- 'quintadenalaw03.SpansInside', WHERE WHAT IT READS IS OF BULK AT MOST 1048576: true; the input reads as it did. -/
def spansInsideUptoRow : OpenClaim := { program := "ytdognchniaojoaa", sum := "f6554ed18030f5f912378ec0cb19b977e68733238868f8705d3605e9b070e0e1", func := "quintadena/quintadenalaw03.SpansInside", spec := "spansInside", inPlace := ["math/bits.Add64"], named := ["math/bits.divideError", "math/bits.overflowError"], apart := false, narrowed := true }
def SpansInsideUptoSaid : Prop := spansInsideUptoRow.holds Try.pinned (OpenSpec.upto spansInsideSpec)

/-- 'quintadenalaw03.SpansNarrow', WHERE WHAT IT READS IS OF BULK AT MOST 1048576: true; the input reads as it did. -/
def spansNarrowUptoRow : OpenClaim := { program := "ytdognchniaojoaa", sum := "f6554ed18030f5f912378ec0cb19b977e68733238868f8705d3605e9b070e0e1", func := "quintadena/quintadenalaw03.SpansNarrow", spec := "spansNarrow", inPlace := ["math/bits.Add64"], named := ["math/bits.divideError", "math/bits.overflowError"], apart := false, narrowed := true }
def SpansNarrowUptoSaid : Prop := spansNarrowUptoRow.holds Try.pinned (OpenSpec.upto spansNarrowSpec)

/-- 'quintadenalaw03.SpansSums', WHERE WHAT IT READS IS OF BULK AT MOST 1048576: true; the input reads as it did. -/
def spansSumsUptoRow : OpenClaim := { program := "ytdognchniaojoaa", sum := "f6554ed18030f5f912378ec0cb19b977e68733238868f8705d3605e9b070e0e1", func := "quintadena/quintadenalaw03.SpansSums", spec := "spansSums", inPlace := ["math/bits.Add64"], named := ["math/bits.divideError", "math/bits.overflowError"], apart := false, narrowed := true }
def SpansSumsUptoSaid : Prop := spansSumsUptoRow.holds Try.pinned (OpenSpec.upto spansSumsSpec)

/-- 'quintadenalaw03.SpansSets', WHERE WHAT IT READS IS OF BULK AT MOST 1048576: true; the input reads as it did. -/
def spansSetsUptoRow : OpenClaim := { program := "ytdognchniaojoaa", sum := "f6554ed18030f5f912378ec0cb19b977e68733238868f8705d3605e9b070e0e1", func := "quintadena/quintadenalaw03.SpansSets", spec := "spansSets", inPlace := ["math/bits.Add64"], named := ["math/bits.divideError", "math/bits.overflowError"], apart := false, narrowed := true }
def SpansSetsUptoSaid : Prop := spansSetsUptoRow.holds Try.pinned (OpenSpec.upto spansSetsSpec)

end Rows
end Go.Proofs.Ytdognchniaojoaa
