/-
  No cell of these rows narrows 'for every input' (looked for: loops, veiled, ifaces, maps, wideKeys, modest, calm, conditions, laid).
  DERIVED. THE GIVEN ROWS OF THIS SEAT. 5 by the template 'for every input the law returns true; each argument reads behind the call as it read before'; 0 by the template 'total and deterministic' (their statements: YtmhlinndhmdjlaaTotals.lean).
  GIVEN WITH THE SEED: the statements are not yours to turn. If you find one false, say at which input.
  Laid BY PROGRAM, IN A SANDBOX (cutbox-rows.mjs): the forced cells as the released guide's own fill.sh prints them over the translation 9b2bc992fc39612d… (all of the seat's roots in one cut). By AI agents, Wed Nov 11 2026. No macro, syntax, notation, axiom, sorry.
-/
import Derived.Test.YtmhlinndhmdjlaaChecked
import GoSem.Claim
import GoSem.ClaimJoined
import GoSem.ClaimMapViews
import Derived.JoinedTies
import Derived.KernelRfl
namespace Go.Proofs.Ytmhlinndhmdjlaa
/- THE CELL 'sum', in the pinned program and in every row, IS THE sha256 OF THE DUMP (.gsa) THAT YtmhlinndhmdjlaaProg.lean LOADS. Nothing in Lean hashes anything: it is a label: what it is worth is what the hold of that sum in a sandbox is worth. -/
noncomputable def Try.pinned : Pinned := { name := "ytmhlinndhmdjlaa", sum := "9b2bc992fc39612d2f865ce6df94f6553c366a84baab8fde0dfbcb8aa99f48ab", checked := Try.checked }
namespace Rows
def none {H : Type} : Left H := { results := [], args := [] }

/-- 'quintadenalaw17.TrackersTravel': WHATEVER THE INPUT: true; the input reads as it did. -/
def trackersTravelSpec : ChangeSpec := { name := "trackersTravel", fn := fun _ => fun
  | [d1, d2, d3] => { results := [.lit (.bool true)], args := [d1, d2, d3] }
  | _ => none }
def trackersTravelRow : OpenClaim := { program := "ytmhlinndhmdjlaa", sum := "9b2bc992fc39612d2f865ce6df94f6553c366a84baab8fde0dfbcb8aa99f48ab", func := "quintadena/quintadenalaw17.TrackersTravel", spec := "trackersTravel", unfollowed := true, recurses := true, apart := false }
def TrackersTravelSaid : Prop := trackersTravelRow.holds Try.pinned (OpenSpec.ofChange trackersTravelSpec)

/-- ITS FALSE NEIGHBOUR: 'it returns false'. Refute it at one input. -/
def trackersTravelWrong : ChangeSpec := { name := "trackersTravel", fn := fun _ => fun
  | [d1, d2, d3] => { results := [.lit (.bool false)], args := [d1, d2, d3] }
  | _ => none }
def TrackersTravelWrongFalsely : Prop := trackersTravelRow.holds Try.pinned (OpenSpec.ofChange trackersTravelWrong)

/-- 'quintadenalaw17.TrackersRegulate': WHATEVER THE INPUT: true; the input reads as it did. -/
def trackersRegulateSpec : ChangeSpec := { name := "trackersRegulate", fn := fun _ => fun
  | [d1, d2, d3] => { results := [.lit (.bool true)], args := [d1, d2, d3] }
  | _ => none }
def trackersRegulateRow : OpenClaim := { program := "ytmhlinndhmdjlaa", sum := "9b2bc992fc39612d2f865ce6df94f6553c366a84baab8fde0dfbcb8aa99f48ab", func := "quintadena/quintadenalaw17.TrackersRegulate", spec := "trackersRegulate", unfollowed := true, recurses := true, apart := false }
def TrackersRegulateSaid : Prop := trackersRegulateRow.holds Try.pinned (OpenSpec.ofChange trackersRegulateSpec)

/-- ITS FALSE NEIGHBOUR: 'it returns false'. Refute it at one input. -/
def trackersRegulateWrong : ChangeSpec := { name := "trackersRegulate", fn := fun _ => fun
  | [d1, d2, d3] => { results := [.lit (.bool false)], args := [d1, d2, d3] }
  | _ => none }
def TrackersRegulateWrongFalsely : Prop := trackersRegulateRow.holds Try.pinned (OpenSpec.ofChange trackersRegulateWrong)

/-- 'quintadenalaw17.TrackersRise': WHATEVER THE INPUT: true; the input reads as it did. -/
def trackersRiseSpec : ChangeSpec := { name := "trackersRise", fn := fun _ => fun
  | [d] => { results := [.lit (.bool true)], args := [d] }
  | _ => none }
def trackersRiseRow : OpenClaim := { program := "ytmhlinndhmdjlaa", sum := "9b2bc992fc39612d2f865ce6df94f6553c366a84baab8fde0dfbcb8aa99f48ab", func := "quintadena/quintadenalaw17.TrackersRise", spec := "trackersRise", unfollowed := true, recurses := true, apart := false }
def TrackersRiseSaid : Prop := trackersRiseRow.holds Try.pinned (OpenSpec.ofChange trackersRiseSpec)

/-- ITS FALSE NEIGHBOUR: 'it returns false'. Refute it at one input. -/
def trackersRiseWrong : ChangeSpec := { name := "trackersRise", fn := fun _ => fun
  | [d] => { results := [.lit (.bool false)], args := [d] }
  | _ => none }
def TrackersRiseWrongFalsely : Prop := trackersRiseRow.holds Try.pinned (OpenSpec.ofChange trackersRiseWrong)

/-- 'quintadenalaw17.TrackersProduct': WHATEVER THE INPUT: true; the input reads as it did. -/
def trackersProductSpec : ChangeSpec := { name := "trackersProduct", fn := fun _ => fun
  | [d1, d2] => { results := [.lit (.bool true)], args := [d1, d2] }
  | _ => none }
def trackersProductRow : OpenClaim := { program := "ytmhlinndhmdjlaa", sum := "9b2bc992fc39612d2f865ce6df94f6553c366a84baab8fde0dfbcb8aa99f48ab", func := "quintadena/quintadenalaw17.TrackersProduct", spec := "trackersProduct", unfollowed := true, recurses := true, apart := false }
def TrackersProductSaid : Prop := trackersProductRow.holds Try.pinned (OpenSpec.ofChange trackersProductSpec)

/-- ITS FALSE NEIGHBOUR: 'it returns false'. Refute it at one input. -/
def trackersProductWrong : ChangeSpec := { name := "trackersProduct", fn := fun _ => fun
  | [d1, d2] => { results := [.lit (.bool false)], args := [d1, d2] }
  | _ => none }
def TrackersProductWrongFalsely : Prop := trackersProductRow.holds Try.pinned (OpenSpec.ofChange trackersProductWrong)

/-- 'quintadenalaw17.TrackersTouch': WHATEVER THE INPUT: true; the input reads as it did. -/
def trackersTouchSpec : ChangeSpec := { name := "trackersTouch", fn := fun _ => fun
  | [d1, d2, d3] => { results := [.lit (.bool true)], args := [d1, d2, d3] }
  | _ => none }
def trackersTouchRow : OpenClaim := { program := "ytmhlinndhmdjlaa", sum := "9b2bc992fc39612d2f865ce6df94f6553c366a84baab8fde0dfbcb8aa99f48ab", func := "quintadena/quintadenalaw17.TrackersTouch", spec := "trackersTouch", unfollowed := true, recurses := true, apart := false }
def TrackersTouchSaid : Prop := trackersTouchRow.holds Try.pinned (OpenSpec.ofChange trackersTouchSpec)

/-- ITS FALSE NEIGHBOUR: 'it returns false'. Refute it at one input. -/
def trackersTouchWrong : ChangeSpec := { name := "trackersTouch", fn := fun _ => fun
  | [d1, d2, d3] => { results := [.lit (.bool false)], args := [d1, d2, d3] }
  | _ => none }
def TrackersTouchWrongFalsely : Prop := trackersTouchRow.holds Try.pinned (OpenSpec.ofChange trackersTouchWrong)

/- THE SECOND FORM. 'bulk': how many values and letters a reading holds, each counted each time it is reached (what is shared counts as often as it is met; a slice's spare places count too). A statement '..UptoSaid' is the law's where the arguments, and the package variables that the reading takes, are together of bulk at most 1048576: NARROWER than '..Said'. Prove '..Said' where nothing that the law and all that it calls make is longer than what came in: it says more and counts as full. Else prove '..UptoSaid'. A law counts once. -/
mutual
def uptoBulk {H : Type} : DataW H → Nat
  | .lit (.string bytes) => bytes.length + 1
  | .lit _ => 1
  | .nil => 1
  | .ptr d => uptoBulk d + 1
  | .slice elems spare => uptoBulkAll elems + uptoBulkAll spare + 1
  | .agg parts => uptoBulkAll parts + 1
  | .iface _ d => uptoBulk d + 1
  | .map entries => uptoBulkEntries entries + 1
  | .held _ => 1
def uptoBulkAll {H : Type} : List (DataW H) → Nat
  | [] => 0
  | d :: r => uptoBulk d + uptoBulkAll r
def uptoBulkEntries {H : Type} : List (Lit × DataW H) → Nat
  | [] => 0
  | x :: r => uptoBulkEntry x + uptoBulkEntries r
def uptoBulkEntry {H : Type} : Lit × DataW H → Nat
  | (.string bytes, d) => bytes.length + uptoBulk d + 1
  | (_, d) => uptoBulk d + 1
 end
def uptoSmall : (H : Type) → List (DataW H) → Bool := fun _ ds => decide (uptoBulkAll ds ≤ 1048576)
def OpenSpec.upto (s : _root_.Go.ChangeSpec) : _root_.Go.OpenSpec := { _root_.Go.OpenSpec.ofChange s with cond := some uptoSmall }

/-- 'quintadenalaw17.TrackersTravel', WHERE WHAT IT READS IS OF BULK AT MOST 1048576: true; the input reads as it did. -/
def trackersTravelUptoRow : OpenClaim := { program := "ytmhlinndhmdjlaa", sum := "9b2bc992fc39612d2f865ce6df94f6553c366a84baab8fde0dfbcb8aa99f48ab", func := "quintadena/quintadenalaw17.TrackersTravel", spec := "trackersTravel", unfollowed := true, recurses := true, apart := false, narrowed := true }
def TrackersTravelUptoSaid : Prop := trackersTravelUptoRow.holds Try.pinned (OpenSpec.upto trackersTravelSpec)

/-- 'quintadenalaw17.TrackersRegulate', WHERE WHAT IT READS IS OF BULK AT MOST 1048576: true; the input reads as it did. -/
def trackersRegulateUptoRow : OpenClaim := { program := "ytmhlinndhmdjlaa", sum := "9b2bc992fc39612d2f865ce6df94f6553c366a84baab8fde0dfbcb8aa99f48ab", func := "quintadena/quintadenalaw17.TrackersRegulate", spec := "trackersRegulate", unfollowed := true, recurses := true, apart := false, narrowed := true }
def TrackersRegulateUptoSaid : Prop := trackersRegulateUptoRow.holds Try.pinned (OpenSpec.upto trackersRegulateSpec)

/-- 'quintadenalaw17.TrackersRise', WHERE WHAT IT READS IS OF BULK AT MOST 1048576: true; the input reads as it did. -/
def trackersRiseUptoRow : OpenClaim := { program := "ytmhlinndhmdjlaa", sum := "9b2bc992fc39612d2f865ce6df94f6553c366a84baab8fde0dfbcb8aa99f48ab", func := "quintadena/quintadenalaw17.TrackersRise", spec := "trackersRise", unfollowed := true, recurses := true, apart := false, narrowed := true }
def TrackersRiseUptoSaid : Prop := trackersRiseUptoRow.holds Try.pinned (OpenSpec.upto trackersRiseSpec)

/-- 'quintadenalaw17.TrackersProduct', WHERE WHAT IT READS IS OF BULK AT MOST 1048576: true; the input reads as it did. -/
def trackersProductUptoRow : OpenClaim := { program := "ytmhlinndhmdjlaa", sum := "9b2bc992fc39612d2f865ce6df94f6553c366a84baab8fde0dfbcb8aa99f48ab", func := "quintadena/quintadenalaw17.TrackersProduct", spec := "trackersProduct", unfollowed := true, recurses := true, apart := false, narrowed := true }
def TrackersProductUptoSaid : Prop := trackersProductUptoRow.holds Try.pinned (OpenSpec.upto trackersProductSpec)

/-- 'quintadenalaw17.TrackersTouch', WHERE WHAT IT READS IS OF BULK AT MOST 1048576: true; the input reads as it did. -/
def trackersTouchUptoRow : OpenClaim := { program := "ytmhlinndhmdjlaa", sum := "9b2bc992fc39612d2f865ce6df94f6553c366a84baab8fde0dfbcb8aa99f48ab", func := "quintadena/quintadenalaw17.TrackersTouch", spec := "trackersTouch", unfollowed := true, recurses := true, apart := false, narrowed := true }
def TrackersTouchUptoSaid : Prop := trackersTouchUptoRow.holds Try.pinned (OpenSpec.upto trackersTouchSpec)

end Rows
end Go.Proofs.Ytmhlinndhmdjlaa
