/-
  No cell of these rows narrows 'for every input' (looked for: loops, veiled, ifaces, maps, wideKeys, modest, calm, conditions, laid).
  DERIVED. THE GIVEN ROWS OF THIS SEAT. 6 by the template 'for every input the law returns true; each argument reads behind the call as it read before'; 0 by the template 'total and deterministic' (their statements: YtliipeebknljdaaTotals.lean).
  GIVEN WITH THE SEED: the statements are not yours to turn. If you find one false, say at which input.
  Laid BY PROGRAM, IN A SANDBOX (cutbox-rows.mjs): the forced cells as the released guide's own fill.sh prints them over the translation 953caefe9767b150… (all of the seat's roots in one cut). By AI agents, Wed Nov 11 2026. No macro, syntax, notation, axiom, sorry.
-/
import Derived.Test.YtliipeebknljdaaChecked
import GoSem.Claim
import GoSem.ClaimJoined
import GoSem.ClaimMapViews
import Derived.JoinedTies
import Derived.KernelRfl
namespace Go.Proofs.Ytliipeebknljdaa
/- THE CELL 'sum', in the pinned program and in every row, IS THE sha256 OF THE DUMP (.gsa) THAT YtliipeebknljdaaProg.lean LOADS. Nothing in Lean hashes anything: it is a label: what it is worth is what the hold of that sum in a sandbox is worth. -/
noncomputable def Try.pinned : Pinned := { name := "ytliipeebknljdaa", sum := "953caefe9767b150a8676d2fa8df3a290411c98176b7f2d4be3676b3c4b3d6de", checked := Try.checked }
namespace Rows
def none {H : Type} : Left H := { results := [], args := [] }

/-- 'quintadenalaw16.BellowsRuns': WHATEVER THE INPUT: true; the input reads as it did. -/
def bellowsRunsSpec : ChangeSpec := { name := "bellowsRuns", fn := fun _ => fun
  | [d1, d2] => { results := [.lit (.bool true)], args := [d1, d2] }
  | _ => none }
def bellowsRunsRow : OpenClaim := { program := "ytliipeebknljdaa", sum := "953caefe9767b150a8676d2fa8df3a290411c98176b7f2d4be3676b3c4b3d6de", func := "quintadena/quintadenalaw16.BellowsRuns", spec := "bellowsRuns", unfollowed := true, recurses := true, apart := false }
def BellowsRunsSaid : Prop := bellowsRunsRow.holds Try.pinned (OpenSpec.ofChange bellowsRunsSpec)

/-- ITS FALSE NEIGHBOUR: 'it returns false'. Refute it at one input. -/
def bellowsRunsWrong : ChangeSpec := { name := "bellowsRuns", fn := fun _ => fun
  | [d1, d2] => { results := [.lit (.bool false)], args := [d1, d2] }
  | _ => none }
def BellowsRunsWrongFalsely : Prop := bellowsRunsRow.holds Try.pinned (OpenSpec.ofChange bellowsRunsWrong)

/-- 'quintadenalaw16.BellowsLasts': WHATEVER THE INPUT: true; the input reads as it did. -/
def bellowsLastsSpec : ChangeSpec := { name := "bellowsLasts", fn := fun _ => fun
  | [d1, d2, d3] => { results := [.lit (.bool true)], args := [d1, d2, d3] }
  | _ => none }
def bellowsLastsRow : OpenClaim := { program := "ytliipeebknljdaa", sum := "953caefe9767b150a8676d2fa8df3a290411c98176b7f2d4be3676b3c4b3d6de", func := "quintadena/quintadenalaw16.BellowsLasts", spec := "bellowsLasts", unfollowed := true, recurses := true, apart := false }
def BellowsLastsSaid : Prop := bellowsLastsRow.holds Try.pinned (OpenSpec.ofChange bellowsLastsSpec)

/-- ITS FALSE NEIGHBOUR: 'it returns false'. Refute it at one input. -/
def bellowsLastsWrong : ChangeSpec := { name := "bellowsLasts", fn := fun _ => fun
  | [d1, d2, d3] => { results := [.lit (.bool false)], args := [d1, d2, d3] }
  | _ => none }
def BellowsLastsWrongFalsely : Prop := bellowsLastsRow.holds Try.pinned (OpenSpec.ofChange bellowsLastsWrong)

/-- 'quintadenalaw16.BellowsInside': WHATEVER THE INPUT: true; the input reads as it did. -/
def bellowsInsideSpec : ChangeSpec := { name := "bellowsInside", fn := fun _ => fun
  | [d1, d2, d3] => { results := [.lit (.bool true)], args := [d1, d2, d3] }
  | _ => none }
def bellowsInsideRow : OpenClaim := { program := "ytliipeebknljdaa", sum := "953caefe9767b150a8676d2fa8df3a290411c98176b7f2d4be3676b3c4b3d6de", func := "quintadena/quintadenalaw16.BellowsInside", spec := "bellowsInside", unfollowed := true, recurses := true, apart := false }
def BellowsInsideSaid : Prop := bellowsInsideRow.holds Try.pinned (OpenSpec.ofChange bellowsInsideSpec)

/-- ITS FALSE NEIGHBOUR: 'it returns false'. Refute it at one input. -/
def bellowsInsideWrong : ChangeSpec := { name := "bellowsInside", fn := fun _ => fun
  | [d1, d2, d3] => { results := [.lit (.bool false)], args := [d1, d2, d3] }
  | _ => none }
def BellowsInsideWrongFalsely : Prop := bellowsInsideRow.holds Try.pinned (OpenSpec.ofChange bellowsInsideWrong)

/-- 'quintadenalaw16.BellowsAttained': WHATEVER THE INPUT: true; the input reads as it did. -/
def bellowsAttainedSpec : ChangeSpec := { name := "bellowsAttained", fn := fun _ => fun
  | [d1, d2] => { results := [.lit (.bool true)], args := [d1, d2] }
  | _ => none }
def bellowsAttainedRow : OpenClaim := { program := "ytliipeebknljdaa", sum := "953caefe9767b150a8676d2fa8df3a290411c98176b7f2d4be3676b3c4b3d6de", func := "quintadena/quintadenalaw16.BellowsAttained", spec := "bellowsAttained", unfollowed := true, recurses := true, apart := false }
def BellowsAttainedSaid : Prop := bellowsAttainedRow.holds Try.pinned (OpenSpec.ofChange bellowsAttainedSpec)

/-- ITS FALSE NEIGHBOUR: 'it returns false'. Refute it at one input. -/
def bellowsAttainedWrong : ChangeSpec := { name := "bellowsAttained", fn := fun _ => fun
  | [d1, d2] => { results := [.lit (.bool false)], args := [d1, d2] }
  | _ => none }
def BellowsAttainedWrongFalsely : Prop := bellowsAttainedRow.holds Try.pinned (OpenSpec.ofChange bellowsAttainedWrong)

/-- 'quintadenalaw16.BellowsNeeds': WHATEVER THE INPUT: true; the input reads as it did. -/
def bellowsNeedsSpec : ChangeSpec := { name := "bellowsNeeds", fn := fun _ => fun
  | [d1, d2] => { results := [.lit (.bool true)], args := [d1, d2] }
  | _ => none }
def bellowsNeedsRow : OpenClaim := { program := "ytliipeebknljdaa", sum := "953caefe9767b150a8676d2fa8df3a290411c98176b7f2d4be3676b3c4b3d6de", func := "quintadena/quintadenalaw16.BellowsNeeds", spec := "bellowsNeeds", unfollowed := true, recurses := true, apart := false }
def BellowsNeedsSaid : Prop := bellowsNeedsRow.holds Try.pinned (OpenSpec.ofChange bellowsNeedsSpec)

/-- ITS FALSE NEIGHBOUR: 'it returns false'. Refute it at one input. -/
def bellowsNeedsWrong : ChangeSpec := { name := "bellowsNeeds", fn := fun _ => fun
  | [d1, d2] => { results := [.lit (.bool false)], args := [d1, d2] }
  | _ => none }
def BellowsNeedsWrongFalsely : Prop := bellowsNeedsRow.holds Try.pinned (OpenSpec.ofChange bellowsNeedsWrong)

/-- 'quintadenalaw16.BellowsJoins': WHATEVER THE INPUT: true; the input reads as it did. -/
def bellowsJoinsSpec : ChangeSpec := { name := "bellowsJoins", fn := fun _ => fun
  | [d1, d2, d3] => { results := [.lit (.bool true)], args := [d1, d2, d3] }
  | _ => none }
def bellowsJoinsRow : OpenClaim := { program := "ytliipeebknljdaa", sum := "953caefe9767b150a8676d2fa8df3a290411c98176b7f2d4be3676b3c4b3d6de", func := "quintadena/quintadenalaw16.BellowsJoins", spec := "bellowsJoins", unfollowed := true, recurses := true, apart := false }
def BellowsJoinsSaid : Prop := bellowsJoinsRow.holds Try.pinned (OpenSpec.ofChange bellowsJoinsSpec)

/-- ITS FALSE NEIGHBOUR: 'it returns false'. Refute it at one input. -/
def bellowsJoinsWrong : ChangeSpec := { name := "bellowsJoins", fn := fun _ => fun
  | [d1, d2, d3] => { results := [.lit (.bool false)], args := [d1, d2, d3] }
  | _ => none }
def BellowsJoinsWrongFalsely : Prop := bellowsJoinsRow.holds Try.pinned (OpenSpec.ofChange bellowsJoinsWrong)

/- THE SECOND FORM. 'bulk': how many values and letters a reading holds, each counted each time it is reached (what is shared counts as often as it is met; a slice's spare places count too). A statement '..UptoSaid' is the law's where the arguments, and the package variables that the reading takes, are together of bulk at most 1048576: NARROWER than '..Said'. Prove '..Said' where nothing that the law and all that it calls make is longer than what came in: it says more and counts as full. Else prove '..UptoSaid'. A law counts once. -/
mutual
def uptoBulk {H : Type} : DataW H → Nat
  | .lit (.string bytes) => bytes.length + 1
  | .lit _ => 1
  | .nil => 1
  | .ptr d => uptoBulk d + 1
  | .slice elems spare => uptoBulkAll elems + uptoBulkAll spare + 1
  | .agg parts => uptoBulkAll parts + 1
  | .iface _ d => uptoBulk d + 1
  | .map entries => uptoBulkEntries entries + 1
  | .held _ => 1
def uptoBulkAll {H : Type} : List (DataW H) → Nat
  | [] => 0
  | d :: r => uptoBulk d + uptoBulkAll r
def uptoBulkEntries {H : Type} : List (Lit × DataW H) → Nat
  | [] => 0
  | x :: r => uptoBulkEntry x + uptoBulkEntries r
def uptoBulkEntry {H : Type} : Lit × DataW H → Nat
  | (.string bytes, d) => bytes.length + uptoBulk d + 1
  | (_, d) => uptoBulk d + 1
 end
def uptoSmall : (H : Type) → List (DataW H) → Bool := fun _ ds => decide (uptoBulkAll ds ≤ 1048576)
def OpenSpec.upto (s : _root_.Go.ChangeSpec) : _root_.Go.OpenSpec := { _root_.Go.OpenSpec.ofChange s with cond := some uptoSmall }

/-- 'quintadenalaw16.BellowsRuns', WHERE WHAT IT READS IS OF BULK AT MOST 1048576: true; the input reads as it did. -/
def bellowsRunsUptoRow : OpenClaim := { program := "ytliipeebknljdaa", sum := "953caefe9767b150a8676d2fa8df3a290411c98176b7f2d4be3676b3c4b3d6de", func := "quintadena/quintadenalaw16.BellowsRuns", spec := "bellowsRuns", unfollowed := true, recurses := true, apart := false, narrowed := true }
def BellowsRunsUptoSaid : Prop := bellowsRunsUptoRow.holds Try.pinned (OpenSpec.upto bellowsRunsSpec)

/-- 'quintadenalaw16.BellowsLasts', WHERE WHAT IT READS IS OF BULK AT MOST 1048576: true; the input reads as it did. -/
def bellowsLastsUptoRow : OpenClaim := { program := "ytliipeebknljdaa", sum := "953caefe9767b150a8676d2fa8df3a290411c98176b7f2d4be3676b3c4b3d6de", func := "quintadena/quintadenalaw16.BellowsLasts", spec := "bellowsLasts", unfollowed := true, recurses := true, apart := false, narrowed := true }
def BellowsLastsUptoSaid : Prop := bellowsLastsUptoRow.holds Try.pinned (OpenSpec.upto bellowsLastsSpec)

/-- 'quintadenalaw16.BellowsInside', WHERE WHAT IT READS IS OF BULK AT MOST 1048576: true; the input reads as it did. -/
def bellowsInsideUptoRow : OpenClaim := { program := "ytliipeebknljdaa", sum := "953caefe9767b150a8676d2fa8df3a290411c98176b7f2d4be3676b3c4b3d6de", func := "quintadena/quintadenalaw16.BellowsInside", spec := "bellowsInside", unfollowed := true, recurses := true, apart := false, narrowed := true }
def BellowsInsideUptoSaid : Prop := bellowsInsideUptoRow.holds Try.pinned (OpenSpec.upto bellowsInsideSpec)

/-- 'quintadenalaw16.BellowsAttained', WHERE WHAT IT READS IS OF BULK AT MOST 1048576: true; the input reads as it did. -/
def bellowsAttainedUptoRow : OpenClaim := { program := "ytliipeebknljdaa", sum := "953caefe9767b150a8676d2fa8df3a290411c98176b7f2d4be3676b3c4b3d6de", func := "quintadena/quintadenalaw16.BellowsAttained", spec := "bellowsAttained", unfollowed := true, recurses := true, apart := false, narrowed := true }
def BellowsAttainedUptoSaid : Prop := bellowsAttainedUptoRow.holds Try.pinned (OpenSpec.upto bellowsAttainedSpec)

/-- 'quintadenalaw16.BellowsNeeds', WHERE WHAT IT READS IS OF BULK AT MOST 1048576: true; the input reads as it did. -/
def bellowsNeedsUptoRow : OpenClaim := { program := "ytliipeebknljdaa", sum := "953caefe9767b150a8676d2fa8df3a290411c98176b7f2d4be3676b3c4b3d6de", func := "quintadena/quintadenalaw16.BellowsNeeds", spec := "bellowsNeeds", unfollowed := true, recurses := true, apart := false, narrowed := true }
def BellowsNeedsUptoSaid : Prop := bellowsNeedsUptoRow.holds Try.pinned (OpenSpec.upto bellowsNeedsSpec)

/-- 'quintadenalaw16.BellowsJoins', WHERE WHAT IT READS IS OF BULK AT MOST 1048576: true; the input reads as it did. -/
def bellowsJoinsUptoRow : OpenClaim := { program := "ytliipeebknljdaa", sum := "953caefe9767b150a8676d2fa8df3a290411c98176b7f2d4be3676b3c4b3d6de", func := "quintadena/quintadenalaw16.BellowsJoins", spec := "bellowsJoins", unfollowed := true, recurses := true, apart := false, narrowed := true }
def BellowsJoinsUptoSaid : Prop := bellowsJoinsUptoRow.holds Try.pinned (OpenSpec.upto bellowsJoinsSpec)

end Rows
end Go.Proofs.Ytliipeebknljdaa
