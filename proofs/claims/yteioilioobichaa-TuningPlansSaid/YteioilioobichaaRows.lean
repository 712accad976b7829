/-
  No cell of these rows narrows 'for every input' (looked for: loops, veiled, ifaces, maps, wideKeys, modest, calm, conditions, laid).
  DERIVED. THE GIVEN ROWS OF THIS SEAT. 4 by the template 'for every input the law returns true; each argument reads behind the call as it read before'; 0 by the template 'total and deterministic' (their statements: YteioilioobichaaTotals.lean).
  GIVEN WITH THE SEED: the statements are not yours to turn. If you find one false, say at which input.
  Laid BY PROGRAM, IN A SANDBOX (cutbox-rows.mjs): the forced cells as the released guide's own fill.sh prints them over the translation d4a367fc917cf023… (all of the seat's roots in one cut). By AI agents, Wed Nov 11 2026. No macro, syntax, notation, axiom, sorry.
-/
import Derived.Test.YteioilioobichaaChecked
import GoSem.Claim
import GoSem.ClaimJoined
import GoSem.ClaimMapViews
import Derived.JoinedTies
import Derived.KernelRfl
namespace Go.Proofs.Yteioilioobichaa
/- THE CELL 'sum', in the pinned program and in every row, IS THE sha256 OF THE DUMP (.gsa) THAT YteioilioobichaaProg.lean LOADS. Nothing in Lean hashes anything: it is a label: what it is worth is what the hold of that sum in a sandbox is worth. -/
noncomputable def Try.pinned : Pinned := { name := "yteioilioobichaa", sum := "d4a367fc917cf0235e90dfb49e50364093c46ccc54463fc816e76a7bd14a3a1a", checked := Try.checked }
namespace Rows
def none {H : Type} : Left H := { results := [], args := [] }

/-- 'quintadenalaw26.TuningChecks': WHATEVER THE INPUT: true; the input reads as it did. -/
def tuningChecksSpec : ChangeSpec := { name := "tuningChecks", fn := fun _ => fun
  | [d] => { results := [.lit (.bool true)], args := [d] }
  | _ => none }
def tuningChecksRow : OpenClaim := { program := "yteioilioobichaa", sum := "d4a367fc917cf0235e90dfb49e50364093c46ccc54463fc816e76a7bd14a3a1a", func := "quintadena/quintadenalaw26.TuningChecks", spec := "tuningChecks", recurses := true, plainKeys := false, apart := false }
def TuningChecksSaid : Prop := tuningChecksRow.holds Try.pinned (OpenSpec.ofChange tuningChecksSpec)

/-- ITS FALSE NEIGHBOUR: 'it returns false'. Refute it at one input. -/
def tuningChecksWrong : ChangeSpec := { name := "tuningChecks", fn := fun _ => fun
  | [d] => { results := [.lit (.bool false)], args := [d] }
  | _ => none }
def TuningChecksWrongFalsely : Prop := tuningChecksRow.holds Try.pinned (OpenSpec.ofChange tuningChecksWrong)

/-- 'quintadenalaw26.TuningPlans': WHATEVER THE INPUT: true; the input reads as it did. -/
def tuningPlansSpec : ChangeSpec := { name := "tuningPlans", fn := fun _ => fun
  | [d] => { results := [.lit (.bool true)], args := [d] }
  | _ => none }
def tuningPlansRow : OpenClaim := { program := "yteioilioobichaa", sum := "d4a367fc917cf0235e90dfb49e50364093c46ccc54463fc816e76a7bd14a3a1a", func := "quintadena/quintadenalaw26.TuningPlans", spec := "tuningPlans", recurses := true, plainKeys := false, apart := false }
def TuningPlansSaid : Prop := tuningPlansRow.holds Try.pinned (OpenSpec.ofChange tuningPlansSpec)

/-- ITS FALSE NEIGHBOUR: 'it returns false'. Refute it at one input. -/
def tuningPlansWrong : ChangeSpec := { name := "tuningPlans", fn := fun _ => fun
  | [d] => { results := [.lit (.bool false)], args := [d] }
  | _ => none }
def TuningPlansWrongFalsely : Prop := tuningPlansRow.holds Try.pinned (OpenSpec.ofChange tuningPlansWrong)

/-- 'quintadenalaw26.TuningFewest': WHATEVER THE INPUT: true; the input reads as it did. -/
def tuningFewestSpec : ChangeSpec := { name := "tuningFewest", fn := fun _ => fun
  | [d] => { results := [.lit (.bool true)], args := [d] }
  | _ => none }
def tuningFewestRow : OpenClaim := { program := "yteioilioobichaa", sum := "d4a367fc917cf0235e90dfb49e50364093c46ccc54463fc816e76a7bd14a3a1a", func := "quintadena/quintadenalaw26.TuningFewest", spec := "tuningFewest", recurses := true, plainKeys := false, apart := false }
def TuningFewestSaid : Prop := tuningFewestRow.holds Try.pinned (OpenSpec.ofChange tuningFewestSpec)

/-- ITS FALSE NEIGHBOUR: 'it returns false'. Refute it at one input. -/
def tuningFewestWrong : ChangeSpec := { name := "tuningFewest", fn := fun _ => fun
  | [d] => { results := [.lit (.bool false)], args := [d] }
  | _ => none }
def TuningFewestWrongFalsely : Prop := tuningFewestRow.holds Try.pinned (OpenSpec.ofChange tuningFewestWrong)

/-- 'quintadenalaw26.TuningRests': WHATEVER THE INPUT: true; the input reads as it did. -/
def tuningRestsSpec : ChangeSpec := { name := "tuningRests", fn := fun _ => fun
  | [d1, d2, d3] => { results := [.lit (.bool true)], args := [d1, d2, d3] }
  | _ => none }
def tuningRestsRow : OpenClaim := { program := "yteioilioobichaa", sum := "d4a367fc917cf0235e90dfb49e50364093c46ccc54463fc816e76a7bd14a3a1a", func := "quintadena/quintadenalaw26.TuningRests", spec := "tuningRests", recurses := true, plainKeys := false, apart := false }
def TuningRestsSaid : Prop := tuningRestsRow.holds Try.pinned (OpenSpec.ofChange tuningRestsSpec)

/-- ITS FALSE NEIGHBOUR: 'it returns false'. Refute it at one input. -/
def tuningRestsWrong : ChangeSpec := { name := "tuningRests", fn := fun _ => fun
  | [d1, d2, d3] => { results := [.lit (.bool false)], args := [d1, d2, d3] }
  | _ => none }
def TuningRestsWrongFalsely : Prop := tuningRestsRow.holds Try.pinned (OpenSpec.ofChange tuningRestsWrong)

/- THE SECOND FORM. 'bulk': how many values and letters a reading holds, each counted each time it is reached (what is shared counts as often as it is met; a slice's spare places count too). A statement '..UptoSaid' is the law's where the arguments, and the package variables that the reading takes, are together of bulk at most 1048576: NARROWER than '..Said'. Prove '..Said' where nothing that the law and all that it calls make is longer than what came in: it says more and counts as full. Else prove '..UptoSaid'. A law counts once. -/
mutual
def uptoBulk {H : Type} : DataW H → Nat
  | .lit (.string bytes) => bytes.length + 1
  | .lit _ => 1
  | .nil => 1
  | .ptr d => uptoBulk d + 1
  | .slice elems spare => uptoBulkAll elems + uptoBulkAll spare + 1
  | .agg parts => uptoBulkAll parts + 1
  | .iface _ d => uptoBulk d + 1
  | .map entries => uptoBulkEntries entries + 1
  | .held _ => 1
def uptoBulkAll {H : Type} : List (DataW H) → Nat
  | [] => 0
  | d :: r => uptoBulk d + uptoBulkAll r
def uptoBulkEntries {H : Type} : List (Lit × DataW H) → Nat
  | [] => 0
  | x :: r => uptoBulkEntry x + uptoBulkEntries r
def uptoBulkEntry {H : Type} : Lit × DataW H → Nat
  | (.string bytes, d) => bytes.length + uptoBulk d + 1
  | (_, d) => uptoBulk d + 1
 end
def uptoSmall : (H : Type) → List (DataW H) → Bool := fun _ ds => decide (uptoBulkAll ds ≤ 1048576)
def OpenSpec.upto (s : _root_.Go.ChangeSpec) : _root_.Go.OpenSpec := { _root_.Go.OpenSpec.ofChange s with cond := some uptoSmall }

/-- 'quintadenalaw26.TuningChecks', WHERE WHAT IT READS IS OF BULK AT MOST 1048576: true; the input reads as it did. -/
def tuningChecksUptoRow : OpenClaim := { program := "yteioilioobichaa", sum := "d4a367fc917cf0235e90dfb49e50364093c46ccc54463fc816e76a7bd14a3a1a", func := "quintadena/quintadenalaw26.TuningChecks", spec := "tuningChecks", recurses := true, plainKeys := false, apart := false, narrowed := true }
def TuningChecksUptoSaid : Prop := tuningChecksUptoRow.holds Try.pinned (OpenSpec.upto tuningChecksSpec)

/-- 'quintadenalaw26.TuningPlans', WHERE WHAT IT READS IS OF BULK AT MOST 1048576: true; the input reads as it did. -/
def tuningPlansUptoRow : OpenClaim := { program := "yteioilioobichaa", sum := "d4a367fc917cf0235e90dfb49e50364093c46ccc54463fc816e76a7bd14a3a1a", func := "quintadena/quintadenalaw26.TuningPlans", spec := "tuningPlans", recurses := true, plainKeys := false, apart := false, narrowed := true }
def TuningPlansUptoSaid : Prop := tuningPlansUptoRow.holds Try.pinned (OpenSpec.upto tuningPlansSpec)

/-- 'quintadenalaw26.TuningFewest', WHERE WHAT IT READS IS OF BULK AT MOST 1048576: true; the input reads as it did. -/
def tuningFewestUptoRow : OpenClaim := { program := "yteioilioobichaa", sum := "d4a367fc917cf0235e90dfb49e50364093c46ccc54463fc816e76a7bd14a3a1a", func := "quintadena/quintadenalaw26.TuningFewest", spec := "tuningFewest", recurses := true, plainKeys := false, apart := false, narrowed := true }
def TuningFewestUptoSaid : Prop := tuningFewestUptoRow.holds Try.pinned (OpenSpec.upto tuningFewestSpec)

/-- 'quintadenalaw26.TuningRests', WHERE WHAT IT READS IS OF BULK AT MOST 1048576: true; the input reads as it did. -/
def tuningRestsUptoRow : OpenClaim := { program := "yteioilioobichaa", sum := "d4a367fc917cf0235e90dfb49e50364093c46ccc54463fc816e76a7bd14a3a1a", func := "quintadena/quintadenalaw26.TuningRests", spec := "tuningRests", recurses := true, plainKeys := false, apart := false, narrowed := true }
def TuningRestsUptoSaid : Prop := tuningRestsUptoRow.holds Try.pinned (OpenSpec.upto tuningRestsSpec)

end Rows
end Go.Proofs.Yteioilioobichaa
