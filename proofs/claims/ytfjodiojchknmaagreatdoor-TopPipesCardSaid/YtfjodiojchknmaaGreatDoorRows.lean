/-
  NARROWER THAN 'FOR EVERY INPUT', by the rows' own cells (each row's printed sentence says how): TopPipes: laid · PitchOctaves: laid · PitchFits: laid · PitchNear: laid.
  DERIVED. THE GIVEN ROWS OF THIS SEAT. 4 by the template 'for every input the law returns true; each argument reads behind the call as it read before'; 0 by the template 'total and deterministic' (their statements: YtfjodiojchknmaaGreatDoorTotals.lean).
  GIVEN WITH THE SEED: the statements are not yours to turn. If you find one false, say at which input.
  Laid BY PROGRAM, IN A SANDBOX (cutbox-rows.mjs): the forced cells as the released guide's own fill.sh prints them over the translation 2660db08191926e3… (all of the seat's roots in one cut). By AI agents, Wed Nov 11 2026. No macro, syntax, notation, axiom, sorry.
-/
import Derived.Test.YtfjodiojchknmaaGreatDoorChecked
import GoSem.Claim
import GoSem.ClaimJoined
import GoSem.ClaimMapViews
import Derived.JoinedTies
import Derived.KernelRfl
namespace Go.Proofs.YtfjodiojchknmaaGreatDoor
/- THE CELL 'sum', in the pinned program and in every row, IS THE sha256 OF THE DUMP (.gsa) THAT YtfjodiojchknmaaGreatDoorProg.lean LOADS. Nothing in Lean hashes anything: it is a label: what it is worth is what the hold of that sum in a sandbox is worth. -/
noncomputable def Tryz.pinned : Pinned := { name := "ytfjodiojchknmaagreatdoor", sum := "2660db08191926e316c812c42441c095bc881232012cb3c88da5f33f1c37f3f1", checked := Tryz.checked }
namespace Rows
def none {H : Type} : Left H := { results := [], args := [] }

/- WHAT THE LISTED PACKAGE-LEVEL VARIABLES READ AS WHEN THE CALL BEGINS. Each datum BY PROGRAM (the guide's laid-datum.mjs) off the statement by which the dump's own 'gosem.cut.vars' lays the variable. In a bare row this is a premise. The card (YtfjodiojchknmaaGreatDoorCards.lean) ties it to the program's text. -/
def laid_quintadena_ratios_primes {H : Type} : DataW H := .agg [.lit (.int .i64 2), .lit (.int .i64 3), .lit (.int .i64 5), .lit (.int .i64 7), .lit (.int .i64 11), .lit (.int .i64 13)]

/-- 'quintadenatop.TopPipes': WHATEVER THE INPUT: true; the input reads as it did. -/
def topPipesSpec : ChangeSpec := { name := "topPipes", fn := fun _ => fun
  | [d] => { results := [.lit (.bool true)], args := [d] }
  | _ => none }
def topPipesRow : OpenClaim := { program := "ytfjodiojchknmaagreatdoor", sum := "2660db08191926e316c812c42441c095bc881232012cb3c88da5f33f1c37f3f1", func := "quintadena/quintadenatop.TopPipes", spec := "topPipes", inPlace := ["math/bits.Add64"], unfollowed := true, recurses := true, named := ["quintadena/ratios.primes", "math/bits.divideError", "math/bits.overflowError"], apart := false, laid := [("quintadena/ratios.primes", laid_quintadena_ratios_primes)] }
def TopPipesSaid : Prop := topPipesRow.holds Tryz.pinned (OpenSpec.ofChange topPipesSpec)

/-- ITS FALSE NEIGHBOUR: 'it returns false'. Refute it at one input. -/
def topPipesWrong : ChangeSpec := { name := "topPipes", fn := fun _ => fun
  | [d] => { results := [.lit (.bool false)], args := [d] }
  | _ => none }
def TopPipesWrongFalsely : Prop := topPipesRow.holds Tryz.pinned (OpenSpec.ofChange topPipesWrong)

/-- 'quintadenalaw06.PitchOctaves': WHATEVER THE INPUT: true; the input reads as it did. -/
def pitchOctavesSpec : ChangeSpec := { name := "pitchOctaves", fn := fun _ => fun
  | [d1, d2] => { results := [.lit (.bool true)], args := [d1, d2] }
  | _ => none }
def pitchOctavesRow : OpenClaim := { program := "ytfjodiojchknmaagreatdoor", sum := "2660db08191926e316c812c42441c095bc881232012cb3c88da5f33f1c37f3f1", func := "quintadena/quintadenalaw06.PitchOctaves", spec := "pitchOctaves", inPlace := ["math/bits.Add64"], unfollowed := true, recurses := true, named := ["quintadena/ratios.primes"], apart := false, laid := [("quintadena/ratios.primes", laid_quintadena_ratios_primes)] }
def PitchOctavesSaid : Prop := pitchOctavesRow.holds Tryz.pinned (OpenSpec.ofChange pitchOctavesSpec)

/-- ITS FALSE NEIGHBOUR: 'it returns false'. Refute it at one input. -/
def pitchOctavesWrong : ChangeSpec := { name := "pitchOctaves", fn := fun _ => fun
  | [d1, d2] => { results := [.lit (.bool false)], args := [d1, d2] }
  | _ => none }
def PitchOctavesWrongFalsely : Prop := pitchOctavesRow.holds Tryz.pinned (OpenSpec.ofChange pitchOctavesWrong)

/-- 'quintadenalaw06.PitchFits': WHATEVER THE INPUT: true; the input reads as it did. -/
def pitchFitsSpec : ChangeSpec := { name := "pitchFits", fn := fun _ => fun
  | [d1, d2, d3] => { results := [.lit (.bool true)], args := [d1, d2, d3] }
  | _ => none }
def pitchFitsRow : OpenClaim := { program := "ytfjodiojchknmaagreatdoor", sum := "2660db08191926e316c812c42441c095bc881232012cb3c88da5f33f1c37f3f1", func := "quintadena/quintadenalaw06.PitchFits", spec := "pitchFits", inPlace := ["math/bits.Add64"], unfollowed := true, recurses := true, named := ["quintadena/ratios.primes"], apart := false, laid := [("quintadena/ratios.primes", laid_quintadena_ratios_primes)] }
def PitchFitsSaid : Prop := pitchFitsRow.holds Tryz.pinned (OpenSpec.ofChange pitchFitsSpec)

/-- ITS FALSE NEIGHBOUR: 'it returns false'. Refute it at one input. -/
def pitchFitsWrong : ChangeSpec := { name := "pitchFits", fn := fun _ => fun
  | [d1, d2, d3] => { results := [.lit (.bool false)], args := [d1, d2, d3] }
  | _ => none }
def PitchFitsWrongFalsely : Prop := pitchFitsRow.holds Tryz.pinned (OpenSpec.ofChange pitchFitsWrong)

/-- 'quintadenalaw06.PitchNear': WHATEVER THE INPUT: true; the input reads as it did. -/
def pitchNearSpec : ChangeSpec := { name := "pitchNear", fn := fun _ => fun
  | [d1, d2] => { results := [.lit (.bool true)], args := [d1, d2] }
  | _ => none }
def pitchNearRow : OpenClaim := { program := "ytfjodiojchknmaagreatdoor", sum := "2660db08191926e316c812c42441c095bc881232012cb3c88da5f33f1c37f3f1", func := "quintadena/quintadenalaw06.PitchNear", spec := "pitchNear", inPlace := ["math/bits.Add64"], unfollowed := true, recurses := true, named := ["quintadena/ratios.primes"], apart := false, laid := [("quintadena/ratios.primes", laid_quintadena_ratios_primes)] }
def PitchNearSaid : Prop := pitchNearRow.holds Tryz.pinned (OpenSpec.ofChange pitchNearSpec)

/-- ITS FALSE NEIGHBOUR: 'it returns false'. Refute it at one input. -/
def pitchNearWrong : ChangeSpec := { name := "pitchNear", fn := fun _ => fun
  | [d1, d2] => { results := [.lit (.bool false)], args := [d1, d2] }
  | _ => none }
def PitchNearWrongFalsely : Prop := pitchNearRow.holds Tryz.pinned (OpenSpec.ofChange pitchNearWrong)

/- THE SECOND FORM. 'bulk': how many values and letters a reading holds, each counted each time it is reached (what is shared counts as often as it is met; a slice's spare places count too). A statement '..UptoSaid' is the law's where the arguments, and the package variables that the reading takes, are together of bulk at most 1048576: NARROWER than '..Said'. Prove '..Said' where nothing that the law and all that it calls make is longer than what came in: it says more and counts as full. Else prove '..UptoSaid'. A law counts once. -/
mutual
def uptoBulk {H : Type} : DataW H → Nat
  | .lit (.string bytes) => bytes.length + 1
  | .lit _ => 1
  | .nil => 1
  | .ptr d => uptoBulk d + 1
  | .slice elems spare => uptoBulkAll elems + uptoBulkAll spare + 1
  | .agg parts => uptoBulkAll parts + 1
  | .iface _ d => uptoBulk d + 1
  | .map entries => uptoBulkEntries entries + 1
  | .held _ => 1
def uptoBulkAll {H : Type} : List (DataW H) → Nat
  | [] => 0
  | d :: r => uptoBulk d + uptoBulkAll r
def uptoBulkEntries {H : Type} : List (Lit × DataW H) → Nat
  | [] => 0
  | x :: r => uptoBulkEntry x + uptoBulkEntries r
def uptoBulkEntry {H : Type} : Lit × DataW H → Nat
  | (.string bytes, d) => bytes.length + uptoBulk d + 1
  | (_, d) => uptoBulk d + 1
 end
def uptoSmall : (H : Type) → List (DataW H) → Bool := fun _ ds => decide (uptoBulkAll ds ≤ 1048576)
def OpenSpec.upto (s : _root_.Go.ChangeSpec) : _root_.Go.OpenSpec := { _root_.Go.OpenSpec.ofChange s with cond := some uptoSmall }

/-- 'quintadenatop.TopPipes', WHERE WHAT IT READS IS OF BULK AT MOST 1048576: true; the input reads as it did. -/
def topPipesUptoRow : OpenClaim := { program := "ytfjodiojchknmaagreatdoor", sum := "2660db08191926e316c812c42441c095bc881232012cb3c88da5f33f1c37f3f1", func := "quintadena/quintadenatop.TopPipes", spec := "topPipes", inPlace := ["math/bits.Add64"], unfollowed := true, recurses := true, named := ["quintadena/ratios.primes", "math/bits.divideError", "math/bits.overflowError"], apart := false, laid := [("quintadena/ratios.primes", laid_quintadena_ratios_primes)], narrowed := true }
def TopPipesUptoSaid : Prop := topPipesUptoRow.holds Tryz.pinned (OpenSpec.upto topPipesSpec)

/-- 'quintadenalaw06.PitchOctaves', WHERE WHAT IT READS IS OF BULK AT MOST 1048576: true; the input reads as it did. -/
def pitchOctavesUptoRow : OpenClaim := { program := "ytfjodiojchknmaagreatdoor", sum := "2660db08191926e316c812c42441c095bc881232012cb3c88da5f33f1c37f3f1", func := "quintadena/quintadenalaw06.PitchOctaves", spec := "pitchOctaves", inPlace := ["math/bits.Add64"], unfollowed := true, recurses := true, named := ["quintadena/ratios.primes"], apart := false, laid := [("quintadena/ratios.primes", laid_quintadena_ratios_primes)], narrowed := true }
def PitchOctavesUptoSaid : Prop := pitchOctavesUptoRow.holds Tryz.pinned (OpenSpec.upto pitchOctavesSpec)

/-- 'quintadenalaw06.PitchFits', WHERE WHAT IT READS IS OF BULK AT MOST 1048576: true; the input reads as it did. -/
def pitchFitsUptoRow : OpenClaim := { program := "ytfjodiojchknmaagreatdoor", sum := "2660db08191926e316c812c42441c095bc881232012cb3c88da5f33f1c37f3f1", func := "quintadena/quintadenalaw06.PitchFits", spec := "pitchFits", inPlace := ["math/bits.Add64"], unfollowed := true, recurses := true, named := ["quintadena/ratios.primes"], apart := false, laid := [("quintadena/ratios.primes", laid_quintadena_ratios_primes)], narrowed := true }
def PitchFitsUptoSaid : Prop := pitchFitsUptoRow.holds Tryz.pinned (OpenSpec.upto pitchFitsSpec)

/-- 'quintadenalaw06.PitchNear', WHERE WHAT IT READS IS OF BULK AT MOST 1048576: true; the input reads as it did. -/
def pitchNearUptoRow : OpenClaim := { program := "ytfjodiojchknmaagreatdoor", sum := "2660db08191926e316c812c42441c095bc881232012cb3c88da5f33f1c37f3f1", func := "quintadena/quintadenalaw06.PitchNear", spec := "pitchNear", inPlace := ["math/bits.Add64"], unfollowed := true, recurses := true, named := ["quintadena/ratios.primes"], apart := false, laid := [("quintadena/ratios.primes", laid_quintadena_ratios_primes)], narrowed := true }
def PitchNearUptoSaid : Prop := pitchNearUptoRow.holds Tryz.pinned (OpenSpec.upto pitchNearSpec)

end Rows
end Go.Proofs.YtfjodiojchknmaaGreatDoor
