/-
  NARROWER THAN 'FOR EVERY INPUT', by the rows' own cells (each row's printed sentence says how): PitchKnown: laid · BeatsOff: laid · BeatsLeast: laid · BeatsKnown: laid.
  DERIVED. THE GIVEN ROWS OF THIS SEAT. 4 by the template 'for every input the law returns true; each argument reads behind the call as it read before'; 0 by the template 'total and deterministic' (their statements: YtegbbdjknnfbdaaGreatDoorTotals.lean).
  GIVEN WITH THE SEED: the statements are not yours to turn. If you find one false, say at which input.
  Laid BY PROGRAM, IN A SANDBOX (cutbox-rows.mjs): the forced cells as the released guide's own fill.sh prints them over the translation 57d11ef693700d64… (all of the seat's roots in one cut). By AI agents, Wed Nov 11 2026. No macro, syntax, notation, axiom, sorry.
-/
import Derived.Test.YtegbbdjknnfbdaaGreatDoorChecked
import GoSem.Claim
import GoSem.ClaimJoined
import GoSem.ClaimMapViews
import Derived.JoinedTies
import Derived.KernelRfl
namespace Go.Proofs.YtegbbdjknnfbdaaGreatDoor
/- THE CELL 'sum', in the pinned program and in every row, IS THE sha256 OF THE DUMP (.gsa) THAT YtegbbdjknnfbdaaGreatDoorProg.lean LOADS. Nothing in Lean hashes anything: it is a label: what it is worth is what the hold of that sum in a sandbox is worth. -/
noncomputable def Tryz.pinned : Pinned := { name := "ytegbbdjknnfbdaagreatdoor", sum := "57d11ef693700d64fab3ff58f1c8479518bed6612c3b257d0fcf158338a27677", checked := Tryz.checked }
namespace Rows
def none {H : Type} : Left H := { results := [], args := [] }

/- WHAT THE LISTED PACKAGE-LEVEL VARIABLES READ AS WHEN THE CALL BEGINS. Each datum BY PROGRAM (the guide's laid-datum.mjs) off the statement by which the dump's own 'gosem.cut.vars' lays the variable. In a bare row this is a premise. The card (YtegbbdjknnfbdaaGreatDoorCards.lean) ties it to the program's text. -/
def laid_quintadena_ratios_primes {H : Type} : DataW H := .agg [.lit (.int .i64 2), .lit (.int .i64 3), .lit (.int .i64 5), .lit (.int .i64 7), .lit (.int .i64 11), .lit (.int .i64 13)]

/-- 'quintadenalaw06.PitchKnown': WHATEVER THE INPUT: true; the input reads as it did. -/
def pitchKnownSpec : ChangeSpec := { name := "pitchKnown", fn := fun _ => fun
  | [] => { results := [.lit (.bool true)], args := [] }
  | _ => none }
def pitchKnownRow : OpenClaim := { program := "ytegbbdjknnfbdaagreatdoor", sum := "57d11ef693700d64fab3ff58f1c8479518bed6612c3b257d0fcf158338a27677", func := "quintadena/quintadenalaw06.PitchKnown", spec := "pitchKnown", inPlace := ["math/bits.Add64"], unfollowed := true, recurses := true, named := ["quintadena/ratios.primes"], apart := false, laid := [("quintadena/ratios.primes", laid_quintadena_ratios_primes)] }
def PitchKnownSaid : Prop := pitchKnownRow.holds Tryz.pinned (OpenSpec.ofChange pitchKnownSpec)

/-- ITS FALSE NEIGHBOUR: 'it returns false'. Refute it at one input. -/
def pitchKnownWrong : ChangeSpec := { name := "pitchKnown", fn := fun _ => fun
  | [] => { results := [.lit (.bool false)], args := [] }
  | _ => none }
def PitchKnownWrongFalsely : Prop := pitchKnownRow.holds Tryz.pinned (OpenSpec.ofChange pitchKnownWrong)

/-- 'quintadenalaw25.BeatsOff': WHATEVER THE INPUT: true; the input reads as it did. -/
def beatsOffSpec : ChangeSpec := { name := "beatsOff", fn := fun _ => fun
  | [d1, d2, d3] => { results := [.lit (.bool true)], args := [d1, d2, d3] }
  | _ => none }
def beatsOffRow : OpenClaim := { program := "ytegbbdjknnfbdaagreatdoor", sum := "57d11ef693700d64fab3ff58f1c8479518bed6612c3b257d0fcf158338a27677", func := "quintadena/quintadenalaw25.BeatsOff", spec := "beatsOff", inPlace := ["math/bits.Add64"], unfollowed := true, recurses := true, named := ["quintadena/ratios.primes", "math/bits.divideError", "math/bits.overflowError"], apart := false, laid := [("quintadena/ratios.primes", laid_quintadena_ratios_primes)] }
def BeatsOffSaid : Prop := beatsOffRow.holds Tryz.pinned (OpenSpec.ofChange beatsOffSpec)

/-- ITS FALSE NEIGHBOUR: 'it returns false'. Refute it at one input. -/
def beatsOffWrong : ChangeSpec := { name := "beatsOff", fn := fun _ => fun
  | [d1, d2, d3] => { results := [.lit (.bool false)], args := [d1, d2, d3] }
  | _ => none }
def BeatsOffWrongFalsely : Prop := beatsOffRow.holds Tryz.pinned (OpenSpec.ofChange beatsOffWrong)

/-- 'quintadenalaw25.BeatsLeast': WHATEVER THE INPUT: true; the input reads as it did. -/
def beatsLeastSpec : ChangeSpec := { name := "beatsLeast", fn := fun _ => fun
  | [d1, d2, d3] => { results := [.lit (.bool true)], args := [d1, d2, d3] }
  | _ => none }
def beatsLeastRow : OpenClaim := { program := "ytegbbdjknnfbdaagreatdoor", sum := "57d11ef693700d64fab3ff58f1c8479518bed6612c3b257d0fcf158338a27677", func := "quintadena/quintadenalaw25.BeatsLeast", spec := "beatsLeast", inPlace := ["math/bits.Add64"], unfollowed := true, recurses := true, named := ["quintadena/ratios.primes", "math/bits.divideError", "math/bits.overflowError"], apart := false, laid := [("quintadena/ratios.primes", laid_quintadena_ratios_primes)] }
def BeatsLeastSaid : Prop := beatsLeastRow.holds Tryz.pinned (OpenSpec.ofChange beatsLeastSpec)

/-- ITS FALSE NEIGHBOUR: 'it returns false'. Refute it at one input. -/
def beatsLeastWrong : ChangeSpec := { name := "beatsLeast", fn := fun _ => fun
  | [d1, d2, d3] => { results := [.lit (.bool false)], args := [d1, d2, d3] }
  | _ => none }
def BeatsLeastWrongFalsely : Prop := beatsLeastRow.holds Tryz.pinned (OpenSpec.ofChange beatsLeastWrong)

/-- 'quintadenalaw25.BeatsKnown': WHATEVER THE INPUT: true; the input reads as it did. -/
def beatsKnownSpec : ChangeSpec := { name := "beatsKnown", fn := fun _ => fun
  | [] => { results := [.lit (.bool true)], args := [] }
  | _ => none }
def beatsKnownRow : OpenClaim := { program := "ytegbbdjknnfbdaagreatdoor", sum := "57d11ef693700d64fab3ff58f1c8479518bed6612c3b257d0fcf158338a27677", func := "quintadena/quintadenalaw25.BeatsKnown", spec := "beatsKnown", inPlace := ["math/bits.Add64"], unfollowed := true, recurses := true, named := ["quintadena/ratios.primes", "math/bits.divideError", "math/bits.overflowError"], apart := false, laid := [("quintadena/ratios.primes", laid_quintadena_ratios_primes)] }
def BeatsKnownSaid : Prop := beatsKnownRow.holds Tryz.pinned (OpenSpec.ofChange beatsKnownSpec)

/-- ITS FALSE NEIGHBOUR: 'it returns false'. Refute it at one input. -/
def beatsKnownWrong : ChangeSpec := { name := "beatsKnown", fn := fun _ => fun
  | [] => { results := [.lit (.bool false)], args := [] }
  | _ => none }
def BeatsKnownWrongFalsely : Prop := beatsKnownRow.holds Tryz.pinned (OpenSpec.ofChange beatsKnownWrong)

/- THE SECOND FORM. 'bulk': how many values and letters a reading holds, each counted each time it is reached (what is shared counts as often as it is met; a slice's spare places count too). A statement '..UptoSaid' is the law's where the arguments, and the package variables that the reading takes, are together of bulk at most 1048576: NARROWER than '..Said'. Prove '..Said' where nothing that the law and all that it calls make is longer than what came in: it says more and counts as full. Else prove '..UptoSaid'. A law counts once. -/
mutual
def uptoBulk {H : Type} : DataW H → Nat
  | .lit (.string bytes) => bytes.length + 1
  | .lit _ => 1
  | .nil => 1
  | .ptr d => uptoBulk d + 1
  | .slice elems spare => uptoBulkAll elems + uptoBulkAll spare + 1
  | .agg parts => uptoBulkAll parts + 1
  | .iface _ d => uptoBulk d + 1
  | .map entries => uptoBulkEntries entries + 1
  | .held _ => 1
def uptoBulkAll {H : Type} : List (DataW H) → Nat
  | [] => 0
  | d :: r => uptoBulk d + uptoBulkAll r
def uptoBulkEntries {H : Type} : List (Lit × DataW H) → Nat
  | [] => 0
  | x :: r => uptoBulkEntry x + uptoBulkEntries r
def uptoBulkEntry {H : Type} : Lit × DataW H → Nat
  | (.string bytes, d) => bytes.length + uptoBulk d + 1
  | (_, d) => uptoBulk d + 1
 end
def uptoSmall : (H : Type) → List (DataW H) → Bool := fun _ ds => decide (uptoBulkAll ds ≤ 1048576)
def OpenSpec.upto (s : _root_.Go.ChangeSpec) : _root_.Go.OpenSpec := { _root_.Go.OpenSpec.ofChange s with cond := some uptoSmall }

/-- 'quintadenalaw06.PitchKnown', WHERE WHAT IT READS IS OF BULK AT MOST 1048576: true; the input reads as it did. -/
def pitchKnownUptoRow : OpenClaim := { program := "ytegbbdjknnfbdaagreatdoor", sum := "57d11ef693700d64fab3ff58f1c8479518bed6612c3b257d0fcf158338a27677", func := "quintadena/quintadenalaw06.PitchKnown", spec := "pitchKnown", inPlace := ["math/bits.Add64"], unfollowed := true, recurses := true, named := ["quintadena/ratios.primes"], apart := false, laid := [("quintadena/ratios.primes", laid_quintadena_ratios_primes)], narrowed := true }
def PitchKnownUptoSaid : Prop := pitchKnownUptoRow.holds Tryz.pinned (OpenSpec.upto pitchKnownSpec)

/-- 'quintadenalaw25.BeatsOff', WHERE WHAT IT READS IS OF BULK AT MOST 1048576: true; the input reads as it did. -/
def beatsOffUptoRow : OpenClaim := { program := "ytegbbdjknnfbdaagreatdoor", sum := "57d11ef693700d64fab3ff58f1c8479518bed6612c3b257d0fcf158338a27677", func := "quintadena/quintadenalaw25.BeatsOff", spec := "beatsOff", inPlace := ["math/bits.Add64"], unfollowed := true, recurses := true, named := ["quintadena/ratios.primes", "math/bits.divideError", "math/bits.overflowError"], apart := false, laid := [("quintadena/ratios.primes", laid_quintadena_ratios_primes)], narrowed := true }
def BeatsOffUptoSaid : Prop := beatsOffUptoRow.holds Tryz.pinned (OpenSpec.upto beatsOffSpec)

/-- 'quintadenalaw25.BeatsLeast', WHERE WHAT IT READS IS OF BULK AT MOST 1048576: true; the input reads as it did. -/
def beatsLeastUptoRow : OpenClaim := { program := "ytegbbdjknnfbdaagreatdoor", sum := "57d11ef693700d64fab3ff58f1c8479518bed6612c3b257d0fcf158338a27677", func := "quintadena/quintadenalaw25.BeatsLeast", spec := "beatsLeast", inPlace := ["math/bits.Add64"], unfollowed := true, recurses := true, named := ["quintadena/ratios.primes", "math/bits.divideError", "math/bits.overflowError"], apart := false, laid := [("quintadena/ratios.primes", laid_quintadena_ratios_primes)], narrowed := true }
def BeatsLeastUptoSaid : Prop := beatsLeastUptoRow.holds Tryz.pinned (OpenSpec.upto beatsLeastSpec)

/-- 'quintadenalaw25.BeatsKnown', WHERE WHAT IT READS IS OF BULK AT MOST 1048576: true; the input reads as it did. -/
def beatsKnownUptoRow : OpenClaim := { program := "ytegbbdjknnfbdaagreatdoor", sum := "57d11ef693700d64fab3ff58f1c8479518bed6612c3b257d0fcf158338a27677", func := "quintadena/quintadenalaw25.BeatsKnown", spec := "beatsKnown", inPlace := ["math/bits.Add64"], unfollowed := true, recurses := true, named := ["quintadena/ratios.primes", "math/bits.divideError", "math/bits.overflowError"], apart := false, laid := [("quintadena/ratios.primes", laid_quintadena_ratios_primes)], narrowed := true }
def BeatsKnownUptoSaid : Prop := beatsKnownUptoRow.holds Tryz.pinned (OpenSpec.upto beatsKnownSpec)

end Rows
end Go.Proofs.YtegbbdjknnfbdaaGreatDoor
