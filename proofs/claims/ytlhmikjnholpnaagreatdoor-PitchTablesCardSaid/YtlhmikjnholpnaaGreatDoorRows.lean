/-
  NARROWER THAN 'FOR EVERY INPUT', by the rows' own cells (each row's printed sentence says how): PitchTables: laid · PitchExact: laid.
  DERIVED. THE GIVEN ROWS OF THIS SEAT. 2 by the template 'for every input the law returns true; each argument reads behind the call as it read before'; 0 by the template 'total and deterministic' (their statements: YtlhmikjnholpnaaGreatDoorTotals.lean).
  GIVEN WITH THE SEED: the statements are not yours to turn. If you find one false, say at which input.
  Laid BY PROGRAM, IN A SANDBOX (cutbox-rows.mjs): the forced cells as the released guide's own fill.sh prints them over the translation c9226c37c365236e… (all of the seat's roots in one cut). By AI agents, Wed Nov 11 2026. No macro, syntax, notation, axiom, sorry.
-/
import Derived.Test.YtlhmikjnholpnaaGreatDoorChecked
import GoSem.Claim
import GoSem.ClaimJoined
import GoSem.ClaimMapViews
import Derived.JoinedTies
import Derived.KernelRfl
namespace Go.Proofs.YtlhmikjnholpnaaGreatDoor
/- THE CELL 'sum', in the pinned program and in every row, IS THE sha256 OF THE DUMP (.gsa) THAT YtlhmikjnholpnaaGreatDoorProg.lean LOADS. Nothing in Lean hashes anything: it is a label: what it is worth is what the hold of that sum in a sandbox is worth. -/
noncomputable def Tryz.pinned : Pinned := { name := "ytlhmikjnholpnaagreatdoor", sum := "c9226c37c365236e95431e153e34cf633a7caf9da936f2bfa015717bc15ff0e1", checked := Tryz.checked }
namespace Rows
def none {H : Type} : Left H := { results := [], args := [] }

/- WHAT THE LISTED PACKAGE-LEVEL VARIABLES READ AS WHEN THE CALL BEGINS. Each datum BY PROGRAM (the guide's laid-datum.mjs) off the statement by which the dump's own 'gosem.cut.vars' lays the variable. In a bare row this is a premise. The card (YtlhmikjnholpnaaGreatDoorCards.lean) ties it to the program's text. -/
def laid_quintadena_ratios_primes {H : Type} : DataW H := .agg [.lit (.int .i64 2), .lit (.int .i64 3), .lit (.int .i64 5), .lit (.int .i64 7), .lit (.int .i64 11), .lit (.int .i64 13)]

/-- 'quintadenalaw06.PitchTables': WHATEVER THE INPUT: true; the input reads as it did. -/
def pitchTablesSpec : ChangeSpec := { name := "pitchTables", fn := fun _ => fun
  | [d1, d2, d3] => { results := [.lit (.bool true)], args := [d1, d2, d3] }
  | _ => none }
def pitchTablesRow : OpenClaim := { program := "ytlhmikjnholpnaagreatdoor", sum := "c9226c37c365236e95431e153e34cf633a7caf9da936f2bfa015717bc15ff0e1", func := "quintadena/quintadenalaw06.PitchTables", spec := "pitchTables", inPlace := ["math/bits.Add64"], unfollowed := true, recurses := true, named := ["quintadena/ratios.primes"], apart := false, laid := [("quintadena/ratios.primes", laid_quintadena_ratios_primes)] }
def PitchTablesSaid : Prop := pitchTablesRow.holds Tryz.pinned (OpenSpec.ofChange pitchTablesSpec)

/-- ITS FALSE NEIGHBOUR: 'it returns false'. Refute it at one input. -/
def pitchTablesWrong : ChangeSpec := { name := "pitchTables", fn := fun _ => fun
  | [d1, d2, d3] => { results := [.lit (.bool false)], args := [d1, d2, d3] }
  | _ => none }
def PitchTablesWrongFalsely : Prop := pitchTablesRow.holds Tryz.pinned (OpenSpec.ofChange pitchTablesWrong)

/-- 'quintadenalaw06.PitchExact': WHATEVER THE INPUT: true; the input reads as it did. -/
def pitchExactSpec : ChangeSpec := { name := "pitchExact", fn := fun _ => fun
  | [d1, d2] => { results := [.lit (.bool true)], args := [d1, d2] }
  | _ => none }
def pitchExactRow : OpenClaim := { program := "ytlhmikjnholpnaagreatdoor", sum := "c9226c37c365236e95431e153e34cf633a7caf9da936f2bfa015717bc15ff0e1", func := "quintadena/quintadenalaw06.PitchExact", spec := "pitchExact", inPlace := ["math/bits.Add64"], unfollowed := true, recurses := true, named := ["quintadena/ratios.primes"], apart := false, laid := [("quintadena/ratios.primes", laid_quintadena_ratios_primes)] }
def PitchExactSaid : Prop := pitchExactRow.holds Tryz.pinned (OpenSpec.ofChange pitchExactSpec)

/-- ITS FALSE NEIGHBOUR: 'it returns false'. Refute it at one input. -/
def pitchExactWrong : ChangeSpec := { name := "pitchExact", fn := fun _ => fun
  | [d1, d2] => { results := [.lit (.bool false)], args := [d1, d2] }
  | _ => none }
def PitchExactWrongFalsely : Prop := pitchExactRow.holds Tryz.pinned (OpenSpec.ofChange pitchExactWrong)

/- THE SECOND FORM. 'bulk': how many values and letters a reading holds, each counted each time it is reached (what is shared counts as often as it is met; a slice's spare places count too). A statement '..UptoSaid' is the law's where the arguments, and the package variables that the reading takes, are together of bulk at most 1048576: NARROWER than '..Said'. Prove '..Said' where nothing that the law and all that it calls make is longer than what came in: it says more and counts as full. Else prove '..UptoSaid'. A law counts once. -/
mutual
def uptoBulk {H : Type} : DataW H → Nat
  | .lit (.string bytes) => bytes.length + 1
  | .lit _ => 1
  | .nil => 1
  | .ptr d => uptoBulk d + 1
  | .slice elems spare => uptoBulkAll elems + uptoBulkAll spare + 1
  | .agg parts => uptoBulkAll parts + 1
  | .iface _ d => uptoBulk d + 1
  | .map entries => uptoBulkEntries entries + 1
  | .held _ => 1
def uptoBulkAll {H : Type} : List (DataW H) → Nat
  | [] => 0
  | d :: r => uptoBulk d + uptoBulkAll r
def uptoBulkEntries {H : Type} : List (Lit × DataW H) → Nat
  | [] => 0
  | x :: r => uptoBulkEntry x + uptoBulkEntries r
def uptoBulkEntry {H : Type} : Lit × DataW H → Nat
  | (.string bytes, d) => bytes.length + uptoBulk d + 1
  | (_, d) => uptoBulk d + 1
 end
def uptoSmall : (H : Type) → List (DataW H) → Bool := fun _ ds => decide (uptoBulkAll ds ≤ 1048576)
def OpenSpec.upto (s : _root_.Go.ChangeSpec) : _root_.Go.OpenSpec := { _root_.Go.OpenSpec.ofChange s with cond := some uptoSmall }

/-- 'quintadenalaw06.PitchTables', WHERE WHAT IT READS IS OF BULK AT MOST 1048576: true; the input reads as it did. -/
def pitchTablesUptoRow : OpenClaim := { program := "ytlhmikjnholpnaagreatdoor", sum := "c9226c37c365236e95431e153e34cf633a7caf9da936f2bfa015717bc15ff0e1", func := "quintadena/quintadenalaw06.PitchTables", spec := "pitchTables", inPlace := ["math/bits.Add64"], unfollowed := true, recurses := true, named := ["quintadena/ratios.primes"], apart := false, laid := [("quintadena/ratios.primes", laid_quintadena_ratios_primes)], narrowed := true }
def PitchTablesUptoSaid : Prop := pitchTablesUptoRow.holds Tryz.pinned (OpenSpec.upto pitchTablesSpec)

/-- 'quintadenalaw06.PitchExact', WHERE WHAT IT READS IS OF BULK AT MOST 1048576: true; the input reads as it did. -/
def pitchExactUptoRow : OpenClaim := { program := "ytlhmikjnholpnaagreatdoor", sum := "c9226c37c365236e95431e153e34cf633a7caf9da936f2bfa015717bc15ff0e1", func := "quintadena/quintadenalaw06.PitchExact", spec := "pitchExact", inPlace := ["math/bits.Add64"], unfollowed := true, recurses := true, named := ["quintadena/ratios.primes"], apart := false, laid := [("quintadena/ratios.primes", laid_quintadena_ratios_primes)], narrowed := true }
def PitchExactUptoSaid : Prop := pitchExactUptoRow.holds Tryz.pinned (OpenSpec.upto pitchExactSpec)

end Rows
end Go.Proofs.YtlhmikjnholpnaaGreatDoor
