/-
  No cell of these rows narrows 'for every input' (looked for: loops, veiled, ifaces, maps, wideKeys, modest, calm, conditions, laid).
  DERIVED. THE GIVEN ROWS OF THIS SEAT. 7 by the template 'for every input the law returns true; each argument reads behind the call as it read before'; 0 by the template 'total and deterministic' (their statements: YtojaibhjfeojjaaTotals.lean).
  GIVEN WITH THE SEED: the statements are not yours to turn. If you find one false, say at which input.
  Laid BY PROGRAM, IN A SANDBOX (cutbox-rows.mjs): the forced cells as the released guide's own fill.sh prints them over the translation 342cb21149bd7079… (all of the seat's roots in one cut). By AI agents, Wed Nov 11 2026. No macro, syntax, notation, axiom, sorry.
-/
import Derived.Test.YtojaibhjfeojjaaChecked
import GoSem.Claim
import GoSem.ClaimJoined
import GoSem.ClaimMapViews
import Derived.JoinedTies
import Derived.KernelRfl
namespace Go.Proofs.Ytojaibhjfeojjaa
/- THE CELL 'sum', in the pinned program and in every row, IS THE sha256 OF THE DUMP (.gsa) THAT YtojaibhjfeojjaaProg.lean LOADS. Nothing in Lean hashes anything: it is a label: what it is worth is what the hold of that sum in a sandbox is worth. -/
noncomputable def Try.pinned : Pinned := { name := "ytojaibhjfeojjaa", sum := "342cb21149bd7079b7cbe69c3dffdda4f8e80c28dd50ecc990a16e075aaa3ad3", checked := Try.checked }
namespace Rows
def none {H : Type} : Left H := { results := [], args := [] }

/-- 'quintadenalaw23.LayoutRows': WHATEVER THE INPUT: true; the input reads as it did. -/
def layoutRowsSpec : ChangeSpec := { name := "layoutRows", fn := fun _ => fun
  | [d1, d2] => { results := [.lit (.bool true)], args := [d1, d2] }
  | _ => none }
def layoutRowsRow : OpenClaim := { program := "ytojaibhjfeojjaa", sum := "342cb21149bd7079b7cbe69c3dffdda4f8e80c28dd50ecc990a16e075aaa3ad3", func := "quintadena/quintadenalaw23.LayoutRows", spec := "layoutRows", unfollowed := true, recurses := true, apart := false }
def LayoutRowsSaid : Prop := layoutRowsRow.holds Try.pinned (OpenSpec.ofChange layoutRowsSpec)

/-- ITS FALSE NEIGHBOUR: 'it returns false'. Refute it at one input. -/
def layoutRowsWrong : ChangeSpec := { name := "layoutRows", fn := fun _ => fun
  | [d1, d2] => { results := [.lit (.bool false)], args := [d1, d2] }
  | _ => none }
def LayoutRowsWrongFalsely : Prop := layoutRowsRow.holds Try.pinned (OpenSpec.ofChange layoutRowsWrong)

/-- 'quintadenalaw23.LayoutOrders': WHATEVER THE INPUT: true; the input reads as it did. -/
def layoutOrdersSpec : ChangeSpec := { name := "layoutOrders", fn := fun _ => fun
  | [d1, d2] => { results := [.lit (.bool true)], args := [d1, d2] }
  | _ => none }
def layoutOrdersRow : OpenClaim := { program := "ytojaibhjfeojjaa", sum := "342cb21149bd7079b7cbe69c3dffdda4f8e80c28dd50ecc990a16e075aaa3ad3", func := "quintadena/quintadenalaw23.LayoutOrders", spec := "layoutOrders", unfollowed := true, recurses := true, apart := false }
def LayoutOrdersSaid : Prop := layoutOrdersRow.holds Try.pinned (OpenSpec.ofChange layoutOrdersSpec)

/-- ITS FALSE NEIGHBOUR: 'it returns false'. Refute it at one input. -/
def layoutOrdersWrong : ChangeSpec := { name := "layoutOrders", fn := fun _ => fun
  | [d1, d2] => { results := [.lit (.bool false)], args := [d1, d2] }
  | _ => none }
def LayoutOrdersWrongFalsely : Prop := layoutOrdersRow.holds Try.pinned (OpenSpec.ofChange layoutOrdersWrong)

/-- 'quintadenalaw23.LayoutGrows': WHATEVER THE INPUT: true; the input reads as it did. -/
def layoutGrowsSpec : ChangeSpec := { name := "layoutGrows", fn := fun _ => fun
  | [d1, d2, d3] => { results := [.lit (.bool true)], args := [d1, d2, d3] }
  | _ => none }
def layoutGrowsRow : OpenClaim := { program := "ytojaibhjfeojjaa", sum := "342cb21149bd7079b7cbe69c3dffdda4f8e80c28dd50ecc990a16e075aaa3ad3", func := "quintadena/quintadenalaw23.LayoutGrows", spec := "layoutGrows", unfollowed := true, recurses := true, apart := false }
def LayoutGrowsSaid : Prop := layoutGrowsRow.holds Try.pinned (OpenSpec.ofChange layoutGrowsSpec)

/-- ITS FALSE NEIGHBOUR: 'it returns false'. Refute it at one input. -/
def layoutGrowsWrong : ChangeSpec := { name := "layoutGrows", fn := fun _ => fun
  | [d1, d2, d3] => { results := [.lit (.bool false)], args := [d1, d2, d3] }
  | _ => none }
def LayoutGrowsWrongFalsely : Prop := layoutGrowsRow.holds Try.pinned (OpenSpec.ofChange layoutGrowsWrong)

/-- 'quintadenalaw23.LayoutReaches': WHATEVER THE INPUT: true; the input reads as it did. -/
def layoutReachesSpec : ChangeSpec := { name := "layoutReaches", fn := fun _ => fun
  | [d1, d2, d3] => { results := [.lit (.bool true)], args := [d1, d2, d3] }
  | _ => none }
def layoutReachesRow : OpenClaim := { program := "ytojaibhjfeojjaa", sum := "342cb21149bd7079b7cbe69c3dffdda4f8e80c28dd50ecc990a16e075aaa3ad3", func := "quintadena/quintadenalaw23.LayoutReaches", spec := "layoutReaches", unfollowed := true, recurses := true, apart := false }
def LayoutReachesSaid : Prop := layoutReachesRow.holds Try.pinned (OpenSpec.ofChange layoutReachesSpec)

/-- ITS FALSE NEIGHBOUR: 'it returns false'. Refute it at one input. -/
def layoutReachesWrong : ChangeSpec := { name := "layoutReaches", fn := fun _ => fun
  | [d1, d2, d3] => { results := [.lit (.bool false)], args := [d1, d2, d3] }
  | _ => none }
def LayoutReachesWrongFalsely : Prop := layoutReachesRow.holds Try.pinned (OpenSpec.ofChange layoutReachesWrong)

/-- 'quintadenalaw23.LayoutLeast': WHATEVER THE INPUT: true; the input reads as it did. -/
def layoutLeastSpec : ChangeSpec := { name := "layoutLeast", fn := fun _ => fun
  | [d1, d2, d3] => { results := [.lit (.bool true)], args := [d1, d2, d3] }
  | _ => none }
def layoutLeastRow : OpenClaim := { program := "ytojaibhjfeojjaa", sum := "342cb21149bd7079b7cbe69c3dffdda4f8e80c28dd50ecc990a16e075aaa3ad3", func := "quintadena/quintadenalaw23.LayoutLeast", spec := "layoutLeast", unfollowed := true, recurses := true, apart := false }
def LayoutLeastSaid : Prop := layoutLeastRow.holds Try.pinned (OpenSpec.ofChange layoutLeastSpec)

/-- ITS FALSE NEIGHBOUR: 'it returns false'. Refute it at one input. -/
def layoutLeastWrong : ChangeSpec := { name := "layoutLeast", fn := fun _ => fun
  | [d1, d2, d3] => { results := [.lit (.bool false)], args := [d1, d2, d3] }
  | _ => none }
def LayoutLeastWrongFalsely : Prop := layoutLeastRow.holds Try.pinned (OpenSpec.ofChange layoutLeastWrong)

/-- 'quintadenalaw23.LayoutSafe': WHATEVER THE INPUT: true; the input reads as it did. -/
def layoutSafeSpec : ChangeSpec := { name := "layoutSafe", fn := fun _ => fun
  | [d1, d2] => { results := [.lit (.bool true)], args := [d1, d2] }
  | _ => none }
def layoutSafeRow : OpenClaim := { program := "ytojaibhjfeojjaa", sum := "342cb21149bd7079b7cbe69c3dffdda4f8e80c28dd50ecc990a16e075aaa3ad3", func := "quintadena/quintadenalaw23.LayoutSafe", spec := "layoutSafe", unfollowed := true, recurses := true, apart := false }
def LayoutSafeSaid : Prop := layoutSafeRow.holds Try.pinned (OpenSpec.ofChange layoutSafeSpec)

/-- ITS FALSE NEIGHBOUR: 'it returns false'. Refute it at one input. -/
def layoutSafeWrong : ChangeSpec := { name := "layoutSafe", fn := fun _ => fun
  | [d1, d2] => { results := [.lit (.bool false)], args := [d1, d2] }
  | _ => none }
def LayoutSafeWrongFalsely : Prop := layoutSafeRow.holds Try.pinned (OpenSpec.ofChange layoutSafeWrong)

/-- 'quintadenalaw23.LayoutChecks': WHATEVER THE INPUT: true; the input reads as it did. -/
def layoutChecksSpec : ChangeSpec := { name := "layoutChecks", fn := fun _ => fun
  | [d1, d2] => { results := [.lit (.bool true)], args := [d1, d2] }
  | _ => none }
def layoutChecksRow : OpenClaim := { program := "ytojaibhjfeojjaa", sum := "342cb21149bd7079b7cbe69c3dffdda4f8e80c28dd50ecc990a16e075aaa3ad3", func := "quintadena/quintadenalaw23.LayoutChecks", spec := "layoutChecks", unfollowed := true, recurses := true, apart := false }
def LayoutChecksSaid : Prop := layoutChecksRow.holds Try.pinned (OpenSpec.ofChange layoutChecksSpec)

/-- ITS FALSE NEIGHBOUR: 'it returns false'. Refute it at one input. -/
def layoutChecksWrong : ChangeSpec := { name := "layoutChecks", fn := fun _ => fun
  | [d1, d2] => { results := [.lit (.bool false)], args := [d1, d2] }
  | _ => none }
def LayoutChecksWrongFalsely : Prop := layoutChecksRow.holds Try.pinned (OpenSpec.ofChange layoutChecksWrong)

/- THE SECOND FORM. 'bulk': how many values and letters a reading holds, each counted each time it is reached (what is shared counts as often as it is met; a slice's spare places count too). A statement '..UptoSaid' is the law's where the arguments, and the package variables that the reading takes, are together of bulk at most 1048576: NARROWER than '..Said'. Prove '..Said' where nothing that the law and all that it calls make is longer than what came in: it says more and counts as full. Else prove '..UptoSaid'. A law counts once. -/
mutual
def uptoBulk {H : Type} : DataW H → Nat
  | .lit (.string bytes) => bytes.length + 1
  | .lit _ => 1
  | .nil => 1
  | .ptr d => uptoBulk d + 1
  | .slice elems spare => uptoBulkAll elems + uptoBulkAll spare + 1
  | .agg parts => uptoBulkAll parts + 1
  | .iface _ d => uptoBulk d + 1
  | .map entries => uptoBulkEntries entries + 1
  | .held _ => 1
def uptoBulkAll {H : Type} : List (DataW H) → Nat
  | [] => 0
  | d :: r => uptoBulk d + uptoBulkAll r
def uptoBulkEntries {H : Type} : List (Lit × DataW H) → Nat
  | [] => 0
  | x :: r => uptoBulkEntry x + uptoBulkEntries r
def uptoBulkEntry {H : Type} : Lit × DataW H → Nat
  | (.string bytes, d) => bytes.length + uptoBulk d + 1
  | (_, d) => uptoBulk d + 1
 end
def uptoSmall : (H : Type) → List (DataW H) → Bool := fun _ ds => decide (uptoBulkAll ds ≤ 1048576)
def OpenSpec.upto (s : _root_.Go.ChangeSpec) : _root_.Go.OpenSpec := { _root_.Go.OpenSpec.ofChange s with cond := some uptoSmall }

/-- 'quintadenalaw23.LayoutRows', WHERE WHAT IT READS IS OF BULK AT MOST 1048576: true; the input reads as it did. -/
def layoutRowsUptoRow : OpenClaim := { program := "ytojaibhjfeojjaa", sum := "342cb21149bd7079b7cbe69c3dffdda4f8e80c28dd50ecc990a16e075aaa3ad3", func := "quintadena/quintadenalaw23.LayoutRows", spec := "layoutRows", unfollowed := true, recurses := true, apart := false, narrowed := true }
def LayoutRowsUptoSaid : Prop := layoutRowsUptoRow.holds Try.pinned (OpenSpec.upto layoutRowsSpec)

/-- 'quintadenalaw23.LayoutOrders', WHERE WHAT IT READS IS OF BULK AT MOST 1048576: true; the input reads as it did. -/
def layoutOrdersUptoRow : OpenClaim := { program := "ytojaibhjfeojjaa", sum := "342cb21149bd7079b7cbe69c3dffdda4f8e80c28dd50ecc990a16e075aaa3ad3", func := "quintadena/quintadenalaw23.LayoutOrders", spec := "layoutOrders", unfollowed := true, recurses := true, apart := false, narrowed := true }
def LayoutOrdersUptoSaid : Prop := layoutOrdersUptoRow.holds Try.pinned (OpenSpec.upto layoutOrdersSpec)

/-- 'quintadenalaw23.LayoutGrows', WHERE WHAT IT READS IS OF BULK AT MOST 1048576: true; the input reads as it did. -/
def layoutGrowsUptoRow : OpenClaim := { program := "ytojaibhjfeojjaa", sum := "342cb21149bd7079b7cbe69c3dffdda4f8e80c28dd50ecc990a16e075aaa3ad3", func := "quintadena/quintadenalaw23.LayoutGrows", spec := "layoutGrows", unfollowed := true, recurses := true, apart := false, narrowed := true }
def LayoutGrowsUptoSaid : Prop := layoutGrowsUptoRow.holds Try.pinned (OpenSpec.upto layoutGrowsSpec)

/-- 'quintadenalaw23.LayoutReaches', WHERE WHAT IT READS IS OF BULK AT MOST 1048576: true; the input reads as it did. -/
def layoutReachesUptoRow : OpenClaim := { program := "ytojaibhjfeojjaa", sum := "342cb21149bd7079b7cbe69c3dffdda4f8e80c28dd50ecc990a16e075aaa3ad3", func := "quintadena/quintadenalaw23.LayoutReaches", spec := "layoutReaches", unfollowed := true, recurses := true, apart := false, narrowed := true }
def LayoutReachesUptoSaid : Prop := layoutReachesUptoRow.holds Try.pinned (OpenSpec.upto layoutReachesSpec)

/-- 'quintadenalaw23.LayoutLeast', WHERE WHAT IT READS IS OF BULK AT MOST 1048576: true; the input reads as it did. -/
def layoutLeastUptoRow : OpenClaim := { program := "ytojaibhjfeojjaa", sum := "342cb21149bd7079b7cbe69c3dffdda4f8e80c28dd50ecc990a16e075aaa3ad3", func := "quintadena/quintadenalaw23.LayoutLeast", spec := "layoutLeast", unfollowed := true, recurses := true, apart := false, narrowed := true }
def LayoutLeastUptoSaid : Prop := layoutLeastUptoRow.holds Try.pinned (OpenSpec.upto layoutLeastSpec)

/-- 'quintadenalaw23.LayoutSafe', WHERE WHAT IT READS IS OF BULK AT MOST 1048576: true; the input reads as it did. -/
def layoutSafeUptoRow : OpenClaim := { program := "ytojaibhjfeojjaa", sum := "342cb21149bd7079b7cbe69c3dffdda4f8e80c28dd50ecc990a16e075aaa3ad3", func := "quintadena/quintadenalaw23.LayoutSafe", spec := "layoutSafe", unfollowed := true, recurses := true, apart := false, narrowed := true }
def LayoutSafeUptoSaid : Prop := layoutSafeUptoRow.holds Try.pinned (OpenSpec.upto layoutSafeSpec)

/-- 'quintadenalaw23.LayoutChecks', WHERE WHAT IT READS IS OF BULK AT MOST 1048576: true; the input reads as it did. -/
def layoutChecksUptoRow : OpenClaim := { program := "ytojaibhjfeojjaa", sum := "342cb21149bd7079b7cbe69c3dffdda4f8e80c28dd50ecc990a16e075aaa3ad3", func := "quintadena/quintadenalaw23.LayoutChecks", spec := "layoutChecks", unfollowed := true, recurses := true, apart := false, narrowed := true }
def LayoutChecksUptoSaid : Prop := layoutChecksUptoRow.holds Try.pinned (OpenSpec.upto layoutChecksSpec)

end Rows
end Go.Proofs.Ytojaibhjfeojjaa
