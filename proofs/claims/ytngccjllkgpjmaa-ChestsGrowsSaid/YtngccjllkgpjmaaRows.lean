/-
  No cell of these rows narrows 'for every input' (looked for: loops, veiled, ifaces, maps, wideKeys, modest, calm, conditions, laid).
  DERIVED. THE GIVEN ROWS OF THIS SEAT. 4 by the template 'for every input the law returns true; each argument reads behind the call as it read before'; 0 by the template 'total and deterministic' (their statements: YtngccjllkgpjmaaTotals.lean).
  GIVEN WITH THE SEED: the statements are not yours to turn. If you find one false, say at which input.
  Laid BY PROGRAM, IN A SANDBOX (cutbox-rows.mjs): the forced cells as the released guide's own fill.sh prints them over the translation 3c56f0ebb164d081… (all of the seat's roots in one cut). By AI agents, Wed Nov 11 2026. No macro, syntax, notation, axiom, sorry.
-/
import Derived.Test.YtngccjllkgpjmaaChecked
import GoSem.Claim
import GoSem.ClaimJoined
import GoSem.ClaimMapViews
import Derived.JoinedTies
import Derived.KernelRfl
namespace Go.Proofs.Ytngccjllkgpjmaa
/- THE CELL 'sum', in the pinned program and in every row, IS THE sha256 OF THE DUMP (.gsa) THAT YtngccjllkgpjmaaProg.lean LOADS. Nothing in Lean hashes anything: it is a label: what it is worth is what the hold of that sum in a sandbox is worth. -/
noncomputable def Try.pinned : Pinned := { name := "ytngccjllkgpjmaa", sum := "3c56f0ebb164d081e30e82bc83fe0750e0352d89cbbbc8e1dc73a841a170a77e", checked := Try.checked }
namespace Rows
def none {H : Type} : Left H := { results := [], args := [] }

/-- 'quintadenalaw18.ChestsEnough': WHATEVER THE INPUT: true; the input reads as it did. -/
def chestsEnoughSpec : ChangeSpec := { name := "chestsEnough", fn := fun _ => fun
  | [d1, d2, d3] => { results := [.lit (.bool true)], args := [d1, d2, d3] }
  | _ => none }
def chestsEnoughRow : OpenClaim := { program := "ytngccjllkgpjmaa", sum := "3c56f0ebb164d081e30e82bc83fe0750e0352d89cbbbc8e1dc73a841a170a77e", func := "quintadena/quintadenalaw18.ChestsEnough", spec := "chestsEnough", inPlace := ["math/bits.Add64"], unfollowed := true, recurses := true, named := ["math/bits.divideError", "math/bits.overflowError"], apart := false }
def ChestsEnoughSaid : Prop := chestsEnoughRow.holds Try.pinned (OpenSpec.ofChange chestsEnoughSpec)

/-- ITS FALSE NEIGHBOUR: 'it returns false'. Refute it at one input. -/
def chestsEnoughWrong : ChangeSpec := { name := "chestsEnough", fn := fun _ => fun
  | [d1, d2, d3] => { results := [.lit (.bool false)], args := [d1, d2, d3] }
  | _ => none }
def ChestsEnoughWrongFalsely : Prop := chestsEnoughRow.holds Try.pinned (OpenSpec.ofChange chestsEnoughWrong)

/-- 'quintadenalaw18.ChestsBest': WHATEVER THE INPUT: true; the input reads as it did. -/
def chestsBestSpec : ChangeSpec := { name := "chestsBest", fn := fun _ => fun
  | [d1, d2] => { results := [.lit (.bool true)], args := [d1, d2] }
  | _ => none }
def chestsBestRow : OpenClaim := { program := "ytngccjllkgpjmaa", sum := "3c56f0ebb164d081e30e82bc83fe0750e0352d89cbbbc8e1dc73a841a170a77e", func := "quintadena/quintadenalaw18.ChestsBest", spec := "chestsBest", inPlace := ["math/bits.Add64"], unfollowed := true, recurses := true, named := ["math/bits.divideError", "math/bits.overflowError"], apart := false }
def ChestsBestSaid : Prop := chestsBestRow.holds Try.pinned (OpenSpec.ofChange chestsBestSpec)

/-- ITS FALSE NEIGHBOUR: 'it returns false'. Refute it at one input. -/
def chestsBestWrong : ChangeSpec := { name := "chestsBest", fn := fun _ => fun
  | [d1, d2] => { results := [.lit (.bool false)], args := [d1, d2] }
  | _ => none }
def ChestsBestWrongFalsely : Prop := chestsBestRow.holds Try.pinned (OpenSpec.ofChange chestsBestWrong)

/-- 'quintadenalaw18.ChestsGrows': WHATEVER THE INPUT: true; the input reads as it did. -/
def chestsGrowsSpec : ChangeSpec := { name := "chestsGrows", fn := fun _ => fun
  | [d1, d2] => { results := [.lit (.bool true)], args := [d1, d2] }
  | _ => none }
def chestsGrowsRow : OpenClaim := { program := "ytngccjllkgpjmaa", sum := "3c56f0ebb164d081e30e82bc83fe0750e0352d89cbbbc8e1dc73a841a170a77e", func := "quintadena/quintadenalaw18.ChestsGrows", spec := "chestsGrows", inPlace := ["math/bits.Add64"], unfollowed := true, recurses := true, named := ["math/bits.divideError", "math/bits.overflowError"], apart := false }
def ChestsGrowsSaid : Prop := chestsGrowsRow.holds Try.pinned (OpenSpec.ofChange chestsGrowsSpec)

/-- ITS FALSE NEIGHBOUR: 'it returns false'. Refute it at one input. -/
def chestsGrowsWrong : ChangeSpec := { name := "chestsGrows", fn := fun _ => fun
  | [d1, d2] => { results := [.lit (.bool false)], args := [d1, d2] }
  | _ => none }
def ChestsGrowsWrongFalsely : Prop := chestsGrowsRow.holds Try.pinned (OpenSpec.ofChange chestsGrowsWrong)

/-- 'quintadenalaw18.ChestsTrue': WHATEVER THE INPUT: true; the input reads as it did. -/
def chestsTrueSpec : ChangeSpec := { name := "chestsTrue", fn := fun _ => fun
  | [d1, d2, d3] => { results := [.lit (.bool true)], args := [d1, d2, d3] }
  | _ => none }
def chestsTrueRow : OpenClaim := { program := "ytngccjllkgpjmaa", sum := "3c56f0ebb164d081e30e82bc83fe0750e0352d89cbbbc8e1dc73a841a170a77e", func := "quintadena/quintadenalaw18.ChestsTrue", spec := "chestsTrue", inPlace := ["math/bits.Add64"], unfollowed := true, recurses := true, named := ["math/bits.divideError", "math/bits.overflowError"], apart := false }
def ChestsTrueSaid : Prop := chestsTrueRow.holds Try.pinned (OpenSpec.ofChange chestsTrueSpec)

/-- ITS FALSE NEIGHBOUR: 'it returns false'. Refute it at one input. -/
def chestsTrueWrong : ChangeSpec := { name := "chestsTrue", fn := fun _ => fun
  | [d1, d2, d3] => { results := [.lit (.bool false)], args := [d1, d2, d3] }
  | _ => none }
def ChestsTrueWrongFalsely : Prop := chestsTrueRow.holds Try.pinned (OpenSpec.ofChange chestsTrueWrong)

/- THE SECOND FORM. 'bulk': how many values and letters a reading holds, each counted each time it is reached (what is shared counts as often as it is met; a slice's spare places count too). A statement '..UptoSaid' is the law's where the arguments, and the package variables that the reading takes, are together of bulk at most 1048576: NARROWER than '..Said'. Prove '..Said' where nothing that the law and all that it calls make is longer than what came in: it says more and counts as full. Else prove '..UptoSaid'. A law counts once. -/
mutual
def uptoBulk {H : Type} : DataW H → Nat
  | .lit (.string bytes) => bytes.length + 1
  | .lit _ => 1
  | .nil => 1
  | .ptr d => uptoBulk d + 1
  | .slice elems spare => uptoBulkAll elems + uptoBulkAll spare + 1
  | .agg parts => uptoBulkAll parts + 1
  | .iface _ d => uptoBulk d + 1
  | .map entries => uptoBulkEntries entries + 1
  | .held _ => 1
def uptoBulkAll {H : Type} : List (DataW H) → Nat
  | [] => 0
  | d :: r => uptoBulk d + uptoBulkAll r
def uptoBulkEntries {H : Type} : List (Lit × DataW H) → Nat
  | [] => 0
  | x :: r => uptoBulkEntry x + uptoBulkEntries r
def uptoBulkEntry {H : Type} : Lit × DataW H → Nat
  | (.string bytes, d) => bytes.length + uptoBulk d + 1
  | (_, d) => uptoBulk d + 1
 end
def uptoSmall : (H : Type) → List (DataW H) → Bool := fun _ ds => decide (uptoBulkAll ds ≤ 1048576)
def OpenSpec.upto (s : _root_.Go.ChangeSpec) : _root_.Go.OpenSpec := { _root_.Go.OpenSpec.ofChange s with cond := some uptoSmall }

/-- 'quintadenalaw18.ChestsEnough', WHERE WHAT IT READS IS OF BULK AT MOST 1048576: true; the input reads as it did. -/
def chestsEnoughUptoRow : OpenClaim := { program := "ytngccjllkgpjmaa", sum := "3c56f0ebb164d081e30e82bc83fe0750e0352d89cbbbc8e1dc73a841a170a77e", func := "quintadena/quintadenalaw18.ChestsEnough", spec := "chestsEnough", inPlace := ["math/bits.Add64"], unfollowed := true, recurses := true, named := ["math/bits.divideError", "math/bits.overflowError"], apart := false, narrowed := true }
def ChestsEnoughUptoSaid : Prop := chestsEnoughUptoRow.holds Try.pinned (OpenSpec.upto chestsEnoughSpec)

/-- 'quintadenalaw18.ChestsBest', WHERE WHAT IT READS IS OF BULK AT MOST 1048576: true; the input reads as it did. -/
def chestsBestUptoRow : OpenClaim := { program := "ytngccjllkgpjmaa", sum := "3c56f0ebb164d081e30e82bc83fe0750e0352d89cbbbc8e1dc73a841a170a77e", func := "quintadena/quintadenalaw18.ChestsBest", spec := "chestsBest", inPlace := ["math/bits.Add64"], unfollowed := true, recurses := true, named := ["math/bits.divideError", "math/bits.overflowError"], apart := false, narrowed := true }
def ChestsBestUptoSaid : Prop := chestsBestUptoRow.holds Try.pinned (OpenSpec.upto chestsBestSpec)

/-- 'quintadenalaw18.ChestsGrows', WHERE WHAT IT READS IS OF BULK AT MOST 1048576: true; the input reads as it did. -/
def chestsGrowsUptoRow : OpenClaim := { program := "ytngccjllkgpjmaa", sum := "3c56f0ebb164d081e30e82bc83fe0750e0352d89cbbbc8e1dc73a841a170a77e", func := "quintadena/quintadenalaw18.ChestsGrows", spec := "chestsGrows", inPlace := ["math/bits.Add64"], unfollowed := true, recurses := true, named := ["math/bits.divideError", "math/bits.overflowError"], apart := false, narrowed := true }
def ChestsGrowsUptoSaid : Prop := chestsGrowsUptoRow.holds Try.pinned (OpenSpec.upto chestsGrowsSpec)

/-- 'quintadenalaw18.ChestsTrue', WHERE WHAT IT READS IS OF BULK AT MOST 1048576: true; the input reads as it did. -/
def chestsTrueUptoRow : OpenClaim := { program := "ytngccjllkgpjmaa", sum := "3c56f0ebb164d081e30e82bc83fe0750e0352d89cbbbc8e1dc73a841a170a77e", func := "quintadena/quintadenalaw18.ChestsTrue", spec := "chestsTrue", inPlace := ["math/bits.Add64"], unfollowed := true, recurses := true, named := ["math/bits.divideError", "math/bits.overflowError"], apart := false, narrowed := true }
def ChestsTrueUptoSaid : Prop := chestsTrueUptoRow.holds Try.pinned (OpenSpec.upto chestsTrueSpec)

end Rows
end Go.Proofs.Ytngccjllkgpjmaa
