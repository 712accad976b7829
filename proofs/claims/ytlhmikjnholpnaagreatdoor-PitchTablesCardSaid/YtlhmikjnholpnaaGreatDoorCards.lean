/-
  DERIVED. GIVEN WITH THE SEED: THE CARDS: each row of YtlhmikjnholpnaaGreatDoorRows.lean that lists a variable, with what it lists TIED to the program's text (the seventh form; the later family's looks); each row that meets fmt, with fmt's text TOLD by the authors' own Lean function (tested against real Go, not proved from fmt's source: count such statements apart). THE CARD IS WHAT COUNTS. Prove the row's statement (the work); the ties are given (YtlhmikjnholpnaaGreatDoorTie.lean); close each card by the builder's one call (the guide's Derived/Test/ToyasCard.lean, 'card_holds'). Laid BY PROGRAM, IN A SANDBOX (cutbox-door.mjs). By AI agents, Wed Nov 11 2026. No macro, syntax, notation, axiom, sorry.
-/
import Derived.Test.YtlhmikjnholpnaaGreatDoorRows
import GoSem.ClaimSeven
namespace Go.Proofs.YtlhmikjnholpnaaGreatDoor
namespace Rows

/-- THE TIED CARD OF 'quintadenalaw06.PitchTables'. -/
def pitchTablesCard : Claim7 := { stood := { row := pitchTablesRow, standIns := [], harness := (true, "7b14231c86bb9e1fb914c88e4056939b4afe5b7a7f86415e4fe5cdd101849307"), looks := false }, kinds := [], alts := [], laidByText := true, laidKinds := [.data], laidTests := true, laidLooks := .later }
def PitchTablesCardSaid : Prop := Claim7.holds Tryz.pinned (.plain (OpenSpec.ofChange pitchTablesSpec)) pitchTablesCard

/-- THE TIED CARD OF 'quintadenalaw06.PitchExact'. -/
def pitchExactCard : Claim7 := { stood := { row := pitchExactRow, standIns := [], harness := (true, "7b14231c86bb9e1fb914c88e4056939b4afe5b7a7f86415e4fe5cdd101849307"), looks := false }, kinds := [], alts := [], laidByText := true, laidKinds := [.data], laidTests := true, laidLooks := .later }
def PitchExactCardSaid : Prop := Claim7.holds Tryz.pinned (.plain (OpenSpec.ofChange pitchExactSpec)) pitchExactCard

/-- THE SECOND FORM's CARD OF 'quintadenalaw06.PitchTables'. -/
def pitchTablesUptoCard : Claim7 := { stood := { row := pitchTablesUptoRow, standIns := [], harness := (true, "7b14231c86bb9e1fb914c88e4056939b4afe5b7a7f86415e4fe5cdd101849307"), looks := false }, kinds := [], alts := [], laidByText := true, laidKinds := [.data], laidTests := true, laidLooks := .later }
def PitchTablesUptoCardSaid : Prop := Claim7.holds Tryz.pinned (.plain (OpenSpec.upto pitchTablesSpec)) pitchTablesUptoCard

/-- THE SECOND FORM's CARD OF 'quintadenalaw06.PitchExact'. -/
def pitchExactUptoCard : Claim7 := { stood := { row := pitchExactUptoRow, standIns := [], harness := (true, "7b14231c86bb9e1fb914c88e4056939b4afe5b7a7f86415e4fe5cdd101849307"), looks := false }, kinds := [], alts := [], laidByText := true, laidKinds := [.data], laidTests := true, laidLooks := .later }
def PitchExactUptoCardSaid : Prop := Claim7.holds Tryz.pinned (.plain (OpenSpec.upto pitchExactSpec)) pitchExactUptoCard
end Rows
end Go.Proofs.YtlhmikjnholpnaaGreatDoor
