/-
  DERIVED. GIVEN WITH THE SEED: THE CARDS: each row of YtegbbdjknnfbdaaGreatDoorRows.lean that lists a variable, with what it lists TIED to the program's text (the seventh form; the later family's looks); each row that meets fmt, with fmt's text TOLD by the authors' own Lean function (tested against real Go, not proved from fmt's source: count such statements apart). THE CARD IS WHAT COUNTS. Prove the row's statement (the work); the ties are given (YtegbbdjknnfbdaaGreatDoorTie.lean); close each card by the builder's one call (the guide's Derived/Test/ToyasCard.lean, 'card_holds'). Laid BY PROGRAM, IN A SANDBOX (cutbox-door.mjs). By AI agents, Wed Nov 11 2026. No macro, syntax, notation, axiom, sorry.
-/
import Derived.Test.YtegbbdjknnfbdaaGreatDoorRows
import GoSem.ClaimSeven
namespace Go.Proofs.YtegbbdjknnfbdaaGreatDoor
namespace Rows

/-- THE TIED CARD OF 'quintadenalaw06.PitchKnown'. -/
def pitchKnownCard : Claim7 := { stood := { row := pitchKnownRow, standIns := [], harness := (true, "7cd8daa1329d5df0a656e2989b91a715f6d44c744bfadef0be0ab367e121e183"), looks := false }, kinds := [], alts := [], laidByText := true, laidKinds := [.data], laidTests := true, laidLooks := .later }
def PitchKnownCardSaid : Prop := Claim7.holds Tryz.pinned (.plain (OpenSpec.ofChange pitchKnownSpec)) pitchKnownCard

/-- THE TIED CARD OF 'quintadenalaw25.BeatsOff'. -/
def beatsOffCard : Claim7 := { stood := { row := beatsOffRow, standIns := [], harness := (true, "7cd8daa1329d5df0a656e2989b91a715f6d44c744bfadef0be0ab367e121e183"), looks := false }, kinds := [], alts := [], laidByText := true, laidKinds := [.data], laidTests := true, laidLooks := .later }
def BeatsOffCardSaid : Prop := Claim7.holds Tryz.pinned (.plain (OpenSpec.ofChange beatsOffSpec)) beatsOffCard

/-- THE TIED CARD OF 'quintadenalaw25.BeatsLeast'. -/
def beatsLeastCard : Claim7 := { stood := { row := beatsLeastRow, standIns := [], harness := (true, "7cd8daa1329d5df0a656e2989b91a715f6d44c744bfadef0be0ab367e121e183"), looks := false }, kinds := [], alts := [], laidByText := true, laidKinds := [.data], laidTests := true, laidLooks := .later }
def BeatsLeastCardSaid : Prop := Claim7.holds Tryz.pinned (.plain (OpenSpec.ofChange beatsLeastSpec)) beatsLeastCard

/-- THE TIED CARD OF 'quintadenalaw25.BeatsKnown'. -/
def beatsKnownCard : Claim7 := { stood := { row := beatsKnownRow, standIns := [], harness := (true, "7cd8daa1329d5df0a656e2989b91a715f6d44c744bfadef0be0ab367e121e183"), looks := false }, kinds := [], alts := [], laidByText := true, laidKinds := [.data], laidTests := true, laidLooks := .later }
def BeatsKnownCardSaid : Prop := Claim7.holds Tryz.pinned (.plain (OpenSpec.ofChange beatsKnownSpec)) beatsKnownCard

/-- THE SECOND FORM's CARD OF 'quintadenalaw06.PitchKnown'. -/
def pitchKnownUptoCard : Claim7 := { stood := { row := pitchKnownUptoRow, standIns := [], harness := (true, "7cd8daa1329d5df0a656e2989b91a715f6d44c744bfadef0be0ab367e121e183"), looks := false }, kinds := [], alts := [], laidByText := true, laidKinds := [.data], laidTests := true, laidLooks := .later }
def PitchKnownUptoCardSaid : Prop := Claim7.holds Tryz.pinned (.plain (OpenSpec.upto pitchKnownSpec)) pitchKnownUptoCard

/-- THE SECOND FORM's CARD OF 'quintadenalaw25.BeatsOff'. -/
def beatsOffUptoCard : Claim7 := { stood := { row := beatsOffUptoRow, standIns := [], harness := (true, "7cd8daa1329d5df0a656e2989b91a715f6d44c744bfadef0be0ab367e121e183"), looks := false }, kinds := [], alts := [], laidByText := true, laidKinds := [.data], laidTests := true, laidLooks := .later }
def BeatsOffUptoCardSaid : Prop := Claim7.holds Tryz.pinned (.plain (OpenSpec.upto beatsOffSpec)) beatsOffUptoCard

/-- THE SECOND FORM's CARD OF 'quintadenalaw25.BeatsLeast'. -/
def beatsLeastUptoCard : Claim7 := { stood := { row := beatsLeastUptoRow, standIns := [], harness := (true, "7cd8daa1329d5df0a656e2989b91a715f6d44c744bfadef0be0ab367e121e183"), looks := false }, kinds := [], alts := [], laidByText := true, laidKinds := [.data], laidTests := true, laidLooks := .later }
def BeatsLeastUptoCardSaid : Prop := Claim7.holds Tryz.pinned (.plain (OpenSpec.upto beatsLeastSpec)) beatsLeastUptoCard

/-- THE SECOND FORM's CARD OF 'quintadenalaw25.BeatsKnown'. -/
def beatsKnownUptoCard : Claim7 := { stood := { row := beatsKnownUptoRow, standIns := [], harness := (true, "7cd8daa1329d5df0a656e2989b91a715f6d44c744bfadef0be0ab367e121e183"), looks := false }, kinds := [], alts := [], laidByText := true, laidKinds := [.data], laidTests := true, laidLooks := .later }
def BeatsKnownUptoCardSaid : Prop := Claim7.holds Tryz.pinned (.plain (OpenSpec.upto beatsKnownSpec)) beatsKnownUptoCard
end Rows
end Go.Proofs.YtegbbdjknnfbdaaGreatDoor
