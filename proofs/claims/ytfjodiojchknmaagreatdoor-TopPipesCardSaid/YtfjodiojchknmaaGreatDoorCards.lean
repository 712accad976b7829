/-
  DERIVED. GIVEN WITH THE SEED: THE CARDS: each row of YtfjodiojchknmaaGreatDoorRows.lean that lists a variable, with what it lists TIED to the program's text (the seventh form; the later family's looks); each row that meets fmt, with fmt's text TOLD by the authors' own Lean function (tested against real Go, not proved from fmt's source: count such statements apart). THE CARD IS WHAT COUNTS. Prove the row's statement (the work); the ties are given (YtfjodiojchknmaaGreatDoorTie.lean); close each card by the builder's one call (the guide's Derived/Test/ToyasCard.lean, 'card_holds'). Laid BY PROGRAM, IN A SANDBOX (cutbox-door.mjs). By AI agents, Wed Nov 11 2026. No macro, syntax, notation, axiom, sorry.
-/
import Derived.Test.YtfjodiojchknmaaGreatDoorRows
import GoSem.ClaimSeven
namespace Go.Proofs.YtfjodiojchknmaaGreatDoor
namespace Rows

/-- THE TIED CARD OF 'quintadenatop.TopPipes'. -/
def topPipesCard : Claim7 := { stood := { row := topPipesRow, standIns := [], harness := (true, "0c962a7de201b333494358a9e6881a4611c9eb42a14a790af7658f72a7e712a7"), looks := false }, kinds := [], alts := [], laidByText := true, laidKinds := [.data], laidTests := true, laidLooks := .later }
def TopPipesCardSaid : Prop := Claim7.holds Tryz.pinned (.plain (OpenSpec.ofChange topPipesSpec)) topPipesCard

/-- THE TIED CARD OF 'quintadenalaw06.PitchOctaves'. -/
def pitchOctavesCard : Claim7 := { stood := { row := pitchOctavesRow, standIns := [], harness := (true, "0c962a7de201b333494358a9e6881a4611c9eb42a14a790af7658f72a7e712a7"), looks := false }, kinds := [], alts := [], laidByText := true, laidKinds := [.data], laidTests := true, laidLooks := .later }
def PitchOctavesCardSaid : Prop := Claim7.holds Tryz.pinned (.plain (OpenSpec.ofChange pitchOctavesSpec)) pitchOctavesCard

/-- THE TIED CARD OF 'quintadenalaw06.PitchFits'. -/
def pitchFitsCard : Claim7 := { stood := { row := pitchFitsRow, standIns := [], harness := (true, "0c962a7de201b333494358a9e6881a4611c9eb42a14a790af7658f72a7e712a7"), looks := false }, kinds := [], alts := [], laidByText := true, laidKinds := [.data], laidTests := true, laidLooks := .later }
def PitchFitsCardSaid : Prop := Claim7.holds Tryz.pinned (.plain (OpenSpec.ofChange pitchFitsSpec)) pitchFitsCard

/-- THE TIED CARD OF 'quintadenalaw06.PitchNear'. -/
def pitchNearCard : Claim7 := { stood := { row := pitchNearRow, standIns := [], harness := (true, "0c962a7de201b333494358a9e6881a4611c9eb42a14a790af7658f72a7e712a7"), looks := false }, kinds := [], alts := [], laidByText := true, laidKinds := [.data], laidTests := true, laidLooks := .later }
def PitchNearCardSaid : Prop := Claim7.holds Tryz.pinned (.plain (OpenSpec.ofChange pitchNearSpec)) pitchNearCard

/-- THE SECOND FORM's CARD OF 'quintadenatop.TopPipes'. -/
def topPipesUptoCard : Claim7 := { stood := { row := topPipesUptoRow, standIns := [], harness := (true, "0c962a7de201b333494358a9e6881a4611c9eb42a14a790af7658f72a7e712a7"), looks := false }, kinds := [], alts := [], laidByText := true, laidKinds := [.data], laidTests := true, laidLooks := .later }
def TopPipesUptoCardSaid : Prop := Claim7.holds Tryz.pinned (.plain (OpenSpec.upto topPipesSpec)) topPipesUptoCard

/-- THE SECOND FORM's CARD OF 'quintadenalaw06.PitchOctaves'. -/
def pitchOctavesUptoCard : Claim7 := { stood := { row := pitchOctavesUptoRow, standIns := [], harness := (true, "0c962a7de201b333494358a9e6881a4611c9eb42a14a790af7658f72a7e712a7"), looks := false }, kinds := [], alts := [], laidByText := true, laidKinds := [.data], laidTests := true, laidLooks := .later }
def PitchOctavesUptoCardSaid : Prop := Claim7.holds Tryz.pinned (.plain (OpenSpec.upto pitchOctavesSpec)) pitchOctavesUptoCard

/-- THE SECOND FORM's CARD OF 'quintadenalaw06.PitchFits'. -/
def pitchFitsUptoCard : Claim7 := { stood := { row := pitchFitsUptoRow, standIns := [], harness := (true, "0c962a7de201b333494358a9e6881a4611c9eb42a14a790af7658f72a7e712a7"), looks := false }, kinds := [], alts := [], laidByText := true, laidKinds := [.data], laidTests := true, laidLooks := .later }
def PitchFitsUptoCardSaid : Prop := Claim7.holds Tryz.pinned (.plain (OpenSpec.upto pitchFitsSpec)) pitchFitsUptoCard

/-- THE SECOND FORM's CARD OF 'quintadenalaw06.PitchNear'. -/
def pitchNearUptoCard : Claim7 := { stood := { row := pitchNearUptoRow, standIns := [], harness := (true, "0c962a7de201b333494358a9e6881a4611c9eb42a14a790af7658f72a7e712a7"), looks := false }, kinds := [], alts := [], laidByText := true, laidKinds := [.data], laidTests := true, laidLooks := .later }
def PitchNearUptoCardSaid : Prop := Claim7.holds Tryz.pinned (.plain (OpenSpec.upto pitchNearSpec)) pitchNearUptoCard
end Rows
end Go.Proofs.YtfjodiojchknmaaGreatDoor
