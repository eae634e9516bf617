/-
  DERIVED. GIVEN WITH THE SEED: THE CARDS: each row of YteoackkadadmdaaGreatDoorRows.lean that lists a variable, with what it lists TIED to the program's text (the seventh form; the later family's looks); each row that meets fmt, with fmt's text TOLD by the authors' own Lean function (tested against real Go, not proved from fmt's source: count such statements apart). THE CARD IS WHAT COUNTS. Prove the row's statement (the work); the ties are given (YteoackkadadmdaaGreatDoorTie.lean); close each card by the builder's one call (the guide's Derived/Test/ToyasCard.lean, 'card_holds'). Laid BY PROGRAM, IN A SANDBOX (cutbox-door.mjs). By AI agents, Wed Nov 11 2026. No macro, syntax, notation, axiom, sorry.
-/
import Derived.Test.YteoackkadadmdaaGreatDoorRows
import GoSem.ClaimSeven
namespace Go.Proofs.YteoackkadadmdaaGreatDoor
namespace Rows

/-- THE TIED CARD OF 'lensletlaw05.ReconstructModes'. -/
def reconstructModesCard : Claim7 := { stood := { row := reconstructModesRow, standIns := [], harness := (true, "52ee7d4a26fad7268c2f6e31c854d086174a4cf92928e7dd5cc1d76bc5ea75d2"), looks := true }, kinds := [], alts := [], laidByText := true, laidKinds := [.data, .data, .data, .data, .sentinel, .sentinel, .pinned], laidTests := true, laidLooks := .later }
def ReconstructModesCardSaid : Prop := Claim7.holds Tryz.pinned (.plain (OpenSpec.ofChange reconstructModesSpec)) reconstructModesCard

/-- THE SECOND FORM's CARD OF 'lensletlaw05.ReconstructModes'. -/
def reconstructModesUptoCard : Claim7 := { stood := { row := reconstructModesUptoRow, standIns := [], harness := (true, "52ee7d4a26fad7268c2f6e31c854d086174a4cf92928e7dd5cc1d76bc5ea75d2"), looks := true }, kinds := [], alts := [], laidByText := true, laidKinds := [.data, .data, .data, .data, .sentinel, .sentinel, .pinned], laidTests := true, laidLooks := .later }
def ReconstructModesUptoCardSaid : Prop := Claim7.holds Tryz.pinned (.plain (OpenSpec.upto reconstructModesSpec)) reconstructModesUptoCard
end Rows
end Go.Proofs.YteoackkadadmdaaGreatDoor
