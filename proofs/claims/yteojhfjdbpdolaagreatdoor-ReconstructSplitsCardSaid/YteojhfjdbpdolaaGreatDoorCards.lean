/-
  DERIVED. GIVEN WITH THE SEED: THE CARDS: each row of YteojhfjdbpdolaaGreatDoorRows.lean that lists a variable, with what it lists TIED to the program's text (the seventh form; the later family's looks); each row that meets fmt, with fmt's text TOLD by the authors' own Lean function (tested against real Go, not proved from fmt's source: count such statements apart). THE CARD IS WHAT COUNTS. Prove the row's statement (the work); the ties are given (YteojhfjdbpdolaaGreatDoorTie.lean); close each card by the builder's one call (the guide's Derived/Test/ToyasCard.lean, 'card_holds'). Laid BY PROGRAM, IN A SANDBOX (cutbox-door.mjs). By AI agents, Wed Nov 11 2026. No macro, syntax, notation, axiom, sorry.
-/
import Derived.Test.YteojhfjdbpdolaaGreatDoorRows
import GoSem.ClaimSeven
namespace Go.Proofs.YteojhfjdbpdolaaGreatDoor
namespace Rows

/-- THE TIED CARD OF 'lensletlaw05.ReconstructSplits'. -/
def reconstructSplitsCard : Claim7 := { stood := { row := reconstructSplitsRow, standIns := [], harness := (true, "b93d88534e375e1acc59cc5afa18ba73311a4de5ae23d7c582ba6c3854a5780a"), looks := true }, kinds := [], alts := [], laidByText := true, laidKinds := [.data, .data, .data, .data, .sentinel, .sentinel, .pinned], laidTests := true, laidLooks := .later }
def ReconstructSplitsCardSaid : Prop := Claim7.holds Tryz.pinned (.plain (OpenSpec.ofChange reconstructSplitsSpec)) reconstructSplitsCard

/-- THE SECOND FORM's CARD OF 'lensletlaw05.ReconstructSplits'. -/
def reconstructSplitsUptoCard : Claim7 := { stood := { row := reconstructSplitsUptoRow, standIns := [], harness := (true, "b93d88534e375e1acc59cc5afa18ba73311a4de5ae23d7c582ba6c3854a5780a"), looks := true }, kinds := [], alts := [], laidByText := true, laidKinds := [.data, .data, .data, .data, .sentinel, .sentinel, .pinned], laidTests := true, laidLooks := .later }
def ReconstructSplitsUptoCardSaid : Prop := Claim7.holds Tryz.pinned (.plain (OpenSpec.upto reconstructSplitsSpec)) reconstructSplitsUptoCard
end Rows
end Go.Proofs.YteojhfjdbpdolaaGreatDoor
