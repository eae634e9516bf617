/-
  DERIVED. GIVEN WITH THE SEED: THE CARDS: each row of YtokjleejipaidaaGreatDoorRows.lean that lists a variable, with what it lists TIED to the program's text (the seventh form; the later family's looks); each row that meets fmt, with fmt's text TOLD by the authors' own Lean function (tested against real Go, not proved from fmt's source: count such statements apart). THE CARD IS WHAT COUNTS. Prove the row's statement (the work); the ties are given (YtokjleejipaidaaGreatDoorTie.lean); close each card by the builder's one call (the guide's Derived/Test/ToyasCard.lean, 'card_holds'). Laid BY PROGRAM, IN A SANDBOX (cutbox-door.mjs). By AI agents, Wed Nov 11 2026. No macro, syntax, notation, axiom, sorry.
-/
import Derived.Test.YtokjleejipaidaaGreatDoorRows
import GoSem.ClaimSeven
namespace Go.Proofs.YtokjleejipaidaaGreatDoor
namespace Rows

/-- THE TIED CARD OF 'lensletlaw05.ReconstructSolves'. -/
def reconstructSolvesCard : Claim7 := { stood := { row := reconstructSolvesRow, standIns := [], harness := (true, "9961fa37c251f3a94787ef34e2513a9df898f0d45f7dd531d0c5d15841650fb2"), looks := true }, kinds := [], alts := [], laidByText := true, laidKinds := [.data, .data, .data, .data, .sentinel, .sentinel, .pinned], laidTests := true, laidLooks := .later }
def ReconstructSolvesCardSaid : Prop := Claim7.holds Tryz.pinned (.plain (OpenSpec.ofChange reconstructSolvesSpec)) reconstructSolvesCard

/-- THE SECOND FORM's CARD OF 'lensletlaw05.ReconstructSolves'. -/
def reconstructSolvesUptoCard : Claim7 := { stood := { row := reconstructSolvesUptoRow, standIns := [], harness := (true, "9961fa37c251f3a94787ef34e2513a9df898f0d45f7dd531d0c5d15841650fb2"), looks := true }, kinds := [], alts := [], laidByText := true, laidKinds := [.data, .data, .data, .data, .sentinel, .sentinel, .pinned], laidTests := true, laidLooks := .later }
def ReconstructSolvesUptoCardSaid : Prop := Claim7.holds Tryz.pinned (.plain (OpenSpec.upto reconstructSolvesSpec)) reconstructSolvesUptoCard
end Rows
end Go.Proofs.YtokjleejipaidaaGreatDoor
