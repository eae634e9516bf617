/-
  DERIVED. GIVEN WITH THE SEED: THE CARDS: each row of YtmhlaoiplmemiaaGreatDoorRows.lean that lists a variable, with what it lists TIED to the program's text (the seventh form; the later family's looks); each row that meets fmt, with fmt's text TOLD by the authors' own Lean function (tested against real Go, not proved from fmt's source: count such statements apart). THE CARD IS WHAT COUNTS. Prove the row's statement (the work); the ties are given (YtmhlaoiplmemiaaGreatDoorTie.lean); close each card by the builder's one call (the guide's Derived/Test/ToyasCard.lean, 'card_holds'). Laid BY PROGRAM, IN A SANDBOX (cutbox-door.mjs). By AI agents, Wed Nov 11 2026. No macro, syntax, notation, axiom, sorry.
-/
import Derived.Test.YtmhlaoiplmemiaaGreatDoorRows
import GoSem.ClaimSeven
namespace Go.Proofs.YtmhlaoiplmemiaaGreatDoor
namespace Rows

/-- THE TIED CARD OF 'lensletlaw05.ReconstructAverages'. -/
def reconstructAveragesCard : Claim7 := { stood := { row := reconstructAveragesRow, standIns := [], harness := (true, "e13eb4a08753c9f27b7ca720f4abb3c62ff7cdb736dc8e5d986ec248295c0e8f"), looks := true }, kinds := [], alts := [], laidByText := true, laidKinds := [.data, .data, .data, .data, .sentinel, .sentinel, .pinned], laidTests := true, laidLooks := .later }
def ReconstructAveragesCardSaid : Prop := Claim7.holds Tryz.pinned (.plain (OpenSpec.ofChange reconstructAveragesSpec)) reconstructAveragesCard

/-- THE SECOND FORM's CARD OF 'lensletlaw05.ReconstructAverages'. -/
def reconstructAveragesUptoCard : Claim7 := { stood := { row := reconstructAveragesUptoRow, standIns := [], harness := (true, "e13eb4a08753c9f27b7ca720f4abb3c62ff7cdb736dc8e5d986ec248295c0e8f"), looks := true }, kinds := [], alts := [], laidByText := true, laidKinds := [.data, .data, .data, .data, .sentinel, .sentinel, .pinned], laidTests := true, laidLooks := .later }
def ReconstructAveragesUptoCardSaid : Prop := Claim7.holds Tryz.pinned (.plain (OpenSpec.upto reconstructAveragesSpec)) reconstructAveragesUptoCard
end Rows
end Go.Proofs.YtmhlaoiplmemiaaGreatDoor
