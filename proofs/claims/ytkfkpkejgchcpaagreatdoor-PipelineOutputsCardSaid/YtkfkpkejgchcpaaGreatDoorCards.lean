/-
  DERIVED. GIVEN WITH THE SEED: THE CARDS: each row of YtkfkpkejgchcpaaGreatDoorRows.lean that lists a variable, with what it lists TIED to the program's text (the seventh form; the later family's looks); each row that meets fmt, with fmt's text TOLD by the authors' own Lean function (tested against real Go, not proved from fmt's source: count such statements apart). THE CARD IS WHAT COUNTS. Prove the row's statement (the work); the ties are given (YtkfkpkejgchcpaaGreatDoorTie.lean); close each card by the builder's one call (the guide's Derived/Test/ToyasCard.lean, 'card_holds'). Laid BY PROGRAM, IN A SANDBOX (cutbox-door.mjs). By AI agents, Wed Nov 11 2026. No macro, syntax, notation, axiom, sorry.
-/
import Derived.Test.YtkfkpkejgchcpaaGreatDoorRows
import GoSem.ClaimSeven
namespace Go.Proofs.YtkfkpkejgchcpaaGreatDoor
namespace Rows

/-- THE TIED CARD OF 'lensletlaw09.PipelineOutputs'. -/
def pipelineOutputsCard : Claim7 := { stood := { row := pipelineOutputsRow, standIns := [], harness := (true, "51f253fb2306861f6f3a193fa18949039a9b4c2cdb6523378ae1e665917f0817"), looks := true }, kinds := [], alts := [], laidByText := true, laidKinds := [.data, .data, .data, .data, .sentinel, .sentinel, .pinned], laidTests := true, laidLooks := .later }
def PipelineOutputsCardSaid : Prop := Claim7.holds Tryz.pinned (.plain (OpenSpec.ofChange pipelineOutputsSpec)) pipelineOutputsCard

/-- THE SECOND FORM's CARD OF 'lensletlaw09.PipelineOutputs'. -/
def pipelineOutputsUptoCard : Claim7 := { stood := { row := pipelineOutputsUptoRow, standIns := [], harness := (true, "51f253fb2306861f6f3a193fa18949039a9b4c2cdb6523378ae1e665917f0817"), looks := true }, kinds := [], alts := [], laidByText := true, laidKinds := [.data, .data, .data, .data, .sentinel, .sentinel, .pinned], laidTests := true, laidLooks := .later }
def PipelineOutputsUptoCardSaid : Prop := Claim7.holds Tryz.pinned (.plain (OpenSpec.upto pipelineOutputsSpec)) pipelineOutputsUptoCard
end Rows
end Go.Proofs.YtkfkpkejgchcpaaGreatDoor
