/-
  DERIVED. GIVEN WITH THE SEED: THE CARDS: each row of YtalhlaaapkpkiaaGreatDoorRows.lean that lists a variable, with what it lists TIED to the program's text (the seventh form; the later family's looks); each row that meets fmt, with fmt's text TOLD by the authors' own Lean function (tested against real Go, not proved from fmt's source: count such statements apart). THE CARD IS WHAT COUNTS. Prove the row's statement (the work); the ties are given (YtalhlaaapkpkiaaGreatDoorTie.lean); close each card by the builder's one call (the guide's Derived/Test/ToyasCard.lean, 'card_holds'). Laid BY PROGRAM, IN A SANDBOX (cutbox-door.mjs). By AI agents, Wed Nov 11 2026. No macro, syntax, notation, axiom, sorry.
-/
import Derived.Test.YtalhlaaapkpkiaaGreatDoorRows
import GoSem.ClaimSeven
namespace Go.Proofs.YtalhlaaapkpkiaaGreatDoor
namespace Rows

/-- THE TIED CARD OF 'lensletlaw09.PipelineFlows'. -/
def pipelineFlowsCard : Claim7 := { stood := { row := pipelineFlowsRow, standIns := [], harness := (true, "535d9c4364da939ba2b321b37308470dabe3d7a9afd5a9c3f4fbb5eaaa711757"), looks := true }, kinds := [], alts := [], laidByText := true, laidKinds := [.data, .data, .data, .data, .sentinel, .sentinel, .pinned], laidTests := true, laidLooks := .later }
def PipelineFlowsCardSaid : Prop := Claim7.holds Tryz.pinned (.plain (OpenSpec.ofChange pipelineFlowsSpec)) pipelineFlowsCard

/-- THE SECOND FORM's CARD OF 'lensletlaw09.PipelineFlows'. -/
def pipelineFlowsUptoCard : Claim7 := { stood := { row := pipelineFlowsUptoRow, standIns := [], harness := (true, "535d9c4364da939ba2b321b37308470dabe3d7a9afd5a9c3f4fbb5eaaa711757"), looks := true }, kinds := [], alts := [], laidByText := true, laidKinds := [.data, .data, .data, .data, .sentinel, .sentinel, .pinned], laidTests := true, laidLooks := .later }
def PipelineFlowsUptoCardSaid : Prop := Claim7.holds Tryz.pinned (.plain (OpenSpec.upto pipelineFlowsSpec)) pipelineFlowsUptoCard
end Rows
end Go.Proofs.YtalhlaaapkpkiaaGreatDoor
