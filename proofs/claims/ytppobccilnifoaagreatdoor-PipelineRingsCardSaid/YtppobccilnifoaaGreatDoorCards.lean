/-
  DERIVED. GIVEN WITH THE SEED: THE CARDS: each row of YtppobccilnifoaaGreatDoorRows.lean that lists a variable, with what it lists TIED to the program's text (the seventh form; the later family's looks); each row that meets fmt, with fmt's text TOLD by the authors' own Lean function (tested against real Go, not proved from fmt's source: count such statements apart). THE CARD IS WHAT COUNTS. Prove the row's statement (the work); the ties are given (YtppobccilnifoaaGreatDoorTie.lean); close each card by the builder's one call (the guide's Derived/Test/ToyasCard.lean, 'card_holds'). Laid BY PROGRAM, IN A SANDBOX (cutbox-door.mjs). By AI agents, Wed Nov 11 2026. No macro, syntax, notation, axiom, sorry.
-/
import Derived.Test.YtppobccilnifoaaGreatDoorRows
import GoSem.ClaimSeven
namespace Go.Proofs.YtppobccilnifoaaGreatDoor
namespace Rows

/-- THE TIED CARD OF 'lensletlaw09.PipelineGraphs'. -/
def pipelineGraphsCard : Claim7 := { stood := { row := pipelineGraphsRow, standIns := [], harness := (true, "90bd0344a5ce36da42ff689eda4ff7a8d3756e78071ee2d4a438b3aa83c0181a"), looks := true }, kinds := [], alts := [], laidByText := true, laidKinds := [.data, .data, .data, .data, .sentinel, .sentinel, .pinned], laidTests := true, laidLooks := .later }
def PipelineGraphsCardSaid : Prop := Claim7.holds Tryz.pinned (.plain (OpenSpec.ofChange pipelineGraphsSpec)) pipelineGraphsCard

/-- THE TIED CARD OF 'lensletlaw09.PipelineLegal'. -/
def pipelineLegalCard : Claim7 := { stood := { row := pipelineLegalRow, standIns := [], harness := (true, "90bd0344a5ce36da42ff689eda4ff7a8d3756e78071ee2d4a438b3aa83c0181a"), looks := true }, kinds := [], alts := [], laidByText := true, laidKinds := [.data, .data, .data, .data, .sentinel, .sentinel, .pinned], laidTests := true, laidLooks := .later }
def PipelineLegalCardSaid : Prop := Claim7.holds Tryz.pinned (.plain (OpenSpec.ofChange pipelineLegalSpec)) pipelineLegalCard

/-- THE TIED CARD OF 'lensletlaw09.PipelineKeeps'. -/
def pipelineKeepsCard : Claim7 := { stood := { row := pipelineKeepsRow, standIns := [], harness := (true, "90bd0344a5ce36da42ff689eda4ff7a8d3756e78071ee2d4a438b3aa83c0181a"), looks := true }, kinds := [], alts := [], laidByText := true, laidKinds := [.data, .data, .data, .data, .sentinel, .sentinel, .pinned], laidTests := true, laidLooks := .later }
def PipelineKeepsCardSaid : Prop := Claim7.holds Tryz.pinned (.plain (OpenSpec.ofChange pipelineKeepsSpec)) pipelineKeepsCard

/-- THE TIED CARD OF 'lensletlaw09.PipelineRings'. -/
def pipelineRingsCard : Claim7 := { stood := { row := pipelineRingsRow, standIns := [], harness := (true, "90bd0344a5ce36da42ff689eda4ff7a8d3756e78071ee2d4a438b3aa83c0181a"), looks := true }, kinds := [], alts := [], laidByText := true, laidKinds := [.data, .data, .data, .data, .sentinel, .sentinel, .pinned], laidTests := true, laidLooks := .later }
def PipelineRingsCardSaid : Prop := Claim7.holds Tryz.pinned (.plain (OpenSpec.ofChange pipelineRingsSpec)) pipelineRingsCard

/-- THE SECOND FORM's CARD OF 'lensletlaw09.PipelineGraphs'. -/
def pipelineGraphsUptoCard : Claim7 := { stood := { row := pipelineGraphsUptoRow, standIns := [], harness := (true, "90bd0344a5ce36da42ff689eda4ff7a8d3756e78071ee2d4a438b3aa83c0181a"), looks := true }, kinds := [], alts := [], laidByText := true, laidKinds := [.data, .data, .data, .data, .sentinel, .sentinel, .pinned], laidTests := true, laidLooks := .later }
def PipelineGraphsUptoCardSaid : Prop := Claim7.holds Tryz.pinned (.plain (OpenSpec.upto pipelineGraphsSpec)) pipelineGraphsUptoCard

/-- THE SECOND FORM's CARD OF 'lensletlaw09.PipelineLegal'. -/
def pipelineLegalUptoCard : Claim7 := { stood := { row := pipelineLegalUptoRow, standIns := [], harness := (true, "90bd0344a5ce36da42ff689eda4ff7a8d3756e78071ee2d4a438b3aa83c0181a"), looks := true }, kinds := [], alts := [], laidByText := true, laidKinds := [.data, .data, .data, .data, .sentinel, .sentinel, .pinned], laidTests := true, laidLooks := .later }
def PipelineLegalUptoCardSaid : Prop := Claim7.holds Tryz.pinned (.plain (OpenSpec.upto pipelineLegalSpec)) pipelineLegalUptoCard

/-- THE SECOND FORM's CARD OF 'lensletlaw09.PipelineKeeps'. -/
def pipelineKeepsUptoCard : Claim7 := { stood := { row := pipelineKeepsUptoRow, standIns := [], harness := (true, "90bd0344a5ce36da42ff689eda4ff7a8d3756e78071ee2d4a438b3aa83c0181a"), looks := true }, kinds := [], alts := [], laidByText := true, laidKinds := [.data, .data, .data, .data, .sentinel, .sentinel, .pinned], laidTests := true, laidLooks := .later }
def PipelineKeepsUptoCardSaid : Prop := Claim7.holds Tryz.pinned (.plain (OpenSpec.upto pipelineKeepsSpec)) pipelineKeepsUptoCard

/-- THE SECOND FORM's CARD OF 'lensletlaw09.PipelineRings'. -/
def pipelineRingsUptoCard : Claim7 := { stood := { row := pipelineRingsUptoRow, standIns := [], harness := (true, "90bd0344a5ce36da42ff689eda4ff7a8d3756e78071ee2d4a438b3aa83c0181a"), looks := true }, kinds := [], alts := [], laidByText := true, laidKinds := [.data, .data, .data, .data, .sentinel, .sentinel, .pinned], laidTests := true, laidLooks := .later }
def PipelineRingsUptoCardSaid : Prop := Claim7.holds Tryz.pinned (.plain (OpenSpec.upto pipelineRingsSpec)) pipelineRingsUptoCard
end Rows
end Go.Proofs.YtppobccilnifoaaGreatDoor
