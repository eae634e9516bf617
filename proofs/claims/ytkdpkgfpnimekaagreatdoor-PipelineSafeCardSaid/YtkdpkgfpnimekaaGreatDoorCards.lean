/-
  DERIVED. GIVEN WITH THE SEED: THE CARDS: each row of YtkdpkgfpnimekaaGreatDoorRows.lean that lists a variable, with what it lists TIED to the program's text (the seventh form; the later family's looks); each row that meets fmt, with fmt's text TOLD by the authors' own Lean function (tested against real Go, not proved from fmt's source: count such statements apart). THE CARD IS WHAT COUNTS. Prove the row's statement (the work); the ties are given (YtkdpkgfpnimekaaGreatDoorTie.lean); close each card by the builder's one call (the guide's Derived/Test/ToyasCard.lean, 'card_holds'). Laid BY PROGRAM, IN A SANDBOX (cutbox-door.mjs). By AI agents, Wed Nov 11 2026. No macro, syntax, notation, axiom, sorry.
-/
import Derived.Test.YtkdpkgfpnimekaaGreatDoorRows
import GoSem.ClaimSeven
namespace Go.Proofs.YtkdpkgfpnimekaaGreatDoor
namespace Rows

/-- THE TIED CARD OF 'lensletlaw09.PipelineStates'. -/
def pipelineStatesCard : Claim7 := { stood := { row := pipelineStatesRow, standIns := [], harness := (true, "3be7e095b20b303e0092a9cdc9370d8f63aebe9b72010c7285a7ff17ead9526c"), looks := true }, kinds := [], alts := [], laidByText := true, laidKinds := [.data, .data, .data, .data, .sentinel, .sentinel, .pinned], laidTests := true, laidLooks := .later }
def PipelineStatesCardSaid : Prop := Claim7.holds Tryz.pinned (.plain (OpenSpec.ofChange pipelineStatesSpec)) pipelineStatesCard

/-- THE TIED CARD OF 'lensletlaw09.PipelineSafe'. -/
def pipelineSafeCard : Claim7 := { stood := { row := pipelineSafeRow, standIns := [], harness := (true, "3be7e095b20b303e0092a9cdc9370d8f63aebe9b72010c7285a7ff17ead9526c"), looks := true }, kinds := [], alts := [], laidByText := true, laidKinds := [.data, .data, .data, .data, .sentinel, .sentinel, .pinned], laidTests := true, laidLooks := .later }
def PipelineSafeCardSaid : Prop := Claim7.holds Tryz.pinned (.plain (OpenSpec.ofChange pipelineSafeSpec)) pipelineSafeCard

/-- THE SECOND FORM's CARD OF 'lensletlaw09.PipelineStates'. -/
def pipelineStatesUptoCard : Claim7 := { stood := { row := pipelineStatesUptoRow, standIns := [], harness := (true, "3be7e095b20b303e0092a9cdc9370d8f63aebe9b72010c7285a7ff17ead9526c"), looks := true }, kinds := [], alts := [], laidByText := true, laidKinds := [.data, .data, .data, .data, .sentinel, .sentinel, .pinned], laidTests := true, laidLooks := .later }
def PipelineStatesUptoCardSaid : Prop := Claim7.holds Tryz.pinned (.plain (OpenSpec.upto pipelineStatesSpec)) pipelineStatesUptoCard

/-- THE SECOND FORM's CARD OF 'lensletlaw09.PipelineSafe'. -/
def pipelineSafeUptoCard : Claim7 := { stood := { row := pipelineSafeUptoRow, standIns := [], harness := (true, "3be7e095b20b303e0092a9cdc9370d8f63aebe9b72010c7285a7ff17ead9526c"), looks := true }, kinds := [], alts := [], laidByText := true, laidKinds := [.data, .data, .data, .data, .sentinel, .sentinel, .pinned], laidTests := true, laidLooks := .later }
def PipelineSafeUptoCardSaid : Prop := Claim7.holds Tryz.pinned (.plain (OpenSpec.upto pipelineSafeSpec)) pipelineSafeUptoCard
end Rows
end Go.Proofs.YtkdpkgfpnimekaaGreatDoor
