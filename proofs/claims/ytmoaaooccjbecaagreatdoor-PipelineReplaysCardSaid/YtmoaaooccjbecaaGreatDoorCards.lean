/-
  DERIVED. GIVEN WITH THE SEED: THE CARDS: each row of YtmoaaooccjbecaaGreatDoorRows.lean that lists a variable, with what it lists TIED to the program's text (the seventh form; the later family's looks); each row that meets fmt, with fmt's text TOLD by the authors' own Lean function (tested against real Go, not proved from fmt's source: count such statements apart). THE CARD IS WHAT COUNTS. Prove the row's statement (the work); the ties are given (YtmoaaooccjbecaaGreatDoorTie.lean); close each card by the builder's one call (the guide's Derived/Test/ToyasCard.lean, 'card_holds'). Laid BY PROGRAM, IN A SANDBOX (cutbox-door.mjs). By AI agents, Wed Nov 11 2026. No macro, syntax, notation, axiom, sorry.
-/
import Derived.Test.YtmoaaooccjbecaaGreatDoorRows
import GoSem.ClaimSeven
namespace Go.Proofs.YtmoaaooccjbecaaGreatDoor
namespace Rows

/-- THE TIED CARD OF 'lensletlaw09.PipelineReplays'. -/
def pipelineReplaysCard : Claim7 := { stood := { row := pipelineReplaysRow, standIns := [], harness := (true, "a279a5afcf5f3213e2675047117a9dc1509b18c751db705aa16c1a5e8128be99"), looks := true }, kinds := [], alts := [], laidByText := true, laidKinds := [.data, .data, .data, .data, .sentinel, .sentinel, .pinned], laidTests := true, laidLooks := .later }
def PipelineReplaysCardSaid : Prop := Claim7.holds Tryz.pinned (.plain (OpenSpec.ofChange pipelineReplaysSpec)) pipelineReplaysCard

/-- THE SECOND FORM's CARD OF 'lensletlaw09.PipelineReplays'. -/
def pipelineReplaysUptoCard : Claim7 := { stood := { row := pipelineReplaysUptoRow, standIns := [], harness := (true, "a279a5afcf5f3213e2675047117a9dc1509b18c751db705aa16c1a5e8128be99"), looks := true }, kinds := [], alts := [], laidByText := true, laidKinds := [.data, .data, .data, .data, .sentinel, .sentinel, .pinned], laidTests := true, laidLooks := .later }
def PipelineReplaysUptoCardSaid : Prop := Claim7.holds Tryz.pinned (.plain (OpenSpec.upto pipelineReplaysSpec)) pipelineReplaysUptoCard
end Rows
end Go.Proofs.YtmoaaooccjbecaaGreatDoor
