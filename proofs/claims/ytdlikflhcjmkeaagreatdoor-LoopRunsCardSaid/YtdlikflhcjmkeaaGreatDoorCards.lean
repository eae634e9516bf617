/-
  DERIVED. GIVEN WITH THE SEED: THE CARDS: each row of YtdlikflhcjmkeaaGreatDoorRows.lean that lists a variable, with what it lists TIED to the program's text (the seventh form; the later family's looks); each row that meets fmt, with fmt's text TOLD by the authors' own Lean function (tested against real Go, not proved from fmt's source: count such statements apart). THE CARD IS WHAT COUNTS. Prove the row's statement (the work); the ties are given (YtdlikflhcjmkeaaGreatDoorTie.lean); close each card by the builder's one call (the guide's Derived/Test/ToyasCard.lean, 'card_holds'). Laid BY PROGRAM, IN A SANDBOX (cutbox-door.mjs). By AI agents, Wed Nov 11 2026. No macro, syntax, notation, axiom, sorry.
-/
import Derived.Test.YtdlikflhcjmkeaaGreatDoorRows
import GoSem.ClaimSeven
namespace Go.Proofs.YtdlikflhcjmkeaaGreatDoor
namespace Rows

/-- THE TIED CARD OF 'lensletlaw06.LoopStable'. -/
def loopStableCard : Claim7 := { stood := { row := loopStableRow, standIns := [], harness := (true, "d6004a1b3d50bf022a2ffdbd60f5262ec7d3332f94caeb566aa565a147cfcc37"), looks := true }, kinds := [], alts := [], laidByText := true, laidKinds := [.data, .data, .data, .data, .sentinel, .sentinel, .pinned], laidTests := true, laidLooks := .later }
def LoopStableCardSaid : Prop := Claim7.holds Tryz.pinned (.plain (OpenSpec.ofChange loopStableSpec)) loopStableCard

/-- THE TIED CARD OF 'lensletlaw06.LoopCloses'. -/
def loopClosesCard : Claim7 := { stood := { row := loopClosesRow, standIns := [], harness := (true, "d6004a1b3d50bf022a2ffdbd60f5262ec7d3332f94caeb566aa565a147cfcc37"), looks := true }, kinds := [], alts := [], laidByText := true, laidKinds := [.data, .data, .data, .data, .sentinel, .sentinel, .pinned], laidTests := true, laidLooks := .later }
def LoopClosesCardSaid : Prop := Claim7.holds Tryz.pinned (.plain (OpenSpec.ofChange loopClosesSpec)) loopClosesCard

/-- THE TIED CARD OF 'lensletlaw06.LoopRuns'. -/
def loopRunsCard : Claim7 := { stood := { row := loopRunsRow, standIns := [], harness := (true, "d6004a1b3d50bf022a2ffdbd60f5262ec7d3332f94caeb566aa565a147cfcc37"), looks := true }, kinds := [], alts := [], laidByText := true, laidKinds := [.data, .data, .data, .data, .sentinel, .sentinel, .pinned], laidTests := true, laidLooks := .later }
def LoopRunsCardSaid : Prop := Claim7.holds Tryz.pinned (.plain (OpenSpec.ofChange loopRunsSpec)) loopRunsCard

/-- THE TIED CARD OF 'lensletlaw06.LoopPolys'. -/
def loopPolysCard : Claim7 := { stood := { row := loopPolysRow, standIns := [], harness := (true, "d6004a1b3d50bf022a2ffdbd60f5262ec7d3332f94caeb566aa565a147cfcc37"), looks := true }, kinds := [], alts := [], laidByText := true, laidKinds := [.data, .data, .data, .data, .sentinel, .sentinel, .pinned], laidTests := true, laidLooks := .later }
def LoopPolysCardSaid : Prop := Claim7.holds Tryz.pinned (.plain (OpenSpec.ofChange loopPolysSpec)) loopPolysCard

/-- THE SECOND FORM's CARD OF 'lensletlaw06.LoopStable'. -/
def loopStableUptoCard : Claim7 := { stood := { row := loopStableUptoRow, standIns := [], harness := (true, "d6004a1b3d50bf022a2ffdbd60f5262ec7d3332f94caeb566aa565a147cfcc37"), looks := true }, kinds := [], alts := [], laidByText := true, laidKinds := [.data, .data, .data, .data, .sentinel, .sentinel, .pinned], laidTests := true, laidLooks := .later }
def LoopStableUptoCardSaid : Prop := Claim7.holds Tryz.pinned (.plain (OpenSpec.upto loopStableSpec)) loopStableUptoCard

/-- THE SECOND FORM's CARD OF 'lensletlaw06.LoopCloses'. -/
def loopClosesUptoCard : Claim7 := { stood := { row := loopClosesUptoRow, standIns := [], harness := (true, "d6004a1b3d50bf022a2ffdbd60f5262ec7d3332f94caeb566aa565a147cfcc37"), looks := true }, kinds := [], alts := [], laidByText := true, laidKinds := [.data, .data, .data, .data, .sentinel, .sentinel, .pinned], laidTests := true, laidLooks := .later }
def LoopClosesUptoCardSaid : Prop := Claim7.holds Tryz.pinned (.plain (OpenSpec.upto loopClosesSpec)) loopClosesUptoCard

/-- THE SECOND FORM's CARD OF 'lensletlaw06.LoopRuns'. -/
def loopRunsUptoCard : Claim7 := { stood := { row := loopRunsUptoRow, standIns := [], harness := (true, "d6004a1b3d50bf022a2ffdbd60f5262ec7d3332f94caeb566aa565a147cfcc37"), looks := true }, kinds := [], alts := [], laidByText := true, laidKinds := [.data, .data, .data, .data, .sentinel, .sentinel, .pinned], laidTests := true, laidLooks := .later }
def LoopRunsUptoCardSaid : Prop := Claim7.holds Tryz.pinned (.plain (OpenSpec.upto loopRunsSpec)) loopRunsUptoCard

/-- THE SECOND FORM's CARD OF 'lensletlaw06.LoopPolys'. -/
def loopPolysUptoCard : Claim7 := { stood := { row := loopPolysUptoRow, standIns := [], harness := (true, "d6004a1b3d50bf022a2ffdbd60f5262ec7d3332f94caeb566aa565a147cfcc37"), looks := true }, kinds := [], alts := [], laidByText := true, laidKinds := [.data, .data, .data, .data, .sentinel, .sentinel, .pinned], laidTests := true, laidLooks := .later }
def LoopPolysUptoCardSaid : Prop := Claim7.holds Tryz.pinned (.plain (OpenSpec.upto loopPolysSpec)) loopPolysUptoCard
end Rows
end Go.Proofs.YtdlikflhcjmkeaaGreatDoor
