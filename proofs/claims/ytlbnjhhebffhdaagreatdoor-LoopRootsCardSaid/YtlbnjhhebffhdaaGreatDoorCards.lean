/-
  DERIVED. GIVEN WITH THE SEED: THE CARDS: each row of YtlbnjhhebffhdaaGreatDoorRows.lean that lists a variable, with what it lists TIED to the program's text (the seventh form; the later family's looks); each row that meets fmt, with fmt's text TOLD by the authors' own Lean function (tested against real Go, not proved from fmt's source: count such statements apart). THE CARD IS WHAT COUNTS. Prove the row's statement (the work); the ties are given (YtlbnjhhebffhdaaGreatDoorTie.lean); close each card by the builder's one call (the guide's Derived/Test/ToyasCard.lean, 'card_holds'). Laid BY PROGRAM, IN A SANDBOX (cutbox-door.mjs). By AI agents, Wed Nov 11 2026. No macro, syntax, notation, axiom, sorry.
-/
import Derived.Test.YtlbnjhhebffhdaaGreatDoorRows
import GoSem.ClaimSeven
namespace Go.Proofs.YtlbnjhhebffhdaaGreatDoor
namespace Rows

/-- THE TIED CARD OF 'lensletlaw06.LoopStable'. -/
def loopStableCard : Claim7 := { stood := { row := loopStableRow, standIns := [], harness := (true, "d56b9a71bc433e8f09047555e6ab27ca6e2363d730bc126cddf442700f85ba93"), looks := true }, kinds := [], alts := [], laidByText := true, laidKinds := [.data, .data, .data, .data, .sentinel, .sentinel, .pinned], laidTests := true, laidLooks := .later }
def LoopStableCardSaid : Prop := Claim7.holds Tryz.pinned (.plain (OpenSpec.ofChange loopStableSpec)) loopStableCard

/-- THE TIED CARD OF 'lensletlaw06.LoopRegions'. -/
def loopRegionsCard : Claim7 := { stood := { row := loopRegionsRow, standIns := [], harness := (true, "d56b9a71bc433e8f09047555e6ab27ca6e2363d730bc126cddf442700f85ba93"), looks := true }, kinds := [], alts := [], laidByText := true, laidKinds := [.data, .data, .data, .data, .sentinel, .sentinel, .pinned], laidTests := true, laidLooks := .later }
def LoopRegionsCardSaid : Prop := Claim7.holds Tryz.pinned (.plain (OpenSpec.ofChange loopRegionsSpec)) loopRegionsCard

/-- THE TIED CARD OF 'lensletlaw06.LoopPowers'. -/
def loopPowersCard : Claim7 := { stood := { row := loopPowersRow, standIns := [], harness := (true, "d56b9a71bc433e8f09047555e6ab27ca6e2363d730bc126cddf442700f85ba93"), looks := true }, kinds := [], alts := [], laidByText := true, laidKinds := [.data, .data, .data, .data, .sentinel, .sentinel, .pinned], laidTests := true, laidLooks := .later }
def LoopPowersCardSaid : Prop := Claim7.holds Tryz.pinned (.plain (OpenSpec.ofChange loopPowersSpec)) loopPowersCard

/-- THE TIED CARD OF 'lensletlaw06.LoopRoots'. -/
def loopRootsCard : Claim7 := { stood := { row := loopRootsRow, standIns := [], harness := (true, "d56b9a71bc433e8f09047555e6ab27ca6e2363d730bc126cddf442700f85ba93"), looks := true }, kinds := [], alts := [], laidByText := true, laidKinds := [.data, .data, .data, .data, .sentinel, .sentinel, .pinned], laidTests := true, laidLooks := .later }
def LoopRootsCardSaid : Prop := Claim7.holds Tryz.pinned (.plain (OpenSpec.ofChange loopRootsSpec)) loopRootsCard

/-- THE SECOND FORM's CARD OF 'lensletlaw06.LoopStable'. -/
def loopStableUptoCard : Claim7 := { stood := { row := loopStableUptoRow, standIns := [], harness := (true, "d56b9a71bc433e8f09047555e6ab27ca6e2363d730bc126cddf442700f85ba93"), looks := true }, kinds := [], alts := [], laidByText := true, laidKinds := [.data, .data, .data, .data, .sentinel, .sentinel, .pinned], laidTests := true, laidLooks := .later }
def LoopStableUptoCardSaid : Prop := Claim7.holds Tryz.pinned (.plain (OpenSpec.upto loopStableSpec)) loopStableUptoCard

/-- THE SECOND FORM's CARD OF 'lensletlaw06.LoopRegions'. -/
def loopRegionsUptoCard : Claim7 := { stood := { row := loopRegionsUptoRow, standIns := [], harness := (true, "d56b9a71bc433e8f09047555e6ab27ca6e2363d730bc126cddf442700f85ba93"), looks := true }, kinds := [], alts := [], laidByText := true, laidKinds := [.data, .data, .data, .data, .sentinel, .sentinel, .pinned], laidTests := true, laidLooks := .later }
def LoopRegionsUptoCardSaid : Prop := Claim7.holds Tryz.pinned (.plain (OpenSpec.upto loopRegionsSpec)) loopRegionsUptoCard

/-- THE SECOND FORM's CARD OF 'lensletlaw06.LoopPowers'. -/
def loopPowersUptoCard : Claim7 := { stood := { row := loopPowersUptoRow, standIns := [], harness := (true, "d56b9a71bc433e8f09047555e6ab27ca6e2363d730bc126cddf442700f85ba93"), looks := true }, kinds := [], alts := [], laidByText := true, laidKinds := [.data, .data, .data, .data, .sentinel, .sentinel, .pinned], laidTests := true, laidLooks := .later }
def LoopPowersUptoCardSaid : Prop := Claim7.holds Tryz.pinned (.plain (OpenSpec.upto loopPowersSpec)) loopPowersUptoCard

/-- THE SECOND FORM's CARD OF 'lensletlaw06.LoopRoots'. -/
def loopRootsUptoCard : Claim7 := { stood := { row := loopRootsUptoRow, standIns := [], harness := (true, "d56b9a71bc433e8f09047555e6ab27ca6e2363d730bc126cddf442700f85ba93"), looks := true }, kinds := [], alts := [], laidByText := true, laidKinds := [.data, .data, .data, .data, .sentinel, .sentinel, .pinned], laidTests := true, laidLooks := .later }
def LoopRootsUptoCardSaid : Prop := Claim7.holds Tryz.pinned (.plain (OpenSpec.upto loopRootsSpec)) loopRootsUptoCard
end Rows
end Go.Proofs.YtlbnjhhebffhdaaGreatDoor
