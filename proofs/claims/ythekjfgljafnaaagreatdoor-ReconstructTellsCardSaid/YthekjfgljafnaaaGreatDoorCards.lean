/-
  DERIVED. GIVEN WITH THE SEED: THE CARDS: each row of YthekjfgljafnaaaGreatDoorRows.lean that lists a variable, with what it lists TIED to the program's text (the seventh form; the later family's looks); each row that meets fmt, with fmt's text TOLD by the authors' own Lean function (tested against real Go, not proved from fmt's source: count such statements apart). THE CARD IS WHAT COUNTS. Prove the row's statement (the work); the ties are given (YthekjfgljafnaaaGreatDoorTie.lean); close each card by the builder's one call (the guide's Derived/Test/ToyasCard.lean, 'card_holds'). Laid BY PROGRAM, IN A SANDBOX (cutbox-door.mjs). By AI agents, Wed Nov 11 2026. No macro, syntax, notation, axiom, sorry.
-/
import Derived.Test.YthekjfgljafnaaaGreatDoorRows
import GoSem.ClaimSeven
namespace Go.Proofs.YthekjfgljafnaaaGreatDoor
namespace Rows

/-- THE TIED CARD OF 'lensletlaw05.ReconstructTells'. -/
def reconstructTellsCard : Claim7 := { stood := { row := reconstructTellsRow, standIns := [], harness := (true, "6de65bbf3adf07ea9b980ff56755dcdc8f88e8c572c2d3bd71121082855c569a"), looks := true }, kinds := [], alts := [], laidByText := true, laidKinds := [.data, .data, .data, .data, .sentinel, .sentinel, .pinned], laidTests := true, laidLooks := .later }
def ReconstructTellsCardSaid : Prop := Claim7.holds Tryz.pinned (.plain (OpenSpec.ofChange reconstructTellsSpec)) reconstructTellsCard

/-- THE SECOND FORM's CARD OF 'lensletlaw05.ReconstructTells'. -/
def reconstructTellsUptoCard : Claim7 := { stood := { row := reconstructTellsUptoRow, standIns := [], harness := (true, "6de65bbf3adf07ea9b980ff56755dcdc8f88e8c572c2d3bd71121082855c569a"), looks := true }, kinds := [], alts := [], laidByText := true, laidKinds := [.data, .data, .data, .data, .sentinel, .sentinel, .pinned], laidTests := true, laidLooks := .later }
def ReconstructTellsUptoCardSaid : Prop := Claim7.holds Tryz.pinned (.plain (OpenSpec.upto reconstructTellsSpec)) reconstructTellsUptoCard
end Rows
end Go.Proofs.YthekjfgljafnaaaGreatDoor
