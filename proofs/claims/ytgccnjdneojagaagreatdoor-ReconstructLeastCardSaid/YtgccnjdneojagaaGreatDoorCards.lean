/-
  DERIVED. GIVEN WITH THE SEED: THE CARDS: each row of YtgccnjdneojagaaGreatDoorRows.lean that lists a variable, with what it lists TIED to the program's text (the seventh form; the later family's looks); each row that meets fmt, with fmt's text TOLD by the authors' own Lean function (tested against real Go, not proved from fmt's source: count such statements apart). THE CARD IS WHAT COUNTS. Prove the row's statement (the work); the ties are given (YtgccnjdneojagaaGreatDoorTie.lean); close each card by the builder's one call (the guide's Derived/Test/ToyasCard.lean, 'card_holds'). Laid BY PROGRAM, IN A SANDBOX (cutbox-door.mjs). By AI agents, Wed Nov 11 2026. No macro, syntax, notation, axiom, sorry.
-/
import Derived.Test.YtgccnjdneojagaaGreatDoorRows
import GoSem.ClaimSeven
namespace Go.Proofs.YtgccnjdneojagaaGreatDoor
namespace Rows

/-- THE TIED CARD OF 'lensletlaw05.ReconstructLeast'. -/
def reconstructLeastCard : Claim7 := { stood := { row := reconstructLeastRow, standIns := [], harness := (true, "c8aa047e8267129fce40cfaf74a6159fc49cbb32a35aaba8f45f4abf886970f4"), looks := true }, kinds := [], alts := [], laidByText := true, laidKinds := [.data, .data, .data, .data, .sentinel, .sentinel, .pinned], laidTests := true, laidLooks := .later }
def ReconstructLeastCardSaid : Prop := Claim7.holds Tryz.pinned (.plain (OpenSpec.ofChange reconstructLeastSpec)) reconstructLeastCard

/-- THE SECOND FORM's CARD OF 'lensletlaw05.ReconstructLeast'. -/
def reconstructLeastUptoCard : Claim7 := { stood := { row := reconstructLeastUptoRow, standIns := [], harness := (true, "c8aa047e8267129fce40cfaf74a6159fc49cbb32a35aaba8f45f4abf886970f4"), looks := true }, kinds := [], alts := [], laidByText := true, laidKinds := [.data, .data, .data, .data, .sentinel, .sentinel, .pinned], laidTests := true, laidLooks := .later }
def ReconstructLeastUptoCardSaid : Prop := Claim7.holds Tryz.pinned (.plain (OpenSpec.upto reconstructLeastSpec)) reconstructLeastUptoCard
end Rows
end Go.Proofs.YtgccnjdneojagaaGreatDoor
