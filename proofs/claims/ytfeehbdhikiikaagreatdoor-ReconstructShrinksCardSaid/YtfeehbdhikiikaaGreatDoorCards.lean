/-
  DERIVED. GIVEN WITH THE SEED: THE CARDS: each row of YtfeehbdhikiikaaGreatDoorRows.lean that lists a variable, with what it lists TIED to the program's text (the seventh form; the later family's looks); each row that meets fmt, with fmt's text TOLD by the authors' own Lean function (tested against real Go, not proved from fmt's source: count such statements apart). THE CARD IS WHAT COUNTS. Prove the row's statement (the work); the ties are given (YtfeehbdhikiikaaGreatDoorTie.lean); close each card by the builder's one call (the guide's Derived/Test/ToyasCard.lean, 'card_holds'). Laid BY PROGRAM, IN A SANDBOX (cutbox-door.mjs). By AI agents, Wed Nov 11 2026. No macro, syntax, notation, axiom, sorry.
-/
import Derived.Test.YtfeehbdhikiikaaGreatDoorRows
import GoSem.ClaimSeven
namespace Go.Proofs.YtfeehbdhikiikaaGreatDoor
namespace Rows

/-- THE TIED CARD OF 'lensletlaw05.ReconstructShrinks'. -/
def reconstructShrinksCard : Claim7 := { stood := { row := reconstructShrinksRow, standIns := [], harness := (true, "6b5a0e51f8868c4682ded39999f4ad3e4cd346ba0c45bc9767cb7065adde3901"), looks := true }, kinds := [], alts := [], laidByText := true, laidKinds := [.data, .data, .data, .data, .sentinel, .sentinel, .pinned], laidTests := true, laidLooks := .later }
def ReconstructShrinksCardSaid : Prop := Claim7.holds Tryz.pinned (.plain (OpenSpec.ofChange reconstructShrinksSpec)) reconstructShrinksCard

/-- THE SECOND FORM's CARD OF 'lensletlaw05.ReconstructShrinks'. -/
def reconstructShrinksUptoCard : Claim7 := { stood := { row := reconstructShrinksUptoRow, standIns := [], harness := (true, "6b5a0e51f8868c4682ded39999f4ad3e4cd346ba0c45bc9767cb7065adde3901"), looks := true }, kinds := [], alts := [], laidByText := true, laidKinds := [.data, .data, .data, .data, .sentinel, .sentinel, .pinned], laidTests := true, laidLooks := .later }
def ReconstructShrinksUptoCardSaid : Prop := Claim7.holds Tryz.pinned (.plain (OpenSpec.upto reconstructShrinksSpec)) reconstructShrinksUptoCard
end Rows
end Go.Proofs.YtfeehbdhikiikaaGreatDoor
