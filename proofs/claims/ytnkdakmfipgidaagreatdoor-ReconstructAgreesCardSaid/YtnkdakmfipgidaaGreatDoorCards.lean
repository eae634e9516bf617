/-
  DERIVED. GIVEN WITH THE SEED: THE CARDS: each row of YtnkdakmfipgidaaGreatDoorRows.lean that lists a variable, with what it lists TIED to the program's text (the seventh form; the later family's looks); each row that meets fmt, with fmt's text TOLD by the authors' own Lean function (tested against real Go, not proved from fmt's source: count such statements apart). THE CARD IS WHAT COUNTS. Prove the row's statement (the work); the ties are given (YtnkdakmfipgidaaGreatDoorTie.lean); close each card by the builder's one call (the guide's Derived/Test/ToyasCard.lean, 'card_holds'). Laid BY PROGRAM, IN A SANDBOX (cutbox-door.mjs). By AI agents, Wed Nov 11 2026. No macro, syntax, notation, axiom, sorry.
-/
import Derived.Test.YtnkdakmfipgidaaGreatDoorRows
import GoSem.ClaimSeven
namespace Go.Proofs.YtnkdakmfipgidaaGreatDoor
namespace Rows

/-- THE TIED CARD OF 'lensletlaw05.ReconstructAgrees'. -/
def reconstructAgreesCard : Claim7 := { stood := { row := reconstructAgreesRow, standIns := [], harness := (true, "ca13ff4da4624bc541e36136fcaa0e31a3c060ca0503254b901ac9398e8d8ebf"), looks := true }, kinds := [], alts := [], laidByText := true, laidKinds := [.data, .data, .data, .data, .sentinel, .sentinel, .pinned], laidTests := true, laidLooks := .later }
def ReconstructAgreesCardSaid : Prop := Claim7.holds Tryz.pinned (.plain (OpenSpec.ofChange reconstructAgreesSpec)) reconstructAgreesCard

/-- THE SECOND FORM's CARD OF 'lensletlaw05.ReconstructAgrees'. -/
def reconstructAgreesUptoCard : Claim7 := { stood := { row := reconstructAgreesUptoRow, standIns := [], harness := (true, "ca13ff4da4624bc541e36136fcaa0e31a3c060ca0503254b901ac9398e8d8ebf"), looks := true }, kinds := [], alts := [], laidByText := true, laidKinds := [.data, .data, .data, .data, .sentinel, .sentinel, .pinned], laidTests := true, laidLooks := .later }
def ReconstructAgreesUptoCardSaid : Prop := Claim7.holds Tryz.pinned (.plain (OpenSpec.upto reconstructAgreesSpec)) reconstructAgreesUptoCard
end Rows
end Go.Proofs.YtnkdakmfipgidaaGreatDoor
