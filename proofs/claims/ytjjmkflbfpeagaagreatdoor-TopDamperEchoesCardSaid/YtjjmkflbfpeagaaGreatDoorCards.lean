/-
  DERIVED. GIVEN WITH THE SEED: THE CARDS: each row of YtjjmkflbfpeagaaGreatDoorRows.lean that lists a variable, with what it lists TIED to the program's text (the seventh form; the later family's looks); each row that meets fmt, with fmt's text TOLD by the authors' own Lean function (tested against real Go, not proved from fmt's source: count such statements apart). THE CARD IS WHAT COUNTS. Prove the row's statement (the work); the ties are given (YtjjmkflbfpeagaaGreatDoorTie.lean); close each card by the builder's one call (the guide's Derived/Test/ToyasCard.lean, 'card_holds'). Laid BY PROGRAM, IN A SANDBOX (cutbox-door.mjs). By AI agents, Wed Nov 11 2026. No macro, syntax, notation, axiom, sorry.
-/
import Derived.Test.YtjjmkflbfpeagaaGreatDoorRows
import GoSem.ClaimSeven
namespace Go.Proofs.YtjjmkflbfpeagaaGreatDoor
namespace Rows

/-- THE TIED CARD OF 'lenslettop.TopDamperEchoes'. -/
def topDamperEchoesCard : Claim7 := { stood := { row := topDamperEchoesRow, standIns := [], harness := (true, "83df10caf70a172489af310bfbd298244a599096a8758a068fa2d15006b17688"), looks := true }, kinds := [], alts := [], laidByText := true, laidKinds := [.data, .data, .data, .data, .sentinel, .sentinel, .pinned], laidTests := true, laidLooks := .later }
def TopDamperEchoesCardSaid : Prop := Claim7.holds Tryz.pinned (.plain (OpenSpec.ofChange topDamperEchoesSpec)) topDamperEchoesCard

/-- THE SECOND FORM's CARD OF 'lenslettop.TopDamperEchoes'. -/
def topDamperEchoesUptoCard : Claim7 := { stood := { row := topDamperEchoesUptoRow, standIns := [], harness := (true, "83df10caf70a172489af310bfbd298244a599096a8758a068fa2d15006b17688"), looks := true }, kinds := [], alts := [], laidByText := true, laidKinds := [.data, .data, .data, .data, .sentinel, .sentinel, .pinned], laidTests := true, laidLooks := .later }
def TopDamperEchoesUptoCardSaid : Prop := Claim7.holds Tryz.pinned (.plain (OpenSpec.upto topDamperEchoesSpec)) topDamperEchoesUptoCard
end Rows
end Go.Proofs.YtjjmkflbfpeagaaGreatDoor
