/-
  DERIVED. GIVEN WITH THE SEED: THE CARDS: each row of YtlfdeoomaccciaaGreatDoorRows.lean that lists a variable, with what it lists TIED to the program's text (the seventh form; the later family's looks); each row that meets fmt, with fmt's text TOLD by the authors' own Lean function (tested against real Go, not proved from fmt's source: count such statements apart). THE CARD IS WHAT COUNTS. Prove the row's statement (the work); the ties are given (YtlfdeoomaccciaaGreatDoorTie.lean); close each card by the builder's one call (the guide's Derived/Test/ToyasCard.lean, 'card_holds'). Laid BY PROGRAM, IN A SANDBOX (cutbox-door.mjs). By AI agents, Wed Nov 11 2026. No macro, syntax, notation, axiom, sorry.
-/
import Derived.Test.YtlfdeoomaccciaaGreatDoorRows
import GoSem.ClaimSeven
namespace Go.Proofs.YtlfdeoomaccciaaGreatDoor
namespace Rows

/-- THE TIED CARD OF 'lensletlaw05.ReconstructDamps'. -/
def reconstructDampsCard : Claim7 := { stood := { row := reconstructDampsRow, standIns := [], harness := (true, "4b4dd6a7c445e7133c26c16a15ba9ed1f444b91c6c61e3eccf653da8c41c43b6"), looks := true }, kinds := [], alts := [], laidByText := true, laidKinds := [.data, .data, .data, .data, .sentinel, .sentinel, .pinned], laidTests := true, laidLooks := .later }
def ReconstructDampsCardSaid : Prop := Claim7.holds Tryz.pinned (.plain (OpenSpec.ofChange reconstructDampsSpec)) reconstructDampsCard

/-- THE SECOND FORM's CARD OF 'lensletlaw05.ReconstructDamps'. -/
def reconstructDampsUptoCard : Claim7 := { stood := { row := reconstructDampsUptoRow, standIns := [], harness := (true, "4b4dd6a7c445e7133c26c16a15ba9ed1f444b91c6c61e3eccf653da8c41c43b6"), looks := true }, kinds := [], alts := [], laidByText := true, laidKinds := [.data, .data, .data, .data, .sentinel, .sentinel, .pinned], laidTests := true, laidLooks := .later }
def ReconstructDampsUptoCardSaid : Prop := Claim7.holds Tryz.pinned (.plain (OpenSpec.upto reconstructDampsSpec)) reconstructDampsUptoCard
end Rows
end Go.Proofs.YtlfdeoomaccciaaGreatDoor
