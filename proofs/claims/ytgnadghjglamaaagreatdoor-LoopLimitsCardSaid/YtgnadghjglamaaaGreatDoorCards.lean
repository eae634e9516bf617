/-
  DERIVED. GIVEN WITH THE SEED: THE CARDS: each row of YtgnadghjglamaaaGreatDoorRows.lean that lists a variable, with what it lists TIED to the program's text (the seventh form; the later family's looks); each row that meets fmt, with fmt's text TOLD by the authors' own Lean function (tested against real Go, not proved from fmt's source: count such statements apart). THE CARD IS WHAT COUNTS. Prove the row's statement (the work); the ties are given (YtgnadghjglamaaaGreatDoorTie.lean); close each card by the builder's one call (the guide's Derived/Test/ToyasCard.lean, 'card_holds'). Laid BY PROGRAM, IN A SANDBOX (cutbox-door.mjs). By AI agents, Wed Nov 11 2026. No macro, syntax, notation, axiom, sorry.
-/
import Derived.Test.YtgnadghjglamaaaGreatDoorRows
import GoSem.ClaimSeven
namespace Go.Proofs.YtgnadghjglamaaaGreatDoor
namespace Rows

/-- THE TIED CARD OF 'lensletlaw06.LoopAnswers'. -/
def loopAnswersCard : Claim7 := { stood := { row := loopAnswersRow, standIns := [], harness := (true, "c8b906ec8926f0091e5b49229bb9ed5a38745ffb24e456fe6e5186665aef9d0b"), looks := true }, kinds := [], alts := [], laidByText := true, laidKinds := [.data, .data, .data, .data, .sentinel, .sentinel, .pinned], laidTests := true, laidLooks := .later }
def LoopAnswersCardSaid : Prop := Claim7.holds Tryz.pinned (.plain (OpenSpec.ofChange loopAnswersSpec)) loopAnswersCard

/-- THE TIED CARD OF 'lensletlaw06.LoopBests'. -/
def loopBestsCard : Claim7 := { stood := { row := loopBestsRow, standIns := [], harness := (true, "c8b906ec8926f0091e5b49229bb9ed5a38745ffb24e456fe6e5186665aef9d0b"), looks := true }, kinds := [], alts := [], laidByText := true, laidKinds := [.data, .data, .data, .data, .sentinel, .sentinel, .pinned], laidTests := true, laidLooks := .later }
def LoopBestsCardSaid : Prop := Claim7.holds Tryz.pinned (.plain (OpenSpec.ofChange loopBestsSpec)) loopBestsCard

/-- THE TIED CARD OF 'lensletlaw06.LoopLimits'. -/
def loopLimitsCard : Claim7 := { stood := { row := loopLimitsRow, standIns := [], harness := (true, "c8b906ec8926f0091e5b49229bb9ed5a38745ffb24e456fe6e5186665aef9d0b"), looks := true }, kinds := [], alts := [], laidByText := true, laidKinds := [.data, .data, .data, .data, .sentinel, .sentinel, .pinned], laidTests := true, laidLooks := .later }
def LoopLimitsCardSaid : Prop := Claim7.holds Tryz.pinned (.plain (OpenSpec.ofChange loopLimitsSpec)) loopLimitsCard

/-- THE TIED CARD OF 'lensletlaw06.LoopRegions'. -/
def loopRegionsCard : Claim7 := { stood := { row := loopRegionsRow, standIns := [], harness := (true, "c8b906ec8926f0091e5b49229bb9ed5a38745ffb24e456fe6e5186665aef9d0b"), looks := true }, kinds := [], alts := [], laidByText := true, laidKinds := [.data, .data, .data, .data, .sentinel, .sentinel, .pinned], laidTests := true, laidLooks := .later }
def LoopRegionsCardSaid : Prop := Claim7.holds Tryz.pinned (.plain (OpenSpec.ofChange loopRegionsSpec)) loopRegionsCard

/-- THE SECOND FORM's CARD OF 'lensletlaw06.LoopAnswers'. -/
def loopAnswersUptoCard : Claim7 := { stood := { row := loopAnswersUptoRow, standIns := [], harness := (true, "c8b906ec8926f0091e5b49229bb9ed5a38745ffb24e456fe6e5186665aef9d0b"), looks := true }, kinds := [], alts := [], laidByText := true, laidKinds := [.data, .data, .data, .data, .sentinel, .sentinel, .pinned], laidTests := true, laidLooks := .later }
def LoopAnswersUptoCardSaid : Prop := Claim7.holds Tryz.pinned (.plain (OpenSpec.upto loopAnswersSpec)) loopAnswersUptoCard

/-- THE SECOND FORM's CARD OF 'lensletlaw06.LoopBests'. -/
def loopBestsUptoCard : Claim7 := { stood := { row := loopBestsUptoRow, standIns := [], harness := (true, "c8b906ec8926f0091e5b49229bb9ed5a38745ffb24e456fe6e5186665aef9d0b"), looks := true }, kinds := [], alts := [], laidByText := true, laidKinds := [.data, .data, .data, .data, .sentinel, .sentinel, .pinned], laidTests := true, laidLooks := .later }
def LoopBestsUptoCardSaid : Prop := Claim7.holds Tryz.pinned (.plain (OpenSpec.upto loopBestsSpec)) loopBestsUptoCard

/-- THE SECOND FORM's CARD OF 'lensletlaw06.LoopLimits'. -/
def loopLimitsUptoCard : Claim7 := { stood := { row := loopLimitsUptoRow, standIns := [], harness := (true, "c8b906ec8926f0091e5b49229bb9ed5a38745ffb24e456fe6e5186665aef9d0b"), looks := true }, kinds := [], alts := [], laidByText := true, laidKinds := [.data, .data, .data, .data, .sentinel, .sentinel, .pinned], laidTests := true, laidLooks := .later }
def LoopLimitsUptoCardSaid : Prop := Claim7.holds Tryz.pinned (.plain (OpenSpec.upto loopLimitsSpec)) loopLimitsUptoCard

/-- THE SECOND FORM's CARD OF 'lensletlaw06.LoopRegions'. -/
def loopRegionsUptoCard : Claim7 := { stood := { row := loopRegionsUptoRow, standIns := [], harness := (true, "c8b906ec8926f0091e5b49229bb9ed5a38745ffb24e456fe6e5186665aef9d0b"), looks := true }, kinds := [], alts := [], laidByText := true, laidKinds := [.data, .data, .data, .data, .sentinel, .sentinel, .pinned], laidTests := true, laidLooks := .later }
def LoopRegionsUptoCardSaid : Prop := Claim7.holds Tryz.pinned (.plain (OpenSpec.upto loopRegionsSpec)) loopRegionsUptoCard
end Rows
end Go.Proofs.YtgnadghjglamaaaGreatDoor
