/-
  DERIVED. GIVEN WITH THE SEED: THE CARDS: each row of YtlbophlgohokkaaGreatDoorRows.lean that lists a variable, with what it lists TIED to the program's text (the seventh form; the later family's looks); each row that meets fmt, with fmt's text TOLD by the authors' own Lean function (tested against real Go, not proved from fmt's source: count such statements apart). THE CARD IS WHAT COUNTS. Prove the row's statement (the work); the ties are given (YtlbophlgohokkaaGreatDoorTie.lean); close each card by the builder's one call (the guide's Derived/Test/ToyasCard.lean, 'card_holds'). Laid BY PROGRAM, IN A SANDBOX (cutbox-door.mjs). By AI agents, Wed Nov 11 2026. No macro, syntax, notation, axiom, sorry.
-/
import Derived.Test.YtlbophlgohokkaaGreatDoorRows
import GoSem.ClaimSeven
namespace Go.Proofs.YtlbophlgohokkaaGreatDoor
namespace Rows

/-- THE TIED CARD OF 'lensletlaw05.ReconstructApplies'. -/
def reconstructAppliesCard : Claim7 := { stood := { row := reconstructAppliesRow, standIns := [], harness := (true, "49c07008bd590beefd4565a549a491b5b7e9b70e02ad20a95c0a6442db98a8dc"), looks := true }, kinds := [], alts := [], laidByText := true, laidKinds := [.data, .data, .data, .data, .sentinel, .sentinel, .pinned], laidTests := true, laidLooks := .later }
def ReconstructAppliesCardSaid : Prop := Claim7.holds Tryz.pinned (.plain (OpenSpec.ofChange reconstructAppliesSpec)) reconstructAppliesCard

/-- THE TIED CARD OF 'lensletlaw05.ReconstructCosts'. -/
def reconstructCostsCard : Claim7 := { stood := { row := reconstructCostsRow, standIns := [], harness := (true, "49c07008bd590beefd4565a549a491b5b7e9b70e02ad20a95c0a6442db98a8dc"), looks := true }, kinds := [], alts := [], laidByText := true, laidKinds := [.data, .data, .data, .data, .sentinel, .sentinel, .pinned], laidTests := true, laidLooks := .later }
def ReconstructCostsCardSaid : Prop := Claim7.holds Tryz.pinned (.plain (OpenSpec.ofChange reconstructCostsSpec)) reconstructCostsCard

/-- THE TIED CARD OF 'lensletlaw05.ReconstructPokes'. -/
def reconstructPokesCard : Claim7 := { stood := { row := reconstructPokesRow, standIns := [], harness := (true, "49c07008bd590beefd4565a549a491b5b7e9b70e02ad20a95c0a6442db98a8dc"), looks := true }, kinds := [], alts := [], laidByText := true, laidKinds := [.data, .data, .data, .data, .sentinel, .sentinel, .pinned], laidTests := true, laidLooks := .later }
def ReconstructPokesCardSaid : Prop := Claim7.holds Tryz.pinned (.plain (OpenSpec.ofChange reconstructPokesSpec)) reconstructPokesCard

/-- THE TIED CARD OF 'lensletlaw05.ReconstructRanks'. -/
def reconstructRanksCard : Claim7 := { stood := { row := reconstructRanksRow, standIns := [], harness := (true, "49c07008bd590beefd4565a549a491b5b7e9b70e02ad20a95c0a6442db98a8dc"), looks := true }, kinds := [], alts := [], laidByText := true, laidKinds := [.data, .data, .data, .data, .sentinel, .sentinel, .pinned], laidTests := true, laidLooks := .later }
def ReconstructRanksCardSaid : Prop := Claim7.holds Tryz.pinned (.plain (OpenSpec.ofChange reconstructRanksSpec)) reconstructRanksCard

/-- THE TIED CARD OF 'lensletlaw05.ReconstructSpaces'. -/
def reconstructSpacesCard : Claim7 := { stood := { row := reconstructSpacesRow, standIns := [], harness := (true, "49c07008bd590beefd4565a549a491b5b7e9b70e02ad20a95c0a6442db98a8dc"), looks := true }, kinds := [], alts := [], laidByText := true, laidKinds := [.data, .data, .data, .data, .sentinel, .sentinel, .pinned], laidTests := true, laidLooks := .later }
def ReconstructSpacesCardSaid : Prop := Claim7.holds Tryz.pinned (.plain (OpenSpec.ofChange reconstructSpacesSpec)) reconstructSpacesCard

/-- THE SECOND FORM's CARD OF 'lensletlaw05.ReconstructApplies'. -/
def reconstructAppliesUptoCard : Claim7 := { stood := { row := reconstructAppliesUptoRow, standIns := [], harness := (true, "49c07008bd590beefd4565a549a491b5b7e9b70e02ad20a95c0a6442db98a8dc"), looks := true }, kinds := [], alts := [], laidByText := true, laidKinds := [.data, .data, .data, .data, .sentinel, .sentinel, .pinned], laidTests := true, laidLooks := .later }
def ReconstructAppliesUptoCardSaid : Prop := Claim7.holds Tryz.pinned (.plain (OpenSpec.upto reconstructAppliesSpec)) reconstructAppliesUptoCard

/-- THE SECOND FORM's CARD OF 'lensletlaw05.ReconstructCosts'. -/
def reconstructCostsUptoCard : Claim7 := { stood := { row := reconstructCostsUptoRow, standIns := [], harness := (true, "49c07008bd590beefd4565a549a491b5b7e9b70e02ad20a95c0a6442db98a8dc"), looks := true }, kinds := [], alts := [], laidByText := true, laidKinds := [.data, .data, .data, .data, .sentinel, .sentinel, .pinned], laidTests := true, laidLooks := .later }
def ReconstructCostsUptoCardSaid : Prop := Claim7.holds Tryz.pinned (.plain (OpenSpec.upto reconstructCostsSpec)) reconstructCostsUptoCard

/-- THE SECOND FORM's CARD OF 'lensletlaw05.ReconstructPokes'. -/
def reconstructPokesUptoCard : Claim7 := { stood := { row := reconstructPokesUptoRow, standIns := [], harness := (true, "49c07008bd590beefd4565a549a491b5b7e9b70e02ad20a95c0a6442db98a8dc"), looks := true }, kinds := [], alts := [], laidByText := true, laidKinds := [.data, .data, .data, .data, .sentinel, .sentinel, .pinned], laidTests := true, laidLooks := .later }
def ReconstructPokesUptoCardSaid : Prop := Claim7.holds Tryz.pinned (.plain (OpenSpec.upto reconstructPokesSpec)) reconstructPokesUptoCard

/-- THE SECOND FORM's CARD OF 'lensletlaw05.ReconstructRanks'. -/
def reconstructRanksUptoCard : Claim7 := { stood := { row := reconstructRanksUptoRow, standIns := [], harness := (true, "49c07008bd590beefd4565a549a491b5b7e9b70e02ad20a95c0a6442db98a8dc"), looks := true }, kinds := [], alts := [], laidByText := true, laidKinds := [.data, .data, .data, .data, .sentinel, .sentinel, .pinned], laidTests := true, laidLooks := .later }
def ReconstructRanksUptoCardSaid : Prop := Claim7.holds Tryz.pinned (.plain (OpenSpec.upto reconstructRanksSpec)) reconstructRanksUptoCard

/-- THE SECOND FORM's CARD OF 'lensletlaw05.ReconstructSpaces'. -/
def reconstructSpacesUptoCard : Claim7 := { stood := { row := reconstructSpacesUptoRow, standIns := [], harness := (true, "49c07008bd590beefd4565a549a491b5b7e9b70e02ad20a95c0a6442db98a8dc"), looks := true }, kinds := [], alts := [], laidByText := true, laidKinds := [.data, .data, .data, .data, .sentinel, .sentinel, .pinned], laidTests := true, laidLooks := .later }
def ReconstructSpacesUptoCardSaid : Prop := Claim7.holds Tryz.pinned (.plain (OpenSpec.upto reconstructSpacesSpec)) reconstructSpacesUptoCard
end Rows
end Go.Proofs.YtlbophlgohokkaaGreatDoor
