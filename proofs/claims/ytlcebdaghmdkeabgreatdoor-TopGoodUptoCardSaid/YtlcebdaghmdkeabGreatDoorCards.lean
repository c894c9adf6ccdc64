/-
  DERIVED. GIVEN WITH THE SEED: THE CARDS: each row of YtlcebdaghmdkeabGreatDoorRows.lean that lists a variable, with what it lists TIED to the program's text (the seventh form; the later family's looks); each row that meets fmt, with fmt's text TOLD by the authors' own Lean function (tested against real Go, not proved from fmt's source: count such statements apart). THE CARD IS WHAT COUNTS. Prove the row's statement (the work); the ties are given (YtlcebdaghmdkeabGreatDoorTie.lean); close each card by the builder's one call (the guide's Derived/Test/ToyasCard.lean, 'card_holds'). Laid BY PROGRAM, IN A SANDBOX (cutbox-door.mjs). By AI agents, Wed Nov 11 2026. No macro, syntax, notation, axiom, sorry.
-/
import Derived.Test.YtlcebdaghmdkeabGreatDoorRows
import GoSem.ClaimSeven
namespace Go.Proofs.YtlcebdaghmdkeabGreatDoor
namespace Rows

/-- THE TIED CARD OF 'stairwelltop.TopWeights'. -/
def topWeightsCard : Claim7 := { stood := { row := topWeightsRow, standIns := [], harness := (true, "661b269ed953eed859a0001954af0cb1c3e907a949fc7d53ad52e762d3e3363d"), looks := true }, kinds := [], alts := [], laidByText := true, laidKinds := [.data, .data, .data, .data, .sentinel, .sentinel, .data, .pinned], laidTests := true, laidLooks := .later }
def TopWeightsCardSaid : Prop := Claim7.holds Tryz.pinned (.plain (OpenSpec.ofChange topWeightsSpec)) topWeightsCard

/-- THE TIED CARD OF 'stairwelltop.TopVersions'. -/
def topVersionsCard : Claim7 := { stood := { row := topVersionsRow, standIns := [], harness := (true, "661b269ed953eed859a0001954af0cb1c3e907a949fc7d53ad52e762d3e3363d"), looks := true }, kinds := [], alts := [], laidByText := true, laidKinds := [.data, .data, .data, .data, .sentinel, .sentinel, .data, .pinned], laidTests := true, laidLooks := .later }
def TopVersionsCardSaid : Prop := Claim7.holds Tryz.pinned (.plain (OpenSpec.ofChange topVersionsSpec)) topVersionsCard

/-- THE TIED CARD OF 'stairwelltop.TopGood'. -/
def topGoodCard : Claim7 := { stood := { row := topGoodRow, standIns := [], harness := (true, "661b269ed953eed859a0001954af0cb1c3e907a949fc7d53ad52e762d3e3363d"), looks := true }, kinds := [], alts := [], laidByText := true, laidKinds := [.data, .data, .data, .data, .sentinel, .sentinel, .data, .pinned], laidTests := true, laidLooks := .later }
def TopGoodCardSaid : Prop := Claim7.holds Tryz.pinned (.plain (OpenSpec.ofChange topGoodSpec)) topGoodCard

/-- THE TIED CARD OF 'stairwelltop.TopApplies'. -/
def topAppliesCard : Claim7 := { stood := { row := topAppliesRow, standIns := [], harness := (true, "661b269ed953eed859a0001954af0cb1c3e907a949fc7d53ad52e762d3e3363d"), looks := true }, kinds := [], alts := [], laidByText := true, laidKinds := [.data, .data, .data, .data, .sentinel, .sentinel, .data, .pinned], laidTests := true, laidLooks := .later }
def TopAppliesCardSaid : Prop := Claim7.holds Tryz.pinned (.plain (OpenSpec.ofChange topAppliesSpec)) topAppliesCard

/-- THE TIED CARD OF 'stairwelltop.TopRuns'. -/
def topRunsCard : Claim7 := { stood := { row := topRunsRow, standIns := [], harness := (true, "661b269ed953eed859a0001954af0cb1c3e907a949fc7d53ad52e762d3e3363d"), looks := true }, kinds := [], alts := [], laidByText := true, laidKinds := [.data, .data, .data, .data, .sentinel, .sentinel, .data, .pinned], laidTests := true, laidLooks := .later }
def TopRunsCardSaid : Prop := Claim7.holds Tryz.pinned (.plain (OpenSpec.ofChange topRunsSpec)) topRunsCard

/-- THE TIED CARD OF 'stairwelltop.TopMemory'. -/
def topMemoryCard : Claim7 := { stood := { row := topMemoryRow, standIns := [], harness := (true, "661b269ed953eed859a0001954af0cb1c3e907a949fc7d53ad52e762d3e3363d"), looks := true }, kinds := [], alts := [], laidByText := true, laidKinds := [.data, .data, .data, .data, .sentinel, .sentinel, .data, .pinned], laidTests := true, laidLooks := .later }
def TopMemoryCardSaid : Prop := Claim7.holds Tryz.pinned (.plain (OpenSpec.ofChange topMemorySpec)) topMemoryCard

/-- THE SECOND FORM's CARD OF 'stairwelltop.TopWeights'. -/
def topWeightsUptoCard : Claim7 := { stood := { row := topWeightsUptoRow, standIns := [], harness := (true, "661b269ed953eed859a0001954af0cb1c3e907a949fc7d53ad52e762d3e3363d"), looks := true }, kinds := [], alts := [], laidByText := true, laidKinds := [.data, .data, .data, .data, .sentinel, .sentinel, .data, .pinned], laidTests := true, laidLooks := .later }
def TopWeightsUptoCardSaid : Prop := Claim7.holds Tryz.pinned (.plain (OpenSpec.upto topWeightsSpec)) topWeightsUptoCard

/-- THE SECOND FORM's CARD OF 'stairwelltop.TopVersions'. -/
def topVersionsUptoCard : Claim7 := { stood := { row := topVersionsUptoRow, standIns := [], harness := (true, "661b269ed953eed859a0001954af0cb1c3e907a949fc7d53ad52e762d3e3363d"), looks := true }, kinds := [], alts := [], laidByText := true, laidKinds := [.data, .data, .data, .data, .sentinel, .sentinel, .data, .pinned], laidTests := true, laidLooks := .later }
def TopVersionsUptoCardSaid : Prop := Claim7.holds Tryz.pinned (.plain (OpenSpec.upto topVersionsSpec)) topVersionsUptoCard

/-- THE SECOND FORM's CARD OF 'stairwelltop.TopGood'. -/
def topGoodUptoCard : Claim7 := { stood := { row := topGoodUptoRow, standIns := [], harness := (true, "661b269ed953eed859a0001954af0cb1c3e907a949fc7d53ad52e762d3e3363d"), looks := true }, kinds := [], alts := [], laidByText := true, laidKinds := [.data, .data, .data, .data, .sentinel, .sentinel, .data, .pinned], laidTests := true, laidLooks := .later }
def TopGoodUptoCardSaid : Prop := Claim7.holds Tryz.pinned (.plain (OpenSpec.upto topGoodSpec)) topGoodUptoCard

/-- THE SECOND FORM's CARD OF 'stairwelltop.TopApplies'. -/
def topAppliesUptoCard : Claim7 := { stood := { row := topAppliesUptoRow, standIns := [], harness := (true, "661b269ed953eed859a0001954af0cb1c3e907a949fc7d53ad52e762d3e3363d"), looks := true }, kinds := [], alts := [], laidByText := true, laidKinds := [.data, .data, .data, .data, .sentinel, .sentinel, .data, .pinned], laidTests := true, laidLooks := .later }
def TopAppliesUptoCardSaid : Prop := Claim7.holds Tryz.pinned (.plain (OpenSpec.upto topAppliesSpec)) topAppliesUptoCard

/-- THE SECOND FORM's CARD OF 'stairwelltop.TopRuns'. -/
def topRunsUptoCard : Claim7 := { stood := { row := topRunsUptoRow, standIns := [], harness := (true, "661b269ed953eed859a0001954af0cb1c3e907a949fc7d53ad52e762d3e3363d"), looks := true }, kinds := [], alts := [], laidByText := true, laidKinds := [.data, .data, .data, .data, .sentinel, .sentinel, .data, .pinned], laidTests := true, laidLooks := .later }
def TopRunsUptoCardSaid : Prop := Claim7.holds Tryz.pinned (.plain (OpenSpec.upto topRunsSpec)) topRunsUptoCard

/-- THE SECOND FORM's CARD OF 'stairwelltop.TopMemory'. -/
def topMemoryUptoCard : Claim7 := { stood := { row := topMemoryUptoRow, standIns := [], harness := (true, "661b269ed953eed859a0001954af0cb1c3e907a949fc7d53ad52e762d3e3363d"), looks := true }, kinds := [], alts := [], laidByText := true, laidKinds := [.data, .data, .data, .data, .sentinel, .sentinel, .data, .pinned], laidTests := true, laidLooks := .later }
def TopMemoryUptoCardSaid : Prop := Claim7.holds Tryz.pinned (.plain (OpenSpec.upto topMemorySpec)) topMemoryUptoCard
end Rows
end Go.Proofs.YtlcebdaghmdkeabGreatDoor
