/-
  DERIVED. GIVEN WITH THE SEED: THE CARDS: each row of YtjibdbnpkfghhaaGreatDoorRows.lean that lists a variable, with what it lists TIED to the program's text (the seventh form; the later family's looks); each row that meets fmt, with fmt's text TOLD by the authors' own Lean function (tested against real Go, not proved from fmt's source: count such statements apart). THE CARD IS WHAT COUNTS. Prove the row's statement (the work); the ties are given (YtjibdbnpkfghhaaGreatDoorTie.lean); close each card by the builder's one call (the guide's Derived/Test/ToyasCard.lean, 'card_holds'). Laid BY PROGRAM, IN A SANDBOX (cutbox-door.mjs). By AI agents, Wed Nov 11 2026. No macro, syntax, notation, axiom, sorry.
-/
import Derived.Test.YtjibdbnpkfghhaaGreatDoorRows
import GoSem.ClaimSeven
namespace Go.Proofs.YtjibdbnpkfghhaaGreatDoor
namespace Rows

/-- THE TIED CARD OF 'stairwelllaw.JsonParses'. -/
def jsonParsesCard : Claim7 := { stood := { row := jsonParsesRow, standIns := [], harness := (true, "18d8ccb3981f5afa1e88f1bd60bfbcc3b1b1b79f962f2314d45a10a21cbc2e0f"), looks := true }, kinds := [], alts := [], laidByText := true, laidKinds := [.data, .data, .data, .data, .sentinel, .sentinel, .pinned], laidTests := true, laidLooks := .later }
def JsonParsesCardSaid : Prop := Claim7.holds Tryz.pinned (.plain (OpenSpec.ofChange jsonParsesSpec)) jsonParsesCard

/-- THE TIED CARD OF 'stairwelllaw.OwnerApplies'. -/
def ownerAppliesCard : Claim7 := { stood := { row := ownerAppliesRow, standIns := [], harness := (true, "18d8ccb3981f5afa1e88f1bd60bfbcc3b1b1b79f962f2314d45a10a21cbc2e0f"), looks := true }, kinds := [], alts := [], laidByText := true, laidKinds := [.data, .data, .data, .data, .sentinel, .sentinel, .pinned], laidTests := true, laidLooks := .later }
def OwnerAppliesCardSaid : Prop := Claim7.holds Tryz.pinned (.plain (OpenSpec.ofChange ownerAppliesSpec)) ownerAppliesCard

/-- THE TIED CARD OF 'stairwellkeep.OwnerOthers'. -/
def ownerOthersCard : Claim7 := { stood := { row := ownerOthersRow, standIns := [], harness := (true, "18d8ccb3981f5afa1e88f1bd60bfbcc3b1b1b79f962f2314d45a10a21cbc2e0f"), looks := true }, kinds := [], alts := [], laidByText := true, laidKinds := [.data, .data, .data, .data, .sentinel, .sentinel, .pinned], laidTests := true, laidLooks := .later }
def OwnerOthersCardSaid : Prop := Claim7.holds Tryz.pinned (.plain (OpenSpec.ofChange ownerOthersSpec)) ownerOthersCard

/-- THE TIED CARD OF 'stairwelllaw.OwnerTells'. -/
def ownerTellsCard : Claim7 := { stood := { row := ownerTellsRow, standIns := [], harness := (true, "18d8ccb3981f5afa1e88f1bd60bfbcc3b1b1b79f962f2314d45a10a21cbc2e0f"), looks := true }, kinds := [], alts := [], laidByText := true, laidKinds := [.data, .data, .data, .data, .sentinel, .sentinel, .pinned], laidTests := true, laidLooks := .later }
def OwnerTellsCardSaid : Prop := Claim7.holds Tryz.pinned (.plain (OpenSpec.ofChange ownerTellsSpec)) ownerTellsCard

/-- THE TIED CARD OF 'stairwellkeep.OwnerHas'. -/
def ownerHasCard : Claim7 := { stood := { row := ownerHasRow, standIns := [], harness := (true, "18d8ccb3981f5afa1e88f1bd60bfbcc3b1b1b79f962f2314d45a10a21cbc2e0f"), looks := true }, kinds := [], alts := [], laidByText := true, laidKinds := [.data, .data, .data, .data, .sentinel, .sentinel, .pinned], laidTests := true, laidLooks := .later }
def OwnerHasCardSaid : Prop := Claim7.holds Tryz.pinned (.plain (OpenSpec.ofChange ownerHasSpec)) ownerHasCard

/-- THE TIED CARD OF 'stairwellkeep.OwnerLeaves'. -/
def ownerLeavesCard : Claim7 := { stood := { row := ownerLeavesRow, standIns := [], harness := (true, "18d8ccb3981f5afa1e88f1bd60bfbcc3b1b1b79f962f2314d45a10a21cbc2e0f"), looks := true }, kinds := [], alts := [], laidByText := true, laidKinds := [.data, .data, .data, .data, .sentinel, .sentinel, .pinned], laidTests := true, laidLooks := .later }
def OwnerLeavesCardSaid : Prop := Claim7.holds Tryz.pinned (.plain (OpenSpec.ofChange ownerLeavesSpec)) ownerLeavesCard

/-- THE SECOND FORM's CARD OF 'stairwelllaw.JsonParses'. -/
def jsonParsesUptoCard : Claim7 := { stood := { row := jsonParsesUptoRow, standIns := [], harness := (true, "18d8ccb3981f5afa1e88f1bd60bfbcc3b1b1b79f962f2314d45a10a21cbc2e0f"), looks := true }, kinds := [], alts := [], laidByText := true, laidKinds := [.data, .data, .data, .data, .sentinel, .sentinel, .pinned], laidTests := true, laidLooks := .later }
def JsonParsesUptoCardSaid : Prop := Claim7.holds Tryz.pinned (.plain (OpenSpec.upto jsonParsesSpec)) jsonParsesUptoCard

/-- THE SECOND FORM's CARD OF 'stairwelllaw.OwnerApplies'. -/
def ownerAppliesUptoCard : Claim7 := { stood := { row := ownerAppliesUptoRow, standIns := [], harness := (true, "18d8ccb3981f5afa1e88f1bd60bfbcc3b1b1b79f962f2314d45a10a21cbc2e0f"), looks := true }, kinds := [], alts := [], laidByText := true, laidKinds := [.data, .data, .data, .data, .sentinel, .sentinel, .pinned], laidTests := true, laidLooks := .later }
def OwnerAppliesUptoCardSaid : Prop := Claim7.holds Tryz.pinned (.plain (OpenSpec.upto ownerAppliesSpec)) ownerAppliesUptoCard

/-- THE SECOND FORM's CARD OF 'stairwellkeep.OwnerOthers'. -/
def ownerOthersUptoCard : Claim7 := { stood := { row := ownerOthersUptoRow, standIns := [], harness := (true, "18d8ccb3981f5afa1e88f1bd60bfbcc3b1b1b79f962f2314d45a10a21cbc2e0f"), looks := true }, kinds := [], alts := [], laidByText := true, laidKinds := [.data, .data, .data, .data, .sentinel, .sentinel, .pinned], laidTests := true, laidLooks := .later }
def OwnerOthersUptoCardSaid : Prop := Claim7.holds Tryz.pinned (.plain (OpenSpec.upto ownerOthersSpec)) ownerOthersUptoCard

/-- THE SECOND FORM's CARD OF 'stairwelllaw.OwnerTells'. -/
def ownerTellsUptoCard : Claim7 := { stood := { row := ownerTellsUptoRow, standIns := [], harness := (true, "18d8ccb3981f5afa1e88f1bd60bfbcc3b1b1b79f962f2314d45a10a21cbc2e0f"), looks := true }, kinds := [], alts := [], laidByText := true, laidKinds := [.data, .data, .data, .data, .sentinel, .sentinel, .pinned], laidTests := true, laidLooks := .later }
def OwnerTellsUptoCardSaid : Prop := Claim7.holds Tryz.pinned (.plain (OpenSpec.upto ownerTellsSpec)) ownerTellsUptoCard

/-- THE SECOND FORM's CARD OF 'stairwellkeep.OwnerHas'. -/
def ownerHasUptoCard : Claim7 := { stood := { row := ownerHasUptoRow, standIns := [], harness := (true, "18d8ccb3981f5afa1e88f1bd60bfbcc3b1b1b79f962f2314d45a10a21cbc2e0f"), looks := true }, kinds := [], alts := [], laidByText := true, laidKinds := [.data, .data, .data, .data, .sentinel, .sentinel, .pinned], laidTests := true, laidLooks := .later }
def OwnerHasUptoCardSaid : Prop := Claim7.holds Tryz.pinned (.plain (OpenSpec.upto ownerHasSpec)) ownerHasUptoCard

/-- THE SECOND FORM's CARD OF 'stairwellkeep.OwnerLeaves'. -/
def ownerLeavesUptoCard : Claim7 := { stood := { row := ownerLeavesUptoRow, standIns := [], harness := (true, "18d8ccb3981f5afa1e88f1bd60bfbcc3b1b1b79f962f2314d45a10a21cbc2e0f"), looks := true }, kinds := [], alts := [], laidByText := true, laidKinds := [.data, .data, .data, .data, .sentinel, .sentinel, .pinned], laidTests := true, laidLooks := .later }
def OwnerLeavesUptoCardSaid : Prop := Claim7.holds Tryz.pinned (.plain (OpenSpec.upto ownerLeavesSpec)) ownerLeavesUptoCard
end Rows
end Go.Proofs.YtjibdbnpkfghhaaGreatDoor
