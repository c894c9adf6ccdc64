/-
  DERIVED. GIVEN WITH THE SEED: THE CARDS: each row of YtnbappeiebameaaGreatDoorRows.lean that lists a variable, with what it lists TIED to the program's text (the seventh form; the later family's looks); each row that meets fmt, with fmt's text TOLD by the authors' own Lean function (tested against real Go, not proved from fmt's source: count such statements apart). THE CARD IS WHAT COUNTS. Prove the row's statement (the work); the ties are given (YtnbappeiebameaaGreatDoorTie.lean); close each card by the builder's one call (the guide's Derived/Test/ToyasCard.lean, 'card_holds'). Laid BY PROGRAM, IN A SANDBOX (cutbox-door.mjs). By AI agents, Wed Nov 11 2026. No macro, syntax, notation, axiom, sorry.
-/
import Derived.Test.YtnbappeiebameaaGreatDoorRows
import GoSem.ClaimSeven
namespace Go.Proofs.YtnbappeiebameaaGreatDoor
namespace Rows

/-- THE TIED CARD OF 'stairwelllaw.PointDoes'. -/
def pointDoesCard : Claim7 := { stood := { row := pointDoesRow, standIns := [], harness := (true, "22bdbb95815270cc1c929999c2bfcf42974a3802c83aa916b0b8ca67145e028f"), looks := true }, kinds := [], alts := [], laidByText := true, laidKinds := [.data, .data, .data, .data, .sentinel, .sentinel, .pinned], laidTests := true, laidLooks := .later }
def PointDoesCardSaid : Prop := Claim7.holds Tryz.pinned (.plain (OpenSpec.ofChange pointDoesSpec)) pointDoesCard

/-- THE TIED CARD OF 'stairwelllaw.JsonParses'. -/
def jsonParsesCard : Claim7 := { stood := { row := jsonParsesRow, standIns := [], harness := (true, "22bdbb95815270cc1c929999c2bfcf42974a3802c83aa916b0b8ca67145e028f"), looks := true }, kinds := [], alts := [], laidByText := true, laidKinds := [.data, .data, .data, .data, .sentinel, .sentinel, .pinned], laidTests := true, laidLooks := .later }
def JsonParsesCardSaid : Prop := Claim7.holds Tryz.pinned (.plain (OpenSpec.ofChange jsonParsesSpec)) jsonParsesCard

/-- THE TIED CARD OF 'stairwelllaw.JsonPrints'. -/
def jsonPrintsCard : Claim7 := { stood := { row := jsonPrintsRow, standIns := [], harness := (true, "22bdbb95815270cc1c929999c2bfcf42974a3802c83aa916b0b8ca67145e028f"), looks := true }, kinds := [], alts := [], laidByText := true, laidKinds := [.data, .data, .data, .data, .sentinel, .sentinel, .pinned], laidTests := true, laidLooks := .later }
def JsonPrintsCardSaid : Prop := Claim7.holds Tryz.pinned (.plain (OpenSpec.ofChange jsonPrintsSpec)) jsonPrintsCard

/-- THE TIED CARD OF 'stairwelllaw.JsonMembers'. -/
def jsonMembersCard : Claim7 := { stood := { row := jsonMembersRow, standIns := [], harness := (true, "22bdbb95815270cc1c929999c2bfcf42974a3802c83aa916b0b8ca67145e028f"), looks := true }, kinds := [], alts := [], laidByText := true, laidKinds := [.data, .data, .data, .data, .sentinel, .sentinel, .pinned], laidTests := true, laidLooks := .later }
def JsonMembersCardSaid : Prop := Claim7.holds Tryz.pinned (.plain (OpenSpec.ofChange jsonMembersSpec)) jsonMembersCard

/-- THE TIED CARD OF 'stairwelllaw.PatchDoes'. -/
def patchDoesCard : Claim7 := { stood := { row := patchDoesRow, standIns := [], harness := (true, "22bdbb95815270cc1c929999c2bfcf42974a3802c83aa916b0b8ca67145e028f"), looks := true }, kinds := [], alts := [], laidByText := true, laidKinds := [.data, .data, .data, .data, .sentinel, .sentinel, .pinned], laidTests := true, laidLooks := .later }
def PatchDoesCardSaid : Prop := Claim7.holds Tryz.pinned (.plain (OpenSpec.ofChange patchDoesSpec)) patchDoesCard

/-- THE TIED CARD OF 'stairwellkeep.PatchParts'. -/
def patchPartsCard : Claim7 := { stood := { row := patchPartsRow, standIns := [], harness := (true, "22bdbb95815270cc1c929999c2bfcf42974a3802c83aa916b0b8ca67145e028f"), looks := true }, kinds := [], alts := [], laidByText := true, laidKinds := [.data, .data, .data, .data, .sentinel, .sentinel, .pinned], laidTests := true, laidLooks := .later }
def PatchPartsCardSaid : Prop := Claim7.holds Tryz.pinned (.plain (OpenSpec.ofChange patchPartsSpec)) patchPartsCard

/-- THE TIED CARD OF 'stairwelllaw.PatchReads'. -/
def patchReadsCard : Claim7 := { stood := { row := patchReadsRow, standIns := [], harness := (true, "22bdbb95815270cc1c929999c2bfcf42974a3802c83aa916b0b8ca67145e028f"), looks := true }, kinds := [], alts := [], laidByText := true, laidKinds := [.data, .data, .data, .data, .sentinel, .sentinel, .data, .pinned], laidTests := true, laidLooks := .later }
def PatchReadsCardSaid : Prop := Claim7.holds Tryz.pinned (.plain (OpenSpec.ofChange patchReadsSpec)) patchReadsCard

/-- THE TIED CARD OF 'stairwelllaw.MergeDoes'. -/
def mergeDoesCard : Claim7 := { stood := { row := mergeDoesRow, standIns := [], harness := (true, "22bdbb95815270cc1c929999c2bfcf42974a3802c83aa916b0b8ca67145e028f"), looks := true }, kinds := [], alts := [], laidByText := true, laidKinds := [.data, .data, .data, .data, .sentinel, .sentinel, .pinned], laidTests := true, laidLooks := .later }
def MergeDoesCardSaid : Prop := Claim7.holds Tryz.pinned (.plain (OpenSpec.ofChange mergeDoesSpec)) mergeDoesCard

/-- THE TIED CARD OF 'stairwellkeep.OwnerOthers'. -/
def ownerOthersCard : Claim7 := { stood := { row := ownerOthersRow, standIns := [], harness := (true, "22bdbb95815270cc1c929999c2bfcf42974a3802c83aa916b0b8ca67145e028f"), looks := true }, kinds := [], alts := [], laidByText := true, laidKinds := [.data, .data, .data, .data, .sentinel, .sentinel, .pinned], laidTests := true, laidLooks := .later }
def OwnerOthersCardSaid : Prop := Claim7.holds Tryz.pinned (.plain (OpenSpec.ofChange ownerOthersSpec)) ownerOthersCard

/-- THE TIED CARD OF 'stairwellkeep.OwnerHas'. -/
def ownerHasCard : Claim7 := { stood := { row := ownerHasRow, standIns := [], harness := (true, "22bdbb95815270cc1c929999c2bfcf42974a3802c83aa916b0b8ca67145e028f"), looks := true }, kinds := [], alts := [], laidByText := true, laidKinds := [.data, .data, .data, .data, .sentinel, .sentinel, .pinned], laidTests := true, laidLooks := .later }
def OwnerHasCardSaid : Prop := Claim7.holds Tryz.pinned (.plain (OpenSpec.ofChange ownerHasSpec)) ownerHasCard

/-- THE TIED CARD OF 'stairwellkeep.OwnerLeaves'. -/
def ownerLeavesCard : Claim7 := { stood := { row := ownerLeavesRow, standIns := [], harness := (true, "22bdbb95815270cc1c929999c2bfcf42974a3802c83aa916b0b8ca67145e028f"), looks := true }, kinds := [], alts := [], laidByText := true, laidKinds := [.data, .data, .data, .data, .sentinel, .sentinel, .pinned], laidTests := true, laidLooks := .later }
def OwnerLeavesCardSaid : Prop := Claim7.holds Tryz.pinned (.plain (OpenSpec.ofChange ownerLeavesSpec)) ownerLeavesCard

/-- THE TIED CARD OF 'stairwelllaw.ServerNil'. -/
def serverNilCard : Claim7 := { stood := { row := serverNilRow, standIns := [], harness := (true, "22bdbb95815270cc1c929999c2bfcf42974a3802c83aa916b0b8ca67145e028f"), looks := true }, kinds := [], alts := [], laidByText := true, laidKinds := [.data, .data, .data, .data, .sentinel, .sentinel, .data, .pinned], laidTests := true, laidLooks := .later }
def ServerNilCardSaid : Prop := Claim7.holds Tryz.pinned (.plain (OpenSpec.ofChange serverNilSpec)) serverNilCard

/-- THE SECOND FORM's CARD OF 'stairwelllaw.PointDoes'. -/
def pointDoesUptoCard : Claim7 := { stood := { row := pointDoesUptoRow, standIns := [], harness := (true, "22bdbb95815270cc1c929999c2bfcf42974a3802c83aa916b0b8ca67145e028f"), looks := true }, kinds := [], alts := [], laidByText := true, laidKinds := [.data, .data, .data, .data, .sentinel, .sentinel, .pinned], laidTests := true, laidLooks := .later }
def PointDoesUptoCardSaid : Prop := Claim7.holds Tryz.pinned (.plain (OpenSpec.upto pointDoesSpec)) pointDoesUptoCard

/-- THE SECOND FORM's CARD OF 'stairwelllaw.JsonParses'. -/
def jsonParsesUptoCard : Claim7 := { stood := { row := jsonParsesUptoRow, standIns := [], harness := (true, "22bdbb95815270cc1c929999c2bfcf42974a3802c83aa916b0b8ca67145e028f"), looks := true }, kinds := [], alts := [], laidByText := true, laidKinds := [.data, .data, .data, .data, .sentinel, .sentinel, .pinned], laidTests := true, laidLooks := .later }
def JsonParsesUptoCardSaid : Prop := Claim7.holds Tryz.pinned (.plain (OpenSpec.upto jsonParsesSpec)) jsonParsesUptoCard

/-- THE SECOND FORM's CARD OF 'stairwelllaw.JsonPrints'. -/
def jsonPrintsUptoCard : Claim7 := { stood := { row := jsonPrintsUptoRow, standIns := [], harness := (true, "22bdbb95815270cc1c929999c2bfcf42974a3802c83aa916b0b8ca67145e028f"), looks := true }, kinds := [], alts := [], laidByText := true, laidKinds := [.data, .data, .data, .data, .sentinel, .sentinel, .pinned], laidTests := true, laidLooks := .later }
def JsonPrintsUptoCardSaid : Prop := Claim7.holds Tryz.pinned (.plain (OpenSpec.upto jsonPrintsSpec)) jsonPrintsUptoCard

/-- THE SECOND FORM's CARD OF 'stairwelllaw.JsonMembers'. -/
def jsonMembersUptoCard : Claim7 := { stood := { row := jsonMembersUptoRow, standIns := [], harness := (true, "22bdbb95815270cc1c929999c2bfcf42974a3802c83aa916b0b8ca67145e028f"), looks := true }, kinds := [], alts := [], laidByText := true, laidKinds := [.data, .data, .data, .data, .sentinel, .sentinel, .pinned], laidTests := true, laidLooks := .later }
def JsonMembersUptoCardSaid : Prop := Claim7.holds Tryz.pinned (.plain (OpenSpec.upto jsonMembersSpec)) jsonMembersUptoCard

/-- THE SECOND FORM's CARD OF 'stairwelllaw.PatchDoes'. -/
def patchDoesUptoCard : Claim7 := { stood := { row := patchDoesUptoRow, standIns := [], harness := (true, "22bdbb95815270cc1c929999c2bfcf42974a3802c83aa916b0b8ca67145e028f"), looks := true }, kinds := [], alts := [], laidByText := true, laidKinds := [.data, .data, .data, .data, .sentinel, .sentinel, .pinned], laidTests := true, laidLooks := .later }
def PatchDoesUptoCardSaid : Prop := Claim7.holds Tryz.pinned (.plain (OpenSpec.upto patchDoesSpec)) patchDoesUptoCard

/-- THE SECOND FORM's CARD OF 'stairwellkeep.PatchParts'. -/
def patchPartsUptoCard : Claim7 := { stood := { row := patchPartsUptoRow, standIns := [], harness := (true, "22bdbb95815270cc1c929999c2bfcf42974a3802c83aa916b0b8ca67145e028f"), looks := true }, kinds := [], alts := [], laidByText := true, laidKinds := [.data, .data, .data, .data, .sentinel, .sentinel, .pinned], laidTests := true, laidLooks := .later }
def PatchPartsUptoCardSaid : Prop := Claim7.holds Tryz.pinned (.plain (OpenSpec.upto patchPartsSpec)) patchPartsUptoCard

/-- THE SECOND FORM's CARD OF 'stairwelllaw.PatchReads'. -/
def patchReadsUptoCard : Claim7 := { stood := { row := patchReadsUptoRow, standIns := [], harness := (true, "22bdbb95815270cc1c929999c2bfcf42974a3802c83aa916b0b8ca67145e028f"), looks := true }, kinds := [], alts := [], laidByText := true, laidKinds := [.data, .data, .data, .data, .sentinel, .sentinel, .data, .pinned], laidTests := true, laidLooks := .later }
def PatchReadsUptoCardSaid : Prop := Claim7.holds Tryz.pinned (.plain (OpenSpec.upto patchReadsSpec)) patchReadsUptoCard

/-- THE SECOND FORM's CARD OF 'stairwelllaw.MergeDoes'. -/
def mergeDoesUptoCard : Claim7 := { stood := { row := mergeDoesUptoRow, standIns := [], harness := (true, "22bdbb95815270cc1c929999c2bfcf42974a3802c83aa916b0b8ca67145e028f"), looks := true }, kinds := [], alts := [], laidByText := true, laidKinds := [.data, .data, .data, .data, .sentinel, .sentinel, .pinned], laidTests := true, laidLooks := .later }
def MergeDoesUptoCardSaid : Prop := Claim7.holds Tryz.pinned (.plain (OpenSpec.upto mergeDoesSpec)) mergeDoesUptoCard

/-- THE SECOND FORM's CARD OF 'stairwellkeep.OwnerOthers'. -/
def ownerOthersUptoCard : Claim7 := { stood := { row := ownerOthersUptoRow, standIns := [], harness := (true, "22bdbb95815270cc1c929999c2bfcf42974a3802c83aa916b0b8ca67145e028f"), looks := true }, kinds := [], alts := [], laidByText := true, laidKinds := [.data, .data, .data, .data, .sentinel, .sentinel, .pinned], laidTests := true, laidLooks := .later }
def OwnerOthersUptoCardSaid : Prop := Claim7.holds Tryz.pinned (.plain (OpenSpec.upto ownerOthersSpec)) ownerOthersUptoCard

/-- THE SECOND FORM's CARD OF 'stairwellkeep.OwnerHas'. -/
def ownerHasUptoCard : Claim7 := { stood := { row := ownerHasUptoRow, standIns := [], harness := (true, "22bdbb95815270cc1c929999c2bfcf42974a3802c83aa916b0b8ca67145e028f"), looks := true }, kinds := [], alts := [], laidByText := true, laidKinds := [.data, .data, .data, .data, .sentinel, .sentinel, .pinned], laidTests := true, laidLooks := .later }
def OwnerHasUptoCardSaid : Prop := Claim7.holds Tryz.pinned (.plain (OpenSpec.upto ownerHasSpec)) ownerHasUptoCard

/-- THE SECOND FORM's CARD OF 'stairwellkeep.OwnerLeaves'. -/
def ownerLeavesUptoCard : Claim7 := { stood := { row := ownerLeavesUptoRow, standIns := [], harness := (true, "22bdbb95815270cc1c929999c2bfcf42974a3802c83aa916b0b8ca67145e028f"), looks := true }, kinds := [], alts := [], laidByText := true, laidKinds := [.data, .data, .data, .data, .sentinel, .sentinel, .pinned], laidTests := true, laidLooks := .later }
def OwnerLeavesUptoCardSaid : Prop := Claim7.holds Tryz.pinned (.plain (OpenSpec.upto ownerLeavesSpec)) ownerLeavesUptoCard

/-- THE SECOND FORM's CARD OF 'stairwelllaw.ServerNil'. -/
def serverNilUptoCard : Claim7 := { stood := { row := serverNilUptoRow, standIns := [], harness := (true, "22bdbb95815270cc1c929999c2bfcf42974a3802c83aa916b0b8ca67145e028f"), looks := true }, kinds := [], alts := [], laidByText := true, laidKinds := [.data, .data, .data, .data, .sentinel, .sentinel, .data, .pinned], laidTests := true, laidLooks := .later }
def ServerNilUptoCardSaid : Prop := Claim7.holds Tryz.pinned (.plain (OpenSpec.upto serverNilSpec)) serverNilUptoCard
end Rows
end Go.Proofs.YtnbappeiebameaaGreatDoor
