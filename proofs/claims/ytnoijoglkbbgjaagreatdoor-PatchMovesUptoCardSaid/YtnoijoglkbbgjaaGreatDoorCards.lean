/-
  DERIVED. GIVEN WITH THE SEED: THE CARDS: each row of YtnoijoglkbbgjaaGreatDoorRows.lean that lists a variable, with what it lists TIED to the program's text (the seventh form; the later family's looks); each row that meets fmt, with fmt's text TOLD by the authors' own Lean function (tested against real Go, not proved from fmt's source: count such statements apart). THE CARD IS WHAT COUNTS. Prove the row's statement (the work); the ties are given (YtnoijoglkbbgjaaGreatDoorTie.lean); close each card by the builder's one call (the guide's Derived/Test/ToyasCard.lean, 'card_holds'). Laid BY PROGRAM, IN A SANDBOX (cutbox-door.mjs). By AI agents, Wed Nov 11 2026. No macro, syntax, notation, axiom, sorry.
-/
import Derived.Test.YtnoijoglkbbgjaaGreatDoorRows
import GoSem.ClaimSeven
namespace Go.Proofs.YtnoijoglkbbgjaaGreatDoor
namespace Rows

/-- THE TIED CARD OF 'stairwellkeep.MergeTwice'. -/
def mergeTwiceCard : Claim7 := { stood := { row := mergeTwiceRow, standIns := [], harness := (true, "8f4be95d33059cc033197adb0115abee42f93ce4854b078866ae0a9300e0aaf1"), looks := true }, kinds := [], alts := [], laidByText := true, laidKinds := [.data, .data, .data, .data, .sentinel, .sentinel, .pinned], laidTests := true, laidLooks := .later }
def MergeTwiceCardSaid : Prop := Claim7.holds Tryz.pinned (.plain (OpenSpec.ofChange mergeTwiceSpec)) mergeTwiceCard

/-- THE TIED CARD OF 'stairwelllaw.PatchDoes'. -/
def patchDoesCard : Claim7 := { stood := { row := patchDoesRow, standIns := [], harness := (true, "8f4be95d33059cc033197adb0115abee42f93ce4854b078866ae0a9300e0aaf1"), looks := true }, kinds := [], alts := [], laidByText := true, laidKinds := [.data, .data, .data, .data, .sentinel, .sentinel, .pinned], laidTests := true, laidLooks := .later }
def PatchDoesCardSaid : Prop := Claim7.holds Tryz.pinned (.plain (OpenSpec.ofChange patchDoesSpec)) patchDoesCard

/-- THE TIED CARD OF 'stairwellkeep.PatchWhole'. -/
def patchWholeCard : Claim7 := { stood := { row := patchWholeRow, standIns := [], harness := (true, "8f4be95d33059cc033197adb0115abee42f93ce4854b078866ae0a9300e0aaf1"), looks := true }, kinds := [], alts := [], laidByText := true, laidKinds := [.data, .data, .data, .data, .sentinel, .sentinel, .pinned], laidTests := true, laidLooks := .later }
def PatchWholeCardSaid : Prop := Claim7.holds Tryz.pinned (.plain (OpenSpec.ofChange patchWholeSpec)) patchWholeCard

/-- THE TIED CARD OF 'stairwellkeep.PatchParts'. -/
def patchPartsCard : Claim7 := { stood := { row := patchPartsRow, standIns := [], harness := (true, "8f4be95d33059cc033197adb0115abee42f93ce4854b078866ae0a9300e0aaf1"), looks := true }, kinds := [], alts := [], laidByText := true, laidKinds := [.data, .data, .data, .data, .sentinel, .sentinel, .pinned], laidTests := true, laidLooks := .later }
def PatchPartsCardSaid : Prop := Claim7.holds Tryz.pinned (.plain (OpenSpec.ofChange patchPartsSpec)) patchPartsCard

/-- THE TIED CARD OF 'stairwellkeep.PatchMoves'. -/
def patchMovesCard : Claim7 := { stood := { row := patchMovesRow, standIns := [], harness := (true, "8f4be95d33059cc033197adb0115abee42f93ce4854b078866ae0a9300e0aaf1"), looks := true }, kinds := [], alts := [], laidByText := true, laidKinds := [.data, .data, .data, .data, .sentinel, .sentinel, .pinned], laidTests := true, laidLooks := .later }
def PatchMovesCardSaid : Prop := Claim7.holds Tryz.pinned (.plain (OpenSpec.ofChange patchMovesSpec)) patchMovesCard

/-- THE TIED CARD OF 'stairwelllaw.PatchReads'. -/
def patchReadsCard : Claim7 := { stood := { row := patchReadsRow, standIns := [], harness := (true, "8f4be95d33059cc033197adb0115abee42f93ce4854b078866ae0a9300e0aaf1"), looks := true }, kinds := [], alts := [], laidByText := true, laidKinds := [.data, .data, .data, .data, .sentinel, .sentinel, .data, .pinned], laidTests := true, laidLooks := .later }
def PatchReadsCardSaid : Prop := Claim7.holds Tryz.pinned (.plain (OpenSpec.ofChange patchReadsSpec)) patchReadsCard

/-- THE TIED CARD OF 'stairwelllaw.MergeDoes'. -/
def mergeDoesCard : Claim7 := { stood := { row := mergeDoesRow, standIns := [], harness := (true, "8f4be95d33059cc033197adb0115abee42f93ce4854b078866ae0a9300e0aaf1"), looks := true }, kinds := [], alts := [], laidByText := true, laidKinds := [.data, .data, .data, .data, .sentinel, .sentinel, .pinned], laidTests := true, laidLooks := .later }
def MergeDoesCardSaid : Prop := Claim7.holds Tryz.pinned (.plain (OpenSpec.ofChange mergeDoesSpec)) mergeDoesCard

/-- THE TIED CARD OF 'stairwellkeep.MergeDiffs'. -/
def mergeDiffsCard : Claim7 := { stood := { row := mergeDiffsRow, standIns := [], harness := (true, "8f4be95d33059cc033197adb0115abee42f93ce4854b078866ae0a9300e0aaf1"), looks := true }, kinds := [], alts := [], laidByText := true, laidKinds := [.data, .data, .data, .data, .sentinel, .sentinel, .pinned], laidTests := true, laidLooks := .later }
def MergeDiffsCardSaid : Prop := Claim7.holds Tryz.pinned (.plain (OpenSpec.ofChange mergeDiffsSpec)) mergeDiffsCard

/-- THE TIED CARD OF 'stairwellkeep.MergeSame'. -/
def mergeSameCard : Claim7 := { stood := { row := mergeSameRow, standIns := [], harness := (true, "8f4be95d33059cc033197adb0115abee42f93ce4854b078866ae0a9300e0aaf1"), looks := true }, kinds := [], alts := [], laidByText := true, laidKinds := [.data, .data, .data, .data, .sentinel, .sentinel, .pinned], laidTests := true, laidLooks := .later }
def MergeSameCardSaid : Prop := Claim7.holds Tryz.pinned (.plain (OpenSpec.ofChange mergeSameSpec)) mergeSameCard

/-- THE TIED CARD OF 'stairwelllaw.ServerNil'. -/
def serverNilCard : Claim7 := { stood := { row := serverNilRow, standIns := [], harness := (true, "8f4be95d33059cc033197adb0115abee42f93ce4854b078866ae0a9300e0aaf1"), looks := true }, kinds := [], alts := [], laidByText := true, laidKinds := [.data, .data, .data, .data, .sentinel, .sentinel, .data, .pinned], laidTests := true, laidLooks := .later }
def ServerNilCardSaid : Prop := Claim7.holds Tryz.pinned (.plain (OpenSpec.ofChange serverNilSpec)) serverNilCard

/-- THE SECOND FORM's CARD OF 'stairwellkeep.MergeTwice'. -/
def mergeTwiceUptoCard : Claim7 := { stood := { row := mergeTwiceUptoRow, standIns := [], harness := (true, "8f4be95d33059cc033197adb0115abee42f93ce4854b078866ae0a9300e0aaf1"), looks := true }, kinds := [], alts := [], laidByText := true, laidKinds := [.data, .data, .data, .data, .sentinel, .sentinel, .pinned], laidTests := true, laidLooks := .later }
def MergeTwiceUptoCardSaid : Prop := Claim7.holds Tryz.pinned (.plain (OpenSpec.upto mergeTwiceSpec)) mergeTwiceUptoCard

/-- THE SECOND FORM's CARD OF 'stairwelllaw.PatchDoes'. -/
def patchDoesUptoCard : Claim7 := { stood := { row := patchDoesUptoRow, standIns := [], harness := (true, "8f4be95d33059cc033197adb0115abee42f93ce4854b078866ae0a9300e0aaf1"), looks := true }, kinds := [], alts := [], laidByText := true, laidKinds := [.data, .data, .data, .data, .sentinel, .sentinel, .pinned], laidTests := true, laidLooks := .later }
def PatchDoesUptoCardSaid : Prop := Claim7.holds Tryz.pinned (.plain (OpenSpec.upto patchDoesSpec)) patchDoesUptoCard

/-- THE SECOND FORM's CARD OF 'stairwellkeep.PatchWhole'. -/
def patchWholeUptoCard : Claim7 := { stood := { row := patchWholeUptoRow, standIns := [], harness := (true, "8f4be95d33059cc033197adb0115abee42f93ce4854b078866ae0a9300e0aaf1"), looks := true }, kinds := [], alts := [], laidByText := true, laidKinds := [.data, .data, .data, .data, .sentinel, .sentinel, .pinned], laidTests := true, laidLooks := .later }
def PatchWholeUptoCardSaid : Prop := Claim7.holds Tryz.pinned (.plain (OpenSpec.upto patchWholeSpec)) patchWholeUptoCard

/-- THE SECOND FORM's CARD OF 'stairwellkeep.PatchParts'. -/
def patchPartsUptoCard : Claim7 := { stood := { row := patchPartsUptoRow, standIns := [], harness := (true, "8f4be95d33059cc033197adb0115abee42f93ce4854b078866ae0a9300e0aaf1"), looks := true }, kinds := [], alts := [], laidByText := true, laidKinds := [.data, .data, .data, .data, .sentinel, .sentinel, .pinned], laidTests := true, laidLooks := .later }
def PatchPartsUptoCardSaid : Prop := Claim7.holds Tryz.pinned (.plain (OpenSpec.upto patchPartsSpec)) patchPartsUptoCard

/-- THE SECOND FORM's CARD OF 'stairwellkeep.PatchMoves'. -/
def patchMovesUptoCard : Claim7 := { stood := { row := patchMovesUptoRow, standIns := [], harness := (true, "8f4be95d33059cc033197adb0115abee42f93ce4854b078866ae0a9300e0aaf1"), looks := true }, kinds := [], alts := [], laidByText := true, laidKinds := [.data, .data, .data, .data, .sentinel, .sentinel, .pinned], laidTests := true, laidLooks := .later }
def PatchMovesUptoCardSaid : Prop := Claim7.holds Tryz.pinned (.plain (OpenSpec.upto patchMovesSpec)) patchMovesUptoCard

/-- THE SECOND FORM's CARD OF 'stairwelllaw.PatchReads'. -/
def patchReadsUptoCard : Claim7 := { stood := { row := patchReadsUptoRow, standIns := [], harness := (true, "8f4be95d33059cc033197adb0115abee42f93ce4854b078866ae0a9300e0aaf1"), looks := true }, kinds := [], alts := [], laidByText := true, laidKinds := [.data, .data, .data, .data, .sentinel, .sentinel, .data, .pinned], laidTests := true, laidLooks := .later }
def PatchReadsUptoCardSaid : Prop := Claim7.holds Tryz.pinned (.plain (OpenSpec.upto patchReadsSpec)) patchReadsUptoCard

/-- THE SECOND FORM's CARD OF 'stairwelllaw.MergeDoes'. -/
def mergeDoesUptoCard : Claim7 := { stood := { row := mergeDoesUptoRow, standIns := [], harness := (true, "8f4be95d33059cc033197adb0115abee42f93ce4854b078866ae0a9300e0aaf1"), looks := true }, kinds := [], alts := [], laidByText := true, laidKinds := [.data, .data, .data, .data, .sentinel, .sentinel, .pinned], laidTests := true, laidLooks := .later }
def MergeDoesUptoCardSaid : Prop := Claim7.holds Tryz.pinned (.plain (OpenSpec.upto mergeDoesSpec)) mergeDoesUptoCard

/-- THE SECOND FORM's CARD OF 'stairwellkeep.MergeDiffs'. -/
def mergeDiffsUptoCard : Claim7 := { stood := { row := mergeDiffsUptoRow, standIns := [], harness := (true, "8f4be95d33059cc033197adb0115abee42f93ce4854b078866ae0a9300e0aaf1"), looks := true }, kinds := [], alts := [], laidByText := true, laidKinds := [.data, .data, .data, .data, .sentinel, .sentinel, .pinned], laidTests := true, laidLooks := .later }
def MergeDiffsUptoCardSaid : Prop := Claim7.holds Tryz.pinned (.plain (OpenSpec.upto mergeDiffsSpec)) mergeDiffsUptoCard

/-- THE SECOND FORM's CARD OF 'stairwellkeep.MergeSame'. -/
def mergeSameUptoCard : Claim7 := { stood := { row := mergeSameUptoRow, standIns := [], harness := (true, "8f4be95d33059cc033197adb0115abee42f93ce4854b078866ae0a9300e0aaf1"), looks := true }, kinds := [], alts := [], laidByText := true, laidKinds := [.data, .data, .data, .data, .sentinel, .sentinel, .pinned], laidTests := true, laidLooks := .later }
def MergeSameUptoCardSaid : Prop := Claim7.holds Tryz.pinned (.plain (OpenSpec.upto mergeSameSpec)) mergeSameUptoCard

/-- THE SECOND FORM's CARD OF 'stairwelllaw.ServerNil'. -/
def serverNilUptoCard : Claim7 := { stood := { row := serverNilUptoRow, standIns := [], harness := (true, "8f4be95d33059cc033197adb0115abee42f93ce4854b078866ae0a9300e0aaf1"), looks := true }, kinds := [], alts := [], laidByText := true, laidKinds := [.data, .data, .data, .data, .sentinel, .sentinel, .data, .pinned], laidTests := true, laidLooks := .later }
def ServerNilUptoCardSaid : Prop := Claim7.holds Tryz.pinned (.plain (OpenSpec.upto serverNilSpec)) serverNilUptoCard
end Rows
end Go.Proofs.YtnoijoglkbbgjaaGreatDoor
