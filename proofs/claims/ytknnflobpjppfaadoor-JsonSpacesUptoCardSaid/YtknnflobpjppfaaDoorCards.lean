/-
  DERIVED. GIVEN WITH THE SEED: THE CARDS: each row of YtknnflobpjppfaaDoorRows.lean that lists a variable, with what it lists TIED to the program's text (the seventh form; the later family's looks); each row that meets fmt, with fmt's text TOLD by the authors' own Lean function (tested against real Go, not proved from fmt's source: count such statements apart). THE CARD IS WHAT COUNTS. Prove the row's statement (the work); the ties are given (YtknnflobpjppfaaDoorTie.lean); close each card by the builder's one call (the guide's Derived/Test/ToyasCard.lean, 'card_holds'). Laid BY PROGRAM, IN A SANDBOX (cutbox-door.mjs). By AI agents, Wed Nov 11 2026. No macro, syntax, notation, axiom, sorry.
-/
import Derived.Test.YtknnflobpjppfaaDoorRows
import GoSem.ClaimSeven
namespace Go.Proofs.YtknnflobpjppfaaDoor
namespace Rows

/-- THE TIED CARD OF 'stairwelllaw.PointSplits'. -/
def pointSplitsCard : Claim7 := { stood := { row := pointSplitsRow, standIns := [], harness := (true, "b5cc3a0a662d79c37dd0c126120494213ac03b3a552c74b48aa1fe017c5e82de"), looks := true }, kinds := [], alts := [], laidByText := true, laidKinds := [.data, .data, .data, .data, .sentinel, .sentinel, .pinned], laidTests := true, laidLooks := .later }
def PointSplitsCardSaid : Prop := Claim7.holds Tryd.pinned (.plain (OpenSpec.ofChange pointSplitsSpec)) pointSplitsCard

/-- THE TIED CARD OF 'stairwellkeep.PointBack'. -/
def pointBackCard : Claim7 := { stood := { row := pointBackRow, standIns := [], harness := (true, "b5cc3a0a662d79c37dd0c126120494213ac03b3a552c74b48aa1fe017c5e82de"), looks := true }, kinds := [], alts := [], laidByText := true, laidKinds := [.data, .data, .data, .data, .sentinel, .sentinel, .pinned], laidTests := true, laidLooks := .later }
def PointBackCardSaid : Prop := Claim7.holds Tryd.pinned (.plain (OpenSpec.ofChange pointBackSpec)) pointBackCard

/-- THE TIED CARD OF 'stairwellkeep.PointAdds'. -/
def pointAddsCard : Claim7 := { stood := { row := pointAddsRow, standIns := [], harness := (true, "b5cc3a0a662d79c37dd0c126120494213ac03b3a552c74b48aa1fe017c5e82de"), looks := true }, kinds := [], alts := [], laidByText := true, laidKinds := [.data, .data, .data, .data, .sentinel, .sentinel, .pinned], laidTests := true, laidLooks := .later }
def PointAddsCardSaid : Prop := Claim7.holds Tryd.pinned (.plain (OpenSpec.ofChange pointAddsSpec)) pointAddsCard

/-- THE TIED CARD OF 'stairwellkeep.PointUndoes'. -/
def pointUndoesCard : Claim7 := { stood := { row := pointUndoesRow, standIns := [], harness := (true, "b5cc3a0a662d79c37dd0c126120494213ac03b3a552c74b48aa1fe017c5e82de"), looks := true }, kinds := [], alts := [], laidByText := true, laidKinds := [.data, .data, .data, .data, .sentinel, .sentinel, .pinned], laidTests := true, laidLooks := .later }
def PointUndoesCardSaid : Prop := Claim7.holds Tryd.pinned (.plain (OpenSpec.ofChange pointUndoesSpec)) pointUndoesCard

/-- THE TIED CARD OF 'stairwellkeep.JsonBack'. -/
def jsonBackCard : Claim7 := { stood := { row := jsonBackRow, standIns := [], harness := (true, "b5cc3a0a662d79c37dd0c126120494213ac03b3a552c74b48aa1fe017c5e82de"), looks := true }, kinds := [], alts := [], laidByText := true, laidKinds := [.data, .data, .data, .data, .sentinel, .sentinel, .pinned], laidTests := true, laidLooks := .later }
def JsonBackCardSaid : Prop := Claim7.holds Tryd.pinned (.plain (OpenSpec.ofChange jsonBackSpec)) jsonBackCard

/-- THE TIED CARD OF 'stairwellkeep.JsonOnce'. -/
def jsonOnceCard : Claim7 := { stood := { row := jsonOnceRow, standIns := [], harness := (true, "b5cc3a0a662d79c37dd0c126120494213ac03b3a552c74b48aa1fe017c5e82de"), looks := true }, kinds := [], alts := [], laidByText := true, laidKinds := [.data, .data, .data, .data, .sentinel, .sentinel, .pinned], laidTests := true, laidLooks := .later }
def JsonOnceCardSaid : Prop := Claim7.holds Tryd.pinned (.plain (OpenSpec.ofChange jsonOnceSpec)) jsonOnceCard

/-- THE TIED CARD OF 'stairwellkeep.JsonSpaces'. -/
def jsonSpacesCard : Claim7 := { stood := { row := jsonSpacesRow, standIns := [], harness := (true, "b5cc3a0a662d79c37dd0c126120494213ac03b3a552c74b48aa1fe017c5e82de"), looks := true }, kinds := [], alts := [], laidByText := true, laidKinds := [.data, .data, .data, .data, .sentinel, .sentinel, .pinned], laidTests := true, laidLooks := .later }
def JsonSpacesCardSaid : Prop := Claim7.holds Tryd.pinned (.plain (OpenSpec.ofChange jsonSpacesSpec)) jsonSpacesCard

/-- THE TIED CARD OF 'stairwellkeep.JsonParts'. -/
def jsonPartsCard : Claim7 := { stood := { row := jsonPartsRow, standIns := [], harness := (true, "b5cc3a0a662d79c37dd0c126120494213ac03b3a552c74b48aa1fe017c5e82de"), looks := true }, kinds := [], alts := [], laidByText := true, laidKinds := [.data, .data, .data, .data, .sentinel, .sentinel, .pinned], laidTests := true, laidLooks := .later }
def JsonPartsCardSaid : Prop := Claim7.holds Tryd.pinned (.plain (OpenSpec.ofChange jsonPartsSpec)) jsonPartsCard

/-- THE SECOND FORM's CARD OF 'stairwelllaw.PointSplits'. -/
def pointSplitsUptoCard : Claim7 := { stood := { row := pointSplitsUptoRow, standIns := [], harness := (true, "b5cc3a0a662d79c37dd0c126120494213ac03b3a552c74b48aa1fe017c5e82de"), looks := true }, kinds := [], alts := [], laidByText := true, laidKinds := [.data, .data, .data, .data, .sentinel, .sentinel, .pinned], laidTests := true, laidLooks := .later }
def PointSplitsUptoCardSaid : Prop := Claim7.holds Tryd.pinned (.plain (OpenSpec.upto pointSplitsSpec)) pointSplitsUptoCard

/-- THE SECOND FORM's CARD OF 'stairwellkeep.PointBack'. -/
def pointBackUptoCard : Claim7 := { stood := { row := pointBackUptoRow, standIns := [], harness := (true, "b5cc3a0a662d79c37dd0c126120494213ac03b3a552c74b48aa1fe017c5e82de"), looks := true }, kinds := [], alts := [], laidByText := true, laidKinds := [.data, .data, .data, .data, .sentinel, .sentinel, .pinned], laidTests := true, laidLooks := .later }
def PointBackUptoCardSaid : Prop := Claim7.holds Tryd.pinned (.plain (OpenSpec.upto pointBackSpec)) pointBackUptoCard

/-- THE SECOND FORM's CARD OF 'stairwellkeep.PointAdds'. -/
def pointAddsUptoCard : Claim7 := { stood := { row := pointAddsUptoRow, standIns := [], harness := (true, "b5cc3a0a662d79c37dd0c126120494213ac03b3a552c74b48aa1fe017c5e82de"), looks := true }, kinds := [], alts := [], laidByText := true, laidKinds := [.data, .data, .data, .data, .sentinel, .sentinel, .pinned], laidTests := true, laidLooks := .later }
def PointAddsUptoCardSaid : Prop := Claim7.holds Tryd.pinned (.plain (OpenSpec.upto pointAddsSpec)) pointAddsUptoCard

/-- THE SECOND FORM's CARD OF 'stairwellkeep.PointUndoes'. -/
def pointUndoesUptoCard : Claim7 := { stood := { row := pointUndoesUptoRow, standIns := [], harness := (true, "b5cc3a0a662d79c37dd0c126120494213ac03b3a552c74b48aa1fe017c5e82de"), looks := true }, kinds := [], alts := [], laidByText := true, laidKinds := [.data, .data, .data, .data, .sentinel, .sentinel, .pinned], laidTests := true, laidLooks := .later }
def PointUndoesUptoCardSaid : Prop := Claim7.holds Tryd.pinned (.plain (OpenSpec.upto pointUndoesSpec)) pointUndoesUptoCard

/-- THE SECOND FORM's CARD OF 'stairwellkeep.JsonBack'. -/
def jsonBackUptoCard : Claim7 := { stood := { row := jsonBackUptoRow, standIns := [], harness := (true, "b5cc3a0a662d79c37dd0c126120494213ac03b3a552c74b48aa1fe017c5e82de"), looks := true }, kinds := [], alts := [], laidByText := true, laidKinds := [.data, .data, .data, .data, .sentinel, .sentinel, .pinned], laidTests := true, laidLooks := .later }
def JsonBackUptoCardSaid : Prop := Claim7.holds Tryd.pinned (.plain (OpenSpec.upto jsonBackSpec)) jsonBackUptoCard

/-- THE SECOND FORM's CARD OF 'stairwellkeep.JsonOnce'. -/
def jsonOnceUptoCard : Claim7 := { stood := { row := jsonOnceUptoRow, standIns := [], harness := (true, "b5cc3a0a662d79c37dd0c126120494213ac03b3a552c74b48aa1fe017c5e82de"), looks := true }, kinds := [], alts := [], laidByText := true, laidKinds := [.data, .data, .data, .data, .sentinel, .sentinel, .pinned], laidTests := true, laidLooks := .later }
def JsonOnceUptoCardSaid : Prop := Claim7.holds Tryd.pinned (.plain (OpenSpec.upto jsonOnceSpec)) jsonOnceUptoCard

/-- THE SECOND FORM's CARD OF 'stairwellkeep.JsonSpaces'. -/
def jsonSpacesUptoCard : Claim7 := { stood := { row := jsonSpacesUptoRow, standIns := [], harness := (true, "b5cc3a0a662d79c37dd0c126120494213ac03b3a552c74b48aa1fe017c5e82de"), looks := true }, kinds := [], alts := [], laidByText := true, laidKinds := [.data, .data, .data, .data, .sentinel, .sentinel, .pinned], laidTests := true, laidLooks := .later }
def JsonSpacesUptoCardSaid : Prop := Claim7.holds Tryd.pinned (.plain (OpenSpec.upto jsonSpacesSpec)) jsonSpacesUptoCard

/-- THE SECOND FORM's CARD OF 'stairwellkeep.JsonParts'. -/
def jsonPartsUptoCard : Claim7 := { stood := { row := jsonPartsUptoRow, standIns := [], harness := (true, "b5cc3a0a662d79c37dd0c126120494213ac03b3a552c74b48aa1fe017c5e82de"), looks := true }, kinds := [], alts := [], laidByText := true, laidKinds := [.data, .data, .data, .data, .sentinel, .sentinel, .pinned], laidTests := true, laidLooks := .later }
def JsonPartsUptoCardSaid : Prop := Claim7.holds Tryd.pinned (.plain (OpenSpec.upto jsonPartsSpec)) jsonPartsUptoCard
end Rows
end Go.Proofs.YtknnflobpjppfaaDoor
