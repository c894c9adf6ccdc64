/-
  DERIVED. GIVEN WITH THE SEED: THE CARDS: each row of YtlcebdaghmdkeaaGreatDoorRows.lean that lists a variable, with what it lists TIED to the program's text (the seventh form; the later family's looks); each row that meets fmt, with fmt's text TOLD by the authors' own Lean function (tested against real Go, not proved from fmt's source: count such statements apart). THE CARD IS WHAT COUNTS. Prove the row's statement (the work); the ties are given (YtlcebdaghmdkeaaGreatDoorTie.lean); close each card by the builder's one call (the guide's Derived/Test/ToyasCard.lean, 'card_holds'). Laid BY PROGRAM, IN A SANDBOX (cutbox-door.mjs). By AI agents, Wed Nov 11 2026. No macro, syntax, notation, axiom, sorry.
-/
import Derived.Test.YtlcebdaghmdkeaaGreatDoorRows
import GoSem.ClaimSeven
namespace Go.Proofs.YtlcebdaghmdkeaaGreatDoor
namespace Rows

/-- THE TIED CARD OF 'stairwelltop.TopRefused'. -/
def topRefusedCard : Claim7 := { stood := { row := topRefusedRow, standIns := [], harness := (true, "5420363bab18ba8f1b57fe031ab3bfb00bd11a223b1811127badedaf518acc1b"), looks := true }, kinds := [], alts := [], laidByText := true, laidKinds := [.data, .data, .data, .data, .sentinel, .sentinel, .data, .pinned], laidTests := true, laidLooks := .later }
def TopRefusedCardSaid : Prop := Claim7.holds Tryz.pinned (.plain (OpenSpec.ofChange topRefusedSpec)) topRefusedCard

/-- THE TIED CARD OF 'stairwelltop.TopOld'. -/
def topOldCard : Claim7 := { stood := { row := topOldRow, standIns := [], harness := (true, "5420363bab18ba8f1b57fe031ab3bfb00bd11a223b1811127badedaf518acc1b"), looks := true }, kinds := [], alts := [], laidByText := true, laidKinds := [.data, .data, .data, .data, .sentinel, .sentinel, .data, .pinned], laidTests := true, laidLooks := .later }
def TopOldCardSaid : Prop := Claim7.holds Tryz.pinned (.plain (OpenSpec.ofChange topOldSpec)) topOldCard

/-- THE TIED CARD OF 'stairwelltop.TopOthers'. -/
def topOthersCard : Claim7 := { stood := { row := topOthersRow, standIns := [], harness := (true, "5420363bab18ba8f1b57fe031ab3bfb00bd11a223b1811127badedaf518acc1b"), looks := true }, kinds := [], alts := [], laidByText := true, laidKinds := [.data, .data, .data, .data, .sentinel, .sentinel, .data, .pinned], laidTests := true, laidLooks := .later }
def TopOthersCardSaid : Prop := Claim7.holds Tryz.pinned (.plain (OpenSpec.ofChange topOthersSpec)) topOthersCard

/-- THE TIED CARD OF 'stairwelltop.TopEnds'. -/
def topEndsCard : Claim7 := { stood := { row := topEndsRow, standIns := [], harness := (true, "5420363bab18ba8f1b57fe031ab3bfb00bd11a223b1811127badedaf518acc1b"), looks := true }, kinds := [], alts := [], laidByText := true, laidKinds := [.data, .data, .data, .data, .sentinel, .sentinel, .data, .pinned], laidTests := true, laidLooks := .later }
def TopEndsCardSaid : Prop := Claim7.holds Tryz.pinned (.plain (OpenSpec.ofChange topEndsSpec)) topEndsCard

/-- THE TIED CARD OF 'stairwelltop.TopRolls'. -/
def topRollsCard : Claim7 := { stood := { row := topRollsRow, standIns := [], harness := (true, "5420363bab18ba8f1b57fe031ab3bfb00bd11a223b1811127badedaf518acc1b"), looks := true }, kinds := [], alts := [], laidByText := true, laidKinds := [.data, .data, .data, .data, .sentinel, .sentinel, .data, .pinned], laidTests := true, laidLooks := .later }
def TopRollsCardSaid : Prop := Claim7.holds Tryz.pinned (.plain (OpenSpec.ofChange topRollsSpec)) topRollsCard

/-- THE TIED CARD OF 'stairwelltop.TopGets'. -/
def topGetsCard : Claim7 := { stood := { row := topGetsRow, standIns := [], harness := (true, "5420363bab18ba8f1b57fe031ab3bfb00bd11a223b1811127badedaf518acc1b"), looks := true }, kinds := [], alts := [], laidByText := true, laidKinds := [.data, .data, .data, .data, .sentinel, .sentinel, .data, .pinned], laidTests := true, laidLooks := .later }
def TopGetsCardSaid : Prop := Claim7.holds Tryz.pinned (.plain (OpenSpec.ofChange topGetsSpec)) topGetsCard

/-- THE SECOND FORM's CARD OF 'stairwelltop.TopRefused'. -/
def topRefusedUptoCard : Claim7 := { stood := { row := topRefusedUptoRow, standIns := [], harness := (true, "5420363bab18ba8f1b57fe031ab3bfb00bd11a223b1811127badedaf518acc1b"), looks := true }, kinds := [], alts := [], laidByText := true, laidKinds := [.data, .data, .data, .data, .sentinel, .sentinel, .data, .pinned], laidTests := true, laidLooks := .later }
def TopRefusedUptoCardSaid : Prop := Claim7.holds Tryz.pinned (.plain (OpenSpec.upto topRefusedSpec)) topRefusedUptoCard

/-- THE SECOND FORM's CARD OF 'stairwelltop.TopOld'. -/
def topOldUptoCard : Claim7 := { stood := { row := topOldUptoRow, standIns := [], harness := (true, "5420363bab18ba8f1b57fe031ab3bfb00bd11a223b1811127badedaf518acc1b"), looks := true }, kinds := [], alts := [], laidByText := true, laidKinds := [.data, .data, .data, .data, .sentinel, .sentinel, .data, .pinned], laidTests := true, laidLooks := .later }
def TopOldUptoCardSaid : Prop := Claim7.holds Tryz.pinned (.plain (OpenSpec.upto topOldSpec)) topOldUptoCard

/-- THE SECOND FORM's CARD OF 'stairwelltop.TopOthers'. -/
def topOthersUptoCard : Claim7 := { stood := { row := topOthersUptoRow, standIns := [], harness := (true, "5420363bab18ba8f1b57fe031ab3bfb00bd11a223b1811127badedaf518acc1b"), looks := true }, kinds := [], alts := [], laidByText := true, laidKinds := [.data, .data, .data, .data, .sentinel, .sentinel, .data, .pinned], laidTests := true, laidLooks := .later }
def TopOthersUptoCardSaid : Prop := Claim7.holds Tryz.pinned (.plain (OpenSpec.upto topOthersSpec)) topOthersUptoCard

/-- THE SECOND FORM's CARD OF 'stairwelltop.TopEnds'. -/
def topEndsUptoCard : Claim7 := { stood := { row := topEndsUptoRow, standIns := [], harness := (true, "5420363bab18ba8f1b57fe031ab3bfb00bd11a223b1811127badedaf518acc1b"), looks := true }, kinds := [], alts := [], laidByText := true, laidKinds := [.data, .data, .data, .data, .sentinel, .sentinel, .data, .pinned], laidTests := true, laidLooks := .later }
def TopEndsUptoCardSaid : Prop := Claim7.holds Tryz.pinned (.plain (OpenSpec.upto topEndsSpec)) topEndsUptoCard

/-- THE SECOND FORM's CARD OF 'stairwelltop.TopRolls'. -/
def topRollsUptoCard : Claim7 := { stood := { row := topRollsUptoRow, standIns := [], harness := (true, "5420363bab18ba8f1b57fe031ab3bfb00bd11a223b1811127badedaf518acc1b"), looks := true }, kinds := [], alts := [], laidByText := true, laidKinds := [.data, .data, .data, .data, .sentinel, .sentinel, .data, .pinned], laidTests := true, laidLooks := .later }
def TopRollsUptoCardSaid : Prop := Claim7.holds Tryz.pinned (.plain (OpenSpec.upto topRollsSpec)) topRollsUptoCard

/-- THE SECOND FORM's CARD OF 'stairwelltop.TopGets'. -/
def topGetsUptoCard : Claim7 := { stood := { row := topGetsUptoRow, standIns := [], harness := (true, "5420363bab18ba8f1b57fe031ab3bfb00bd11a223b1811127badedaf518acc1b"), looks := true }, kinds := [], alts := [], laidByText := true, laidKinds := [.data, .data, .data, .data, .sentinel, .sentinel, .data, .pinned], laidTests := true, laidLooks := .later }
def TopGetsUptoCardSaid : Prop := Claim7.holds Tryz.pinned (.plain (OpenSpec.upto topGetsSpec)) topGetsUptoCard
end Rows
end Go.Proofs.YtlcebdaghmdkeaaGreatDoor
