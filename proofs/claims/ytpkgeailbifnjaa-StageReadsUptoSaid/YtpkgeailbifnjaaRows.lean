/-
  NARROWER THAN 'FOR EVERY INPUT', by the rows' own cells (each row's printed sentence says how): StageReads: loops.
  DERIVED. THE GIVEN ROWS OF THIS SEAT. 7 by the template 'for every input the law returns true; each argument reads behind the call as it read before'; 0 by the template 'total and deterministic' (their statements: YtpkgeailbifnjaaTotals.lean).
  GIVEN WITH THE SEED: the statements are not yours to turn. If you find one false, say at which input.
  Laid BY PROGRAM, IN A SANDBOX (cutbox-rows.mjs): the forced cells as the released guide's own fill.sh prints them over the translation de7e6e7a96bfa0b4… (all of the seat's roots in one cut). By AI agents, Wed Nov 11 2026. No macro, syntax, notation, axiom, sorry.
-/
import Derived.Test.YtpkgeailbifnjaaChecked
import GoSem.Claim
import GoSem.ClaimJoined
import GoSem.ClaimMapViews
import Derived.JoinedTies
import Derived.KernelRfl
namespace Go.Proofs.Ytpkgeailbifnjaa
/- THE CELL 'sum', in the pinned program and in every row, IS THE sha256 OF THE DUMP (.gsa) THAT YtpkgeailbifnjaaProg.lean LOADS. Nothing in Lean hashes anything: it is a label: what it is worth is what the hold of that sum in a sandbox is worth. -/
noncomputable def Try.pinned : Pinned := { name := "ytpkgeailbifnjaa", sum := "de7e6e7a96bfa0b47ca343ead3fadd44e1a4d1eaa5b329e9699552c23eddcd44", checked := Try.checked }
namespace Rows
def none {H : Type} : Left H := { results := [], args := [] }

/-- 'stairwelllaw.Names': WHATEVER THE INPUT: true; the input reads as it did. -/
def namesSpec : ChangeSpec := { name := "names", fn := fun _ => fun
  | [] => { results := [.lit (.bool true)], args := [] }
  | _ => none }
def namesRow : OpenClaim := { program := "ytpkgeailbifnjaa", sum := "de7e6e7a96bfa0b47ca343ead3fadd44e1a4d1eaa5b329e9699552c23eddcd44", func := "stairwell/stairwelllaw.Names", spec := "names", apart := false }
def NamesSaid : Prop := namesRow.holds Try.pinned (OpenSpec.ofChange namesSpec)

/-- ITS FALSE NEIGHBOUR: 'it returns false'. Refute it at one input. -/
def namesWrong : ChangeSpec := { name := "names", fn := fun _ => fun
  | [] => { results := [.lit (.bool false)], args := [] }
  | _ => none }
def NamesWrongFalsely : Prop := namesRow.holds Try.pinned (OpenSpec.ofChange namesWrong)

/-- 'stairwelllaw.StageNexts': WHATEVER THE INPUT: true; the input reads as it did. -/
def stageNextsSpec : ChangeSpec := { name := "stageNexts", fn := fun _ => fun
  | [d1, d2, d3, d4] => { results := [.lit (.bool true)], args := [d1, d2, d3, d4] }
  | _ => none }
def stageNextsRow : OpenClaim := { program := "ytpkgeailbifnjaa", sum := "de7e6e7a96bfa0b47ca343ead3fadd44e1a4d1eaa5b329e9699552c23eddcd44", func := "stairwell/stairwelllaw.StageNexts", spec := "stageNexts", unfollowed := true, recurses := true, apart := false }
def StageNextsSaid : Prop := stageNextsRow.holds Try.pinned (OpenSpec.ofChange stageNextsSpec)

/-- ITS FALSE NEIGHBOUR: 'it returns false'. Refute it at one input. -/
def stageNextsWrong : ChangeSpec := { name := "stageNexts", fn := fun _ => fun
  | [d1, d2, d3, d4] => { results := [.lit (.bool false)], args := [d1, d2, d3, d4] }
  | _ => none }
def StageNextsWrongFalsely : Prop := stageNextsRow.holds Try.pinned (OpenSpec.ofChange stageNextsWrong)

/-- 'stairwellkeep.StageBounds': WHATEVER THE INPUT: true; the input reads as it did. -/
def stageBoundsSpec : ChangeSpec := { name := "stageBounds", fn := fun _ => fun
  | [d1, d2, d3, d4] => { results := [.lit (.bool true)], args := [d1, d2, d3, d4] }
  | _ => none }
def stageBoundsRow : OpenClaim := { program := "ytpkgeailbifnjaa", sum := "de7e6e7a96bfa0b47ca343ead3fadd44e1a4d1eaa5b329e9699552c23eddcd44", func := "stairwell/stairwellkeep.StageBounds", spec := "stageBounds", unfollowed := true, recurses := true, apart := false }
def StageBoundsSaid : Prop := stageBoundsRow.holds Try.pinned (OpenSpec.ofChange stageBoundsSpec)

/-- ITS FALSE NEIGHBOUR: 'it returns false'. Refute it at one input. -/
def stageBoundsWrong : ChangeSpec := { name := "stageBounds", fn := fun _ => fun
  | [d1, d2, d3, d4] => { results := [.lit (.bool false)], args := [d1, d2, d3, d4] }
  | _ => none }
def StageBoundsWrongFalsely : Prop := stageBoundsRow.holds Try.pinned (OpenSpec.ofChange stageBoundsWrong)

/-- 'stairwellkeep.StageOnward': WHATEVER THE INPUT: true; the input reads as it did. -/
def stageOnwardSpec : ChangeSpec := { name := "stageOnward", fn := fun _ => fun
  | [d1, d2, d3, d4] => { results := [.lit (.bool true)], args := [d1, d2, d3, d4] }
  | _ => none }
def stageOnwardRow : OpenClaim := { program := "ytpkgeailbifnjaa", sum := "de7e6e7a96bfa0b47ca343ead3fadd44e1a4d1eaa5b329e9699552c23eddcd44", func := "stairwell/stairwellkeep.StageOnward", spec := "stageOnward", unfollowed := true, recurses := true, apart := false }
def StageOnwardSaid : Prop := stageOnwardRow.holds Try.pinned (OpenSpec.ofChange stageOnwardSpec)

/-- ITS FALSE NEIGHBOUR: 'it returns false'. Refute it at one input. -/
def stageOnwardWrong : ChangeSpec := { name := "stageOnward", fn := fun _ => fun
  | [d1, d2, d3, d4] => { results := [.lit (.bool false)], args := [d1, d2, d3, d4] }
  | _ => none }
def StageOnwardWrongFalsely : Prop := stageOnwardRow.holds Try.pinned (OpenSpec.ofChange stageOnwardWrong)

/-- 'stairwellkeep.StageEnds': WHATEVER THE INPUT: true; the input reads as it did. -/
def stageEndsSpec : ChangeSpec := { name := "stageEnds", fn := fun _ => fun
  | [d1, d2, d3] => { results := [.lit (.bool true)], args := [d1, d2, d3] }
  | _ => none }
def stageEndsRow : OpenClaim := { program := "ytpkgeailbifnjaa", sum := "de7e6e7a96bfa0b47ca343ead3fadd44e1a4d1eaa5b329e9699552c23eddcd44", func := "stairwell/stairwellkeep.StageEnds", spec := "stageEnds", unfollowed := true, recurses := true, apart := false }
def StageEndsSaid : Prop := stageEndsRow.holds Try.pinned (OpenSpec.ofChange stageEndsSpec)

/-- ITS FALSE NEIGHBOUR: 'it returns false'. Refute it at one input. -/
def stageEndsWrong : ChangeSpec := { name := "stageEnds", fn := fun _ => fun
  | [d1, d2, d3] => { results := [.lit (.bool false)], args := [d1, d2, d3] }
  | _ => none }
def StageEndsWrongFalsely : Prop := stageEndsRow.holds Try.pinned (OpenSpec.ofChange stageEndsWrong)

/-- 'stairwellkeep.StageStill': WHATEVER THE INPUT: true; the input reads as it did. -/
def stageStillSpec : ChangeSpec := { name := "stageStill", fn := fun _ => fun
  | [d1, d2, d3] => { results := [.lit (.bool true)], args := [d1, d2, d3] }
  | _ => none }
def stageStillRow : OpenClaim := { program := "ytpkgeailbifnjaa", sum := "de7e6e7a96bfa0b47ca343ead3fadd44e1a4d1eaa5b329e9699552c23eddcd44", func := "stairwell/stairwellkeep.StageStill", spec := "stageStill", unfollowed := true, recurses := true, apart := false }
def StageStillSaid : Prop := stageStillRow.holds Try.pinned (OpenSpec.ofChange stageStillSpec)

/-- ITS FALSE NEIGHBOUR: 'it returns false'. Refute it at one input. -/
def stageStillWrong : ChangeSpec := { name := "stageStill", fn := fun _ => fun
  | [d1, d2, d3] => { results := [.lit (.bool false)], args := [d1, d2, d3] }
  | _ => none }
def StageStillWrongFalsely : Prop := stageStillRow.holds Try.pinned (OpenSpec.ofChange stageStillWrong)

/-- 'stairwelllaw.StageReads': WHATEVER THE INPUT: true; the input reads as it did. -/
def stageReadsSpec : ChangeSpec := { name := "stageReads", fn := fun _ => fun
  | [d1, d2, d3, d4] => { results := [.lit (.bool true)], args := [d1, d2, d3, d4] }
  | _ => none }
def stageReadsRow : OpenClaim := { program := "ytpkgeailbifnjaa", sum := "de7e6e7a96bfa0b47ca343ead3fadd44e1a4d1eaa5b329e9699552c23eddcd44", func := "stairwell/stairwelllaw.StageReads", spec := "stageReads", unfollowed := true, recurses := true, loops := true, apart := false }
def StageReadsSaid : Prop := stageReadsRow.holds Try.pinned (OpenSpec.ofChange stageReadsSpec)

/-- ITS FALSE NEIGHBOUR: 'it returns false'. Refute it at one input. -/
def stageReadsWrong : ChangeSpec := { name := "stageReads", fn := fun _ => fun
  | [d1, d2, d3, d4] => { results := [.lit (.bool false)], args := [d1, d2, d3, d4] }
  | _ => none }
def StageReadsWrongFalsely : Prop := stageReadsRow.holds Try.pinned (OpenSpec.ofChange stageReadsWrong)

/- THE SECOND FORM. 'bulk': how many values and letters a reading holds, each counted each time it is reached (what is shared counts as often as it is met; a slice's spare places count too). A statement '..UptoSaid' is the law's where the arguments, and the package variables that the reading takes, are together of bulk at most 1048576: NARROWER than '..Said'. Prove '..Said' where nothing that the law and all that it calls make is longer than what came in: it says more and counts as full. Else prove '..UptoSaid'. A law counts once. -/
mutual
def uptoBulk {H : Type} : DataW H → Nat
  | .lit (.string bytes) => bytes.length + 1
  | .lit _ => 1
  | .nil => 1
  | .ptr d => uptoBulk d + 1
  | .slice elems spare => uptoBulkAll elems + uptoBulkAll spare + 1
  | .agg parts => uptoBulkAll parts + 1
  | .iface _ d => uptoBulk d + 1
  | .map entries => uptoBulkEntries entries + 1
  | .held _ => 1
def uptoBulkAll {H : Type} : List (DataW H) → Nat
  | [] => 0
  | d :: r => uptoBulk d + uptoBulkAll r
def uptoBulkEntries {H : Type} : List (Lit × DataW H) → Nat
  | [] => 0
  | x :: r => uptoBulkEntry x + uptoBulkEntries r
def uptoBulkEntry {H : Type} : Lit × DataW H → Nat
  | (.string bytes, d) => bytes.length + uptoBulk d + 1
  | (_, d) => uptoBulk d + 1
 end
def uptoSmall : (H : Type) → List (DataW H) → Bool := fun _ ds => decide (uptoBulkAll ds ≤ 1048576)
def OpenSpec.upto (s : _root_.Go.ChangeSpec) : _root_.Go.OpenSpec := { _root_.Go.OpenSpec.ofChange s with cond := some uptoSmall }

/-- 'stairwelllaw.Names', WHERE WHAT IT READS IS OF BULK AT MOST 1048576: true; the input reads as it did. -/
def namesUptoRow : OpenClaim := { program := "ytpkgeailbifnjaa", sum := "de7e6e7a96bfa0b47ca343ead3fadd44e1a4d1eaa5b329e9699552c23eddcd44", func := "stairwell/stairwelllaw.Names", spec := "names", apart := false, narrowed := true }
def NamesUptoSaid : Prop := namesUptoRow.holds Try.pinned (OpenSpec.upto namesSpec)

/-- 'stairwelllaw.StageNexts', WHERE WHAT IT READS IS OF BULK AT MOST 1048576: true; the input reads as it did. -/
def stageNextsUptoRow : OpenClaim := { program := "ytpkgeailbifnjaa", sum := "de7e6e7a96bfa0b47ca343ead3fadd44e1a4d1eaa5b329e9699552c23eddcd44", func := "stairwell/stairwelllaw.StageNexts", spec := "stageNexts", unfollowed := true, recurses := true, apart := false, narrowed := true }
def StageNextsUptoSaid : Prop := stageNextsUptoRow.holds Try.pinned (OpenSpec.upto stageNextsSpec)

/-- 'stairwellkeep.StageBounds', WHERE WHAT IT READS IS OF BULK AT MOST 1048576: true; the input reads as it did. -/
def stageBoundsUptoRow : OpenClaim := { program := "ytpkgeailbifnjaa", sum := "de7e6e7a96bfa0b47ca343ead3fadd44e1a4d1eaa5b329e9699552c23eddcd44", func := "stairwell/stairwellkeep.StageBounds", spec := "stageBounds", unfollowed := true, recurses := true, apart := false, narrowed := true }
def StageBoundsUptoSaid : Prop := stageBoundsUptoRow.holds Try.pinned (OpenSpec.upto stageBoundsSpec)

/-- 'stairwellkeep.StageOnward', WHERE WHAT IT READS IS OF BULK AT MOST 1048576: true; the input reads as it did. -/
def stageOnwardUptoRow : OpenClaim := { program := "ytpkgeailbifnjaa", sum := "de7e6e7a96bfa0b47ca343ead3fadd44e1a4d1eaa5b329e9699552c23eddcd44", func := "stairwell/stairwellkeep.StageOnward", spec := "stageOnward", unfollowed := true, recurses := true, apart := false, narrowed := true }
def StageOnwardUptoSaid : Prop := stageOnwardUptoRow.holds Try.pinned (OpenSpec.upto stageOnwardSpec)

/-- 'stairwellkeep.StageEnds', WHERE WHAT IT READS IS OF BULK AT MOST 1048576: true; the input reads as it did. -/
def stageEndsUptoRow : OpenClaim := { program := "ytpkgeailbifnjaa", sum := "de7e6e7a96bfa0b47ca343ead3fadd44e1a4d1eaa5b329e9699552c23eddcd44", func := "stairwell/stairwellkeep.StageEnds", spec := "stageEnds", unfollowed := true, recurses := true, apart := false, narrowed := true }
def StageEndsUptoSaid : Prop := stageEndsUptoRow.holds Try.pinned (OpenSpec.upto stageEndsSpec)

/-- 'stairwellkeep.StageStill', WHERE WHAT IT READS IS OF BULK AT MOST 1048576: true; the input reads as it did. -/
def stageStillUptoRow : OpenClaim := { program := "ytpkgeailbifnjaa", sum := "de7e6e7a96bfa0b47ca343ead3fadd44e1a4d1eaa5b329e9699552c23eddcd44", func := "stairwell/stairwellkeep.StageStill", spec := "stageStill", unfollowed := true, recurses := true, apart := false, narrowed := true }
def StageStillUptoSaid : Prop := stageStillUptoRow.holds Try.pinned (OpenSpec.upto stageStillSpec)

/-- 'stairwelllaw.StageReads', WHERE WHAT IT READS IS OF BULK AT MOST 1048576: true; the input reads as it did. -/
def stageReadsUptoRow : OpenClaim := { program := "ytpkgeailbifnjaa", sum := "de7e6e7a96bfa0b47ca343ead3fadd44e1a4d1eaa5b329e9699552c23eddcd44", func := "stairwell/stairwelllaw.StageReads", spec := "stageReads", unfollowed := true, recurses := true, loops := true, apart := false, narrowed := true }
def StageReadsUptoSaid : Prop := stageReadsUptoRow.holds Try.pinned (OpenSpec.upto stageReadsSpec)

end Rows
end Go.Proofs.Ytpkgeailbifnjaa
