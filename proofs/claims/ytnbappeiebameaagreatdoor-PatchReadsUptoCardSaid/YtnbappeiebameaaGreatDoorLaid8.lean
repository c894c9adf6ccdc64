/- A start in which the listed variables, patch.names among them, hold what the text lays. -/
import Derived.Test.YtnbappeiebameaaGreatDoorCards
import Derived.Test.YtnbappeiebameaaGreatDoorTie
import Derived.Deep.DeepHandedRow
import Derived.Deep.DeepWitnessRowRef
import Derived.Lib.LaidIn
import Derived.ProofKit
set_option linter.all false
namespace Go.Proofs.YtnbappeiebameaaGreatDoor.start8

def b32 : List Int := [0, 1, 28, 2, 29, 14, 24, 3, 30, 22, 20, 15, 25, 17, 4, 8, 31, 27, 13, 23, 21, 19, 16, 7, 26, 12, 18, 6, 11, 5, 10, 9]
def b64 : List Int := [0, 1, 56, 2, 57, 49, 28, 3, 61, 58, 42, 50, 38, 29, 17, 4, 62, 47, 59, 36, 45, 43, 51, 22, 53, 39, 33, 30, 24, 18, 12, 5, 63, 55, 48, 27, 60, 41, 37, 16, 46, 35, 44, 21, 52, 32, 23, 11, 54, 26, 40, 15, 34, 20, 31, 10, 25, 14, 19, 9, 13, 8, 7, 6]
def p10 : List Int := [1, 10, 100, 1000, 10000, 100000, 1000000, 10000000, 100000000, 1000000000, 10000000000, 100000000000, 1000000000000, 10000000000000, 100000000000000, 1000000000000000, 10000000000000000, 100000000000000000, 1000000000000000000, 10000000000000000000]
def acc : List Int := [128, 191, 160, 191, 128, 159, 144, 191, 128, 143, 0, 0, 0, 0, 0, 0, 0, 0, 0, 0, 0, 0, 0, 0, 0, 0, 0, 0, 0, 0, 0, 0]
def utf8z : List Int := Go.Pinned.utf8FirstZ.map Int.ofNat

def nm : List (List UInt8) := [[], [97, 100, 100], [114, 101, 109, 111, 118, 101], [114, 101, 112, 108, 97, 99, 101], [109, 111, 118, 101], [99, 111, 112, 121], [116, 101, 115, 116]]
noncomputable def laidWorld (os : Os) : World :=
  let N := (World.settled Tryz.prog os).heap.size
  let w0 := World.holding Tryz.prog os ⟨#[.cells #[.string ⟨#[118, 97, 108, 117, 101, 32, 111, 117, 116, 32, 111, 102, 32, 114, 97, 110, 103, 101]⟩] 283, .cells #[.string ⟨#[105, 110, 118, 97, 108, 105, 100, 32, 115, 121, 110, 116, 97, 120]⟩] 283], #[], []⟩
  let put (h : Array Obj) (g : Nat) (cs : Array Value) : Array Obj := h.modify g fun
    | .cells _ t frozen => .cells cs t frozen
    | o => o
  let h0 := put (put w0.heap 3 #[.iface 281 (.pointer (some ⟨N, 0, none⟩))]) 2 #[.iface 281 (.pointer (some ⟨N + 1, 0, none⟩))]
  let h1 := put (put (put h0 6 (p10.map (Value.int .u64)).toArray) 7 (b32.map (Value.int .u8)).toArray) 8 (b64.map (Value.int .u8)).toArray
  let h2 := put (put h1 4 (utf8z.map (Value.int .u8)).toArray) 5 (acc.map (Value.int .u8)).toArray
  let h3 := put h2 0 (nm.map fun s => Value.string ⟨s.toArray⟩).toArray
  { w0 with heap := h3 }

noncomputable abbrev N0 : Nat := (World.settled Tryz.prog default).heap.size
set_option maxRecDepth 1000000 in
theorem laid_in (os : Os) (args : Array Value) : LaidIn Tryz.prog ((laidWorld os).forCall (fun _ _ => 0) ⟨#[], args, []⟩).memory Rows.serverNilUptoRow.laid [7, 8, 6, 5, 3, N0, 2, N0 + 1, 0, 4] :=
  LaidIn.of_run [7, 8, 6, 5, 3, N0, 2, N0 + 1, 0, 4] 10 (by kernel_rfl) (by kernel_rfl) (by kernel_rfl) (by kernel_rfl)
theorem laid_met (os : Os) (args : Array Value) : laidMet Tryz.prog Rows.serverNilUptoRow.laid ((laidWorld os).forCall (fun _ _ => 0) ⟨#[], args, []⟩).memory := (laid_in os args).met
end Go.Proofs.YtnbappeiebameaaGreatDoor.start8
