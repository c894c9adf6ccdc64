/- The walk of patch.One. -/
import Derived.Test.YtnbappeiebameaaGreatDoorPatchW4
import Derived.Test.YtnbappeiebameaaGreatDoorPatchW5
import Derived.Test.YtnbappeiebameaaGreatDoorPatchW6
set_option linter.all false
namespace Go.Proofs.YtnbappeiebameaaGreatDoor
open Go.RowKit
attribute [local go_sem ↓] Go.wp_at_zero Go.wp_at_succ

theorem one_any (x : V) (ka : Option Addr) (kc : Nat) (la : Option Addr) (lc : Nat) (k : Int) (p f : ByteArray) (y : V) (kb : Option Addr) (kd : Nat) (lb : Option Addr) (ld : Nat) (w : World) (hl : LibAt w) (hsx : x.size ≤ 4194304) (hsy : y.size ≤ 4194304) (hp : p.size ≤ 4194304) (hf : f.size ≤ 4194304) (S : Nat → Prop) (hin : x.In w S ka kc la lc) (hjn : y.In w S kb kd lb ld) :
    Calls Tryz.prog 42 #[x.val ka kc la lc, .agg #[.int .i64 k, .string p, .string f, .int .i64 y.k, .int .i64 y.n, .string y.s, .slice kb y.keys.length kd, .slice lb y.l.length ld]] w (RetV2 S (oneV x ⟨k, p, f, y⟩).1 (.int .i64 (oneV x ⟨k, p, f, y⟩).2) w) := by
  by_cases h1 : k = 1
  · exact one_k1 x ka kc la lc k p f y kb kd lb ld w hl hsx hsy hp hf S hin hjn h1
  by_cases h2 : k = 2
  · exact one_k2 x ka kc la lc k p f y kb kd lb ld w hl hsx hsy hp hf S hin hjn h2
  by_cases h3 : k = 3
  · exact one_k3 x ka kc la lc k p f y kb kd lb ld w hl hsx hsy hp hf S hin hjn h3
  by_cases h4 : k = 4
  · exact one_k4 x ka kc la lc k p f y kb kd lb ld w hl hsx hsy hp hf S hin hjn h4
  by_cases h5 : k = 5
  · exact one_k5 x ka kc la lc k p f y kb kd lb ld w hl hsx hsy hp hf S hin hjn h5
  by_cases h6 : k = 6
  · exact one_k6 x ka kc la lc k p f y kb kd lb ld w hl hsx hsy hp hf S hin hjn h6
  exact one_k0 x ka kc la lc k p f y kb kd lb ld w hl hsx hsy hp hf S hin hjn h1 h2 h3 h4 h5 h6
end Go.Proofs.YtnbappeiebameaaGreatDoor
