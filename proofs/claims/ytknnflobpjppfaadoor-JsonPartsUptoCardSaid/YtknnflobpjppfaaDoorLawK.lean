/- What the laws on places share. -/
import Derived.Test.YtknnflobpjppfaaDoorSame
set_option linter.all false
namespace Go.Proofs.YtknnflobpjppfaaDoor
open Go.RowKit

abbrev All : Nat → Prop := fun _ => True
theorem all_in {w : World} {S : Nat → Prop} {x : V} {ka : Option Addr} {kc : Nat} {la : Option Addr} {lc : Nat} (h : x.In w S ka kc la lc) : x.In w All ka kc la lc := h.mono fun _ _ _ => trivial
theorem same_any (x z : V) (hz : z = x) (hsz : x.size ≤ 1073741824) (ka : Option Addr) (kc : Nat) (la : Option Addr) (lc : Nat) (kb : Option Addr) (kd : Nat) (lb : Option Addr) (ld : Nat) (S T : Nat → Prop) (w : World) (h1 : x.In w S ka kc la lc) (h2 : z.In w T kb kd lb ld) :
    Calls Tryd.prog 20 #[x.val ka kc la lc, z.val kb kd lb ld] w fun e w' => e = .returned (.bool true) ∧ Ext w w' := by
  subst hz
  exact same_refl z.size z ka kc la lc S kb kd lb ld T w (Nat.le_refl _) hsz h1 h2

end Go.Proofs.YtknnflobpjppfaaDoor
