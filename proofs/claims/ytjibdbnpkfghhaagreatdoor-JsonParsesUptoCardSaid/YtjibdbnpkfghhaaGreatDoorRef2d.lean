/- The walk of the reference's shaped. -/
import Derived.Test.YtjibdbnpkfghhaaGreatDoorRef2a
import Derived.Test.YtjibdbnpkfghhaaGreatDoorRef2b
import Derived.Test.YtjibdbnpkfghhaaGreatDoorRef2c
set_option linter.all false
namespace Go.Proofs.YtjibdbnpkfghhaaGreatDoor
open Go.RowKit

theorem shaped_any (m : Nat) : ∀ (x : V) (ka : Option Addr) (kc : Nat) (la : Option Addr) (lc : Nat) (S : Nat → Prop) (w : World), x.size ≤ m → x.size ≤ 1073741824 → x.In w S ka kc la lc → Calls Tryz.prog 79 #[x.val ka kc la lc] w fun e w' => e = .returned (.bool x.shaped) ∧ Ext w w' := by
  induction m with
  | zero => intro x _ _ _ _ _ _ h; have := x.size_pos; omega
  | succ m ih =>
    intro x ka kc la lc S w hm hsz hin
    by_cases h0 : x.k = 0 ∨ x.k = 1 ∨ x.k = 2
    · exact shaped_a m ih x ka kc la lc S w hm hsz hin h0
    by_cases h1 : x.k = 3 ∨ x.k = 4
    · exact shaped_b m ih x ka kc la lc S w hm hsz hin h1
    by_cases h2 : x.k = 5
    · exact shaped_c m ih x ka kc la lc S w hm hsz hin h2
    · exact shaped_d m ih x ka kc la lc S w hm hsz hin (by omega)
end Go.Proofs.YtjibdbnpkfghhaaGreatDoor
