/- The reference's valueAt at every depth. -/
import Derived.Test.YtjibdbnpkfghhaaGreatDoorMaL
import Derived.Test.YtjibdbnpkfghhaaGreatDoorMaO
set_option linter.all false
namespace Go.Proofs.YtjibdbnpkfghhaaGreatDoor

theorem many_any (f : Nat) (hV : ValW f) : ManyW f := by
  intro s i d c w hd hs hi hc h
  rcases h with rfl | rfl
  · exact many_list f hV s i d w hd hs hi hc
  · exact many_obj f hV s i d w hd hs hi hc
theorem valueR_any : ∀ f, ValW f
  | 0 => value_zero
  | f + 1 => value_step f (many_any f (valueR_any f))
end Go.Proofs.YtjibdbnpkfghhaaGreatDoor
