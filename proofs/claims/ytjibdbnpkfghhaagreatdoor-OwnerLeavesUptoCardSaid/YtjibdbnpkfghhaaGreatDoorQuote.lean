/- The walk of json.quote. -/
import Derived.Test.YtjibdbnpkfghhaaGreatDoorByt
set_option linter.all false
namespace Go.Proofs.YtjibdbnpkfghhaaGreatDoor
open Go.RowKit
attribute [local go_sem ↓] Go.wp_at_zero Go.wp_at_succ
end Go.Proofs.YtjibdbnpkfghhaaGreatDoor
