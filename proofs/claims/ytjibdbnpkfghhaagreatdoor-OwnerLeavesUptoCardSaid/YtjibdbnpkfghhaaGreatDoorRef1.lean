/- The walks of the reference's values: depthOf, ascii, shaped, GoodValue, CountOf. -/
import Derived.Test.YtjibdbnpkfghhaaGreatDoorPkD
set_option linter.all false
namespace Go.Proofs.YtjibdbnpkfghhaaGreatDoor
open Go.RowKit
end Go.Proofs.YtjibdbnpkfghhaaGreatDoor
