/- Facts of the row, by computation. No condition. -/
import Derived.Test.YtdepmampjnlgiaaGreatDoorEag
namespace Go.Proofs.YtdepmampjnlgiaaGreatDoor
open Go.ChangeShapes Go.WideShapes Go.ChangeAt Go.RowKit
set_option maxRecDepth 100000
theorem wd5 : false = Rows.rankWrongRow.goesBy Tryz.pinned.checked.prog:=by kernel_rfl
end Go.Proofs.YtdepmampjnlgiaaGreatDoor
