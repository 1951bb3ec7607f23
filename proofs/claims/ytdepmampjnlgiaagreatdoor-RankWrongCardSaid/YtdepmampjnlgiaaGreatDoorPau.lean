/- Facts of the row, by computation. No condition. -/
import Derived.Test.YtdepmampjnlgiaaGreatDoorEag
namespace Go.Proofs.YtdepmampjnlgiaaGreatDoor
open Go.ChangeShapes Go.WideShapes Go.ChangeAt Go.RowKit
set_option maxRecDepth 100000
theorem acs : ((Rows.rankWrongRow.recurses == Tryz.prog.recurses 6)) = true:=by kernel_rfl
theorem acu : ((Rows.rankWrongRow.named == Tryz.prog.varsNamed 6)) = true:=by kernel_rfl
end Go.Proofs.YtdepmampjnlgiaaGreatDoor
