/- Facts of the row, by computation. No condition. -/
import Derived.Test.YtdepmampjnlgiaaGreatDoorEag
namespace Go.Proofs.YtdepmampjnlgiaaGreatDoor
open Go.ChangeShapes Go.WideShapes Go.ChangeAt Go.RowKit
set_option maxRecDepth 100000
theorem wf9 : ((Rows.rankWrongRow.inPlace == Tryz.prog.inPlace 6)) = true:=by kernel_rfl
theorem acr : ((Rows.rankWrongRow.unfollowed == Tryz.prog.unfollowed 6)) = true:=by kernel_rfl
end Go.Proofs.YtdepmampjnlgiaaGreatDoor
