/- Facts of the row, by computation. No condition. -/
import Derived.Test.YtdepmampjnlgiaaGreatDoorEag
namespace Go.Proofs.YtdepmampjnlgiaaGreatDoor
open Go.ChangeShapes Go.WideShapes Go.ChangeAt Go.RowKit
set_option maxRecDepth 100000
theorem acG : (Tryz.prog.stopsHeard) = true:=by kernel_rfl
theorem acH : (Tryz.prog.mayEnter) = true:=by kernel_rfl
theorem acI : ((Rows.rankWrongRow.lifted == Tryz.prog.liftsFinal)) = true:=by kernel_rfl
end Go.Proofs.YtdepmampjnlgiaaGreatDoor
