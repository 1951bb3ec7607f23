/- Facts of the row, by computation. No condition. -/
import Derived.Test.YtdepmampjnlgiaaGreatDoorEag
namespace Go.Proofs.YtdepmampjnlgiaaGreatDoor
open Go.ChangeShapes Go.WideShapes Go.ChangeAt Go.RowKit
set_option maxRecDepth 100000
theorem uH : ([57,3,5] : List Nat).all (fun t=>!Tryz.prog.wantsStandIn t) = true:=by kernel_rfl
end Go.Proofs.YtdepmampjnlgiaaGreatDoor
