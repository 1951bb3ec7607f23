/- Facts of the row, by computation. No condition. -/
import Derived.Test.YtkcfpgaepmllhaaGreatDoorRows
import Derived.WalkKit
import Derived.ProofKit
import Derived.OpenShut
import Derived.FnData
import Derived.Handed
namespace Go.Proofs.YtkcfpgaepmllhaaGreatDoor
open Go.ChangeShapes Go.WideShapes Go.ChangeAt Go.RowKit
set_option maxRecDepth 100000
theorem v_ : joinedFacts Tryz.prog 6 Tryz.f6 Rows.fieldMissingSpec Rows.fieldMissingRow = true:=by kernel_rfl
end Go.Proofs.YtkcfpgaepmllhaaGreatDoor
