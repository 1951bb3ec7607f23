/- Facts of the row, by computation. No condition. -/
import Derived.Test.YtkcfpgaepmllhaaGreatDoorVao
namespace Go.Proofs.YtkcfpgaepmllhaaGreatDoor
open Go.ChangeShapes Go.WideShapes Go.ChangeAt Go.RowKit
set_option maxRecDepth 100000
theorem wrong_facts : joinedFacts Tryz.prog 9 Tryz.f9 Rows.fieldWrongSpec Rows.fieldWrongRow = true:=by kernel_rfl
end Go.Proofs.YtkcfpgaepmllhaaGreatDoor
