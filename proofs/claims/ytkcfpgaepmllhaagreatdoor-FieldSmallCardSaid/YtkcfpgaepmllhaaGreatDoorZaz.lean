/- Facts of the row, by computation. No condition. -/
import Derived.Test.YtkcfpgaepmllhaaGreatDoorZay
set_option linter.unusedVariables false
set_option linter.unusedSimpArgs false
set_option linter.constructorNameAsVariable false
namespace Go.Proofs.YtkcfpgaepmllhaaGreatDoor
open Go.ChangeShapes Go.WideShapes Go.ChangeAt Go.RowKit
set_option maxRecDepth 100000
theorem small_facts : joinedFacts Tryz.prog 4 Tryz.f4 Rows.fieldSmallSpec Rows.fieldSmallRow = true:=by kernel_rfl
end Go.Proofs.YtkcfpgaepmllhaaGreatDoor
