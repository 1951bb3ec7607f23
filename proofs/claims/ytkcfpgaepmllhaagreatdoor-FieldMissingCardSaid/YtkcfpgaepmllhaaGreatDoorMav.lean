/- FieldMissing is true for the given program, as its card says: each key of a session has one result, or is missing, and one result more changes only the scores of its board. No condition. -/
import Derived.Test.YtkcfpgaepmllhaaGreatDoorMar
import Derived.Test.YtkcfpgaepmllhaaGreatDoorMat
import Derived.Test.YtkcfpgaepmllhaaGreatDoorMau
namespace Go.Proofs.YtkcfpgaepmllhaaGreatDoor
open Go.RowKit
set_option maxRecDepth 100000
set_option linter.all false
section
open Go.RowKit Go.Sort
theorem fieldMissing_holds:Rows.FieldMissingCardSaid:=yP (yQ fun _ h=>Ty.BC Ty.NY Ty.Xs Ty.mvs Ty.Xr Ty.IF h)
end
end Go.Proofs.YtkcfpgaepmllhaaGreatDoor
