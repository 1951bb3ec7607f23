/- FieldOrder is true for the given program, as its card says: in whatever order entries come, the scores are the same; entries that are not proper change nothing. No condition. -/
import Derived.Test.YtkcfpgaepmllhaaGreatDoorCaq
import Derived.Test.YtkcfpgaepmllhaaGreatDoorWaa
import Derived.Test.YtkcfpgaepmllhaaGreatDoorWac
import Derived.Test.YtkcfpgaepmllhaaGreatDoorWad
namespace Go.Proofs.YtkcfpgaepmllhaaGreatDoor
open Go.RowKit
set_option maxRecDepth 100000
set_option linter.all false
section
open Go.RowKit Go.Sort
theorem fieldOrder_holds:Rows.FieldOrderCardSaid:=ahf (ahg fun _ h=>Ty.ahk Ty.Nx Ty.W4 Ty.mvs Ty.W3 Ty.HX h)
end
end Go.Proofs.YtkcfpgaepmllhaaGreatDoor
