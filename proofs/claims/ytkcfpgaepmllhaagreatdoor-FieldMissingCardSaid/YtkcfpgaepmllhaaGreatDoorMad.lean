/- The terms of functions are those that are told: by computation. No condition. -/
import Derived.Test.YtkcfpgaepmllhaaGreatDoorMaa
import Derived.Test.YtkcfpgaepmllhaaGreatDoorMab
namespace Go.Proofs.YtkcfpgaepmllhaaGreatDoor
set_option maxRecDepth 100000
theorem YB : aN cx 139 2 P9:=okF_eq (by kernel_rfl)
end Go.Proofs.YtkcfpgaepmllhaaGreatDoor
