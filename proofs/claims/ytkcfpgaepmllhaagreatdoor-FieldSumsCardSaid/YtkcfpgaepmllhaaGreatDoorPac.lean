/- The terms of functions are those that are told: by computation. No condition. -/
import Derived.Test.YtkcfpgaepmllhaaGreatDoorPaa
import Derived.Test.YtkcfpgaepmllhaaGreatDoorPab
namespace Go.Proofs.YtkcfpgaepmllhaaGreatDoor
set_option maxRecDepth 100000
theorem Yc : aM cx 139 2 PI:=okF_eq (by kernel_rfl)
end Go.Proofs.YtkcfpgaepmllhaaGreatDoor
