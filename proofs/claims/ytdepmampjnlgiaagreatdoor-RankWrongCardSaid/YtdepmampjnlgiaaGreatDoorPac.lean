/- The terms of functions are those that are told: by computation. No condition. -/
import Derived.Test.YtdepmampjnlgiaaGreatDoorPaa
import Derived.Test.YtdepmampjnlgiaaGreatDoorPab
namespace Go.Proofs.YtdepmampjnlgiaaGreatDoor
set_option maxRecDepth 100000
theorem MM : a_ cx 151 2 DU:=okF_eq (by kernel_rfl)
end Go.Proofs.YtdepmampjnlgiaaGreatDoor
