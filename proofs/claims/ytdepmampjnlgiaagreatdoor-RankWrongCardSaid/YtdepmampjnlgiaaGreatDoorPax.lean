/- Facts of the row, by computation. No condition. -/
import Derived.Test.YtdepmampjnlgiaaGreatDoorEag
namespace Go.Proofs.YtdepmampjnlgiaaGreatDoor
open Go.ChangeShapes Go.WideShapes Go.ChangeAt Go.RowKit
set_option maxRecDepth 100000
theorem wd1 : Rows.rankWrongRow.wfByText (OpenSpec.ofChange Rows.rankWrongSpec) = true:=by kernel_rfl
theorem wd2 : Tryz.pinned.checked.prog.mainIs = some (true, "4871a85e52ea96260400f0ebe3c44082bcf8bea35d3bfc4375ebd900b048ea82".toList) := by kernel_rfl
theorem wd3 : Tryz.prog.funcNamed Tryz.f6.name = some 6:=by kernel_rfl
end Go.Proofs.YtdepmampjnlgiaaGreatDoor
