/- Facts of the row, by computation. No condition. -/
import Derived.Test.YtdepmampjnlgiaaGreatDoorEag
namespace Go.Proofs.YtdepmampjnlgiaaGreatDoor
open Go.ChangeShapes Go.WideShapes Go.ChangeAt Go.RowKit
set_option maxRecDepth 100000
theorem wf0 : (Rows.rankWrongRow.wf (OpenSpec.ofChange Rows.rankWrongSpec)) = true:=by kernel_rfl
theorem wf1 : (laidOutB Tryz.prog) = true:=by kernel_rfl
theorem wf2 : (mapsRowed Tryz.prog) = true:=by kernel_rfl
theorem wf3 : (Tryz.f6.params.all (Tryz.prog.readableRec ·)) = true:=by kernel_rfl
theorem wf4 : (namedTie Tryz.prog Rows.rankWrongRow.named Rows.rankWrongSpec.vars) = true:=by kernel_rfl
theorem wf5 : ((Rows.rankWrongRow.stops == [])) = true:=by kernel_rfl
theorem wf6 : ((Tryz.prog.stops == [])) = true:=by kernel_rfl
theorem wf7 : ((Rows.rankWrongRow.knobs == [])) = true:=by kernel_rfl
theorem wf8 : ((Tryz.prog.stopKnobs == [])) = true:=by kernel_rfl
theorem acv : ((Rows.rankWrongRow.maps == (Tryz.f6.params.toList ++ Rows.rankWrongSpec.plain.varTypes Tryz.prog).any (Tryz.prog.mapsRec ·))) = true:=by kernel_rfl
theorem acw : ((Rows.rankWrongRow.ifaces == (Tryz.f6.params.toList ++ Rows.rankWrongSpec.plain.varTypes Tryz.prog).any (Tryz.prog.ifacesRec ·))) = true:=by kernel_rfl
theorem acx : ((Rows.rankWrongRow.mapsOut == Tryz.prog.mapsAmong Tryz.f6.resultTypes.toList)) = true:=by kernel_rfl
theorem acy : ((Rows.rankWrongRow.loops == (Tryz.f6.params.toList ++ Rows.rankWrongSpec.plain.varTypes Tryz.prog).any (Tryz.prog.loopsFrom ·))) = true:=by kernel_rfl
theorem acz : ((Rows.rankWrongRow.wideKeys == (Tryz.f6.params.toList ++ Rows.rankWrongSpec.plain.varTypes Tryz.prog ++ Tryz.f6.resultTypes.toList).any (Tryz.prog.wideKeysFrom ·))) = true:=by kernel_rfl
theorem acA : (Rows.rankWrongSpec.vars.all (Tryz.prog.varReadable ·)) = true:=by kernel_rfl
theorem acB : (Tryz.f6.resultTypes.all (fun t=>Tryz.prog.readableRec t && decide (t < Tryz.prog.types.size))) = true:=by kernel_rfl
theorem acC : ((Rows.rankWrongRow.ifacesOut == Tryz.f6.resultTypes.toList.any (Tryz.prog.ifacesRec ·))) = true:=by kernel_rfl
theorem acD : ((Rows.rankWrongRow.loopsOut == Tryz.f6.resultTypes.toList.any (Tryz.prog.loopsFrom ·))) = true:=by kernel_rfl
theorem acE : ((Rows.rankWrongRow.plainKeys == Tryz.prog.plainKeys)) = true:=by kernel_rfl
theorem acF : (Rows.rankWrongRow.shortTexts.isNone) = true:=by kernel_rfl
theorem acJ : ((Tryz.prog.make == some Rows.rankWrongRow.make)) = true:=by kernel_rfl
theorem acK : ((Rows.rankWrongRow.kinds == (if Rows.rankWrongRow.domain.isEmpty then [] else Tryz.f6.params.toList.map fun t=>match Tryz.prog.underlying t with | some (.int k)=>some k | _=>none))) = true:=by kernel_rfl
theorem acL : ((Rows.rankWrongRow.pinned == Rows.rankWrongRow.pinnedBy)) = true:=by kernel_rfl
theorem acM : ((Rows.rankWrongRow.veiled == (Tryz.f6.params.toList ++ Rows.rankWrongSpec.plain.varTypes Tryz.prog ++ Tryz.f6.resultTypes.toList).any (Tryz.prog.veiledRec ·))) = true:=by kernel_rfl
theorem acN : (Rows.rankWrongRow.veiledFits Tryz.prog Tryz.f6.params.toList (Tryz.f6.params.toList ++ Rows.rankWrongSpec.plain.varTypes Tryz.prog ++ Tryz.f6.resultTypes.toList)) = true:=by kernel_rfl
end Go.Proofs.YtdepmampjnlgiaaGreatDoor
