/- Part of the proof: symbolic execution of the program, its soundness, and the closing lemmas. No condition. -/
import Derived.Test.YtdepmampjnlgiaaGreatDoorPas
import Derived.Test.YtdepmampjnlgiaaGreatDoorPat
import Derived.Test.YtdepmampjnlgiaaGreatDoorPau
import Derived.Test.YtdepmampjnlgiaaGreatDoorPav
import Derived.Test.YtdepmampjnlgiaaGreatDoorPar
namespace Go.Proofs.YtdepmampjnlgiaaGreatDoor
open Go.RowKit
set_option maxRecDepth 100000
set_option linter.all false
section
open Go.ChangeShapes Go.WideShapes Go.ChangeAt Go.RowKit
theorem an{a b:Bool}(h:a=true)(k:b=true):(a&&b)=true:=by rw[h,k];rfl
theorem AM:joinedFacts Tryz.prog 6 Tryz.f6 Rows.rankWrongSpec Rows.rankWrongRow=true:=by unfold joinedFacts;exact(an (an (an (an (an (an (an (an (an (an (an (an (an (an (an (an (an (an (an (an (an (an (an (an (an (an (an (an (an (an (an wf0 wf1) wf2) wf3) wf4) wf5) wf6) wf7) wf8) wf9) acr) acs) acu) acv) acw) acx) acy) acz) acA) acB) acC) acD) acE) acF) acG) acH) acI) acJ) acK) acL) acM) acN)
end
section
open Go.ChangeShapes Go.WideShapes Go.ChangeAt Go.RowKit
theorem CB(hc: ∀Ds,lK Tryz.prog 6 [57,3,5] Ds→wM Tryz.prog 6 Ds (bv true)):Rows.RankWrongSaid:=
 OpenClaim.holds_of_wide 6 Tryz.f6 rfl rfl rfl rfl rfl rfl rfl ⟨rfl,rfl,rfl,rfl,rfl⟩ rfl rfl rfl rfl rfl (by kernel_rfl) Tryz.func6 AM
  (of_decide_eq_true (by kernel_rfl)) (by unfold Func.isWrapper;first|(rw[if_pos (by decide+kernel)];kernel_rfl)|(rw[if_neg (by decide+kernel)];exact⟨rfl,rfl⟩))
  (fun os started H enc _=>yz hc os started H enc)
end
end Go.Proofs.YtdepmampjnlgiaaGreatDoor
