/- The terms of functions are those that are told: by computation. No condition. -/
import Derived.Test.YtkcfpgaepmllhaaGreatDoorZad
import Derived.Test.YtkcfpgaepmllhaaGreatDoorZaf
set_option linter.unusedVariables false
set_option linter.unusedSimpArgs false
set_option linter.constructorNameAsVariable false
namespace Go.Proofs.YtkcfpgaepmllhaaGreatDoor
set_option maxRecDepth 100000
theorem ok18 : OKF cx 18 2 tm18:=okF_eq (by kernel_rfl)
theorem ok21 : OKF cx 21 1 tm21:=okF_eq (by kernel_rfl)
theorem ok24 : OKF cx 24 3 tm24:=okF_eq (by kernel_rfl)
theorem ok35 : OKF cx 35 2 tm35:=okF_eq (by kernel_rfl)
theorem ok44 : OKF cx 44 2 tm44:=okF_eq (by kernel_rfl)
theorem ok52 : OKF cx 52 2 tm52:=okF_eq (by kernel_rfl)
theorem ok64 : OKF cx 64 1 tm64:=okF_eq (by kernel_rfl)
theorem ok77 : OKF cx 77 2 tm77:=okF_eq (by kernel_rfl)
theorem ok81 : OKF cx 81 1 tm81:=okF_eq (by kernel_rfl)
theorem ok93 : OKF cx 93 3 tm93:=okF_eq (by kernel_rfl)
theorem ok103 : OKF cx 103 2 tm103:=okF_eq (by kernel_rfl)
theorem ok113 : OKF cx 113 1 tm113:=okF_eq (by kernel_rfl)
theorem ok119 : OKF cx 119 2 tm119:=okF_eq (by kernel_rfl)
theorem ok134 : OKF cx 134 1 tm134:=okF_eq (by kernel_rfl)
theorem ok149 : OKF cx 149 1 tm149:=okF_eq (by kernel_rfl)
theorem ok157 : OKF cx 157 1 tm157:=okF_eq (by kernel_rfl)
theorem ok163 : OKF cx 163 2 tm163:=okF_eq (by kernel_rfl)
theorem ok179 : OKF cx 179 2 tm179:=okF_eq (by kernel_rfl)
theorem ok180 : OKF cx 180 3 tm180:=okF_eq (by kernel_rfl)
theorem ok182 : OKF cx 182 1 tm182:=okF_eq (by kernel_rfl)
theorem ok184 : OKF cx 184 3 tm184:=okF_eq (by kernel_rfl)
theorem ok196 : OKF cx 196 2 tm196:=okF_eq (by kernel_rfl)
theorem ok200 : OKF cx 200 3 tm200:=okF_eq (by kernel_rfl)
theorem ok208 : OKF cx 208 3 tm208:=okF_eq (by kernel_rfl)
theorem ok230 : OKF cx 230 2 tm230:=okF_eq (by kernel_rfl)
theorem ok237 : OKF cx 237 1 tm237:=okF_eq (by kernel_rfl)
theorem ok245 : OKF cx 245 2 tm245:=okF_eq (by kernel_rfl)
theorem ok260 : OKF cx 260 2 tm260:=okF_eq (by kernel_rfl)
theorem ok269 : OKF cx 269 3 tm269:=okF_eq (by kernel_rfl)
theorem ok280 : OKF cx 280 2 tm280:=okF_eq (by kernel_rfl)
end Go.Proofs.YtkcfpgaepmllhaaGreatDoor
