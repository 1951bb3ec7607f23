/- The terms of functions are those that are told: by computation. No condition. -/
import Derived.Test.YtkcfpgaepmllhaaGreatDoorVad
import Derived.Test.YtkcfpgaepmllhaaGreatDoorVaf
namespace Go.Proofs.YtkcfpgaepmllhaaGreatDoor
set_option maxRecDepth 100000
theorem ok18 : OKF cx 18 2 tm18:=okF_eq (by kernel_rfl)
theorem ok42 : OKF cx 42 1 tm42:=okF_eq (by kernel_rfl)
theorem ok51 : OKF cx 51 2 tm51:=okF_eq (by kernel_rfl)
theorem ok61 : OKF cx 61 1 tm61:=okF_eq (by kernel_rfl)
theorem ok62 : OKF cx 62 1 tm62:=okF_eq (by kernel_rfl)
theorem ok89 : OKF cx 89 1 tm89:=okF_eq (by kernel_rfl)
theorem ok90 : OKF cx 90 2 tm90:=okF_eq (by kernel_rfl)
theorem ok94 : OKF cx 94 5 tm94:=okF_eq (by kernel_rfl)
theorem ok100 : OKF cx 100 2 tm100:=okF_eq (by kernel_rfl)
theorem ok122 : OKF cx 122 3 tm122:=okF_eq (by kernel_rfl)
theorem ok135 : OKF cx 135 5 tm135:=okF_eq (by kernel_rfl)
theorem ok148 : OKF cx 148 1 tm148:=okF_eq (by kernel_rfl)
theorem ok170 : OKF cx 170 3 tm170:=okF_eq (by kernel_rfl)
theorem ok183 : OKF cx 183 2 tm183:=okF_eq (by kernel_rfl)
theorem ok195 : OKF cx 195 2 tm195:=okF_eq (by kernel_rfl)
theorem ok210 : OKF cx 210 1 tm210:=okF_eq (by kernel_rfl)
theorem ok216 : OKF cx 216 1 tm216:=okF_eq (by kernel_rfl)
theorem ok218 : OKF cx 218 2 tm218:=okF_eq (by kernel_rfl)
theorem ok225 : OKF cx 225 3 tm225:=okF_eq (by kernel_rfl)
theorem ok227 : OKF cx 227 4 tm227:=okF_eq (by kernel_rfl)
theorem ok228 : OKF cx 228 1 tm228:=okF_eq (by kernel_rfl)
theorem ok236 : OKF cx 236 3 tm236:=okF_eq (by kernel_rfl)
theorem ok244 : OKF cx 244 2 tm244:=okF_eq (by kernel_rfl)
theorem ok256 : OKF cx 256 3 tm256:=okF_eq (by kernel_rfl)
theorem ok263 : OKF cx 263 1 tm263:=okF_eq (by kernel_rfl)
theorem ok274 : OKF cx 274 2 tm274:=okF_eq (by kernel_rfl)
theorem ok281 : OKF cx 281 1 tm281:=okF_eq (by kernel_rfl)
end Go.Proofs.YtkcfpgaepmllhaaGreatDoor
