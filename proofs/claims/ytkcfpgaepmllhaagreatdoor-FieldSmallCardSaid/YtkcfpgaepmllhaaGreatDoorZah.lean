/- The terms of functions are those that are told: by computation. No condition. -/
import Derived.Test.YtkcfpgaepmllhaaGreatDoorZad
import Derived.Test.YtkcfpgaepmllhaaGreatDoorZaf
set_option linter.unusedVariables false
set_option linter.unusedSimpArgs false
set_option linter.constructorNameAsVariable false
namespace Go.Proofs.YtkcfpgaepmllhaaGreatDoor
set_option maxRecDepth 100000
theorem ok30 : OKF cx 30 2 tm30:=okF_eq (by kernel_rfl)
theorem ok48 : OKF cx 48 1 tm48:=okF_eq (by kernel_rfl)
theorem ok58 : OKF cx 58 2 tm58:=okF_eq (by kernel_rfl)
theorem ok71 : OKF cx 71 1 tm71:=okF_eq (by kernel_rfl)
theorem ok73 : OKF cx 73 1 tm73:=okF_eq (by kernel_rfl)
theorem ok75 : OKF cx 75 1 tm75:=okF_eq (by kernel_rfl)
theorem ok90 : OKF cx 90 2 tm90:=okF_eq (by kernel_rfl)
theorem ok100 : OKF cx 100 2 tm100:=okF_eq (by kernel_rfl)
theorem ok107 : OKF cx 107 3 tm107:=okF_eq (by kernel_rfl)
theorem ok108 : OKF cx 108 1 tm108:=okF_eq (by kernel_rfl)
theorem ok118 : OKF cx 118 2 tm118:=okF_eq (by kernel_rfl)
theorem ok139 : OKF cx 139 2 tm139:=okF_eq (by kernel_rfl)
theorem ok150 : OKF cx 150 2 tm150:=okF_eq (by kernel_rfl)
theorem ok154 : OKF cx 154 3 tm154:=okF_eq (by kernel_rfl)
theorem ok165 : OKF cx 165 2 tm165:=okF_eq (by kernel_rfl)
theorem ok185 : OKF cx 185 2 tm185:=okF_eq (by kernel_rfl)
theorem ok191 : OKF cx 191 1 tm191:=okF_eq (by kernel_rfl)
theorem ok193 : OKF cx 193 1 tm193:=okF_eq (by kernel_rfl)
theorem ok202 : OKF cx 202 2 tm202:=okF_eq (by kernel_rfl)
theorem ok223 : OKF cx 223 1 tm223:=okF_eq (by kernel_rfl)
theorem ok234 : OKF cx 234 2 tm234:=okF_eq (by kernel_rfl)
theorem ok242 : OKF cx 242 1 tm242:=okF_eq (by kernel_rfl)
theorem ok249 : OKF cx 249 2 tm249:=okF_eq (by kernel_rfl)
theorem ok264 : OKF cx 264 3 tm264:=okF_eq (by kernel_rfl)
theorem ok268 : OKF cx 268 3 tm268:=okF_eq (by kernel_rfl)
theorem ok277 : OKF cx 277 2 tm277:=okF_eq (by kernel_rfl)
theorem ok285 : OKF cx 285 1 tm285:=okF_eq (by kernel_rfl)
end Go.Proofs.YtkcfpgaepmllhaaGreatDoor
