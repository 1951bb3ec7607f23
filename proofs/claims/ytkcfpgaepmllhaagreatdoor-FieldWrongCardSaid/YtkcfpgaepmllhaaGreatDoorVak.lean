/- The terms of functions are those that are told: by computation. No condition. -/
import Derived.Test.YtkcfpgaepmllhaaGreatDoorVad
import Derived.Test.YtkcfpgaepmllhaaGreatDoorVaf
namespace Go.Proofs.YtkcfpgaepmllhaaGreatDoor
set_option maxRecDepth 100000
theorem ok12 : OKF cx 12 0 tm12:=okF_eq (by kernel_rfl)
theorem ok46 : OKF cx 46 1 tm46:=okF_eq (by kernel_rfl)
theorem ok56 : OKF cx 56 2 tm56:=okF_eq (by kernel_rfl)
theorem ok81 : OKF cx 81 1 tm81:=okF_eq (by kernel_rfl)
theorem ok88 : OKF cx 88 1 tm88:=okF_eq (by kernel_rfl)
theorem ok93 : OKF cx 93 3 tm93:=okF_eq (by kernel_rfl)
theorem ok99 : OKF cx 99 1 tm99:=okF_eq (by kernel_rfl)
theorem ok103 : OKF cx 103 2 tm103:=okF_eq (by kernel_rfl)
theorem ok107 : OKF cx 107 3 tm107:=okF_eq (by kernel_rfl)
theorem ok133 : OKF cx 133 1 tm133:=okF_eq (by kernel_rfl)
theorem ok166 : OKF cx 166 2 tm166:=okF_eq (by kernel_rfl)
theorem ok167 : OKF cx 167 2 tm167:=okF_eq (by kernel_rfl)
theorem ok178 : OKF cx 178 2 tm178:=okF_eq (by kernel_rfl)
theorem ok182 : OKF cx 182 1 tm182:=okF_eq (by kernel_rfl)
theorem ok185 : OKF cx 185 2 tm185:=okF_eq (by kernel_rfl)
theorem ok190 : OKF cx 190 1 tm190:=okF_eq (by kernel_rfl)
theorem ok198 : OKF cx 198 1 tm198:=okF_eq (by kernel_rfl)
theorem ok221 : OKF cx 221 1 tm221:=okF_eq (by kernel_rfl)
theorem ok232 : OKF cx 232 2 tm232:=okF_eq (by kernel_rfl)
theorem ok240 : OKF cx 240 1 tm240:=okF_eq (by kernel_rfl)
theorem ok251 : OKF cx 251 2 tm251:=okF_eq (by kernel_rfl)
theorem ok252 : OKF cx 252 4 tm252:=okF_eq (by kernel_rfl)
theorem ok259 : OKF cx 259 1 tm259:=okF_eq (by kernel_rfl)
theorem ok270 : OKF cx 270 3 tm270:=okF_eq (by kernel_rfl)
theorem ok277 : OKF cx 277 2 tm277:=okF_eq (by kernel_rfl)
theorem ok283 : OKF cx 283 3 tm283:=okF_eq (by kernel_rfl)
theorem ok288 : OKF cx 288 3 tm288:=okF_eq (by kernel_rfl)
end Go.Proofs.YtkcfpgaepmllhaaGreatDoor
