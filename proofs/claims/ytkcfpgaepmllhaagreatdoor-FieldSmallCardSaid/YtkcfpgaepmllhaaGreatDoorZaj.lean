/- The terms of functions are those that are told: by computation. No condition. -/
import Derived.Test.YtkcfpgaepmllhaaGreatDoorZad
import Derived.Test.YtkcfpgaepmllhaaGreatDoorZaf
set_option linter.unusedVariables false
set_option linter.unusedSimpArgs false
set_option linter.constructorNameAsVariable false
namespace Go.Proofs.YtkcfpgaepmllhaaGreatDoor
set_option maxRecDepth 100000
theorem ok26 : OKF cx 26 1 tm26:=okF_eq (by kernel_rfl)
theorem ok39 : OKF cx 39 8 tm39:=okF_eq (by kernel_rfl)
theorem ok56 : OKF cx 56 2 tm56:=okF_eq (by kernel_rfl)
theorem ok66 : OKF cx 66 2 tm66:=okF_eq (by kernel_rfl)
theorem ok67 : OKF cx 67 1 tm67:=okF_eq (by kernel_rfl)
theorem ok68 : OKF cx 68 2 tm68:=okF_eq (by kernel_rfl)
theorem ok69 : OKF cx 69 3 tm69:=okF_eq (by kernel_rfl)
theorem ok72 : OKF cx 72 2 tm72:=okF_eq (by kernel_rfl)
theorem ok83 : OKF cx 83 1 tm83:=okF_eq (by kernel_rfl)
theorem ok84 : OKF cx 84 2 tm84:=okF_eq (by kernel_rfl)
theorem ok94 : OKF cx 94 5 tm94:=okF_eq (by kernel_rfl)
theorem ok96 : OKF cx 96 2 tm96:=okF_eq (by kernel_rfl)
theorem ok105 : OKF cx 105 2 tm105:=okF_eq (by kernel_rfl)
theorem ok115 : OKF cx 115 2 tm115:=okF_eq (by kernel_rfl)
theorem ok117 : OKF cx 117 4 tm117:=okF_eq (by kernel_rfl)
theorem ok137 : OKF cx 137 2 tm137:=okF_eq (by kernel_rfl)
theorem ok159 : OKF cx 159 2 tm159:=okF_eq (by kernel_rfl)
theorem ok190 : OKF cx 190 1 tm190:=okF_eq (by kernel_rfl)
theorem ok198 : OKF cx 198 1 tm198:=okF_eq (by kernel_rfl)
theorem ok199 : OKF cx 199 1 tm199:=okF_eq (by kernel_rfl)
theorem ok221 : OKF cx 221 1 tm221:=okF_eq (by kernel_rfl)
theorem ok229 : OKF cx 229 4 tm229:=okF_eq (by kernel_rfl)
theorem ok232 : OKF cx 232 2 tm232:=okF_eq (by kernel_rfl)
theorem ok240 : OKF cx 240 1 tm240:=okF_eq (by kernel_rfl)
theorem ok247 : OKF cx 247 2 tm247:=okF_eq (by kernel_rfl)
theorem ok262 : OKF cx 262 2 tm262:=okF_eq (by kernel_rfl)
theorem ok275 : OKF cx 275 2 tm275:=okF_eq (by kernel_rfl)
theorem ok282 : OKF cx 282 3 tm282:=okF_eq (by kernel_rfl)
theorem ok283 : OKF cx 283 3 tm283:=okF_eq (by kernel_rfl)
end Go.Proofs.YtkcfpgaepmllhaaGreatDoor
