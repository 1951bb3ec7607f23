/- The terms of functions are those that are told: by computation. No condition. -/
import Derived.Test.YtkcfpgaepmllhaaGreatDoorZad
import Derived.Test.YtkcfpgaepmllhaaGreatDoorZaf
set_option linter.unusedVariables false
set_option linter.unusedSimpArgs false
set_option linter.constructorNameAsVariable false
namespace Go.Proofs.YtkcfpgaepmllhaaGreatDoor
set_option maxRecDepth 100000
theorem ok27 : OKF cx 27 1 tm27:=okF_eq (by kernel_rfl)
theorem ok28 : OKF cx 28 1 tm28:=okF_eq (by kernel_rfl)
theorem ok29 : OKF cx 29 2 tm29:=okF_eq (by kernel_rfl)
theorem ok32 : OKF cx 32 2 tm32:=okF_eq (by kernel_rfl)
theorem ok33 : OKF cx 33 3 tm33:=okF_eq (by kernel_rfl)
theorem ok37 : OKF cx 37 2 tm37:=okF_eq (by kernel_rfl)
theorem ok47 : OKF cx 47 2 tm47:=okF_eq (by kernel_rfl)
theorem ok57 : OKF cx 57 2 tm57:=okF_eq (by kernel_rfl)
theorem ok70 : OKF cx 70 3 tm70:=okF_eq (by kernel_rfl)
theorem ok86 : OKF cx 86 1 tm86:=okF_eq (by kernel_rfl)
theorem ok97 : OKF cx 97 2 tm97:=okF_eq (by kernel_rfl)
theorem ok106 : OKF cx 106 2 tm106:=okF_eq (by kernel_rfl)
theorem ok112 : OKF cx 112 1 tm112:=okF_eq (by kernel_rfl)
theorem ok116 : OKF cx 116 1 tm116:=okF_eq (by kernel_rfl)
theorem ok120 : OKF cx 120 2 tm120:=okF_eq (by kernel_rfl)
theorem ok135 : OKF cx 135 5 tm135:=okF_eq (by kernel_rfl)
theorem ok138 : OKF cx 138 1 tm138:=okF_eq (by kernel_rfl)
theorem ok148 : OKF cx 148 1 tm148:=okF_eq (by kernel_rfl)
theorem ok161 : OKF cx 161 1 tm161:=okF_eq (by kernel_rfl)
theorem ok162 : OKF cx 162 1 tm162:=okF_eq (by kernel_rfl)
theorem ok164 : OKF cx 164 2 tm164:=okF_eq (by kernel_rfl)
theorem ok192 : OKF cx 192 1 tm192:=okF_eq (by kernel_rfl)
theorem ok201 : OKF cx 201 4 tm201:=okF_eq (by kernel_rfl)
theorem ok222 : OKF cx 222 2 tm222:=okF_eq (by kernel_rfl)
theorem ok233 : OKF cx 233 3 tm233:=okF_eq (by kernel_rfl)
theorem ok241 : OKF cx 241 1 tm241:=okF_eq (by kernel_rfl)
theorem ok248 : OKF cx 248 3 tm248:=okF_eq (by kernel_rfl)
theorem ok263 : OKF cx 263 1 tm263:=okF_eq (by kernel_rfl)
theorem ok266 : OKF cx 266 1 tm266:=okF_eq (by kernel_rfl)
theorem ok276 : OKF cx 276 1 tm276:=okF_eq (by kernel_rfl)
theorem ok284 : OKF cx 284 1 tm284:=okF_eq (by kernel_rfl)
end Go.Proofs.YtkcfpgaepmllhaaGreatDoor
