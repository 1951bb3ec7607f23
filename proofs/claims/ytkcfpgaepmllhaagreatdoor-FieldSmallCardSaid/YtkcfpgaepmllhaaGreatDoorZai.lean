/- The terms of functions are those that are told: by computation. No condition. -/
import Derived.Test.YtkcfpgaepmllhaaGreatDoorZad
import Derived.Test.YtkcfpgaepmllhaaGreatDoorZaf
set_option linter.unusedVariables false
set_option linter.unusedSimpArgs false
set_option linter.constructorNameAsVariable false
namespace Go.Proofs.YtkcfpgaepmllhaaGreatDoor
set_option maxRecDepth 100000
theorem ok11 : OKF cx 11 0 tm11:=okF_eq (by kernel_rfl)
theorem ok12 : OKF cx 12 0 tm12:=okF_eq (by kernel_rfl)
theorem ok16 : OKF cx 16 2 tm16:=okF_eq (by kernel_rfl)
theorem ok23 : OKF cx 23 3 tm23:=okF_eq (by kernel_rfl)
theorem ok25 : OKF cx 25 2 tm25:=okF_eq (by kernel_rfl)
theorem ok36 : OKF cx 36 3 tm36:=okF_eq (by kernel_rfl)
theorem ok53 : OKF cx 53 1 tm53:=okF_eq (by kernel_rfl)
theorem ok55 : OKF cx 55 1 tm55:=okF_eq (by kernel_rfl)
theorem ok60 : OKF cx 60 3 tm60:=okF_eq (by kernel_rfl)
theorem ok65 : OKF cx 65 2 tm65:=okF_eq (by kernel_rfl)
theorem ok82 : OKF cx 82 2 tm82:=okF_eq (by kernel_rfl)
theorem ok95 : OKF cx 95 1 tm95:=okF_eq (by kernel_rfl)
theorem ok99 : OKF cx 99 1 tm99:=okF_eq (by kernel_rfl)
theorem ok104 : OKF cx 104 2 tm104:=okF_eq (by kernel_rfl)
theorem ok114 : OKF cx 114 1 tm114:=okF_eq (by kernel_rfl)
theorem ok136 : OKF cx 136 1 tm136:=okF_eq (by kernel_rfl)
theorem ok158 : OKF cx 158 2 tm158:=okF_eq (by kernel_rfl)
theorem ok178 : OKF cx 178 2 tm178:=okF_eq (by kernel_rfl)
theorem ok189 : OKF cx 189 1 tm189:=okF_eq (by kernel_rfl)
theorem ok197 : OKF cx 197 1 tm197:=okF_eq (by kernel_rfl)
theorem ok205 : OKF cx 205 3 tm205:=okF_eq (by kernel_rfl)
theorem ok220 : OKF cx 220 1 tm220:=okF_eq (by kernel_rfl)
theorem ok227 : OKF cx 227 4 tm227:=okF_eq (by kernel_rfl)
theorem ok231 : OKF cx 231 2 tm231:=okF_eq (by kernel_rfl)
theorem ok239 : OKF cx 239 2 tm239:=okF_eq (by kernel_rfl)
theorem ok246 : OKF cx 246 1 tm246:=okF_eq (by kernel_rfl)
theorem ok261 : OKF cx 261 2 tm261:=okF_eq (by kernel_rfl)
theorem ok274 : OKF cx 274 2 tm274:=okF_eq (by kernel_rfl)
theorem ok281 : OKF cx 281 1 tm281:=okF_eq (by kernel_rfl)
end Go.Proofs.YtkcfpgaepmllhaaGreatDoor
