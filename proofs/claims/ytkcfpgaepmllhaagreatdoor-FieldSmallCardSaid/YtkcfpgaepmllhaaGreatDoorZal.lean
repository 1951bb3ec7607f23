/- The terms of functions are those that are told: by computation. No condition. -/
import Derived.Test.YtkcfpgaepmllhaaGreatDoorZad
import Derived.Test.YtkcfpgaepmllhaaGreatDoorZaf
set_option linter.unusedVariables false
set_option linter.unusedSimpArgs false
set_option linter.constructorNameAsVariable false
namespace Go.Proofs.YtkcfpgaepmllhaaGreatDoor
set_option maxRecDepth 100000
theorem ok4 : OKF cx 4 0 tm4:=okF_eq (by kernel_rfl)
theorem ok22 : OKF cx 22 2 tm22:=okF_eq (by kernel_rfl)
theorem ok31 : OKF cx 31 2 tm31:=okF_eq (by kernel_rfl)
theorem ok38 : OKF cx 38 2 tm38:=okF_eq (by kernel_rfl)
theorem ok49 : OKF cx 49 2 tm49:=okF_eq (by kernel_rfl)
theorem ok54 : OKF cx 54 1 tm54:=okF_eq (by kernel_rfl)
theorem ok59 : OKF cx 59 1 tm59:=okF_eq (by kernel_rfl)
theorem ok61 : OKF cx 61 1 tm61:=okF_eq (by kernel_rfl)
theorem ok63 : OKF cx 63 3 tm63:=okF_eq (by kernel_rfl)
theorem ok74 : OKF cx 74 3 tm74:=okF_eq (by kernel_rfl)
theorem ok88 : OKF cx 88 1 tm88:=okF_eq (by kernel_rfl)
theorem ok91 : OKF cx 91 1 tm91:=okF_eq (by kernel_rfl)
theorem ok101 : OKF cx 101 1 tm101:=okF_eq (by kernel_rfl)
theorem ok109 : OKF cx 109 2 tm109:=okF_eq (by kernel_rfl)
theorem ok110 : OKF cx 110 1 tm110:=okF_eq (by kernel_rfl)
theorem ok132 : OKF cx 132 1 tm132:=okF_eq (by kernel_rfl)
theorem ok151 : OKF cx 151 2 tm151:=okF_eq (by kernel_rfl)
theorem ok160 : OKF cx 160 3 tm160:=okF_eq (by kernel_rfl)
theorem ok181 : OKF cx 181 1 tm181:=okF_eq (by kernel_rfl)
theorem ok194 : OKF cx 194 1 tm194:=okF_eq (by kernel_rfl)
theorem ok203 : OKF cx 203 4 tm203:=okF_eq (by kernel_rfl)
theorem ok207 : OKF cx 207 1 tm207:=okF_eq (by kernel_rfl)
theorem ok224 : OKF cx 224 1 tm224:=okF_eq (by kernel_rfl)
theorem ok226 : OKF cx 226 2 tm226:=okF_eq (by kernel_rfl)
theorem ok235 : OKF cx 235 2 tm235:=okF_eq (by kernel_rfl)
theorem ok243 : OKF cx 243 3 tm243:=okF_eq (by kernel_rfl)
theorem ok258 : OKF cx 258 3 tm258:=okF_eq (by kernel_rfl)
theorem ok265 : OKF cx 265 5 tm265:=okF_eq (by kernel_rfl)
theorem ok278 : OKF cx 278 2 tm278:=okF_eq (by kernel_rfl)
theorem ok287 : OKF cx 287 1 tm287:=okF_eq (by kernel_rfl)
end Go.Proofs.YtkcfpgaepmllhaaGreatDoor
