/- The terms of functions are those that are told: by computation. No condition. -/
import Derived.Test.YtkcfpgaepmllhaaGreatDoorZad
import Derived.Test.YtkcfpgaepmllhaaGreatDoorZaf
set_option linter.unusedVariables false
set_option linter.unusedSimpArgs false
set_option linter.constructorNameAsVariable false
namespace Go.Proofs.YtkcfpgaepmllhaaGreatDoor
set_option maxRecDepth 100000
theorem ok19 : OKF cx 19 2 tm19:=okF_eq (by kernel_rfl)
theorem ok20 : OKF cx 20 1 tm20:=okF_eq (by kernel_rfl)
theorem ok34 : OKF cx 34 2 tm34:=okF_eq (by kernel_rfl)
theorem ok50 : OKF cx 50 3 tm50:=okF_eq (by kernel_rfl)
theorem ok51 : OKF cx 51 2 tm51:=okF_eq (by kernel_rfl)
theorem ok62 : OKF cx 62 1 tm62:=okF_eq (by kernel_rfl)
theorem ok76 : OKF cx 76 2 tm76:=okF_eq (by kernel_rfl)
theorem ok85 : OKF cx 85 3 tm85:=okF_eq (by kernel_rfl)
theorem ok87 : OKF cx 87 2 tm87:=okF_eq (by kernel_rfl)
theorem ok89 : OKF cx 89 1 tm89:=okF_eq (by kernel_rfl)
theorem ok92 : OKF cx 92 3 tm92:=okF_eq (by kernel_rfl)
theorem ok98 : OKF cx 98 2 tm98:=okF_eq (by kernel_rfl)
theorem ok102 : OKF cx 102 2 tm102:=okF_eq (by kernel_rfl)
theorem ok111 : OKF cx 111 1 tm111:=okF_eq (by kernel_rfl)
theorem ok133 : OKF cx 133 1 tm133:=okF_eq (by kernel_rfl)
theorem ok155 : OKF cx 155 2 tm155:=okF_eq (by kernel_rfl)
theorem ok156 : OKF cx 156 2 tm156:=okF_eq (by kernel_rfl)
theorem ok183 : OKF cx 183 2 tm183:=okF_eq (by kernel_rfl)
theorem ok195 : OKF cx 195 2 tm195:=okF_eq (by kernel_rfl)
theorem ok204 : OKF cx 204 1 tm204:=okF_eq (by kernel_rfl)
theorem ok206 : OKF cx 206 1 tm206:=okF_eq (by kernel_rfl)
theorem ok225 : OKF cx 225 3 tm225:=okF_eq (by kernel_rfl)
theorem ok228 : OKF cx 228 1 tm228:=okF_eq (by kernel_rfl)
theorem ok236 : OKF cx 236 3 tm236:=okF_eq (by kernel_rfl)
theorem ok244 : OKF cx 244 2 tm244:=okF_eq (by kernel_rfl)
theorem ok259 : OKF cx 259 1 tm259:=okF_eq (by kernel_rfl)
theorem ok267 : OKF cx 267 1 tm267:=okF_eq (by kernel_rfl)
theorem ok279 : OKF cx 279 2 tm279:=okF_eq (by kernel_rfl)
theorem ok286 : OKF cx 286 1 tm286:=okF_eq (by kernel_rfl)
theorem ok288 : OKF cx 288 3 tm288:=okF_eq (by kernel_rfl)
end Go.Proofs.YtkcfpgaepmllhaaGreatDoor
