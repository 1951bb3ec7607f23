/- The terms of functions are those that are told: by computation. No condition. -/
import Derived.Test.YtkcfpgaepmllhaaGreatDoorVad
import Derived.Test.YtkcfpgaepmllhaaGreatDoorVaf
namespace Go.Proofs.YtkcfpgaepmllhaaGreatDoor
set_option maxRecDepth 100000
theorem ok9 : OKF cx 9 3 tm9:=okF_eq (by kernel_rfl)
theorem ok23 : OKF cx 23 3 tm23:=okF_eq (by kernel_rfl)
theorem ok41 : OKF cx 41 1 tm41:=okF_eq (by kernel_rfl)
theorem ok44 : OKF cx 44 2 tm44:=okF_eq (by kernel_rfl)
theorem ok45 : OKF cx 45 1 tm45:=okF_eq (by kernel_rfl)
theorem ok53 : OKF cx 53 1 tm53:=okF_eq (by kernel_rfl)
theorem ok54 : OKF cx 54 1 tm54:=okF_eq (by kernel_rfl)
theorem ok55 : OKF cx 55 1 tm55:=okF_eq (by kernel_rfl)
theorem ok79 : OKF cx 79 2 tm79:=okF_eq (by kernel_rfl)
theorem ok92 : OKF cx 92 3 tm92:=okF_eq (by kernel_rfl)
theorem ok102 : OKF cx 102 2 tm102:=okF_eq (by kernel_rfl)
theorem ok132 : OKF cx 132 1 tm132:=okF_eq (by kernel_rfl)
theorem ok149 : OKF cx 149 1 tm149:=okF_eq (by kernel_rfl)
theorem ok151 : OKF cx 151 2 tm151:=okF_eq (by kernel_rfl)
theorem ok179 : OKF cx 179 2 tm179:=okF_eq (by kernel_rfl)
theorem ok189 : OKF cx 189 1 tm189:=okF_eq (by kernel_rfl)
theorem ok197 : OKF cx 197 1 tm197:=okF_eq (by kernel_rfl)
theorem ok212 : OKF cx 212 2 tm212:=okF_eq (by kernel_rfl)
theorem ok215 : OKF cx 215 1 tm215:=okF_eq (by kernel_rfl)
theorem ok220 : OKF cx 220 1 tm220:=okF_eq (by kernel_rfl)
theorem ok231 : OKF cx 231 2 tm231:=okF_eq (by kernel_rfl)
theorem ok239 : OKF cx 239 2 tm239:=okF_eq (by kernel_rfl)
theorem ok250 : OKF cx 250 0 tm250:=okF_eq (by kernel_rfl)
theorem ok258 : OKF cx 258 3 tm258:=okF_eq (by kernel_rfl)
theorem ok265 : OKF cx 265 5 tm265:=okF_eq (by kernel_rfl)
theorem ok276 : OKF cx 276 1 tm276:=okF_eq (by kernel_rfl)
theorem ok287 : OKF cx 287 1 tm287:=okF_eq (by kernel_rfl)
end Go.Proofs.YtkcfpgaepmllhaaGreatDoor
