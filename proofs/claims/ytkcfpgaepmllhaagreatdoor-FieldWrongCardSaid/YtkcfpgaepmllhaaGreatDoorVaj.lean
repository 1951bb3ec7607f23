/- The terms of functions are those that are told: by computation. No condition. -/
import Derived.Test.YtkcfpgaepmllhaaGreatDoorVad
import Derived.Test.YtkcfpgaepmllhaaGreatDoorVaf
namespace Go.Proofs.YtkcfpgaepmllhaaGreatDoor
set_option maxRecDepth 100000
theorem ok16 : OKF cx 16 2 tm16:=okF_eq (by kernel_rfl)
theorem ok19 : OKF cx 19 2 tm19:=okF_eq (by kernel_rfl)
theorem ok21 : OKF cx 21 1 tm21:=okF_eq (by kernel_rfl)
theorem ok43 : OKF cx 43 2 tm43:=okF_eq (by kernel_rfl)
theorem ok52 : OKF cx 52 2 tm52:=okF_eq (by kernel_rfl)
theorem ok63 : OKF cx 63 3 tm63:=okF_eq (by kernel_rfl)
theorem ok78 : OKF cx 78 3 tm78:=okF_eq (by kernel_rfl)
theorem ok80 : OKF cx 80 5 tm80:=okF_eq (by kernel_rfl)
theorem ok85 : OKF cx 85 3 tm85:=okF_eq (by kernel_rfl)
theorem ok87 : OKF cx 87 2 tm87:=okF_eq (by kernel_rfl)
theorem ok91 : OKF cx 91 1 tm91:=okF_eq (by kernel_rfl)
theorem ok101 : OKF cx 101 1 tm101:=okF_eq (by kernel_rfl)
theorem ok123 : OKF cx 123 2 tm123:=okF_eq (by kernel_rfl)
theorem ok150 : OKF cx 150 2 tm150:=okF_eq (by kernel_rfl)
theorem ok154 : OKF cx 154 3 tm154:=okF_eq (by kernel_rfl)
theorem ok172 : OKF cx 172 3 tm172:=okF_eq (by kernel_rfl)
theorem ok184 : OKF cx 184 3 tm184:=okF_eq (by kernel_rfl)
theorem ok196 : OKF cx 196 2 tm196:=okF_eq (by kernel_rfl)
theorem ok217 : OKF cx 217 2 tm217:=okF_eq (by kernel_rfl)
theorem ok230 : OKF cx 230 2 tm230:=okF_eq (by kernel_rfl)
theorem ok237 : OKF cx 237 1 tm237:=okF_eq (by kernel_rfl)
theorem ok245 : OKF cx 245 2 tm245:=okF_eq (by kernel_rfl)
theorem ok257 : OKF cx 257 3 tm257:=okF_eq (by kernel_rfl)
theorem ok264 : OKF cx 264 3 tm264:=okF_eq (by kernel_rfl)
theorem ok275 : OKF cx 275 2 tm275:=okF_eq (by kernel_rfl)
theorem ok282 : OKF cx 282 3 tm282:=okF_eq (by kernel_rfl)
end Go.Proofs.YtkcfpgaepmllhaaGreatDoor
