/- The terms of functions are those that are told: by computation. No condition. -/
import Derived.Test.YtkcfpgaepmllhaaGreatDoorVad
import Derived.Test.YtkcfpgaepmllhaaGreatDoorVaf
namespace Go.Proofs.YtkcfpgaepmllhaaGreatDoor
set_option maxRecDepth 100000
theorem ok25 : OKF cx 25 2 tm25:=okF_eq (by kernel_rfl)
theorem ok47 : OKF cx 47 2 tm47:=okF_eq (by kernel_rfl)
theorem ok57 : OKF cx 57 2 tm57:=okF_eq (by kernel_rfl)
theorem ok82 : OKF cx 82 2 tm82:=okF_eq (by kernel_rfl)
theorem ok95 : OKF cx 95 1 tm95:=okF_eq (by kernel_rfl)
theorem ok98 : OKF cx 98 2 tm98:=okF_eq (by kernel_rfl)
theorem ok104 : OKF cx 104 2 tm104:=okF_eq (by kernel_rfl)
theorem ok134 : OKF cx 134 1 tm134:=okF_eq (by kernel_rfl)
theorem ok139 : OKF cx 139 2 tm139:=okF_eq (by kernel_rfl)
theorem ok169 : OKF cx 169 2 tm169:=okF_eq (by kernel_rfl)
theorem ok192 : OKF cx 192 1 tm192:=okF_eq (by kernel_rfl)
theorem ok211 : OKF cx 211 3 tm211:=okF_eq (by kernel_rfl)
theorem ok222 : OKF cx 222 2 tm222:=okF_eq (by kernel_rfl)
theorem ok224 : OKF cx 224 1 tm224:=okF_eq (by kernel_rfl)
theorem ok233 : OKF cx 233 3 tm233:=okF_eq (by kernel_rfl)
theorem ok241 : OKF cx 241 1 tm241:=okF_eq (by kernel_rfl)
theorem ok253 : OKF cx 253 2 tm253:=okF_eq (by kernel_rfl)
theorem ok260 : OKF cx 260 2 tm260:=okF_eq (by kernel_rfl)
theorem ok271 : OKF cx 271 3 tm271:=okF_eq (by kernel_rfl)
theorem ok278 : OKF cx 278 2 tm278:=okF_eq (by kernel_rfl)
end Go.Proofs.YtkcfpgaepmllhaaGreatDoor
