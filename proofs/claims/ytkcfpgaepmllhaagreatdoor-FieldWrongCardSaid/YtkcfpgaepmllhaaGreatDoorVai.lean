/- The terms of functions are those that are told: by computation. No condition. -/
import Derived.Test.YtkcfpgaepmllhaaGreatDoorVad
import Derived.Test.YtkcfpgaepmllhaaGreatDoorVaf
namespace Go.Proofs.YtkcfpgaepmllhaaGreatDoor
set_option maxRecDepth 100000
theorem ok13 : OKF cx 13 1 tm13:=okF_eq (by kernel_rfl)
theorem ok14 : OKF cx 14 2 tm14:=okF_eq (by kernel_rfl)
theorem ok15 : OKF cx 15 1 tm15:=okF_eq (by kernel_rfl)
theorem ok39 : OKF cx 39 8 tm39:=okF_eq (by kernel_rfl)
theorem ok48 : OKF cx 48 1 tm48:=okF_eq (by kernel_rfl)
theorem ok50 : OKF cx 50 3 tm50:=okF_eq (by kernel_rfl)
theorem ok58 : OKF cx 58 2 tm58:=okF_eq (by kernel_rfl)
theorem ok60 : OKF cx 60 3 tm60:=okF_eq (by kernel_rfl)
theorem ok84 : OKF cx 84 2 tm84:=okF_eq (by kernel_rfl)
theorem ok96 : OKF cx 96 2 tm96:=okF_eq (by kernel_rfl)
theorem ok105 : OKF cx 105 2 tm105:=okF_eq (by kernel_rfl)
theorem ok121 : OKF cx 121 3 tm121:=okF_eq (by kernel_rfl)
theorem ok136 : OKF cx 136 1 tm136:=okF_eq (by kernel_rfl)
theorem ok171 : OKF cx 171 1 tm171:=okF_eq (by kernel_rfl)
theorem ok180 : OKF cx 180 3 tm180:=okF_eq (by kernel_rfl)
theorem ok191 : OKF cx 191 1 tm191:=okF_eq (by kernel_rfl)
theorem ok193 : OKF cx 193 1 tm193:=okF_eq (by kernel_rfl)
theorem ok213 : OKF cx 213 1 tm213:=okF_eq (by kernel_rfl)
theorem ok223 : OKF cx 223 1 tm223:=okF_eq (by kernel_rfl)
theorem ok229 : OKF cx 229 4 tm229:=okF_eq (by kernel_rfl)
theorem ok234 : OKF cx 234 2 tm234:=okF_eq (by kernel_rfl)
theorem ok242 : OKF cx 242 1 tm242:=okF_eq (by kernel_rfl)
theorem ok254 : OKF cx 254 1 tm254:=okF_eq (by kernel_rfl)
theorem ok261 : OKF cx 261 2 tm261:=okF_eq (by kernel_rfl)
theorem ok272 : OKF cx 272 3 tm272:=okF_eq (by kernel_rfl)
theorem ok279 : OKF cx 279 2 tm279:=okF_eq (by kernel_rfl)
end Go.Proofs.YtkcfpgaepmllhaaGreatDoor
