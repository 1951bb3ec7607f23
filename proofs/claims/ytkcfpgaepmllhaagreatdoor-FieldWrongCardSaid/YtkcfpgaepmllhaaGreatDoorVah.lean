/- The terms of functions are those that are told: by computation. No condition. -/
import Derived.Test.YtkcfpgaepmllhaaGreatDoorVad
import Derived.Test.YtkcfpgaepmllhaaGreatDoorVaf
namespace Go.Proofs.YtkcfpgaepmllhaaGreatDoor
set_option maxRecDepth 100000
theorem ok11 : OKF cx 11 0 tm11:=okF_eq (by kernel_rfl)
theorem ok20 : OKF cx 20 1 tm20:=okF_eq (by kernel_rfl)
theorem ok22 : OKF cx 22 2 tm22:=okF_eq (by kernel_rfl)
theorem ok24 : OKF cx 24 3 tm24:=okF_eq (by kernel_rfl)
theorem ok40 : OKF cx 40 4 tm40:=okF_eq (by kernel_rfl)
theorem ok49 : OKF cx 49 2 tm49:=okF_eq (by kernel_rfl)
theorem ok59 : OKF cx 59 1 tm59:=okF_eq (by kernel_rfl)
theorem ok83 : OKF cx 83 1 tm83:=okF_eq (by kernel_rfl)
theorem ok86 : OKF cx 86 1 tm86:=okF_eq (by kernel_rfl)
theorem ok97 : OKF cx 97 2 tm97:=okF_eq (by kernel_rfl)
theorem ok106 : OKF cx 106 2 tm106:=okF_eq (by kernel_rfl)
theorem ok137 : OKF cx 137 2 tm137:=okF_eq (by kernel_rfl)
theorem ok138 : OKF cx 138 1 tm138:=okF_eq (by kernel_rfl)
theorem ok168 : OKF cx 168 3 tm168:=okF_eq (by kernel_rfl)
theorem ok181 : OKF cx 181 1 tm181:=okF_eq (by kernel_rfl)
theorem ok194 : OKF cx 194 1 tm194:=okF_eq (by kernel_rfl)
theorem ok209 : OKF cx 209 2 tm209:=okF_eq (by kernel_rfl)
theorem ok214 : OKF cx 214 1 tm214:=okF_eq (by kernel_rfl)
theorem ok226 : OKF cx 226 2 tm226:=okF_eq (by kernel_rfl)
theorem ok235 : OKF cx 235 2 tm235:=okF_eq (by kernel_rfl)
theorem ok243 : OKF cx 243 3 tm243:=okF_eq (by kernel_rfl)
theorem ok255 : OKF cx 255 2 tm255:=okF_eq (by kernel_rfl)
theorem ok262 : OKF cx 262 2 tm262:=okF_eq (by kernel_rfl)
theorem ok273 : OKF cx 273 3 tm273:=okF_eq (by kernel_rfl)
theorem ok280 : OKF cx 280 2 tm280:=okF_eq (by kernel_rfl)
theorem ok286 : OKF cx 286 1 tm286:=okF_eq (by kernel_rfl)
end Go.Proofs.YtkcfpgaepmllhaaGreatDoor
