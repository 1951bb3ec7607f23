/- The terms of functions are those that are told: by computation. No condition. -/
import Derived.Test.YtkcfpgaepmllhaaGreatDoorPaa
import Derived.Test.YtkcfpgaepmllhaaGreatDoorPab
namespace Go.Proofs.YtkcfpgaepmllhaaGreatDoor
set_option maxRecDepth 100000
theorem ok8 : aM cx 8 2 tm8:=okF_eq (by kernel_rfl)
theorem Yk : aM cx 17 2 Uj:=okF_eq (by kernel_rfl)
theorem TP : aM cx 18 2 π:=okF_eq (by kernel_rfl)
theorem Yt : aM cx 19 2 Uk:=okF_eq (by kernel_rfl)
theorem Zh : aM cx 47 2 ϗ:=okF_eq (by kernel_rfl)
theorem Zp : aM cx 56 2 ϟ:=okF_eq (by kernel_rfl)
theorem Zt : aM cx 63 3 Uo:=okF_eq (by kernel_rfl)
theorem adY : aM cx 80 5 aad:=okF_eq (by kernel_rfl)
theorem adZ : aM cx 81 1 aae:=okF_eq (by kernel_rfl)
theorem ZA : aM cx 88 1 Ut:=okF_eq (by kernel_rfl)
theorem IN : aM cx 89 1 aak:=okF_eq (by kernel_rfl)
theorem ZB : aM cx 93 3 aao:=okF_eq (by kernel_rfl)
theorem ZC : aM cx 98 2 aar:=okF_eq (by kernel_rfl)
theorem N4 : aM cx 102 2 Pr:=okF_eq (by kernel_rfl)
theorem N' : aM cx 134 1 PD:=okF_eq (by kernel_rfl)
theorem Od : aM cx 149 1 PJ:=okF_eq (by kernel_rfl)
theorem Yf : aM cx 166 2 PN:=okF_eq (by kernel_rfl)
theorem Oo : aM cx 193 1 P8:=okF_eq (by kernel_rfl)
theorem YD : aM cx 213 1 Qf:=okF_eq (by kernel_rfl)
theorem OA : aM cx 222 2 Qo:=okF_eq (by kernel_rfl)
theorem YV : aM cx 237 1 QD:=okF_eq (by kernel_rfl)
theorem OJ : aM cx 244 2 QJ:=okF_eq (by kernel_rfl)
theorem IL : aM cx 258 3 QT:=okF_eq (by kernel_rfl)
theorem Ew : aM cx 264 3 QZ:=okF_eq (by kernel_rfl)
theorem OT : aM cx 274 2 Jn:=okF_eq (by kernel_rfl)
theorem OZ : aM cx 280 2 Q':=okF_eq (by kernel_rfl)
end Go.Proofs.YtkcfpgaepmllhaaGreatDoor
