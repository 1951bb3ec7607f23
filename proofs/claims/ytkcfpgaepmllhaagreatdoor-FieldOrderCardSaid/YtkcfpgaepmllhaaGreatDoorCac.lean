/- The terms of functions are those that are told: by computation. No condition. -/
import Derived.Test.YtkcfpgaepmllhaaGreatDoorCaa
import Derived.Test.YtkcfpgaepmllhaaGreatDoorCab
namespace Go.Proofs.YtkcfpgaepmllhaaGreatDoor
set_option maxRecDepth 100000
theorem Yk : aM cx 17 2 Uj:=okF_eq (by kernel_rfl)
theorem adV : aM cx 46 1 ϖ:=okF_eq (by kernel_rfl)
theorem Zp : aM cx 56 2 ϟ:=okF_eq (by kernel_rfl)
theorem adZ : aM cx 81 1 aae:=okF_eq (by kernel_rfl)
theorem ZB : aM cx 93 3 aao:=okF_eq (by kernel_rfl)
theorem N5 : aM cx 103 2 Ps:=okF_eq (by kernel_rfl)
theorem X_ : aM cx 133 1 PC:=okF_eq (by kernel_rfl)
theorem Oc : aM cx 138 1 PH:=okF_eq (by kernel_rfl)
theorem Yc : aM cx 139 2 PI:=okF_eq (by kernel_rfl)
theorem Yf : aM cx 166 2 PN:=okF_eq (by kernel_rfl)
theorem Ol : aM cx 190 1 P5:=okF_eq (by kernel_rfl)
theorem Yu : aM cx 198 1 Qb:=okF_eq (by kernel_rfl)
theorem Oy : aM cx 221 1 Qn:=okF_eq (by kernel_rfl)
theorem YJ : aM cx 224 1 Qq:=okF_eq (by kernel_rfl)
theorem YQ : aM cx 232 2 Qy:=okF_eq (by kernel_rfl)
theorem OF : aM cx 240 1 QF:=okF_eq (by kernel_rfl)
theorem YZ : aM cx 252 4 QN:=okF_eq (by kernel_rfl)
theorem OM : aM cx 259 1 QU:=okF_eq (by kernel_rfl)
theorem Za : aM cx 270 3 Q1:=okF_eq (by kernel_rfl)
theorem OW : aM cx 277 2 Q7:=okF_eq (by kernel_rfl)
theorem O_ : aM cx 288 3 Rg:=okF_eq (by kernel_rfl)
end Go.Proofs.YtkcfpgaepmllhaaGreatDoor
