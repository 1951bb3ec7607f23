/- The terms of functions are those that are told: by computation. No condition. -/
import Derived.Test.YtkcfpgaepmllhaaGreatDoorPaa
import Derived.Test.YtkcfpgaepmllhaaGreatDoorPab
namespace Go.Proofs.YtkcfpgaepmllhaaGreatDoor
set_option maxRecDepth 100000
theorem Yd : aM cx 14 2 Ui:=okF_eq (by kernel_rfl)
theorem Ye : aM cx 16 2 ο:=okF_eq (by kernel_rfl)
theorem adR : aM cx 39 8 Ξ:=okF_eq (by kernel_rfl)
theorem Zf : aM cx 41 1 Ul:=okF_eq (by kernel_rfl)
theorem Zl : aM cx 51 2 Ϛ:=okF_eq (by kernel_rfl)
theorem IM : aM cx 53 1 Ϝ:=okF_eq (by kernel_rfl)
theorem ajb : aM cx 61 1 ai4:=okF_eq (by kernel_rfl)
theorem Zs : aM cx 62 1 aab:=okF_eq (by kernel_rfl)
theorem Zy : aM cx 86 1 aaj:=okF_eq (by kernel_rfl)
theorem ad5 : aM cx 97 2 aaq:=okF_eq (by kernel_rfl)
theorem ajc : aM cx 99 1 aji:=okF_eq (by kernel_rfl)
theorem N7 : aM cx 105 2 Pv:=okF_eq (by kernel_rfl)
theorem N9 : aM cx 107 3 Px:=okF_eq (by kernel_rfl)
theorem IK : aM cx 148 1 Jk:=okF_eq (by kernel_rfl)
theorem Oj : aM cx 189 1 P4:=okF_eq (by kernel_rfl)
theorem Ov : aM cx 196 2 P_:=okF_eq (by kernel_rfl)
theorem YH : aM cx 217 2 Qj:=okF_eq (by kernel_rfl)
theorem OC : aM cx 225 3 Qr:=okF_eq (by kernel_rfl)
theorem YM : aM cx 228 1 Qu:=okF_eq (by kernel_rfl)
theorem OG : aM cx 241 1 QG:=okF_eq (by kernel_rfl)
theorem Y6 : aM cx 253 2 QO:=okF_eq (by kernel_rfl)
theorem OP : aM cx 261 2 QW:=okF_eq (by kernel_rfl)
theorem Zb : aM cx 271 3 Q2:=okF_eq (by kernel_rfl)
theorem OW : aM cx 277 2 Q7:=okF_eq (by kernel_rfl)
theorem O9 : aM cx 287 1 Rf:=okF_eq (by kernel_rfl)
end Go.Proofs.YtkcfpgaepmllhaaGreatDoor
