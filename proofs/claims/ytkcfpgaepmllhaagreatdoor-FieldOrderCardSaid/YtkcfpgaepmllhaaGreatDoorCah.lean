/- The terms of functions are those that are told: by computation. No condition. -/
import Derived.Test.YtkcfpgaepmllhaaGreatDoorCaa
import Derived.Test.YtkcfpgaepmllhaaGreatDoorCab
namespace Go.Proofs.YtkcfpgaepmllhaaGreatDoor
set_option maxRecDepth 100000
theorem ok7 : aM cx 7 3 tm7:=okF_eq (by kernel_rfl)
theorem adO : aM cx 12 0 θ:=okF_eq (by kernel_rfl)
theorem TP : aM cx 18 2 π:=okF_eq (by kernel_rfl)
theorem adS : aM cx 42 1 Ψ:=okF_eq (by kernel_rfl)
theorem Zl : aM cx 51 2 Ϛ:=okF_eq (by kernel_rfl)
theorem Zn : aM cx 54 1 ϝ:=okF_eq (by kernel_rfl)
theorem Zs : aM cx 62 1 aab:=okF_eq (by kernel_rfl)
theorem ad0 : aM cx 85 3 aai:=okF_eq (by kernel_rfl)
theorem IN : aM cx 89 1 aak:=okF_eq (by kernel_rfl)
theorem ad1 : aM cx 90 2 aal:=okF_eq (by kernel_rfl)
theorem ad4 : aM cx 94 5 aap:=okF_eq (by kernel_rfl)
theorem N2 : aM cx 100 2 Pp:=okF_eq (by kernel_rfl)
theorem X7 : aM cx 122 3 Py:=okF_eq (by kernel_rfl)
theorem IK : aM cx 148 1 Jk:=okF_eq (by kernel_rfl)
theorem Yl : aM cx 170 3 PS:=okF_eq (by kernel_rfl)
theorem Yq : aM cx 183 2 P0:=okF_eq (by kernel_rfl)
theorem Ot : aM cx 195 2 P':=okF_eq (by kernel_rfl)
theorem YG : aM cx 216 1 Qi:=okF_eq (by kernel_rfl)
theorem YI : aM cx 218 2 Qk:=okF_eq (by kernel_rfl)
theorem OC : aM cx 225 3 Qr:=okF_eq (by kernel_rfl)
theorem YM : aM cx 228 1 Qu:=okF_eq (by kernel_rfl)
theorem YU : aM cx 236 3 QC:=okF_eq (by kernel_rfl)
theorem OJ : aM cx 244 2 QJ:=okF_eq (by kernel_rfl)
theorem Y9 : aM cx 256 3 QR:=okF_eq (by kernel_rfl)
theorem OR : aM cx 263 1 QY:=okF_eq (by kernel_rfl)
theorem OT : aM cx 274 2 Jn:=okF_eq (by kernel_rfl)
theorem O0 : aM cx 281 1 Q_:=okF_eq (by kernel_rfl)
end Go.Proofs.YtkcfpgaepmllhaaGreatDoor
