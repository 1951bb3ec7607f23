/- The terms of functions are those that are told: by computation. No condition. -/
import Derived.Test.YtkcfpgaepmllhaaGreatDoorMaa
import Derived.Test.YtkcfpgaepmllhaaGreatDoorMab
namespace Go.Proofs.YtkcfpgaepmllhaaGreatDoor
set_option maxRecDepth 100000
theorem ad_ : aN cx 11 0 Ϡ:=okF_eq (by kernel_rfl)
theorem YD : aN cx 16 2 aac:=okF_eq (by kernel_rfl)
theorem Zp : aN cx 25 2 aah:=okF_eq (by kernel_rfl)
theorem ZH : aN cx 49 2 aar:=okF_eq (by kernel_rfl)
theorem ZP : aN cx 59 1 aaz:=okF_eq (by kernel_rfl)
theorem aei : aN cx 60 3 aaA:=okF_eq (by kernel_rfl)
theorem ZV : aN cx 84 2 aaH:=okF_eq (by kernel_rfl)
theorem Ui : aN cx 96 2 U0:=okF_eq (by kernel_rfl)
theorem OB : aN cx 104 2 PV:=okF_eq (by kernel_rfl)
theorem OI : aN cx 137 2 P7:=okF_eq (by kernel_rfl)
theorem OL : aN cx 149 1 P':=okF_eq (by kernel_rfl)
theorem OR : aN cx 181 1 Qm:=okF_eq (by kernel_rfl)
theorem OY : aN cx 195 2 Qx:=okF_eq (by kernel_rfl)
theorem Y9 : aN cx 216 1 QH:=okF_eq (by kernel_rfl)
theorem O_ : aN cx 225 3 QP:=okF_eq (by kernel_rfl)
theorem Zd : aN cx 226 2 QQ:=okF_eq (by kernel_rfl)
theorem Pb : aN cx 240 1 Q3:=okF_eq (by kernel_rfl)
theorem Zq : aN cx 250 0 Q9:=okF_eq (by kernel_rfl)
theorem Pj : aN cx 260 2 Rm:=okF_eq (by kernel_rfl)
theorem Zy : aN cx 270 3 Ru:=okF_eq (by kernel_rfl)
theorem Pr : aN cx 276 1 RB:=okF_eq (by kernel_rfl)
theorem Py : aN cx 282 3 Ca:=okF_eq (by kernel_rfl)
end Go.Proofs.YtkcfpgaepmllhaaGreatDoor
