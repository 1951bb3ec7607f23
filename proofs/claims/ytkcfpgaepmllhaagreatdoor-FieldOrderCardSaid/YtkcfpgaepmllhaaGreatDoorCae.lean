/- The terms of functions are those that are told: by computation. No condition. -/
import Derived.Test.YtkcfpgaepmllhaaGreatDoorCaa
import Derived.Test.YtkcfpgaepmllhaaGreatDoorCab
namespace Go.Proofs.YtkcfpgaepmllhaaGreatDoor
set_option maxRecDepth 100000
theorem adR : aM cx 39 8 Ξ:=okF_eq (by kernel_rfl)
theorem Zg : aM cx 44 2 ϑ:=okF_eq (by kernel_rfl)
theorem Zi : aM cx 48 1 Ϙ:=okF_eq (by kernel_rfl)
theorem Zq : aM cx 58 2 Un:=okF_eq (by kernel_rfl)
theorem adX : aM cx 60 3 aaa:=okF_eq (by kernel_rfl)
theorem Zx : aM cx 84 2 aah:=okF_eq (by kernel_rfl)
theorem ZA : aM cx 88 1 Ut:=okF_eq (by kernel_rfl)
theorem TS : aM cx 96 2 Uv:=okF_eq (by kernel_rfl)
theorem N7 : aM cx 105 2 Pv:=okF_eq (by kernel_rfl)
theorem gR : aM cx 121 3 Jj:=okF_eq (by kernel_rfl)
theorem N_ : aM cx 136 1 aiS:=okF_eq (by kernel_rfl)
theorem Yg : aM cx 167 2 PO:=okF_eq (by kernel_rfl)
theorem Yi : aM cx 168 3 PQ:=okF_eq (by kernel_rfl)
theorem Ym : aM cx 171 1 PT:=okF_eq (by kernel_rfl)
theorem Yo : aM cx 180 3 PX:=okF_eq (by kernel_rfl)
theorem Oo : aM cx 193 1 P8:=okF_eq (by kernel_rfl)
theorem YD : aM cx 213 1 Qf:=okF_eq (by kernel_rfl)
theorem OB : aM cx 223 1 Qp:=okF_eq (by kernel_rfl)
theorem YN : aM cx 229 4 Qv:=okF_eq (by kernel_rfl)
theorem YS : aM cx 234 2 QA:=okF_eq (by kernel_rfl)
theorem OH : aM cx 242 1 QH:=okF_eq (by kernel_rfl)
theorem Y7 : aM cx 254 1 QP:=okF_eq (by kernel_rfl)
theorem OP : aM cx 261 2 QW:=okF_eq (by kernel_rfl)
theorem Zc : aM cx 272 3 Q3:=okF_eq (by kernel_rfl)
theorem OY : aM cx 279 2 Q9:=okF_eq (by kernel_rfl)
end Go.Proofs.YtkcfpgaepmllhaaGreatDoor
