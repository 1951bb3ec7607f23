/- The terms of functions are those that are told: by computation. No condition. -/
import Derived.Test.YtkcfpgaepmllhaaGreatDoorMaa
import Derived.Test.YtkcfpgaepmllhaaGreatDoorMab
namespace Go.Proofs.YtkcfpgaepmllhaaGreatDoor
set_option maxRecDepth 100000
theorem aee : aN cx 43 2 aal:=okF_eq (by kernel_rfl)
theorem ZM : aN cx 55 1 aaw:=okF_eq (by kernel_rfl)
theorem ZS : aN cx 79 2 aaC:=okF_eq (by kernel_rfl)
theorem ZU : aN cx 83 1 aaG:=okF_eq (by kernel_rfl)
theorem aen : aN cx 91 1 aaM:=okF_eq (by kernel_rfl)
theorem Ox : aN cx 101 1 PS:=okF_eq (by kernel_rfl)
theorem OF : aN cx 107 3 PY:=okF_eq (by kernel_rfl)
theorem Yv : aN cx 123 2 P0:=okF_eq (by kernel_rfl)
theorem OJ : aN cx 138 1 P8:=okF_eq (by kernel_rfl)
theorem ON : aN cx 151 2 Qa:=okF_eq (by kernel_rfl)
theorem YF : aN cx 167 2 Qc:=okF_eq (by kernel_rfl)
theorem YL : aN cx 172 3 Qh:=okF_eq (by kernel_rfl)
theorem OU : aN cx 191 1 Qt:=okF_eq (by kernel_rfl)
theorem OV : aN cx 192 1 Qu:=okF_eq (by kernel_rfl)
theorem YV : aN cx 209 2 QB:=okF_eq (by kernel_rfl)
theorem YY : aN cx 211 3 QC:=okF_eq (by kernel_rfl)
theorem Za : aN cx 218 2 QJ:=okF_eq (by kernel_rfl)
theorem O7 : aN cx 221 1 QL:=okF_eq (by kernel_rfl)
theorem Zm : aN cx 235 2 QZ:=okF_eq (by kernel_rfl)
theorem Pe : aN cx 243 3 Q6:=okF_eq (by kernel_rfl)
theorem Zv : aN cx 255 2 Rg:=okF_eq (by kernel_rfl)
theorem Pn : aN cx 263 1 Rp:=okF_eq (by kernel_rfl)
theorem ZB : aN cx 273 3 Ry:=okF_eq (by kernel_rfl)
theorem Pv : aN cx 279 2 RF:=okF_eq (by kernel_rfl)
end Go.Proofs.YtkcfpgaepmllhaaGreatDoor
