/- The terms of functions are those that are told: by computation. No condition. -/
import Derived.Test.YtkcfpgaepmllhaaGreatDoorMaa
import Derived.Test.YtkcfpgaepmllhaaGreatDoorMab
namespace Go.Proofs.YtkcfpgaepmllhaaGreatDoor
set_option maxRecDepth 100000
theorem Zb : aN cx 22 2 UQ:=okF_eq (by kernel_rfl)
theorem aec : aN cx 39 8 aai:=okF_eq (by kernel_rfl)
theorem ZD : aN cx 41 1 UR:=okF_eq (by kernel_rfl)
theorem ZI : aN cx 50 3 US:=okF_eq (by kernel_rfl)
theorem ZJ : aN cx 51 2 aas:=okF_eq (by kernel_rfl)
theorem ZL : aN cx 54 1 aav:=okF_eq (by kernel_rfl)
theorem ZQ : aN cx 62 1 aaB:=okF_eq (by kernel_rfl)
theorem aej : aN cx 80 5 aaD:=okF_eq (by kernel_rfl)
theorem ZW : aN cx 86 1 aaJ:=okF_eq (by kernel_rfl)
theorem aer : aN cx 97 2 aaQ:=okF_eq (by kernel_rfl)
theorem OC : aN cx 105 2 PW:=okF_eq (by kernel_rfl)
theorem mI : aN cx 121 3 J_:=okF_eq (by kernel_rfl)
theorem Js : aN cx 148 1 Ka:=okF_eq (by kernel_rfl)
theorem OP : aN cx 154 3 FD:=okF_eq (by kernel_rfl)
theorem OS : aN cx 189 1 Qr:=okF_eq (by kernel_rfl)
theorem OZ : aN cx 196 2 Qy:=okF_eq (by kernel_rfl)
theorem YX : aN cx 210 1 Kc:=okF_eq (by kernel_rfl)
theorem Y_ : aN cx 217 2 QI:=okF_eq (by kernel_rfl)
theorem Zf : aN cx 228 1 QS:=okF_eq (by kernel_rfl)
theorem Pc : aN cx 241 1 Q4:=okF_eq (by kernel_rfl)
theorem Zt : aN cx 253 2 Re:=okF_eq (by kernel_rfl)
theorem Pk : aN cx 261 2 Rn:=okF_eq (by kernel_rfl)
theorem Zz : aN cx 271 3 Rv:=okF_eq (by kernel_rfl)
theorem Ps : aN cx 277 2 RC:=okF_eq (by kernel_rfl)
theorem PC : aN cx 287 1 RJ:=okF_eq (by kernel_rfl)
end Go.Proofs.YtkcfpgaepmllhaaGreatDoor
