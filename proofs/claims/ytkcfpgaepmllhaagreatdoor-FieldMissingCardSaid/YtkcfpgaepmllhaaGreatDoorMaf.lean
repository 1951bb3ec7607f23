/- The terms of functions are those that are told: by computation. No condition. -/
import Derived.Test.YtkcfpgaepmllhaaGreatDoorMaa
import Derived.Test.YtkcfpgaepmllhaaGreatDoorMab
namespace Go.Proofs.YtkcfpgaepmllhaaGreatDoor
set_option maxRecDepth 100000
theorem Yw : aN cx 13 1 aaa:=okF_eq (by kernel_rfl)
theorem YC : aN cx 14 2 UN:=okF_eq (by kernel_rfl)
theorem YI : aN cx 17 2 UO:=okF_eq (by kernel_rfl)
theorem YU : aN cx 20 1 aae:=okF_eq (by kernel_rfl)
theorem ZG : aN cx 48 1 aaq:=okF_eq (by kernel_rfl)
theorem ZO : aN cx 58 2 UT:=okF_eq (by kernel_rfl)
theorem ZT : aN cx 82 2 aaF:=okF_eq (by kernel_rfl)
theorem ZX : aN cx 87 2 UX:=okF_eq (by kernel_rfl)
theorem Uh : aN cx 95 1 UZ:=okF_eq (by kernel_rfl)
theorem OA : aN cx 103 2 PU:=okF_eq (by kernel_rfl)
theorem OH : aN cx 136 1 P6:=okF_eq (by kernel_rfl)
theorem YK : aN cx 171 1 Qg:=okF_eq (by kernel_rfl)
theorem OQ : aN cx 179 2 Qj:=okF_eq (by kernel_rfl)
theorem OX : aN cx 194 1 Qw:=okF_eq (by kernel_rfl)
theorem Y7 : aN cx 214 1 QF:=okF_eq (by kernel_rfl)
theorem Y8 : aN cx 215 1 QG:=okF_eq (by kernel_rfl)
theorem O9 : aN cx 223 1 QN:=okF_eq (by kernel_rfl)
theorem Pa : aN cx 239 2 Q2:=okF_eq (by kernel_rfl)
theorem Pg : aN cx 245 2 Q8:=okF_eq (by kernel_rfl)
theorem Ph : aN cx 259 1 Rl:=okF_eq (by kernel_rfl)
theorem Po : aN cx 265 5 Rt:=okF_eq (by kernel_rfl)
theorem Pq : aN cx 275 2 RA:=okF_eq (by kernel_rfl)
theorem Px : aN cx 281 1 RH:=okF_eq (by kernel_rfl)
end Go.Proofs.YtkcfpgaepmllhaaGreatDoor
