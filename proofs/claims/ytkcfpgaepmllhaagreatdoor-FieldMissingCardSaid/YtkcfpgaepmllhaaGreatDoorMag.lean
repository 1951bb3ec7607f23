/- The terms of functions are those that are told: by computation. No condition. -/
import Derived.Test.YtkcfpgaepmllhaaGreatDoorMaa
import Derived.Test.YtkcfpgaepmllhaaGreatDoorMab
namespace Go.Proofs.YtkcfpgaepmllhaaGreatDoor
set_option maxRecDepth 100000
theorem YW : aN cx 21 1 aaf:=okF_eq (by kernel_rfl)
theorem ZF : aN cx 47 2 aap:=okF_eq (by kernel_rfl)
theorem Ju : aN cx 53 1 aau:=okF_eq (by kernel_rfl)
theorem ZN : aN cx 56 2 aax:=okF_eq (by kernel_rfl)
theorem aek : aN cx 81 1 aaE:=okF_eq (by kernel_rfl)
theorem Jv : aN cx 89 1 aaK:=okF_eq (by kernel_rfl)
theorem ZZ : aN cx 93 3 aaO:=okF_eq (by kernel_rfl)
theorem Z0 : aN cx 98 2 aaR:=okF_eq (by kernel_rfl)
theorem Oy : aN cx 102 2 PT:=okF_eq (by kernel_rfl)
theorem OG : aN cx 134 1 P4:=okF_eq (by kernel_rfl)
theorem YE : aN cx 166 2 Qb:=okF_eq (by kernel_rfl)
theorem YN : aN cx 182 1 Qn:=okF_eq (by kernel_rfl)
theorem OW : aN cx 193 1 Qv:=okF_eq (by kernel_rfl)
theorem Y6 : aN cx 213 1 QE:=okF_eq (by kernel_rfl)
theorem O8 : aN cx 222 2 QM:=okF_eq (by kernel_rfl)
theorem Zo : aN cx 237 1 Q1:=okF_eq (by kernel_rfl)
theorem Pf : aN cx 244 2 Q7:=okF_eq (by kernel_rfl)
theorem Jt : aN cx 258 3 Rj:=okF_eq (by kernel_rfl)
theorem Fa : aN cx 264 3 Rs:=okF_eq (by kernel_rfl)
theorem Pp : aN cx 274 2 Kd:=okF_eq (by kernel_rfl)
theorem Pw : aN cx 280 2 RG:=okF_eq (by kernel_rfl)
theorem PA : aN cx 283 3 Cb:=okF_eq (by kernel_rfl)
theorem PB : aN cx 286 1 RI:=okF_eq (by kernel_rfl)
end Go.Proofs.YtkcfpgaepmllhaaGreatDoor
