/- The terms of functions are those that are told: by computation. No condition. -/
import Derived.Test.YtkcfpgaepmllhaaGreatDoorCaa
import Derived.Test.YtkcfpgaepmllhaaGreatDoorCab
namespace Go.Proofs.YtkcfpgaepmllhaaGreatDoor
set_option maxRecDepth 100000
theorem Ye : aM cx 16 2 ο:=okF_eq (by kernel_rfl)
theorem adQ : aM cx 23 3 Δ:=okF_eq (by kernel_rfl)
theorem YW : aM cx 25 2 Θ:=okF_eq (by kernel_rfl)
theorem Zf : aM cx 41 1 Ul:=okF_eq (by kernel_rfl)
theorem Zh : aM cx 47 2 ϗ:=okF_eq (by kernel_rfl)
theorem IM : aM cx 53 1 Ϝ:=okF_eq (by kernel_rfl)
theorem adW : aM cx 57 2 Ϡ:=okF_eq (by kernel_rfl)
theorem Zt : aM cx 63 3 Uo:=okF_eq (by kernel_rfl)
theorem Zv : aM cx 82 2 aaf:=okF_eq (by kernel_rfl)
theorem TR : aM cx 95 1 Uu:=okF_eq (by kernel_rfl)
theorem N6 : aM cx 104 2 Pu:=okF_eq (by kernel_rfl)
theorem N' : aM cx 134 1 PD:=okF_eq (by kernel_rfl)
theorem Yb : aM cx 135 5 PE:=okF_eq (by kernel_rfl)
theorem Yj : aM cx 169 2 PR:=okF_eq (by kernel_rfl)
theorem Yn : aM cx 172 3 PU:=okF_eq (by kernel_rfl)
theorem Oh : aM cx 179 2 PW:=okF_eq (by kernel_rfl)
theorem Om : aM cx 191 1 P6:=okF_eq (by kernel_rfl)
theorem On : aM cx 192 1 P7:=okF_eq (by kernel_rfl)
theorem YB : aM cx 211 3 Qd:=okF_eq (by kernel_rfl)
theorem OA : aM cx 222 2 Qo:=okF_eq (by kernel_rfl)
theorem YR : aM cx 233 3 Qz:=okF_eq (by kernel_rfl)
theorem OG : aM cx 241 1 QG:=okF_eq (by kernel_rfl)
theorem YY : aM cx 251 2 QM:=okF_eq (by kernel_rfl)
theorem Y6 : aM cx 253 2 QO:=okF_eq (by kernel_rfl)
theorem ON : aM cx 260 2 QV:=okF_eq (by kernel_rfl)
theorem Zb : aM cx 271 3 Q2:=okF_eq (by kernel_rfl)
theorem OX : aM cx 278 2 Q8:=okF_eq (by kernel_rfl)
end Go.Proofs.YtkcfpgaepmllhaaGreatDoor
