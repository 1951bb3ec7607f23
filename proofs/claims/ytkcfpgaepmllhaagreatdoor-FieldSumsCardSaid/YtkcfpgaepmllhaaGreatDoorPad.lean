/- The terms of functions are those that are told: by computation. No condition. -/
import Derived.Test.YtkcfpgaepmllhaaGreatDoorPaa
import Derived.Test.YtkcfpgaepmllhaaGreatDoorPab
namespace Go.Proofs.YtkcfpgaepmllhaaGreatDoor
set_option maxRecDepth 100000
theorem adN : aM cx 11 0 η:=okF_eq (by kernel_rfl)
theorem YW : aM cx 25 2 Θ:=okF_eq (by kernel_rfl)
theorem Zj : aM cx 49 2 ϙ:=okF_eq (by kernel_rfl)
theorem Zr : aM cx 59 1 ϡ:=okF_eq (by kernel_rfl)
theorem adX : aM cx 60 3 aaa:=okF_eq (by kernel_rfl)
theorem Zx : aM cx 84 2 aah:=okF_eq (by kernel_rfl)
theorem TS : aM cx 96 2 Uv:=okF_eq (by kernel_rfl)
theorem N6 : aM cx 104 2 Pu:=okF_eq (by kernel_rfl)
theorem Oa : aM cx 137 2 PG:=okF_eq (by kernel_rfl)
theorem Oc : aM cx 138 1 PH:=okF_eq (by kernel_rfl)
theorem Yn : aM cx 172 3 PU:=okF_eq (by kernel_rfl)
theorem Oi : aM cx 181 1 PY:=okF_eq (by kernel_rfl)
theorem Ot : aM cx 195 2 P':=okF_eq (by kernel_rfl)
theorem Yx : aM cx 209 2 Qc:=okF_eq (by kernel_rfl)
theorem YA : aM cx 210 1 Jm:=okF_eq (by kernel_rfl)
theorem YG : aM cx 216 1 Qi:=okF_eq (by kernel_rfl)
theorem YK : aM cx 226 2 Qs:=okF_eq (by kernel_rfl)
theorem OF : aM cx 240 1 QF:=okF_eq (by kernel_rfl)
theorem YX : aM cx 250 0 QL:=okF_eq (by kernel_rfl)
theorem ON : aM cx 260 2 QV:=okF_eq (by kernel_rfl)
theorem Za : aM cx 270 3 Q1:=okF_eq (by kernel_rfl)
theorem OV : aM cx 276 1 Q6:=okF_eq (by kernel_rfl)
theorem O6 : aM cx 282 3 Bq:=okF_eq (by kernel_rfl)
end Go.Proofs.YtkcfpgaepmllhaaGreatDoor
