/- The terms of functions are those that are told: by computation. No condition. -/
import Derived.Test.YtkcfpgaepmllhaaGreatDoorCaa
import Derived.Test.YtkcfpgaepmllhaaGreatDoorCab
namespace Go.Proofs.YtkcfpgaepmllhaaGreatDoor
set_option maxRecDepth 100000
theorem TO : aM cx 15 1 ξ:=okF_eq (by kernel_rfl)
theorem Yt : aM cx 19 2 Uk:=okF_eq (by kernel_rfl)
theorem Yy : aM cx 21 1 χ:=okF_eq (by kernel_rfl)
theorem Ze : aM cx 40 4 Φ:=okF_eq (by kernel_rfl)
theorem Zj : aM cx 49 2 ϙ:=okF_eq (by kernel_rfl)
theorem Zr : aM cx 59 1 ϡ:=okF_eq (by kernel_rfl)
theorem adY : aM cx 80 5 aad:=okF_eq (by kernel_rfl)
theorem Zy : aM cx 86 1 aaj:=okF_eq (by kernel_rfl)
theorem Zz : aM cx 87 2 Us:=okF_eq (by kernel_rfl)
theorem ad5 : aM cx 97 2 aaq:=okF_eq (by kernel_rfl)
theorem N8 : aM cx 106 2 Pw:=okF_eq (by kernel_rfl)
theorem Oa : aM cx 137 2 PG:=okF_eq (by kernel_rfl)
theorem Od : aM cx 149 1 PJ:=okF_eq (by kernel_rfl)
theorem Og : aM cx 154 3 ET:=okF_eq (by kernel_rfl)
theorem Oi : aM cx 181 1 PY:=okF_eq (by kernel_rfl)
theorem Oq : aM cx 194 1 P9:=okF_eq (by kernel_rfl)
theorem YC : aM cx 212 2 Qe:=okF_eq (by kernel_rfl)
theorem YE : aM cx 214 1 Qg:=okF_eq (by kernel_rfl)
theorem YF : aM cx 215 1 Qh:=okF_eq (by kernel_rfl)
theorem YK : aM cx 226 2 Qs:=okF_eq (by kernel_rfl)
theorem YT : aM cx 235 2 QB:=okF_eq (by kernel_rfl)
theorem OI : aM cx 243 3 QI:=okF_eq (by kernel_rfl)
theorem Y8 : aM cx 255 2 QQ:=okF_eq (by kernel_rfl)
theorem OQ : aM cx 262 2 QX:=okF_eq (by kernel_rfl)
theorem Zd : aM cx 273 3 Q4:=okF_eq (by kernel_rfl)
theorem OZ : aM cx 280 2 Q':=okF_eq (by kernel_rfl)
end Go.Proofs.YtkcfpgaepmllhaaGreatDoor
