/- The terms of functions are those that are told: by computation. No condition. -/
import Derived.Test.YtkcfpgaepmllhaaGreatDoorPaa
import Derived.Test.YtkcfpgaepmllhaaGreatDoorPab
namespace Go.Proofs.YtkcfpgaepmllhaaGreatDoor
set_option maxRecDepth 100000
theorem adP : aM cx 22 2 ω:=okF_eq (by kernel_rfl)
theorem adQ : aM cx 23 3 Δ:=okF_eq (by kernel_rfl)
theorem aja : aM cx 24 3 ajh:=okF_eq (by kernel_rfl)
theorem Zi : aM cx 48 1 Ϙ:=okF_eq (by kernel_rfl)
theorem Zq : aM cx 58 2 Un:=okF_eq (by kernel_rfl)
theorem Zv : aM cx 82 2 aaf:=okF_eq (by kernel_rfl)
theorem Zw : aM cx 83 1 aag:=okF_eq (by kernel_rfl)
theorem TR : aM cx 95 1 Uu:=okF_eq (by kernel_rfl)
theorem N5 : aM cx 103 2 Ps:=okF_eq (by kernel_rfl)
theorem gR : aM cx 121 3 Jj:=okF_eq (by kernel_rfl)
theorem N_ : aM cx 136 1 aiS:=okF_eq (by kernel_rfl)
theorem Yi : aM cx 168 3 PQ:=okF_eq (by kernel_rfl)
theorem Ym : aM cx 171 1 PT:=okF_eq (by kernel_rfl)
theorem Ev : aM cx 178 2 PV:=okF_eq (by kernel_rfl)
theorem Oq : aM cx 194 1 P9:=okF_eq (by kernel_rfl)
theorem YE : aM cx 214 1 Qg:=okF_eq (by kernel_rfl)
theorem YI : aM cx 218 2 Qk:=okF_eq (by kernel_rfl)
theorem OB : aM cx 223 1 Qp:=okF_eq (by kernel_rfl)
theorem OD : aM cx 239 2 QE:=okF_eq (by kernel_rfl)
theorem OL : aM cx 245 2 QK:=okF_eq (by kernel_rfl)
theorem OM : aM cx 259 1 QU:=okF_eq (by kernel_rfl)
theorem OS : aM cx 265 5 Q0:=okF_eq (by kernel_rfl)
theorem OU : aM cx 275 2 Q5:=okF_eq (by kernel_rfl)
theorem O0 : aM cx 281 1 Q_:=okF_eq (by kernel_rfl)
theorem O8 : aM cx 286 1 Re:=okF_eq (by kernel_rfl)
end Go.Proofs.YtkcfpgaepmllhaaGreatDoor
