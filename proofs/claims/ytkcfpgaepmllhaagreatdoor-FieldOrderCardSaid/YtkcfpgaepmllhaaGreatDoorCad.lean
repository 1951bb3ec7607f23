/- The terms of functions are those that are told: by computation. No condition. -/
import Derived.Test.YtkcfpgaepmllhaaGreatDoorCaa
import Derived.Test.YtkcfpgaepmllhaaGreatDoorCab
namespace Go.Proofs.YtkcfpgaepmllhaaGreatDoor
set_option maxRecDepth 100000
theorem adN : aM cx 11 0 η:=okF_eq (by kernel_rfl)
theorem X9 : aM cx 13 1 ajg:=okF_eq (by kernel_rfl)
theorem Yw : aM cx 20 1 υ:=okF_eq (by kernel_rfl)
theorem adP : aM cx 22 2 ω:=okF_eq (by kernel_rfl)
theorem adU : aM cx 45 1 ϕ:=okF_eq (by kernel_rfl)
theorem Zo : aM cx 55 1 Ϟ:=okF_eq (by kernel_rfl)
theorem Zu : aM cx 79 2 aac:=okF_eq (by kernel_rfl)
theorem Zw : aM cx 83 1 aag:=okF_eq (by kernel_rfl)
theorem ad3 : aM cx 92 3 aan:=okF_eq (by kernel_rfl)
theorem ZC : aM cx 98 2 aar:=okF_eq (by kernel_rfl)
theorem N4 : aM cx 102 2 Pr:=okF_eq (by kernel_rfl)
theorem N9 : aM cx 107 3 Px:=okF_eq (by kernel_rfl)
theorem X' : aM cx 132 1 PB:=okF_eq (by kernel_rfl)
theorem Of : aM cx 151 2 PM:=okF_eq (by kernel_rfl)
theorem Oj : aM cx 189 1 P4:=okF_eq (by kernel_rfl)
theorem Ow : aM cx 197 1 Qa:=okF_eq (by kernel_rfl)
theorem Yx : aM cx 209 2 Qc:=okF_eq (by kernel_rfl)
theorem Ox : aM cx 220 1 Qm:=okF_eq (by kernel_rfl)
theorem YL : aM cx 227 4 Qt:=okF_eq (by kernel_rfl)
theorem YP : aM cx 231 2 Qx:=okF_eq (by kernel_rfl)
theorem OD : aM cx 239 2 QE:=okF_eq (by kernel_rfl)
theorem YX : aM cx 250 0 QL:=okF_eq (by kernel_rfl)
theorem IL : aM cx 258 3 QT:=okF_eq (by kernel_rfl)
theorem OS : aM cx 265 5 Q0:=okF_eq (by kernel_rfl)
theorem OV : aM cx 276 1 Q6:=okF_eq (by kernel_rfl)
theorem O9 : aM cx 287 1 Rf:=okF_eq (by kernel_rfl)
end Go.Proofs.YtkcfpgaepmllhaaGreatDoor
