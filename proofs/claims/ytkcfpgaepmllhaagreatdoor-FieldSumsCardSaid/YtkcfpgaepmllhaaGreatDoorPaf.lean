/- The terms of functions are those that are told: by computation. No condition. -/
import Derived.Test.YtkcfpgaepmllhaaGreatDoorPaa
import Derived.Test.YtkcfpgaepmllhaaGreatDoorPab
namespace Go.Proofs.YtkcfpgaepmllhaaGreatDoor
set_option maxRecDepth 100000
theorem X9 : aM cx 13 1 ajg:=okF_eq (by kernel_rfl)
theorem Yw : aM cx 20 1 υ:=okF_eq (by kernel_rfl)
theorem Yy : aM cx 21 1 χ:=okF_eq (by kernel_rfl)
theorem adT : aM cx 43 2 ϐ:=okF_eq (by kernel_rfl)
theorem Zg : aM cx 44 2 ϑ:=okF_eq (by kernel_rfl)
theorem Zk : aM cx 50 3 Um:=okF_eq (by kernel_rfl)
theorem Zo : aM cx 55 1 Ϟ:=okF_eq (by kernel_rfl)
theorem Zu : aM cx 79 2 aac:=okF_eq (by kernel_rfl)
theorem ad2 : aM cx 91 1 aam:=okF_eq (by kernel_rfl)
theorem N3 : aM cx 101 1 Pq:=okF_eq (by kernel_rfl)
theorem X8 : aM cx 123 2 PA:=okF_eq (by kernel_rfl)
theorem Of : aM cx 151 2 PM:=okF_eq (by kernel_rfl)
theorem Yg : aM cx 167 2 PO:=okF_eq (by kernel_rfl)
theorem Yp : aM cx 182 1 PZ:=okF_eq (by kernel_rfl)
theorem On : aM cx 192 1 P7:=okF_eq (by kernel_rfl)
theorem YB : aM cx 211 3 Qd:=okF_eq (by kernel_rfl)
theorem YF : aM cx 215 1 Qh:=okF_eq (by kernel_rfl)
theorem Oy : aM cx 221 1 Qn:=okF_eq (by kernel_rfl)
theorem YT : aM cx 235 2 QB:=okF_eq (by kernel_rfl)
theorem OI : aM cx 243 3 QI:=okF_eq (by kernel_rfl)
theorem Y8 : aM cx 255 2 QQ:=okF_eq (by kernel_rfl)
theorem OR : aM cx 263 1 QY:=okF_eq (by kernel_rfl)
theorem Zd : aM cx 273 3 Q4:=okF_eq (by kernel_rfl)
theorem OY : aM cx 279 2 Q9:=okF_eq (by kernel_rfl)
end Go.Proofs.YtkcfpgaepmllhaaGreatDoor
