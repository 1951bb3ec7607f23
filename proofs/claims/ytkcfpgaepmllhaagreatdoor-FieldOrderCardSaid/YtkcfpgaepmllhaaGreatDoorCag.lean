/- The terms of functions are those that are told: by computation. No condition. -/
import Derived.Test.YtkcfpgaepmllhaaGreatDoorCaa
import Derived.Test.YtkcfpgaepmllhaaGreatDoorCab
namespace Go.Proofs.YtkcfpgaepmllhaaGreatDoor
set_option maxRecDepth 100000
theorem Vc : aM cx 5 4 tm5:=okF_eq (by kernel_rfl)
theorem Yd : aM cx 14 2 Ui:=okF_eq (by kernel_rfl)
theorem adT : aM cx 43 2 ϐ:=okF_eq (by kernel_rfl)
theorem Zk : aM cx 50 3 Um:=okF_eq (by kernel_rfl)
theorem Zm : aM cx 52 2 ϛ:=okF_eq (by kernel_rfl)
theorem TQ : aM cx 78 3 Up:=okF_eq (by kernel_rfl)
theorem ad2 : aM cx 91 1 aam:=okF_eq (by kernel_rfl)
theorem N3 : aM cx 101 1 Pq:=okF_eq (by kernel_rfl)
theorem X8 : aM cx 123 2 PA:=okF_eq (by kernel_rfl)
theorem Oe : aM cx 150 2 PL:=okF_eq (by kernel_rfl)
theorem Ev : aM cx 178 2 PV:=okF_eq (by kernel_rfl)
theorem Yp : aM cx 182 1 PZ:=okF_eq (by kernel_rfl)
theorem Yr : aM cx 184 3 P1:=okF_eq (by kernel_rfl)
theorem Ys : aM cx 185 2 P3:=okF_eq (by kernel_rfl)
theorem Ov : aM cx 196 2 P_:=okF_eq (by kernel_rfl)
theorem YA : aM cx 210 1 Jm:=okF_eq (by kernel_rfl)
theorem YH : aM cx 217 2 Qj:=okF_eq (by kernel_rfl)
theorem YO : aM cx 230 2 Qw:=okF_eq (by kernel_rfl)
theorem YV : aM cx 237 1 QD:=okF_eq (by kernel_rfl)
theorem OL : aM cx 245 2 QK:=okF_eq (by kernel_rfl)
theorem Y_ : aM cx 257 3 QS:=okF_eq (by kernel_rfl)
theorem Ew : aM cx 264 3 QZ:=okF_eq (by kernel_rfl)
theorem OU : aM cx 275 2 Q5:=okF_eq (by kernel_rfl)
theorem O6 : aM cx 282 3 Bq:=okF_eq (by kernel_rfl)
theorem O7 : aM cx 283 3 Br:=okF_eq (by kernel_rfl)
theorem O8 : aM cx 286 1 Re:=okF_eq (by kernel_rfl)
end Go.Proofs.YtkcfpgaepmllhaaGreatDoor
