/- The terms of functions are those that are told: by computation. No condition. -/
import Derived.Test.YtkcfpgaepmllhaaGreatDoorPaa
import Derived.Test.YtkcfpgaepmllhaaGreatDoorPab
namespace Go.Proofs.YtkcfpgaepmllhaaGreatDoor
set_option maxRecDepth 100000
theorem TO : aM cx 15 1 ξ:=okF_eq (by kernel_rfl)
theorem Ze : aM cx 40 4 Φ:=okF_eq (by kernel_rfl)
theorem Zm : aM cx 52 2 ϛ:=okF_eq (by kernel_rfl)
theorem Zn : aM cx 54 1 ϝ:=okF_eq (by kernel_rfl)
theorem TQ : aM cx 78 3 Up:=okF_eq (by kernel_rfl)
theorem Zz : aM cx 87 2 Us:=okF_eq (by kernel_rfl)
theorem ad1 : aM cx 90 2 aal:=okF_eq (by kernel_rfl)
theorem N2 : aM cx 100 2 Pp:=okF_eq (by kernel_rfl)
theorem N8 : aM cx 106 2 Pw:=okF_eq (by kernel_rfl)
theorem Oe : aM cx 150 2 PL:=okF_eq (by kernel_rfl)
theorem Og : aM cx 154 3 ET:=okF_eq (by kernel_rfl)
theorem Oh : aM cx 179 2 PW:=okF_eq (by kernel_rfl)
theorem Ol : aM cx 190 1 P5:=okF_eq (by kernel_rfl)
theorem Om : aM cx 191 1 P6:=okF_eq (by kernel_rfl)
theorem Ow : aM cx 197 1 Qa:=okF_eq (by kernel_rfl)
theorem Ox : aM cx 220 1 Qm:=okF_eq (by kernel_rfl)
theorem YQ : aM cx 232 2 Qy:=okF_eq (by kernel_rfl)
theorem OH : aM cx 242 1 QH:=okF_eq (by kernel_rfl)
theorem Y7 : aM cx 254 1 QP:=okF_eq (by kernel_rfl)
theorem OQ : aM cx 262 2 QX:=okF_eq (by kernel_rfl)
theorem Zc : aM cx 272 3 Q3:=okF_eq (by kernel_rfl)
theorem OX : aM cx 278 2 Q8:=okF_eq (by kernel_rfl)
theorem O7 : aM cx 283 3 Br:=okF_eq (by kernel_rfl)
theorem O_ : aM cx 288 3 Rg:=okF_eq (by kernel_rfl)
end Go.Proofs.YtkcfpgaepmllhaaGreatDoor
