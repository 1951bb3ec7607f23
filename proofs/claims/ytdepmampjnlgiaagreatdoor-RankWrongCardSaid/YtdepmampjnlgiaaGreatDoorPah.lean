/- The terms of functions are those that are told: by computation. No condition. -/
import Derived.Test.YtdepmampjnlgiaaGreatDoorPaa
import Derived.Test.YtdepmampjnlgiaaGreatDoorPab
namespace Go.Proofs.YtdepmampjnlgiaaGreatDoor
set_option maxRecDepth 100000
theorem aa0 : a_ cx 12 0 XL:=okF_eq (by kernel_rfl)
theorem aa1 : a_ cx 20 3 XM:=okF_eq (by kernel_rfl)
theorem Q1 : a_ cx 22 1 K_:=okF_eq (by kernel_rfl)
theorem aa3 : a_ cx 26 1 XO:=okF_eq (by kernel_rfl)
theorem We : a_ cx 29 2 RM:=okF_eq (by kernel_rfl)
theorem WB : a_ cx 33 2 RN:=okF_eq (by kernel_rfl)
theorem WW : a_ cx 50 2 RR:=okF_eq (by kernel_rfl)
theorem aba : a_ cx 59 1 XY:=okF_eq (by kernel_rfl)
theorem W0 : a_ cx 65 2 RV:=okF_eq (by kernel_rfl)
theorem W3 : a_ cx 73 5 RY:=okF_eq (by kernel_rfl)
theorem abh : a_ cx 77 3 X7:=okF_eq (by kernel_rfl)
theorem Q5 : a_ cx 93 3 R6:=okF_eq (by kernel_rfl)
theorem MD : a_ cx 109 2 Na:=okF_eq (by kernel_rfl)
theorem MI : a_ cx 120 2 IL:=okF_eq (by kernel_rfl)
theorem VG : a_ cx 181 1 Nn:=okF_eq (by kernel_rfl)
theorem VV : a_ cx 245 1 Nz:=okF_eq (by kernel_rfl)
theorem V3 : a_ cx 266 1 NH:=okF_eq (by kernel_rfl)
theorem Wb : a_ cx 278 2 NP:=okF_eq (by kernel_rfl)
theorem Wj : a_ cx 296 2 NW:=okF_eq (by kernel_rfl)
theorem Wp : a_ cx 307 0 N2:=okF_eq (by kernel_rfl)
theorem Ww : a_ cx 318 2 N8:=okF_eq (by kernel_rfl)
theorem WD : a_ cx 331 3 Od:=okF_eq (by kernel_rfl)
theorem WK : a_ cx 337 2 Oj:=okF_eq (by kernel_rfl)
theorem WT : a_ cx 349 1 Ow:=okF_eq (by kernel_rfl)
end Go.Proofs.YtdepmampjnlgiaaGreatDoor
