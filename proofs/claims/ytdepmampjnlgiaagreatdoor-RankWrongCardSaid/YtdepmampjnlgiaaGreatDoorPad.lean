/- The terms of functions are those that are told: by computation. No condition. -/
import Derived.Test.YtdepmampjnlgiaaGreatDoorPaa
import Derived.Test.YtdepmampjnlgiaaGreatDoorPab
namespace Go.Proofs.YtdepmampjnlgiaaGreatDoor
set_option maxRecDepth 100000
theorem VC : a_ cx 15 2 RJ:=okF_eq (by kernel_rfl)
theorem aa2 : a_ cx 25 2 XN:=okF_eq (by kernel_rfl)
theorem V7 : a_ cx 27 2 RL:=okF_eq (by kernel_rfl)
theorem aa7 : a_ cx 34 3 XT:=okF_eq (by kernel_rfl)
theorem Q4 : a_ cx 53 2 RU:=okF_eq (by kernel_rfl)
theorem WZ : a_ cx 62 2 XZ:=okF_eq (by kernel_rfl)
theorem abe : a_ cx 69 2 X3:=okF_eq (by kernel_rfl)
theorem abg : a_ cx 76 2 X6:=okF_eq (by kernel_rfl)
theorem MB : a_ cx 101 2 IF:=okF_eq (by kernel_rfl)
theorem HY : a_ cx 102 1 IG:=okF_eq (by kernel_rfl)
theorem Vx : a_ cx 115 2 Nf:=okF_eq (by kernel_rfl)
theorem Vz : a_ cx 117 1 Nh:=okF_eq (by kernel_rfl)
theorem VB : a_ cx 125 2 Nj:=okF_eq (by kernel_rfl)
theorem VL : a_ cx 209 2 Nr:=okF_eq (by kernel_rfl)
theorem VY : a_ cx 251 2 NC:=okF_eq (by kernel_rfl)
theorem V5 : a_ cx 268 1 NJ:=okF_eq (by kernel_rfl)
theorem V8 : a_ cx 270 2 NL:=okF_eq (by kernel_rfl)
theorem Wf : a_ cx 290 1 NS:=okF_eq (by kernel_rfl)
theorem Wm : a_ cx 299 1 NZ:=okF_eq (by kernel_rfl)
theorem Wt : a_ cx 312 2 N5:=okF_eq (by kernel_rfl)
theorem Wz : a_ cx 321 1 N_:=okF_eq (by kernel_rfl)
theorem WH : a_ cx 334 2 Og:=okF_eq (by kernel_rfl)
theorem WN : a_ cx 340 2 On:=okF_eq (by kernel_rfl)
end Go.Proofs.YtdepmampjnlgiaaGreatDoor
