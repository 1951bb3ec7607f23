/- The terms of functions are those that are told: by computation. No condition. -/
import Derived.Test.YtdepmampjnlgiaaGreatDoorPaa
import Derived.Test.YtdepmampjnlgiaaGreatDoorPab
namespace Go.Proofs.YtdepmampjnlgiaaGreatDoor
set_option maxRecDepth 100000
theorem aa4 : a_ cx 28 2 XP:=okF_eq (by kernel_rfl)
theorem aa9 : a_ cx 39 2 XV:=okF_eq (by kernel_rfl)
theorem WV : a_ cx 45 4 RP:=okF_eq (by kernel_rfl)
theorem aa_ : a_ cx 58 2 XX:=okF_eq (by kernel_rfl)
theorem abd : a_ cx 68 3 X2:=okF_eq (by kernel_rfl)
theorem W1 : a_ cx 71 1 RW:=okF_eq (by kernel_rfl)
theorem W7 : a_ cx 79 2 R5:=okF_eq (by kernel_rfl)
theorem Vu : a_ cx 106 2 M9:=okF_eq (by kernel_rfl)
theorem Vv : a_ cx 107 1 M_:=okF_eq (by kernel_rfl)
theorem MH : a_ cx 119 2 IK:=okF_eq (by kernel_rfl)
theorem VD : a_ cx 150 2 Nk:=okF_eq (by kernel_rfl)
theorem VF : a_ cx 172 1 Nl:=okF_eq (by kernel_rfl)
theorem MO : a_ cx 216 1 IT:=okF_eq (by kernel_rfl)
theorem VU : a_ cx 242 1 Ny:=okF_eq (by kernel_rfl)
theorem V0 : a_ cx 262 2 NF:=okF_eq (by kernel_rfl)
theorem V2 : a_ cx 264 3 NG:=okF_eq (by kernel_rfl)
theorem Wa : a_ cx 274 1 NO:=okF_eq (by kernel_rfl)
theorem Wh : a_ cx 293 1 NU:=okF_eq (by kernel_rfl)
theorem Wo : a_ cx 301 2 N1:=okF_eq (by kernel_rfl)
theorem Wv : a_ cx 317 1 N7:=okF_eq (by kernel_rfl)
theorem WC : a_ cx 330 3 Oc:=okF_eq (by kernel_rfl)
theorem WJ : a_ cx 336 1 Oi:=okF_eq (by kernel_rfl)
theorem WQ : a_ cx 342 3 Oq:=okF_eq (by kernel_rfl)
theorem WS : a_ cx 348 1 Ov:=okF_eq (by kernel_rfl)
end Go.Proofs.YtdepmampjnlgiaaGreatDoor
