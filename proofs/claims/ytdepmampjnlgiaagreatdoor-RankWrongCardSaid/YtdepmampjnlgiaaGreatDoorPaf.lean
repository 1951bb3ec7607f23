/- The terms of functions are those that are told: by computation. No condition. -/
import Derived.Test.YtdepmampjnlgiaaGreatDoorPaa
import Derived.Test.YtdepmampjnlgiaaGreatDoorPab
namespace Go.Proofs.YtdepmampjnlgiaaGreatDoor
set_option maxRecDepth 100000
theorem Q2 : a_ cx 23 2 La:=okF_eq (by kernel_rfl)
theorem aa5 : a_ cx 30 2 XQ:=okF_eq (by kernel_rfl)
theorem Q3 : a_ cx 46 1 RQ:=okF_eq (by kernel_rfl)
theorem KB : a_ cx 52 1 Lb:=okF_eq (by kernel_rfl)
theorem abc : a_ cx 67 2 X1:=okF_eq (by kernel_rfl)
theorem W5 : a_ cx 75 1 X5:=okF_eq (by kernel_rfl)
theorem abi : a_ cx 95 1 X8:=okF_eq (by kernel_rfl)
theorem Vw : a_ cx 114 1 Nd:=okF_eq (by kernel_rfl)
theorem Vy : a_ cx 116 1 Ng:=okF_eq (by kernel_rfl)
theorem VA : a_ cx 124 3 Ni:=okF_eq (by kernel_rfl)
theorem mf : a_ cx 148 3 IQ:=okF_eq (by kernel_rfl)
theorem VI : a_ cx 184 2 Np:=okF_eq (by kernel_rfl)
theorem VN : a_ cx 210 2 Ns:=okF_eq (by kernel_rfl)
theorem VS : a_ cx 239 2 Nw:=okF_eq (by kernel_rfl)
theorem VT : a_ cx 240 2 Nx:=okF_eq (by kernel_rfl)
theorem VX : a_ cx 250 2 NB:=okF_eq (by kernel_rfl)
theorem V6 : a_ cx 269 1 NK:=okF_eq (by kernel_rfl)
theorem Wd : a_ cx 283 1 NR:=okF_eq (by kernel_rfl)
theorem Wl : a_ cx 298 1 NY:=okF_eq (by kernel_rfl)
theorem Ws : a_ cx 311 1 N4:=okF_eq (by kernel_rfl)
theorem Wy : a_ cx 320 2 N':=okF_eq (by kernel_rfl)
theorem WG : a_ cx 333 3 Of:=okF_eq (by kernel_rfl)
theorem WM : a_ cx 339 2 Om:=okF_eq (by kernel_rfl)
end Go.Proofs.YtdepmampjnlgiaaGreatDoor
