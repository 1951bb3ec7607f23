/- The terms of functions are those that are told: by computation. No condition. -/
import Derived.Test.YtdepmampjnlgiaaGreatDoorPaa
import Derived.Test.YtdepmampjnlgiaaGreatDoorPab
namespace Go.Proofs.YtdepmampjnlgiaaGreatDoor
set_option maxRecDepth 100000
theorem VM : a_ cx 21 1 RK:=okF_eq (by kernel_rfl)
theorem Wq : a_ cx 31 1 XR:=okF_eq (by kernel_rfl)
theorem aa8 : a_ cx 38 2 XU:=okF_eq (by kernel_rfl)
theorem aa' : a_ cx 57 2 XW:=okF_eq (by kernel_rfl)
theorem abf : a_ cx 70 2 X4:=okF_eq (by kernel_rfl)
theorem W2 : a_ cx 72 3 RX:=okF_eq (by kernel_rfl)
theorem W6 : a_ cx 78 2 R4:=okF_eq (by kernel_rfl)
theorem MC : a_ cx 105 2 IH:=okF_eq (by kernel_rfl)
theorem ME : a_ cx 110 1 Nb:=okF_eq (by kernel_rfl)
theorem HZ : a_ cx 112 2 II:=okF_eq (by kernel_rfl)
theorem MG : a_ cx 118 2 IJ:=okF_eq (by kernel_rfl)
theorem ML : a_ cx 126 2 IP:=okF_eq (by kernel_rfl)
theorem VO : a_ cx 211 3 Nt:=okF_eq (by kernel_rfl)
theorem VP : a_ cx 214 1 Nu:=okF_eq (by kernel_rfl)
theorem VQ : a_ cx 215 3 Nv:=okF_eq (by kernel_rfl)
theorem VZ : a_ cx 252 1 ND:=okF_eq (by kernel_rfl)
theorem V9 : a_ cx 271 2 NM:=okF_eq (by kernel_rfl)
theorem V_ : a_ cx 272 2 NN:=okF_eq (by kernel_rfl)
theorem Wg : a_ cx 292 2 NT:=okF_eq (by kernel_rfl)
theorem Wn : a_ cx 300 3 N0:=okF_eq (by kernel_rfl)
theorem Wu : a_ cx 316 3 N6:=okF_eq (by kernel_rfl)
theorem WA : a_ cx 322 3 Oa:=okF_eq (by kernel_rfl)
theorem WI : a_ cx 335 2 Oh:=okF_eq (by kernel_rfl)
theorem WO : a_ cx 341 1 Oo:=okF_eq (by kernel_rfl)
end Go.Proofs.YtdepmampjnlgiaaGreatDoor
