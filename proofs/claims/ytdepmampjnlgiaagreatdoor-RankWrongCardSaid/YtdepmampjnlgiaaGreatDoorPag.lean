/- The terms of functions are those that are told: by computation. No condition. -/
import Derived.Test.YtdepmampjnlgiaaGreatDoorPaa
import Derived.Test.YtdepmampjnlgiaaGreatDoorPab
namespace Go.Proofs.YtdepmampjnlgiaaGreatDoor
set_option maxRecDepth 100000
theorem WY : a_ cx 6 3 tm6:=okF_eq (by kernel_rfl)
theorem aa6 : a_ cx 32 3 XS:=okF_eq (by kernel_rfl)
theorem WX : a_ cx 51 1 RT:=okF_eq (by kernel_rfl)
theorem abb : a_ cx 66 1 X0:=okF_eq (by kernel_rfl)
theorem W4 : a_ cx 74 1 RZ:=okF_eq (by kernel_rfl)
theorem W8 : a_ cx 94 2 R7:=okF_eq (by kernel_rfl)
theorem MF : a_ cx 111 2 Nc:=okF_eq (by kernel_rfl)
theorem MJ : a_ cx 121 2 IM:=okF_eq (by kernel_rfl)
theorem MK : a_ cx 122 3 IN:=okF_eq (by kernel_rfl)
theorem VH : a_ cx 183 1 No:=okF_eq (by kernel_rfl)
theorem MN : a_ cx 187 3 DV:=okF_eq (by kernel_rfl)
theorem VJ : a_ cx 188 1 Nq:=okF_eq (by kernel_rfl)
theorem VW : a_ cx 249 1 NA:=okF_eq (by kernel_rfl)
theorem V1 : a_ cx 263 1 IU:=okF_eq (by kernel_rfl)
theorem V4 : a_ cx 267 1 NI:=okF_eq (by kernel_rfl)
theorem Wc : a_ cx 281 2 NQ:=okF_eq (by kernel_rfl)
theorem Wi : a_ cx 295 3 NV:=okF_eq (by kernel_rfl)
theorem Wk : a_ cx 297 1 NX:=okF_eq (by kernel_rfl)
theorem Wr : a_ cx 310 2 N3:=okF_eq (by kernel_rfl)
theorem Wx : a_ cx 319 2 N9:=okF_eq (by kernel_rfl)
theorem WE : a_ cx 332 3 Oe:=okF_eq (by kernel_rfl)
theorem WL : a_ cx 338 2 Ol:=okF_eq (by kernel_rfl)
theorem WR : a_ cx 343 3 Ot:=okF_eq (by kernel_rfl)
theorem WU : a_ cx 350 3 Ox:=okF_eq (by kernel_rfl)
end Go.Proofs.YtdepmampjnlgiaaGreatDoor
