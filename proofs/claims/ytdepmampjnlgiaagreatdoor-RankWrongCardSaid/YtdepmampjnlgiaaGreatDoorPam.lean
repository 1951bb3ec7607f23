/- Calls give what is told: by computation. No condition. -/
import Derived.Test.YtdepmampjnlgiaaGreatDoorPak
import Derived.Test.YtdepmampjnlgiaaGreatDoorPab
import Derived.Test.YtdepmampjnlgiaaGreatDoorPaj
import Derived.Test.YtdepmampjnlgiaaGreatDoorPal
namespace Go.Proofs.YtdepmampjnlgiaaGreatDoor
set_option maxRecDepth 100000
noncomputable section
def s9 : gI:=[(95,ak.pf,[0,0,0,0,0]),(272,ak.gz,[0,0,0,0,0,0,0,0,0,0,0])]
theorem c9 : chunk (h_ tr.get (dG (aY s9) aR) 10000 60) 94 0 4 ak.pe = true:=by kernel_rfl
def s13 : gI:=[(95,ak.pf,[13,0,0,0]),(272,ak.gz,[0,0,0,0,0,0,5,0,0,0])]
theorem c13 : chunk (h_ tr.get (dG (aY s13) aR) 10000 60) 94 9 4 ak.pe = true:=by kernel_rfl
def s15 : gI:=[(95,ak.pf,[1,0,0,0,8,0,0,0,0]),(272,ak.gz,[0,5,0,0,0,0,0,0,0,0])]
theorem c15 : chunk (h_ tr.get (dG (aY s15) aR) 10000 60) 94 17 2 ak.pe = true:=by kernel_rfl
def s32 : gI:=[(95,ak.pf,[18,3,0,0,12,0,0,0,0,0,0,0,0,0,0,0,0,0,0,0,0,0,0,0,0]),(272,ak.gz,[6,0,0,0,0])]
theorem c32 : chunk (h_ tr.get (dG (aY s32) aR) 10000 60) 94 46 1 ak.pe = true:=by kernel_rfl
def s34 : gI:=[(95,ak.pf,[18,3,0,0,12,0,0,0,0,0,0,0,0,0,0,0,0,0,0,0,0,0,0,0,0]),(94,ak.pe,[44,0,0])]
theorem c34 : chunk (h_ tr.get (dG (aY s34) aR) 10000 60) 46 89 5 ak.Hc = true:=by kernel_rfl
def s36 : gI:=[]
theorem c36 : chunk (h_ tr.get (dG (aY s36) aR) 10000 60) 348 0 1 ak.Hb = true:=by kernel_rfl
def s37 : gI:=[(348,ak.Hb,[0])]
theorem c37 : chunk (h_ tr.get (dG (aY s37) aR) 10000 60) 116 0 3 ak.Qq = true:=by kernel_rfl
def s39 : gI:=[(348,ak.Hb,[0])]
theorem c39 : chunk (h_ tr.get (dG (aY s39) aR) 10000 60) 292 0 1 ak.Qz = true:=by kernel_rfl
def s43 : gI:=[(46,ak.Hc,[4]),(22,ak.Ze,[0]),(23,ak.SR,[0,0,0]),(31,ak.k31,[0,0]),(348,ak.Hb,[0]),(116,ak.Qq,[0,0,0]),(122,ak.Ka,[0]),(292,ak.Qz,[0]),(295,ak.QA,[0,0,0,0,0])]
theorem c43 : chunk (h_ tr.get (dG (aY s43) aR) 10000 60) 12 0 1 ak.SQ = true:=by kernel_rfl
end
end Go.Proofs.YtdepmampjnlgiaaGreatDoor
