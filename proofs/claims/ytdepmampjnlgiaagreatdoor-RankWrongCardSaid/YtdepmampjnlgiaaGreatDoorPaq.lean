/- Calls give what is told: by computation. No condition. -/
import Derived.Test.YtdepmampjnlgiaaGreatDoorPak
import Derived.Test.YtdepmampjnlgiaaGreatDoorPab
import Derived.Test.YtdepmampjnlgiaaGreatDoorPaj
import Derived.Test.YtdepmampjnlgiaaGreatDoorPal
namespace Go.Proofs.YtdepmampjnlgiaaGreatDoor
set_option maxRecDepth 100000
noncomputable section
def s7 : gI:=[]
theorem c7 : chunk (h_ tr.get (dG (aY s7) aR) 10000 60) 95 0 58 ak.pf = true:=by kernel_rfl
def s10 : gI:=[(95,ak.pf,[0,0,0,0,0,0,0,0,0,0,0,0,0]),(272,ak.gz,[1,0,0,0,0,0,0,0,0,0])]
theorem c10 : chunk (h_ tr.get (dG (aY s10) aR) 10000 60) 94 4 2 ak.pe = true:=by kernel_rfl
def s12 : gI:=[(95,ak.pf,[0,0,0,0,0,0,0,0,0,0,0,0,0]),(272,ak.gz,[0,3,0,0,0,0,0,0])]
theorem c12 : chunk (h_ tr.get (dG (aY s12) aR) 10000 60) 94 7 2 ak.pe = true:=by kernel_rfl
def s14 : gI:=[(95,ak.pf,[13,0,0,0]),(272,ak.gz,[0,0,0,0,0,0,5,0,0,0])]
theorem c14 : chunk (h_ tr.get (dG (aY s14) aR) 10000 60) 94 13 4 ak.pe = true:=by kernel_rfl
def s22 : gI:=[(95,ak.pf,[25,0,0,0,0,0,0,0,0,0,0,0]),(272,ak.gz,[11,0,0,0])]
theorem c22 : chunk (h_ tr.get (dG (aY s22) aR) 10000 60) 94 34 1 ak.pe = true:=by kernel_rfl
def s23 : gI:=[(95,ak.pf,[25,0,0,0,0,0,0,0,0,0,0,0]),(272,ak.gz,[6,0,0,0,0,0,0,0,0])]
theorem c23 : chunk (h_ tr.get (dG (aY s23) aR) 10000 60) 94 35 1 ak.pe = true:=by kernel_rfl
def s25 : gI:=[(95,ak.pf,[25,0,0,0,0,0,0,0,0,0,0,0]),(272,ak.gz,[11,0,0,0])]
theorem c25 : chunk (h_ tr.get (dG (aY s25) aR) 10000 60) 94 37 1 ak.pe = true:=by kernel_rfl
def s40 : gI:=[]
theorem c40 : chunk (h_ tr.get (dG (aY s40) aR) 10000 60) 71 0 2 ak.k71 = true:=by kernel_rfl
end
end Go.Proofs.YtdepmampjnlgiaaGreatDoor
