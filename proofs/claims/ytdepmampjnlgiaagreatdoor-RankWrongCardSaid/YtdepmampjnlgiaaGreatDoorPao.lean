/- Calls give what is told: by computation. No condition. -/
import Derived.Test.YtdepmampjnlgiaaGreatDoorPak
import Derived.Test.YtdepmampjnlgiaaGreatDoorPab
import Derived.Test.YtdepmampjnlgiaaGreatDoorPaj
import Derived.Test.YtdepmampjnlgiaaGreatDoorPal
namespace Go.Proofs.YtdepmampjnlgiaaGreatDoor
set_option maxRecDepth 100000
noncomputable section
def s1 : gI:=[]
theorem c1 : Pp (h_ tr.get (dG (aY s1) aR) 10000 60) 10000 1 tmA ak.fD = true:=by kernel_rfl
def s3 : gI:=[(1000110000263,ak.fD,[3,0,0,0,0])]
theorem c3 : chunk (h_ tr.get (dG (aY s3) aR) 10000 60) 210 0 5 ak.Qt = true:=by kernel_rfl
def s17 : gI:=[(95,ak.pf,[1,0,0,0,0,0,0,0,0,0,0,0,4]),(272,ak.gz,[6,0,0,0,0,0,0,0,0])]
theorem c17 : chunk (h_ tr.get (dG (aY s17) aR) 10000 60) 94 21 1 ak.pe = true:=by kernel_rfl
def s19 : gI:=[(95,ak.pf,[18,0,0,0,0,0]),(272,ak.gz,[0,0,0,0,0,0,0,0,0])]
theorem c19 : chunk (h_ tr.get (dG (aY s19) aR) 10000 60) 94 24 5 ak.pe = true:=by kernel_rfl
def s20 : gI:=[(95,ak.pf,[18,0,0,0,0,0,0]),(272,ak.gz,[1,0,0,2,0,0,0,0,0,0,0,0])]
theorem c20 : chunk (h_ tr.get (dG (aY s20) aR) 10000 60) 94 29 2 ak.pe = true:=by kernel_rfl
def s28 : gI:=[(95,ak.pf,[18,3,0,0,12,0,0,0,0,0,0,0,0,0,0,0,0,0,0,0,0,0,0,0,0]),(272,ak.gz,[6,0,0,0,0])]
theorem c28 : chunk (h_ tr.get (dG (aY s28) aR) 10000 60) 94 42 1 ak.pe = true:=by kernel_rfl
def s30 : gI:=[(95,ak.pf,[18,3,0,0,12,0,0,0,0,0,0,0,0,0,0,0,0,0,0,0,0,0,0,0,0]),(272,ak.gz,[6,0,0,0,0])]
theorem c30 : chunk (h_ tr.get (dG (aY s30) aR) 10000 60) 94 44 1 ak.pe = true:=by kernel_rfl
def s35 : gI:=[]
theorem c35 : chunk (h_ tr.get (dG (aY s35) aR) 10000 60) 31 0 2 ak.k31 = true:=by kernel_rfl
def s41 : gI:=[]
theorem c41 : chunk (h_ tr.get (dG (aY s41) aR) 10000 60) 78 0 1 ak.k78 = true:=by kernel_rfl
end
end Go.Proofs.YtdepmampjnlgiaaGreatDoor
