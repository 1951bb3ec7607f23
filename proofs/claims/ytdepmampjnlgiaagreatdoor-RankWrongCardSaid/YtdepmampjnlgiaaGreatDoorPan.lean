/- Calls give what is told: by computation. No condition. -/
import Derived.Test.YtdepmampjnlgiaaGreatDoorPak
import Derived.Test.YtdepmampjnlgiaaGreatDoorPab
import Derived.Test.YtdepmampjnlgiaaGreatDoorPaj
import Derived.Test.YtdepmampjnlgiaaGreatDoorPal
namespace Go.Proofs.YtdepmampjnlgiaaGreatDoor
set_option maxRecDepth 100000
noncomputable section
def s0 : gI:=[]
theorem c0 : chunk (h_ tr.get (dG (aY s0) aR) 10000 60) 209 0 6 ak.Qs = true:=by kernel_rfl
def s5 : gI:=[]
theorem c5 : chunk (h_ tr.get (dG (aY s5) aR) 10000 60) 271 0 3 ak.Qy = true:=by kernel_rfl
def s8 : gI:=[]
theorem c8 : chunk (h_ tr.get (dG (aY s8) aR) 10000 60) 272 0 15 ak.gz = true:=by kernel_rfl
def s21 : gI:=[(95,ak.pf,[25,0,0,0,0,0,0,0,0,0,0,0]),(272,ak.gz,[0,0,0,0,0,0,5,0,0,0])]
theorem c21 : chunk (h_ tr.get (dG (aY s21) aR) 10000 60) 94 31 3 ak.pe = true:=by kernel_rfl
def s24 : gI:=[(95,ak.pf,[25,0,0,0,0,0,0,0,0,0,0,0]),(272,ak.gz,[11,0,0,0])]
theorem c24 : chunk (h_ tr.get (dG (aY s24) aR) 10000 60) 94 36 1 ak.pe = true:=by kernel_rfl
def s26 : gI:=[(95,ak.pf,[18,3,0,13,0,0,0,0,0,0,0,0,0,0,0]),(272,ak.gz,[0,0,0,0,0,0,0,0,0,0,0])]
theorem c26 : chunk (h_ tr.get (dG (aY s26) aR) 10000 60) 94 38 3 ak.pe = true:=by kernel_rfl
def s27 : gI:=[(95,ak.pf,[18,3,0,0,12,0,0,0,0,0,0,0,0,0,0,0,0,0,0,0]),(272,ak.gz,[6,0,0,0,0,0,0,0,0])]
theorem c27 : chunk (h_ tr.get (dG (aY s27) aR) 10000 60) 94 41 1 ak.pe = true:=by kernel_rfl
def s31 : gI:=[(95,ak.pf,[18,3,0,0,12,0,0,0,0,0,0,0,0,0,0,0,0,0,0,0,0,0,0,0,0]),(272,ak.gz,[6,0,0,0,0])]
theorem c31 : chunk (h_ tr.get (dG (aY s31) aR) 10000 60) 94 45 1 ak.pe = true:=by kernel_rfl
def s42 : gI:=[(122,ak.Ka,[0]),(71,ak.k71,[0,0]),(78,ak.k78,[0])]
theorem c42 : chunk (h_ tr.get (dG (aY s42) aR) 10000 60) 295 0 5 ak.QA = true:=by kernel_rfl
end
end Go.Proofs.YtdepmampjnlgiaaGreatDoor
