/- Calls give what is told: by computation. No condition. -/
import Derived.Test.YtdepmampjnlgiaaGreatDoorPak
import Derived.Test.YtdepmampjnlgiaaGreatDoorPab
import Derived.Test.YtdepmampjnlgiaaGreatDoorPaj
import Derived.Test.YtdepmampjnlgiaaGreatDoorPal
namespace Go.Proofs.YtdepmampjnlgiaaGreatDoor
set_option maxRecDepth 100000
noncomputable section
def s2 : gI:=[(1000110000263,ak.fD,[0,0,0,0,0,0,0,0,0,0,0,0,0,0,0,0,0,0])]
theorem c2 : chunk (h_ tr.get (dG (aY s2) aR) 10000 60) 211 0 18 ak.Qu = true:=by kernel_rfl
def s4 : gI:=[]
theorem c4 : chunk (h_ tr.get (dG (aY s4) aR) 10000 60) 214 0 1 ak.Qv = true:=by kernel_rfl
def s6 : gI:=[(214,ak.Qv,[0]),(271,ak.Qy,[0,0,0])]
theorem c6 : chunk (h_ tr.get (dG (aY s6) aR) 10000 60) 150 0 24 ak.Qr = true:=by kernel_rfl
def s11 : gI:=[(95,ak.pf,[0,0,0,0,0,0,0,0,0,0,0,0,0]),(272,ak.gz,[6,0,0,0,0,0,0,0,0])]
theorem c11 : chunk (h_ tr.get (dG (aY s11) aR) 10000 60) 94 6 1 ak.pe = true:=by kernel_rfl
def s16 : gI:=[(95,ak.pf,[1,0,0,0,0,0,0,0,0,0,0,0,4]),(272,ak.gz,[1,0,0,0,0,0,0,0,0,0])]
theorem c16 : chunk (h_ tr.get (dG (aY s16) aR) 10000 60) 94 19 2 ak.pe = true:=by kernel_rfl
def s18 : gI:=[(95,ak.pf,[1,0,0,0,0,0,0,0,0,0,0,0,4]),(272,ak.gz,[0,0,2,0,0,0,0,0,0])]
theorem c18 : chunk (h_ tr.get (dG (aY s18) aR) 10000 60) 94 22 2 ak.pe = true:=by kernel_rfl
def s29 : gI:=[(95,ak.pf,[18,3,0,0,12,0,0,0,0,0,0,0,0,0,0,0,0,0,0,0,0,0,0,0,0]),(272,ak.gz,[6,0,0,0,0])]
theorem c29 : chunk (h_ tr.get (dG (aY s29) aR) 10000 60) 94 43 1 ak.pe = true:=by kernel_rfl
def s33 : gI:=[(95,ak.pf,[0,0,0,0,0,0,0,0,0,0,0,0,0,0,0,0,0,0,0,0,0,0,0,0,0,0,0,0,0,0,0,0,0,0,0,0,0,0,0,0,0,0,0,0,0,0,0,0,0,0,0,0,0,0,0,0,0,0]),(94,ak.pe,[0,0,0,0,0,0,0,0,0,0,0,0,0,0,0,0,0,0,0,0,0,0,0,0,0,0,0,0,0,0,0,0,0,0,0,0,0,0,0,0,0,0,0,0,0])]
theorem c33 : chunk (h_ tr.get (dG (aY s33) aR) 10000 60) 46 0 89 ak.Hc = true:=by kernel_rfl
def s38 : gI:=[]
theorem c38 : chunk (h_ tr.get (dG (aY s38) aR) 10000 60) 122 0 1 ak.Ka = true:=by kernel_rfl
end
end Go.Proofs.YtdepmampjnlgiaaGreatDoor
