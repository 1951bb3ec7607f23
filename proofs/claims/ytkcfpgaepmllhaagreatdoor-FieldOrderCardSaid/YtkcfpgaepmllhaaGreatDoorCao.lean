/- Calls give what is told: by computation. No condition. -/
import Derived.Test.YtkcfpgaepmllhaaGreatDoorCak
import Derived.Test.YtkcfpgaepmllhaaGreatDoorCab
import Derived.Test.YtkcfpgaepmllhaaGreatDoorCaj
namespace Go.Proofs.YtkcfpgaepmllhaaGreatDoor
set_option maxRecDepth 100000
noncomputable section
def s5 : gW:=[]
theorem c5 : chunk (iF tr.get (dZ (bh s5) aT) 10000 60) 218 0 3 ahx.Tb = true:=by kernel_rfl
def s6 : gW:=[(171,ahx.S9,[0]),(218,ahx.Tb,[0,0,0])]
theorem c6 : chunk (iF tr.get (dZ (bh s6) aT) 10000 60) 123 0 24 ahx.S5 = true:=by kernel_rfl
def s7 : gW:=[]
theorem c7 : chunk (iF tr.get (dZ (bh s7) aT) 10000 60) 91 0 58 ahx.pK = true:=by kernel_rfl
def s11 : gW:=[(91,ahx.pK,[0,0,0,0,0,0,0,0,0,0,0,0,0]),(226,ahx.gN,[6,0,0,0,0,0,0,0,0])]
theorem c11 : chunk (iF tr.get (dZ (bh s11) aT) 10000 60) 90 6 1 ahx.pJ = true:=by kernel_rfl
def s16 : gW:=[(91,ahx.pK,[1,0,0,0,0,0,0,0,0,0,0,0,4]),(226,ahx.gN,[1,0,0,0,0,0,0,0,0,0])]
theorem c16 : chunk (iF tr.get (dZ (bh s16) aT) 10000 60) 90 19 2 ahx.pJ = true:=by kernel_rfl
def s18 : gW:=[(91,ahx.pK,[1,0,0,0,0,0,0,0,0,0,0,0,4]),(226,ahx.gN,[0,0,2,0,0,0,0,0,0])]
theorem c18 : chunk (iF tr.get (dZ (bh s18) aT) 10000 60) 90 22 2 ahx.pJ = true:=by kernel_rfl
def s29 : gW:=[(91,ahx.pK,[18,3,0,0,12,0,0,0,0,0,0,0,0,0,0,0,0,0,0,0,0,0,0,0,0]),(226,ahx.gN,[6,0,0,0,0])]
theorem c29 : chunk (iF tr.get (dZ (bh s29) aT) 10000 60) 90 43 1 ahx.pJ = true:=by kernel_rfl
def s33 : gW:=[(91,ahx.pK,[0,0,0,0,0,0,0,0,0,0,0,0,0,0,0,0,0,0,0,0,0,0,0,0,0,0,0,0,0,0,0,0,0,0,0,0,0,0,0,0,0,0,0,0,0,0,0,0,0,0,0,0,0,0,0,0,0,0]),(90,ahx.pJ,[0,0,0,0,0,0,0,0,0,0,0,0,0,0,0,0,0,0,0,0,0,0,0,0,0,0,0,0,0,0,0,0,0,0,0,0,0,0,0,0,0,0,0,0,0])]
theorem c33 : chunk (iF tr.get (dZ (bh s33) aT) 10000 60) 54 0 89 ahx.Xl = true:=by kernel_rfl
def s41 : gW:=[(286,ahx.FE,[0])]
theorem c41 : chunk (iF tr.get (dZ (bh s41) aT) 10000 60) 222 0 1 ahx.Tc = true:=by kernel_rfl
end
end Go.Proofs.YtkcfpgaepmllhaaGreatDoor
