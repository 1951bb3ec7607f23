/- Calls give what is told: by computation. No condition. -/
import Derived.Test.YtkcfpgaepmllhaaGreatDoorCak
import Derived.Test.YtkcfpgaepmllhaaGreatDoorCab
import Derived.Test.YtkcfpgaepmllhaaGreatDoorCaj
namespace Go.Proofs.YtkcfpgaepmllhaaGreatDoor
set_option maxRecDepth 100000
noncomputable section
def s1 : gW:=[]
theorem c1 : RN (iF tr.get (dZ (bh s1) aT) 10000 60) 10000 1 tmA ahx.fV = true:=by kernel_rfl
def s3 : gW:=[(1000043000210,ahx.fV,[3,0,0,0,0])]
theorem c3 : chunk (iF tr.get (dZ (bh s3) aT) 10000 60) 167 0 5 ahx.S7 = true:=by kernel_rfl
def s8 : gW:=[]
theorem c8 : chunk (iF tr.get (dZ (bh s8) aT) 10000 60) 226 0 15 ahx.gN = true:=by kernel_rfl
def s17 : gW:=[(91,ahx.pK,[1,0,0,0,0,0,0,0,0,0,0,0,4]),(226,ahx.gN,[6,0,0,0,0,0,0,0,0])]
theorem c17 : chunk (iF tr.get (dZ (bh s17) aT) 10000 60) 90 21 1 ahx.pJ = true:=by kernel_rfl
def s19 : gW:=[(91,ahx.pK,[18,0,0,0,0,0]),(226,ahx.gN,[0,0,0,0,0,0,0,0,0])]
theorem c19 : chunk (iF tr.get (dZ (bh s19) aT) 10000 60) 90 24 5 ahx.pJ = true:=by kernel_rfl
def s20 : gW:=[(91,ahx.pK,[18,0,0,0,0,0,0]),(226,ahx.gN,[1,0,0,2,0,0,0,0,0,0,0,0])]
theorem c20 : chunk (iF tr.get (dZ (bh s20) aT) 10000 60) 90 29 2 ahx.pJ = true:=by kernel_rfl
def s28 : gW:=[(91,ahx.pK,[18,3,0,0,12,0,0,0,0,0,0,0,0,0,0,0,0,0,0,0,0,0,0,0,0]),(226,ahx.gN,[6,0,0,0,0])]
theorem c28 : chunk (iF tr.get (dZ (bh s28) aT) 10000 60) 90 42 1 ahx.pJ = true:=by kernel_rfl
def s30 : gW:=[(91,ahx.pK,[18,3,0,0,12,0,0,0,0,0,0,0,0,0,0,0,0,0,0,0,0,0,0,0,0]),(226,ahx.gN,[6,0,0,0,0])]
theorem c30 : chunk (iF tr.get (dZ (bh s30) aT) 10000 60) 90 44 1 ahx.pJ = true:=by kernel_rfl
def s35 : gW:=[]
theorem c35 : chunk (iF tr.get (dZ (bh s35) aT) 10000 60) 20 0 3 ahx.Ta = true:=by kernel_rfl
end
end Go.Proofs.YtkcfpgaepmllhaaGreatDoor
