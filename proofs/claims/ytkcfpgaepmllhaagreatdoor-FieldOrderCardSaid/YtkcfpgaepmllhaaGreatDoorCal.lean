/- Calls give what is told: by computation. No condition. -/
import Derived.Test.YtkcfpgaepmllhaaGreatDoorCak
import Derived.Test.YtkcfpgaepmllhaaGreatDoorCab
import Derived.Test.YtkcfpgaepmllhaaGreatDoorCaj
namespace Go.Proofs.YtkcfpgaepmllhaaGreatDoor
set_option maxRecDepth 100000
noncomputable section
def s2 : gW:=[(1000043000210,ahx.fV,[0,0,0,0,0,0,0,0,0,0,0,0,0,0,0,0,0,0])]
theorem c2 : chunk (iF tr.get (dZ (bh s2) aT) 10000 60) 168 0 18 ahx.S8 = true:=by kernel_rfl
def s9 : gW:=[(91,ahx.pK,[0,0,0,0,0]),(226,ahx.gN,[0,0,0,0,0,0,0,0,0,0,0])]
theorem c9 : chunk (iF tr.get (dZ (bh s9) aT) 10000 60) 90 0 4 ahx.pJ = true:=by kernel_rfl
def s13 : gW:=[(91,ahx.pK,[13,0,0,0]),(226,ahx.gN,[0,0,0,0,0,0,5,0,0,0])]
theorem c13 : chunk (iF tr.get (dZ (bh s13) aT) 10000 60) 90 9 4 ahx.pJ = true:=by kernel_rfl
def s15 : gW:=[(91,ahx.pK,[1,0,0,0,8,0,0,0,0]),(226,ahx.gN,[0,5,0,0,0,0,0,0,0,0])]
theorem c15 : chunk (iF tr.get (dZ (bh s15) aT) 10000 60) 90 17 2 ahx.pJ = true:=by kernel_rfl
def s32 : gW:=[(91,ahx.pK,[18,3,0,0,12,0,0,0,0,0,0,0,0,0,0,0,0,0,0,0,0,0,0,0,0]),(226,ahx.gN,[6,0,0,0,0])]
theorem c32 : chunk (iF tr.get (dZ (bh s32) aT) 10000 60) 90 46 1 ahx.pJ = true:=by kernel_rfl
def s34 : gW:=[(91,ahx.pK,[18,3,0,0,12,0,0,0,0,0,0,0,0,0,0,0,0,0,0,0,0,0,0,0,0]),(90,ahx.pJ,[44,0,0])]
theorem c34 : chunk (iF tr.get (dZ (bh s34) aT) 10000 60) 54 89 5 ahx.Xl = true:=by kernel_rfl
def s37 : gW:=[(286,ahx.FE,[0])]
theorem c37 : chunk (iF tr.get (dZ (bh s37) aT) 10000 60) 149 0 2 ahx.K7 = true:=by kernel_rfl
def s42 : gW:=[(54,ahx.Xl,[4]),(20,ahx.Ta,[0,0,0]),(286,ahx.FE,[0]),(149,ahx.K7,[0,0]),(88,ahx.k88,[0,0]),(225,ahx.K8,[3,0]),(179,ahx.S_,[0,0]),(222,ahx.Tc,[0])]
theorem c42 : chunk (iF tr.get (dZ (bh s42) aT) 10000 60) 11 0 1 ahx.Va = true:=by kernel_rfl
end
end Go.Proofs.YtkcfpgaepmllhaaGreatDoor
