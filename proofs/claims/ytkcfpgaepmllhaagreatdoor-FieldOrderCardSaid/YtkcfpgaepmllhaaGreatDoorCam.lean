/- Calls give what is told: by computation. No condition. -/
import Derived.Test.YtkcfpgaepmllhaaGreatDoorCak
import Derived.Test.YtkcfpgaepmllhaaGreatDoorCab
import Derived.Test.YtkcfpgaepmllhaaGreatDoorCaj
namespace Go.Proofs.YtkcfpgaepmllhaaGreatDoor
set_option maxRecDepth 100000
noncomputable section
def s0 : gW:=[]
theorem c0 : chunk (iF tr.get (dZ (bh s0) aT) 10000 60) 166 0 6 ahx.S6 = true:=by kernel_rfl
def s21 : gW:=[(91,ahx.pK,[25,0,0,0,0,0,0,0,0,0,0,0]),(226,ahx.gN,[0,0,0,0,0,0,5,0,0,0])]
theorem c21 : chunk (iF tr.get (dZ (bh s21) aT) 10000 60) 90 31 3 ahx.pJ = true:=by kernel_rfl
def s24 : gW:=[(91,ahx.pK,[25,0,0,0,0,0,0,0,0,0,0,0]),(226,ahx.gN,[11,0,0,0])]
theorem c24 : chunk (iF tr.get (dZ (bh s24) aT) 10000 60) 90 36 1 ahx.pJ = true:=by kernel_rfl
def s26 : gW:=[(91,ahx.pK,[18,3,0,13,0,0,0,0,0,0,0,0,0,0,0]),(226,ahx.gN,[0,0,0,0,0,0,0,0,0,0,0])]
theorem c26 : chunk (iF tr.get (dZ (bh s26) aT) 10000 60) 90 38 3 ahx.pJ = true:=by kernel_rfl
def s27 : gW:=[(91,ahx.pK,[18,3,0,0,12,0,0,0,0,0,0,0,0,0,0,0,0,0,0,0]),(226,ahx.gN,[6,0,0,0,0,0,0,0,0])]
theorem c27 : chunk (iF tr.get (dZ (bh s27) aT) 10000 60) 90 41 1 ahx.pJ = true:=by kernel_rfl
def s31 : gW:=[(91,ahx.pK,[18,3,0,0,12,0,0,0,0,0,0,0,0,0,0,0,0,0,0,0,0,0,0,0,0]),(226,ahx.gN,[6,0,0,0,0])]
theorem c31 : chunk (iF tr.get (dZ (bh s31) aT) 10000 60) 90 45 1 ahx.pJ = true:=by kernel_rfl
def s36 : gW:=[]
theorem c36 : chunk (iF tr.get (dZ (bh s36) aT) 10000 60) 286 0 1 ahx.FE = true:=by kernel_rfl
def s39 : gW:=[]
theorem c39 : chunk (iF tr.get (dZ (bh s39) aT) 10000 60) 225 0 5 ahx.K8 = true:=by kernel_rfl
def s40 : gW:=[(225,ahx.K8,[0,0,0])]
theorem c40 : chunk (iF tr.get (dZ (bh s40) aT) 10000 60) 179 0 2 ahx.S_ = true:=by kernel_rfl
end
end Go.Proofs.YtkcfpgaepmllhaaGreatDoor
