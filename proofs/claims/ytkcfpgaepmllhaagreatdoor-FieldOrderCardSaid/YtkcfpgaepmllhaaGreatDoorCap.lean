/- Calls give what is told: by computation. No condition. -/
import Derived.Test.YtkcfpgaepmllhaaGreatDoorCak
import Derived.Test.YtkcfpgaepmllhaaGreatDoorCab
import Derived.Test.YtkcfpgaepmllhaaGreatDoorCaj
namespace Go.Proofs.YtkcfpgaepmllhaaGreatDoor
set_option maxRecDepth 100000
noncomputable section
def s4 : gW:=[]
theorem c4 : chunk (iF tr.get (dZ (bh s4) aT) 10000 60) 171 0 1 ahx.S9 = true:=by kernel_rfl
def s10 : gW:=[(91,ahx.pK,[0,0,0,0,0,0,0,0,0,0,0,0,0]),(226,ahx.gN,[1,0,0,0,0,0,0,0,0,0])]
theorem c10 : chunk (iF tr.get (dZ (bh s10) aT) 10000 60) 90 4 2 ahx.pJ = true:=by kernel_rfl
def s12 : gW:=[(91,ahx.pK,[0,0,0,0,0,0,0,0,0,0,0,0,0]),(226,ahx.gN,[0,3,0,0,0,0,0,0])]
theorem c12 : chunk (iF tr.get (dZ (bh s12) aT) 10000 60) 90 7 2 ahx.pJ = true:=by kernel_rfl
def s14 : gW:=[(91,ahx.pK,[13,0,0,0]),(226,ahx.gN,[0,0,0,0,0,0,5,0,0,0])]
theorem c14 : chunk (iF tr.get (dZ (bh s14) aT) 10000 60) 90 13 4 ahx.pJ = true:=by kernel_rfl
def s22 : gW:=[(91,ahx.pK,[25,0,0,0,0,0,0,0,0,0,0,0]),(226,ahx.gN,[11,0,0,0])]
theorem c22 : chunk (iF tr.get (dZ (bh s22) aT) 10000 60) 90 34 1 ahx.pJ = true:=by kernel_rfl
def s23 : gW:=[(91,ahx.pK,[25,0,0,0,0,0,0,0,0,0,0,0]),(226,ahx.gN,[6,0,0,0,0,0,0,0,0])]
theorem c23 : chunk (iF tr.get (dZ (bh s23) aT) 10000 60) 90 35 1 ahx.pJ = true:=by kernel_rfl
def s25 : gW:=[(91,ahx.pK,[25,0,0,0,0,0,0,0,0,0,0,0]),(226,ahx.gN,[11,0,0,0])]
theorem c25 : chunk (iF tr.get (dZ (bh s25) aT) 10000 60) 90 37 1 ahx.pJ = true:=by kernel_rfl
def s38 : gW:=[(286,ahx.FE,[0]),(149,ahx.K7,[0,0])]
theorem c38 : chunk (iF tr.get (dZ (bh s38) aT) 10000 60) 88 0 2 ahx.k88 = true:=by kernel_rfl
end
end Go.Proofs.YtkcfpgaepmllhaaGreatDoor
