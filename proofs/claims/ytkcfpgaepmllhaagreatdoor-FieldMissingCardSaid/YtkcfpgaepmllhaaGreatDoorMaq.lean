/- Calls give what is told: by computation. No condition. -/
import Derived.Test.YtkcfpgaepmllhaaGreatDoorMal
import Derived.Test.YtkcfpgaepmllhaaGreatDoorMab
import Derived.Test.YtkcfpgaepmllhaaGreatDoorMak
namespace Go.Proofs.YtkcfpgaepmllhaaGreatDoor
set_option maxRecDepth 100000
noncomputable section
def s4 : g_:=[]
theorem c4 : chunk (iE tr.get (eh (aZ s4) aS) 10000 60) 171 0 1 ak.TE = true:=by kernel_rfl
def s10 : g_:=[(91,ak.p_,[0,0,0,0,0,0,0,0,0,0,0,0,0]),(226,ak.gS,[1,0,0,0,0,0,0,0,0,0])]
theorem c10 : chunk (iE tr.get (eh (aZ s10) aS) 10000 60) 90 4 2 ak.p9 = true:=by kernel_rfl
def s12 : g_:=[(91,ak.p_,[0,0,0,0,0,0,0,0,0,0,0,0,0]),(226,ak.gS,[0,3,0,0,0,0,0,0])]
theorem c12 : chunk (iE tr.get (eh (aZ s12) aS) 10000 60) 90 7 2 ak.p9 = true:=by kernel_rfl
def s14 : g_:=[(91,ak.p_,[13,0,0,0]),(226,ak.gS,[0,0,0,0,0,0,5,0,0,0])]
theorem c14 : chunk (iE tr.get (eh (aZ s14) aS) 10000 60) 90 13 4 ak.p9 = true:=by kernel_rfl
def s22 : g_:=[(91,ak.p_,[25,0,0,0,0,0,0,0,0,0,0,0]),(226,ak.gS,[11,0,0,0])]
theorem c22 : chunk (iE tr.get (eh (aZ s22) aS) 10000 60) 90 34 1 ak.p9 = true:=by kernel_rfl
def s23 : g_:=[(91,ak.p_,[25,0,0,0,0,0,0,0,0,0,0,0]),(226,ak.gS,[6,0,0,0,0,0,0,0,0])]
theorem c23 : chunk (iE tr.get (eh (aZ s23) aS) 10000 60) 90 35 1 ak.p9 = true:=by kernel_rfl
def s25 : g_:=[(91,ak.p_,[25,0,0,0,0,0,0,0,0,0,0,0]),(226,ak.gS,[11,0,0,0])]
theorem c25 : chunk (iE tr.get (eh (aZ s25) aS) 10000 60) 90 37 1 ak.p9 = true:=by kernel_rfl
def s38 : g_:=[(286,ak.Gi,[0]),(149,ak.LP,[0,0])]
theorem c38 : chunk (iE tr.get (eh (aZ s38) aS) 10000 60) 88 0 2 ak.k88 = true:=by kernel_rfl
end
end Go.Proofs.YtkcfpgaepmllhaaGreatDoor
