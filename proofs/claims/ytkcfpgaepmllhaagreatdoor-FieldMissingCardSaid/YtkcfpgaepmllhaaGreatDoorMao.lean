/- Calls give what is told: by computation. No condition. -/
import Derived.Test.YtkcfpgaepmllhaaGreatDoorMal
import Derived.Test.YtkcfpgaepmllhaaGreatDoorMab
import Derived.Test.YtkcfpgaepmllhaaGreatDoorMak
namespace Go.Proofs.YtkcfpgaepmllhaaGreatDoor
set_option maxRecDepth 100000
noncomputable section
def s1 : g_:=[]
theorem c1 : Sg (iE tr.get (eh (aZ s1) aS) 10000 60) 10000 1 tmA ak.fX = true:=by kernel_rfl
def s3 : g_:=[(1000043000210,ak.fX,[3,0,0,0,0])]
theorem c3 : chunk (iE tr.get (eh (aZ s3) aS) 10000 60) 167 0 5 ak.TC = true:=by kernel_rfl
def s8 : g_:=[]
theorem c8 : chunk (iE tr.get (eh (aZ s8) aS) 10000 60) 226 0 15 ak.gS = true:=by kernel_rfl
def s17 : g_:=[(91,ak.p_,[1,0,0,0,0,0,0,0,0,0,0,0,4]),(226,ak.gS,[6,0,0,0,0,0,0,0,0])]
theorem c17 : chunk (iE tr.get (eh (aZ s17) aS) 10000 60) 90 21 1 ak.p9 = true:=by kernel_rfl
def s19 : g_:=[(91,ak.p_,[18,0,0,0,0,0]),(226,ak.gS,[0,0,0,0,0,0,0,0,0])]
theorem c19 : chunk (iE tr.get (eh (aZ s19) aS) 10000 60) 90 24 5 ak.p9 = true:=by kernel_rfl
def s20 : g_:=[(91,ak.p_,[18,0,0,0,0,0,0]),(226,ak.gS,[1,0,0,2,0,0,0,0,0,0,0,0])]
theorem c20 : chunk (iE tr.get (eh (aZ s20) aS) 10000 60) 90 29 2 ak.p9 = true:=by kernel_rfl
def s28 : g_:=[(91,ak.p_,[18,3,0,0,12,0,0,0,0,0,0,0,0,0,0,0,0,0,0,0,0,0,0,0,0]),(226,ak.gS,[6,0,0,0,0])]
theorem c28 : chunk (iE tr.get (eh (aZ s28) aS) 10000 60) 90 42 1 ak.p9 = true:=by kernel_rfl
def s30 : g_:=[(91,ak.p_,[18,3,0,0,12,0,0,0,0,0,0,0,0,0,0,0,0,0,0,0,0,0,0,0,0]),(226,ak.gS,[6,0,0,0,0])]
theorem c30 : chunk (iE tr.get (eh (aZ s30) aS) 10000 60) 90 44 1 ak.p9 = true:=by kernel_rfl
def s35 : g_:=[]
theorem c35 : chunk (iE tr.get (eh (aZ s35) aS) 10000 60) 20 0 3 ak.k20 = true:=by kernel_rfl
end
end Go.Proofs.YtkcfpgaepmllhaaGreatDoor
