/- Calls give what is told: by computation. No condition. -/
import Derived.Test.YtkcfpgaepmllhaaGreatDoorMal
import Derived.Test.YtkcfpgaepmllhaaGreatDoorMab
import Derived.Test.YtkcfpgaepmllhaaGreatDoorMak
namespace Go.Proofs.YtkcfpgaepmllhaaGreatDoor
set_option maxRecDepth 100000
noncomputable section
def s0 : g_:=[]
theorem c0 : chunk (iE tr.get (eh (aZ s0) aS) 10000 60) 166 0 6 ak.TB = true:=by kernel_rfl
def s21 : g_:=[(91,ak.p_,[25,0,0,0,0,0,0,0,0,0,0,0]),(226,ak.gS,[0,0,0,0,0,0,5,0,0,0])]
theorem c21 : chunk (iE tr.get (eh (aZ s21) aS) 10000 60) 90 31 3 ak.p9 = true:=by kernel_rfl
def s24 : g_:=[(91,ak.p_,[25,0,0,0,0,0,0,0,0,0,0,0]),(226,ak.gS,[11,0,0,0])]
theorem c24 : chunk (iE tr.get (eh (aZ s24) aS) 10000 60) 90 36 1 ak.p9 = true:=by kernel_rfl
def s26 : g_:=[(91,ak.p_,[18,3,0,13,0,0,0,0,0,0,0,0,0,0,0]),(226,ak.gS,[0,0,0,0,0,0,0,0,0,0,0])]
theorem c26 : chunk (iE tr.get (eh (aZ s26) aS) 10000 60) 90 38 3 ak.p9 = true:=by kernel_rfl
def s27 : g_:=[(91,ak.p_,[18,3,0,0,12,0,0,0,0,0,0,0,0,0,0,0,0,0,0,0]),(226,ak.gS,[6,0,0,0,0,0,0,0,0])]
theorem c27 : chunk (iE tr.get (eh (aZ s27) aS) 10000 60) 90 41 1 ak.p9 = true:=by kernel_rfl
def s31 : g_:=[(91,ak.p_,[18,3,0,0,12,0,0,0,0,0,0,0,0,0,0,0,0,0,0,0,0,0,0,0,0]),(226,ak.gS,[6,0,0,0,0])]
theorem c31 : chunk (iE tr.get (eh (aZ s31) aS) 10000 60) 90 45 1 ak.p9 = true:=by kernel_rfl
def s36 : g_:=[]
theorem c36 : chunk (iE tr.get (eh (aZ s36) aS) 10000 60) 286 0 1 ak.Gi = true:=by kernel_rfl
def s39 : g_:=[]
theorem c39 : chunk (iE tr.get (eh (aZ s39) aS) 10000 60) 225 0 5 ak.LQ = true:=by kernel_rfl
def s40 : g_:=[(225,ak.LQ,[0,0,0])]
theorem c40 : chunk (iE tr.get (eh (aZ s40) aS) 10000 60) 179 0 2 ak.TF = true:=by kernel_rfl
end
end Go.Proofs.YtkcfpgaepmllhaaGreatDoor
