/- Calls give what is told: by computation. No condition. -/
import Derived.Test.YtkcfpgaepmllhaaGreatDoorMal
import Derived.Test.YtkcfpgaepmllhaaGreatDoorMab
import Derived.Test.YtkcfpgaepmllhaaGreatDoorMak
namespace Go.Proofs.YtkcfpgaepmllhaaGreatDoor
set_option maxRecDepth 100000
noncomputable section
def s2 : g_:=[(1000043000210,ak.fX,[0,0,0,0,0,0,0,0,0,0,0,0,0,0,0,0,0,0])]
theorem c2 : chunk (iE tr.get (eh (aZ s2) aS) 10000 60) 168 0 18 ak.TD = true:=by kernel_rfl
def s9 : g_:=[(91,ak.p_,[0,0,0,0,0]),(226,ak.gS,[0,0,0,0,0,0,0,0,0,0,0])]
theorem c9 : chunk (iE tr.get (eh (aZ s9) aS) 10000 60) 90 0 4 ak.p9 = true:=by kernel_rfl
def s13 : g_:=[(91,ak.p_,[13,0,0,0]),(226,ak.gS,[0,0,0,0,0,0,5,0,0,0])]
theorem c13 : chunk (iE tr.get (eh (aZ s13) aS) 10000 60) 90 9 4 ak.p9 = true:=by kernel_rfl
def s15 : g_:=[(91,ak.p_,[1,0,0,0,8,0,0,0,0]),(226,ak.gS,[0,5,0,0,0,0,0,0,0,0])]
theorem c15 : chunk (iE tr.get (eh (aZ s15) aS) 10000 60) 90 17 2 ak.p9 = true:=by kernel_rfl
def s32 : g_:=[(91,ak.p_,[18,3,0,0,12,0,0,0,0,0,0,0,0,0,0,0,0,0,0,0,0,0,0,0,0]),(226,ak.gS,[6,0,0,0,0])]
theorem c32 : chunk (iE tr.get (eh (aZ s32) aS) 10000 60) 90 46 1 ak.p9 = true:=by kernel_rfl
def s34 : g_:=[(91,ak.p_,[18,3,0,0,12,0,0,0,0,0,0,0,0,0,0,0,0,0,0,0,0,0,0,0,0]),(90,ak.p9,[44,0,0])]
theorem c34 : chunk (iE tr.get (eh (aZ s34) aS) 10000 60) 54 89 5 ak.XL = true:=by kernel_rfl
def s37 : g_:=[(286,ak.Gi,[0])]
theorem c37 : chunk (iE tr.get (eh (aZ s37) aS) 10000 60) 149 0 2 ak.LP = true:=by kernel_rfl
def s42 : g_:=[(54,ak.XL,[4]),(20,ak.k20,[0,0,0]),(286,ak.Gi,[0]),(149,ak.LP,[0,0]),(88,ak.k88,[0,0]),(225,ak.LQ,[3,0]),(179,ak.TF,[0,0]),(222,ak.TH,[0])]
theorem c42 : chunk (iE tr.get (eh (aZ s42) aS) 10000 60) 11 0 1 ak.VB = true:=by kernel_rfl
end
end Go.Proofs.YtkcfpgaepmllhaaGreatDoor
