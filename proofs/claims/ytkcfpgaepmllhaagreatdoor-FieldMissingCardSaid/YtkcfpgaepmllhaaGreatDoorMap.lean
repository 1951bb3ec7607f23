/- Calls give what is told: by computation. No condition. -/
import Derived.Test.YtkcfpgaepmllhaaGreatDoorMal
import Derived.Test.YtkcfpgaepmllhaaGreatDoorMab
import Derived.Test.YtkcfpgaepmllhaaGreatDoorMak
namespace Go.Proofs.YtkcfpgaepmllhaaGreatDoor
set_option maxRecDepth 100000
noncomputable section
def s5 : g_:=[]
theorem c5 : chunk (iE tr.get (eh (aZ s5) aS) 10000 60) 218 0 3 ak.TG = true:=by kernel_rfl
def s6 : g_:=[(171,ak.TE,[0]),(218,ak.TG,[0,0,0])]
theorem c6 : chunk (iE tr.get (eh (aZ s6) aS) 10000 60) 123 0 24 ak.TA = true:=by kernel_rfl
def s7 : g_:=[]
theorem c7 : chunk (iE tr.get (eh (aZ s7) aS) 10000 60) 91 0 58 ak.p_ = true:=by kernel_rfl
def s11 : g_:=[(91,ak.p_,[0,0,0,0,0,0,0,0,0,0,0,0,0]),(226,ak.gS,[6,0,0,0,0,0,0,0,0])]
theorem c11 : chunk (iE tr.get (eh (aZ s11) aS) 10000 60) 90 6 1 ak.p9 = true:=by kernel_rfl
def s16 : g_:=[(91,ak.p_,[1,0,0,0,0,0,0,0,0,0,0,0,4]),(226,ak.gS,[1,0,0,0,0,0,0,0,0,0])]
theorem c16 : chunk (iE tr.get (eh (aZ s16) aS) 10000 60) 90 19 2 ak.p9 = true:=by kernel_rfl
def s18 : g_:=[(91,ak.p_,[1,0,0,0,0,0,0,0,0,0,0,0,4]),(226,ak.gS,[0,0,2,0,0,0,0,0,0])]
theorem c18 : chunk (iE tr.get (eh (aZ s18) aS) 10000 60) 90 22 2 ak.p9 = true:=by kernel_rfl
def s29 : g_:=[(91,ak.p_,[18,3,0,0,12,0,0,0,0,0,0,0,0,0,0,0,0,0,0,0,0,0,0,0,0]),(226,ak.gS,[6,0,0,0,0])]
theorem c29 : chunk (iE tr.get (eh (aZ s29) aS) 10000 60) 90 43 1 ak.p9 = true:=by kernel_rfl
def s33 : g_:=[(91,ak.p_,[0,0,0,0,0,0,0,0,0,0,0,0,0,0,0,0,0,0,0,0,0,0,0,0,0,0,0,0,0,0,0,0,0,0,0,0,0,0,0,0,0,0,0,0,0,0,0,0,0,0,0,0,0,0,0,0,0,0]),(90,ak.p9,[0,0,0,0,0,0,0,0,0,0,0,0,0,0,0,0,0,0,0,0,0,0,0,0,0,0,0,0,0,0,0,0,0,0,0,0,0,0,0,0,0,0,0,0,0])]
theorem c33 : chunk (iE tr.get (eh (aZ s33) aS) 10000 60) 54 0 89 ak.XL = true:=by kernel_rfl
def s41 : g_:=[(286,ak.Gi,[0])]
theorem c41 : chunk (iE tr.get (eh (aZ s41) aS) 10000 60) 222 0 1 ak.TH = true:=by kernel_rfl
end
end Go.Proofs.YtkcfpgaepmllhaaGreatDoor
