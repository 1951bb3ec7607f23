/- Calls give what is told: by computation. No condition. -/
import Derived.Test.YtkcfpgaepmllhaaGreatDoorVas
import Derived.Test.YtkcfpgaepmllhaaGreatDoorVaf
import Derived.Test.YtkcfpgaepmllhaaGreatDoorVan
import Derived.Test.YtkcfpgaepmllhaaGreatDoorVaq
namespace Go.Proofs.YtkcfpgaepmllhaaGreatDoor
set_option maxRecDepth 100000
noncomputable def s5 : Sel:=[]
theorem c5 : chunk (evK tr.get (knK (pickK s5) handH) 10000 60) 218 0 3 Memo.k218 = true:=by kernel_rfl
noncomputable def s6 : Sel:=[(171,Memo.k171,[0]),(218,Memo.k218,[0,0,0])]
theorem c6 : chunk (evK tr.get (knK (pickK s6) handH) 10000 60) 123 0 24 Memo.k123 = true:=by kernel_rfl
noncomputable def s7 : Sel:=[]
theorem c7 : chunk (evK tr.get (knK (pickK s7) handH) 10000 60) 91 0 58 Memo.k91 = true:=by kernel_rfl
noncomputable def s11 : Sel:=[(91,Memo.k91,[0,0,0,0,0,0,0,0,0,0,0,0,0]),(226,Memo.k226,[6,0,0,0,0,0,0,0,0])]
theorem c11 : chunk (evK tr.get (knK (pickK s11) handH) 10000 60) 90 6 1 Memo.k90 = true:=by kernel_rfl
noncomputable def s16 : Sel:=[(91,Memo.k91,[1,0,0,0,0,0,0,0,0,0,0,0,4]),(226,Memo.k226,[1,0,0,0,0,0,0,0,0,0])]
theorem c16 : chunk (evK tr.get (knK (pickK s16) handH) 10000 60) 90 19 2 Memo.k90 = true:=by kernel_rfl
noncomputable def s18 : Sel:=[(91,Memo.k91,[1,0,0,0,0,0,0,0,0,0,0,0,4]),(226,Memo.k226,[0,0,2,0,0,0,0,0,0])]
theorem c18 : chunk (evK tr.get (knK (pickK s18) handH) 10000 60) 90 22 2 Memo.k90 = true:=by kernel_rfl
noncomputable def s29 : Sel:=[(91,Memo.k91,[18,3,0,0,12,0,0,0,0,0,0,0,0,0,0,0,0,0,0,0,0,0,0,0,0]),(226,Memo.k226,[6,0,0,0,0])]
theorem c29 : chunk (evK tr.get (knK (pickK s29) handH) 10000 60) 90 43 1 Memo.k90 = true:=by kernel_rfl
noncomputable def s33 : Sel:=[(91,Memo.k91,[0,0,0,0,0,0,0,0,0,0,0,0,0,0,0,0,0,0,0,0,0,0,0,0,0,0,0,0,0,0,0,0,0,0,0,0,0,0,0,0,0,0,0,0,0,0,0,0,0,0,0,0,0,0,0,0,0,0]),(90,Memo.k90,[0,0,0,0,0,0,0,0,0,0,0,0,0,0,0,0,0,0,0,0,0,0,0,0,0,0,0,0,0,0,0,0,0,0,0,0,0,0,0,0,0,0,0,0,0])]
theorem c33 : chunk (evK tr.get (knK (pickK s33) handH) 10000 60) 54 0 89 Memo.k54 = true:=by kernel_rfl
noncomputable def s41 : Sel:=[(286,Memo.k286,[0])]
theorem c41 : chunk (evK tr.get (knK (pickK s41) handH) 10000 60) 222 0 1 Memo.k222 = true:=by kernel_rfl
end Go.Proofs.YtkcfpgaepmllhaaGreatDoor
