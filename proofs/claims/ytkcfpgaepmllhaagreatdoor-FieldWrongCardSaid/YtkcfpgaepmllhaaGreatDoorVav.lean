/- Calls give what is told: by computation. No condition. -/
import Derived.Test.YtkcfpgaepmllhaaGreatDoorVas
import Derived.Test.YtkcfpgaepmllhaaGreatDoorVaf
import Derived.Test.YtkcfpgaepmllhaaGreatDoorVan
import Derived.Test.YtkcfpgaepmllhaaGreatDoorVaq
namespace Go.Proofs.YtkcfpgaepmllhaaGreatDoor
set_option maxRecDepth 100000
noncomputable def s1 : Sel:=[]
theorem c1 : chkA (evK tr.get (knK (pickK s1) handH) 10000 60) 10000 1 tmA Memo.k1000043000210 = true:=by kernel_rfl
noncomputable def s3 : Sel:=[(1000043000210,Memo.k1000043000210,[3,0,0,0,0])]
theorem c3 : chunk (evK tr.get (knK (pickK s3) handH) 10000 60) 167 0 5 Memo.k167 = true:=by kernel_rfl
noncomputable def s8 : Sel:=[]
theorem c8 : chunk (evK tr.get (knK (pickK s8) handH) 10000 60) 226 0 15 Memo.k226 = true:=by kernel_rfl
noncomputable def s17 : Sel:=[(91,Memo.k91,[1,0,0,0,0,0,0,0,0,0,0,0,4]),(226,Memo.k226,[6,0,0,0,0,0,0,0,0])]
theorem c17 : chunk (evK tr.get (knK (pickK s17) handH) 10000 60) 90 21 1 Memo.k90 = true:=by kernel_rfl
noncomputable def s19 : Sel:=[(91,Memo.k91,[18,0,0,0,0,0]),(226,Memo.k226,[0,0,0,0,0,0,0,0,0])]
theorem c19 : chunk (evK tr.get (knK (pickK s19) handH) 10000 60) 90 24 5 Memo.k90 = true:=by kernel_rfl
noncomputable def s20 : Sel:=[(91,Memo.k91,[18,0,0,0,0,0,0]),(226,Memo.k226,[1,0,0,2,0,0,0,0,0,0,0,0])]
theorem c20 : chunk (evK tr.get (knK (pickK s20) handH) 10000 60) 90 29 2 Memo.k90 = true:=by kernel_rfl
noncomputable def s28 : Sel:=[(91,Memo.k91,[18,3,0,0,12,0,0,0,0,0,0,0,0,0,0,0,0,0,0,0,0,0,0,0,0]),(226,Memo.k226,[6,0,0,0,0])]
theorem c28 : chunk (evK tr.get (knK (pickK s28) handH) 10000 60) 90 42 1 Memo.k90 = true:=by kernel_rfl
noncomputable def s30 : Sel:=[(91,Memo.k91,[18,3,0,0,12,0,0,0,0,0,0,0,0,0,0,0,0,0,0,0,0,0,0,0,0]),(226,Memo.k226,[6,0,0,0,0])]
theorem c30 : chunk (evK tr.get (knK (pickK s30) handH) 10000 60) 90 44 1 Memo.k90 = true:=by kernel_rfl
noncomputable def s35 : Sel:=[]
theorem c35 : chunk (evK tr.get (knK (pickK s35) handH) 10000 60) 20 0 3 Memo.k20 = true:=by kernel_rfl
end Go.Proofs.YtkcfpgaepmllhaaGreatDoor
