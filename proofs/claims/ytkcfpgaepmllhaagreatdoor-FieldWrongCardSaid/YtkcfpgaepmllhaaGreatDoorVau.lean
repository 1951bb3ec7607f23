/- Calls give what is told: by computation. No condition. -/
import Derived.Test.YtkcfpgaepmllhaaGreatDoorVas
import Derived.Test.YtkcfpgaepmllhaaGreatDoorVaf
import Derived.Test.YtkcfpgaepmllhaaGreatDoorVan
import Derived.Test.YtkcfpgaepmllhaaGreatDoorVaq
namespace Go.Proofs.YtkcfpgaepmllhaaGreatDoor
set_option maxRecDepth 100000
noncomputable def s0 : Sel:=[]
theorem c0 : chunk (evK tr.get (knK (pickK s0) handH) 10000 60) 166 0 6 Memo.k166 = true:=by kernel_rfl
noncomputable def s21 : Sel:=[(91,Memo.k91,[25,0,0,0,0,0,0,0,0,0,0,0]),(226,Memo.k226,[0,0,0,0,0,0,5,0,0,0])]
theorem c21 : chunk (evK tr.get (knK (pickK s21) handH) 10000 60) 90 31 3 Memo.k90 = true:=by kernel_rfl
noncomputable def s24 : Sel:=[(91,Memo.k91,[25,0,0,0,0,0,0,0,0,0,0,0]),(226,Memo.k226,[11,0,0,0])]
theorem c24 : chunk (evK tr.get (knK (pickK s24) handH) 10000 60) 90 36 1 Memo.k90 = true:=by kernel_rfl
noncomputable def s26 : Sel:=[(91,Memo.k91,[18,3,0,13,0,0,0,0,0,0,0,0,0,0,0]),(226,Memo.k226,[0,0,0,0,0,0,0,0,0,0,0])]
theorem c26 : chunk (evK tr.get (knK (pickK s26) handH) 10000 60) 90 38 3 Memo.k90 = true:=by kernel_rfl
noncomputable def s27 : Sel:=[(91,Memo.k91,[18,3,0,0,12,0,0,0,0,0,0,0,0,0,0,0,0,0,0,0]),(226,Memo.k226,[6,0,0,0,0,0,0,0,0])]
theorem c27 : chunk (evK tr.get (knK (pickK s27) handH) 10000 60) 90 41 1 Memo.k90 = true:=by kernel_rfl
noncomputable def s31 : Sel:=[(91,Memo.k91,[18,3,0,0,12,0,0,0,0,0,0,0,0,0,0,0,0,0,0,0,0,0,0,0,0]),(226,Memo.k226,[6,0,0,0,0])]
theorem c31 : chunk (evK tr.get (knK (pickK s31) handH) 10000 60) 90 45 1 Memo.k90 = true:=by kernel_rfl
noncomputable def s36 : Sel:=[]
theorem c36 : chunk (evK tr.get (knK (pickK s36) handH) 10000 60) 286 0 1 Memo.k286 = true:=by kernel_rfl
noncomputable def s39 : Sel:=[]
theorem c39 : chunk (evK tr.get (knK (pickK s39) handH) 10000 60) 225 0 5 Memo.k225 = true:=by kernel_rfl
noncomputable def s40 : Sel:=[(225,Memo.k225,[0,0,0])]
theorem c40 : chunk (evK tr.get (knK (pickK s40) handH) 10000 60) 179 0 2 Memo.k179 = true:=by kernel_rfl
end Go.Proofs.YtkcfpgaepmllhaaGreatDoor
