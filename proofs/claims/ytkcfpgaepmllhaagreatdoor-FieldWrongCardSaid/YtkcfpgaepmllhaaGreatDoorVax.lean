/- Calls give what is told: by computation. No condition. -/
import Derived.Test.YtkcfpgaepmllhaaGreatDoorVas
import Derived.Test.YtkcfpgaepmllhaaGreatDoorVaf
import Derived.Test.YtkcfpgaepmllhaaGreatDoorVan
import Derived.Test.YtkcfpgaepmllhaaGreatDoorVaq
namespace Go.Proofs.YtkcfpgaepmllhaaGreatDoor
set_option maxRecDepth 100000
noncomputable def s4 : Sel:=[]
theorem c4 : chunk (evK tr.get (knK (pickK s4) handH) 10000 60) 171 0 1 Memo.k171 = true:=by kernel_rfl
noncomputable def s10 : Sel:=[(91,Memo.k91,[0,0,0,0,0,0,0,0,0,0,0,0,0]),(226,Memo.k226,[1,0,0,0,0,0,0,0,0,0])]
theorem c10 : chunk (evK tr.get (knK (pickK s10) handH) 10000 60) 90 4 2 Memo.k90 = true:=by kernel_rfl
noncomputable def s12 : Sel:=[(91,Memo.k91,[0,0,0,0,0,0,0,0,0,0,0,0,0]),(226,Memo.k226,[0,3,0,0,0,0,0,0])]
theorem c12 : chunk (evK tr.get (knK (pickK s12) handH) 10000 60) 90 7 2 Memo.k90 = true:=by kernel_rfl
noncomputable def s14 : Sel:=[(91,Memo.k91,[13,0,0,0]),(226,Memo.k226,[0,0,0,0,0,0,5,0,0,0])]
theorem c14 : chunk (evK tr.get (knK (pickK s14) handH) 10000 60) 90 13 4 Memo.k90 = true:=by kernel_rfl
noncomputable def s22 : Sel:=[(91,Memo.k91,[25,0,0,0,0,0,0,0,0,0,0,0]),(226,Memo.k226,[11,0,0,0])]
theorem c22 : chunk (evK tr.get (knK (pickK s22) handH) 10000 60) 90 34 1 Memo.k90 = true:=by kernel_rfl
noncomputable def s23 : Sel:=[(91,Memo.k91,[25,0,0,0,0,0,0,0,0,0,0,0]),(226,Memo.k226,[6,0,0,0,0,0,0,0,0])]
theorem c23 : chunk (evK tr.get (knK (pickK s23) handH) 10000 60) 90 35 1 Memo.k90 = true:=by kernel_rfl
noncomputable def s25 : Sel:=[(91,Memo.k91,[25,0,0,0,0,0,0,0,0,0,0,0]),(226,Memo.k226,[11,0,0,0])]
theorem c25 : chunk (evK tr.get (knK (pickK s25) handH) 10000 60) 90 37 1 Memo.k90 = true:=by kernel_rfl
noncomputable def s38 : Sel:=[(286,Memo.k286,[0]),(149,Memo.k149,[0,0])]
theorem c38 : chunk (evK tr.get (knK (pickK s38) handH) 10000 60) 88 0 2 Memo.k88 = true:=by kernel_rfl
end Go.Proofs.YtkcfpgaepmllhaaGreatDoor
