/- Calls give what is told: by computation. No condition. -/
import Derived.Test.YtkcfpgaepmllhaaGreatDoorVas
import Derived.Test.YtkcfpgaepmllhaaGreatDoorVaf
import Derived.Test.YtkcfpgaepmllhaaGreatDoorVan
import Derived.Test.YtkcfpgaepmllhaaGreatDoorVaq
namespace Go.Proofs.YtkcfpgaepmllhaaGreatDoor
set_option maxRecDepth 100000
noncomputable def s2 : Sel:=[(1000043000210,Memo.k1000043000210,[0,0,0,0,0,0,0,0,0,0,0,0,0,0,0,0,0,0])]
theorem c2 : chunk (evK tr.get (knK (pickK s2) handH) 10000 60) 168 0 18 Memo.k168 = true:=by kernel_rfl
noncomputable def s9 : Sel:=[(91,Memo.k91,[0,0,0,0,0]),(226,Memo.k226,[0,0,0,0,0,0,0,0,0,0,0])]
theorem c9 : chunk (evK tr.get (knK (pickK s9) handH) 10000 60) 90 0 4 Memo.k90 = true:=by kernel_rfl
noncomputable def s13 : Sel:=[(91,Memo.k91,[13,0,0,0]),(226,Memo.k226,[0,0,0,0,0,0,5,0,0,0])]
theorem c13 : chunk (evK tr.get (knK (pickK s13) handH) 10000 60) 90 9 4 Memo.k90 = true:=by kernel_rfl
noncomputable def s15 : Sel:=[(91,Memo.k91,[1,0,0,0,8,0,0,0,0]),(226,Memo.k226,[0,5,0,0,0,0,0,0,0,0])]
theorem c15 : chunk (evK tr.get (knK (pickK s15) handH) 10000 60) 90 17 2 Memo.k90 = true:=by kernel_rfl
noncomputable def s32 : Sel:=[(91,Memo.k91,[18,3,0,0,12,0,0,0,0,0,0,0,0,0,0,0,0,0,0,0,0,0,0,0,0]),(226,Memo.k226,[6,0,0,0,0])]
theorem c32 : chunk (evK tr.get (knK (pickK s32) handH) 10000 60) 90 46 1 Memo.k90 = true:=by kernel_rfl
noncomputable def s34 : Sel:=[(91,Memo.k91,[18,3,0,0,12,0,0,0,0,0,0,0,0,0,0,0,0,0,0,0,0,0,0,0,0]),(90,Memo.k90,[44,0,0])]
theorem c34 : chunk (evK tr.get (knK (pickK s34) handH) 10000 60) 54 89 5 Memo.k54 = true:=by kernel_rfl
noncomputable def s37 : Sel:=[(286,Memo.k286,[0])]
theorem c37 : chunk (evK tr.get (knK (pickK s37) handH) 10000 60) 149 0 2 Memo.k149 = true:=by kernel_rfl
noncomputable def s42 : Sel:=[(54,Memo.k54,[4]),(20,Memo.k20,[0,0,0]),(286,Memo.k286,[0]),(149,Memo.k149,[0,0]),(88,Memo.k88,[0,0]),(225,Memo.k225,[3,0]),(179,Memo.k179,[0,0]),(222,Memo.k222,[0])]
theorem c42 : chunk (evK tr.get (knK (pickK s42) handH) 10000 60) 11 0 1 Memo.k11 = true:=by kernel_rfl
end Go.Proofs.YtkcfpgaepmllhaaGreatDoor
