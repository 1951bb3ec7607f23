/- Calls give what is told: by computation. No condition. -/
import Derived.Test.YtkcfpgaepmllhaaGreatDoorZap
import Derived.Test.YtkcfpgaepmllhaaGreatDoorZaf
import Derived.Test.YtkcfpgaepmllhaaGreatDoorZao
set_option linter.unusedVariables false
set_option linter.unusedSimpArgs false
set_option linter.constructorNameAsVariable false
namespace Go.Proofs.YtkcfpgaepmllhaaGreatDoor
set_option maxRecDepth 100000
noncomputable def s6 : Sel:=[(226,Memo.k226,[0,0,0])]
theorem c6 : chunk (evG tr.get (addH (pickK s6) handH) 10000 60) 90 0 1 Memo.k90 = true:=by kernel_rfl
noncomputable def s14 : Sel:=[(286,Memo.k286,[0])]
theorem c14 : chunk (evG tr.get (addH (pickK s14) handH) 10000 60) 264 0 1 Memo.k264 = true:=by kernel_rfl
noncomputable def s22 : Sel:=[]
theorem c22 : chunk (evG tr.get (addH (pickK s22) handH) 10000 60) 244 0 2 Memo.k244 = true:=by kernel_rfl
noncomputable def s37 : Sel:=[(110,Memo.k110,[0]),(204,Memo.k204,[0,0,0])]
theorem c37 : chunk (evG tr.get (addH (pickK s37) handH) 10000 60) 66 0 27 Memo.k66 = true:=by kernel_rfl
noncomputable def s38 : Sel:=[]
theorem c38 : chunk (evG tr.get (addH (pickK s38) handH) 10000 60) 112 0 2 Memo.k112 = true:=by kernel_rfl
noncomputable def s44 : Sel:=[(68,Memo.k68,[0])]
theorem c44 : chunk (evG tr.get (addH (pickK s44) handH) 10000 60) 69 96 98 Memo.k69 = true:=by kernel_rfl
noncomputable def s58 : Sel:=[]
theorem c58 : chunk (evG tr.get (addH (pickK s58) handH) 10000 60) 73 0 1 Memo.k73 = true:=by kernel_rfl
noncomputable def s66 : Sel:=[(102,Memo.k102,[0]),(25,Memo.k25,[0,1,0,0])]
theorem c66 : chunk (evG tr.get (addH (pickK s66) handH) 10000 60) 99 0 4 Memo.k99 = true:=by kernel_rfl
noncomputable def s72 : Sel:=[(18,Memo.k18,[1,0,1,0]),(20,Memo.k20,[2,0]),(54,Memo.k54,[0]),(47,Memo.k47,[2,0]),(59,Memo.k59,[1,0]),(86,Memo.k86,[0,0]),(88,Memo.k88,[1,2]),(150,Memo.k150,[0,0]),(87,Memo.k87,[1,3]),(16,Memo.k16,[2,0]),(21,Memo.k21,[0]),(22,Memo.k22,[2,0]),(67,Memo.k67,[0]),(28,Memo.k28,[0]),(66,Memo.k66,[1,0]),(68,Memo.k68,[1,0,0]),(30,Memo.k30,[0,0]),(31,Memo.k31,[1,1,0]),(69,Memo.k69,[20,1,2]),(32,Memo.k32,[2,0]),(116,Memo.k116,[1,0]),(162,Memo.k162,[1,0]),(72,Memo.k72,[1]),(33,Memo.k33,[3]),(34,Memo.k34,[0]),(73,Memo.k73,[0]),(35,Memo.k35,[2,0]),(61,Memo.k61,[0]),(65,Memo.k65,[0,0,0,0,0,0,0,0,0,0,0,0]),(75,Memo.k75,[0]),(119,Memo.k119,[0]),(76,Memo.k76,[0]),(97,Memo.k97,[0,0]),(99,Memo.k99,[2]),(155,Memo.k155,[0,0,0,0,0,0,0,0,0,0,0,0])]
theorem c72 : chunk (evG tr.get (addH (pickK s72) handH) 10000 60) 10 20 5 Memo.k10 = true:=by kernel_rfl
noncomputable def s95 : Sel:=[(18,Memo.k18,[0,0,17]),(20,Memo.k20,[21]),(54,Memo.k54,[0]),(47,Memo.k47,[19]),(59,Memo.k59,[0,0]),(86,Memo.k86,[0,0]),(88,Memo.k88,[1,12]),(87,Memo.k87,[1,0,12]),(16,Memo.k16,[19]),(21,Memo.k21,[0]),(22,Memo.k22,[19]),(67,Memo.k67,[0]),(28,Memo.k28,[0]),(66,Memo.k66,[18]),(68,Memo.k68,[0,0,3]),(30,Memo.k30,[0,3]),(31,Memo.k31,[1,12]),(69,Memo.k69,[134,0,0,0,0,0]),(32,Memo.k32,[19]),(116,Memo.k116,[0,0]),(162,Memo.k162,[0,0]),(72,Memo.k72,[1,0]),(33,Memo.k33,[11]),(34,Memo.k34,[0,3]),(71,Memo.k71,[0]),(73,Memo.k73,[0]),(35,Memo.k35,[19]),(61,Memo.k61,[0]),(65,Memo.k65,[0,0,0,0,0,0,0,0,0,0,0,0]),(75,Memo.k75,[0]),(119,Memo.k119,[0]),(76,Memo.k76,[0]),(97,Memo.k97,[0,0,0]),(99,Memo.k99,[1]),(155,Memo.k155,[0,0,0,0,0,0,0,0,0,0,0,0])]
theorem c95 : chunk (evG tr.get (addH (pickK s95) handH) 10000 60) 10 135 5 Memo.k10 = true:=by kernel_rfl
noncomputable def s97 : Sel:=[(18,Memo.k18,[0,0,18,0]),(20,Memo.k20,[22,0]),(54,Memo.k54,[0]),(47,Memo.k47,[20,0]),(59,Memo.k59,[0,0]),(86,Memo.k86,[0]),(88,Memo.k88,[16]),(150,Memo.k150,[0,0]),(87,Memo.k87,[17]),(16,Memo.k16,[20,0]),(21,Memo.k21,[0]),(22,Memo.k22,[20,0]),(67,Memo.k67,[0]),(28,Memo.k28,[0]),(66,Memo.k66,[19,0]),(68,Memo.k68,[0,0,4,0]),(30,Memo.k30,[0,0]),(31,Memo.k31,[1,13,0]),(32,Memo.k32,[20,0]),(116,Memo.k116,[0,0]),(162,Memo.k162,[0,0]),(33,Memo.k33,[13]),(34,Memo.k34,[0]),(35,Memo.k35,[20,0]),(65,Memo.k65,[0,0,0,0,0,0,0,0,0,0,0,0]),(119,Memo.k119,[0]),(76,Memo.k76,[0]),(97,Memo.k97,[0]),(99,Memo.k99,[2]),(155,Memo.k155,[0,0,0,0,0,0,0,0,0,0,0,0])]
theorem c97 : chunk (evG tr.get (addH (pickK s97) handH) 10000 60) 10 145 5 Memo.k10 = true:=by kernel_rfl
noncomputable def s109 : Sel:=[(18,Memo.k18,[27]),(20,Memo.k20,[31]),(54,Memo.k54,[1]),(59,Memo.k59,[0]),(86,Memo.k86,[0,0]),(88,Memo.k88,[1,18]),(87,Memo.k87,[1,0]),(21,Memo.k21,[1]),(25,Memo.k25,[1]),(67,Memo.k67,[1]),(110,Memo.k110,[1]),(31,Memo.k31,[1]),(116,Memo.k116,[0]),(162,Memo.k162,[0]),(72,Memo.k72,[1,0,3]),(34,Memo.k34,[0]),(71,Memo.k71,[0]),(73,Memo.k73,[0]),(61,Memo.k61,[0]),(65,Memo.k65,[0,0,0,0,0,0,0,0,0,0,0,0]),(75,Memo.k75,[0]),(119,Memo.k119,[0]),(155,Memo.k155,[0,0,0,0,0,0,0,0,0,0,0,0])]
theorem c109 : chunk (evG tr.get (addH (pickK s109) handH) 10000 60) 10 201 2 Memo.k10 = true:=by kernel_rfl
noncomputable def s110 : Sel:=[(90,Memo.k90,[0]),(54,Memo.k54,[2]),(156,Memo.k156,[0]),(110,Memo.k110,[2]),(31,Memo.k31,[1]),(34,Memo.k34,[0]),(65,Memo.k65,[0,0,0,0,0,0,0,0,0,0,0,0]),(119,Memo.k119,[0,0]),(155,Memo.k155,[0,0,0,0,0,0,0,0,0,0,0,0])]
theorem c110 : chunk (evG tr.get (addH (pickK s110) handH) 10000 60) 10 203 6 Memo.k10 = true:=by kernel_rfl
noncomputable def s114 : Sel:=[(18,Memo.k18,[0]),(20,Memo.k20,[31]),(54,Memo.k54,[4,0]),(59,Memo.k59,[0]),(86,Memo.k86,[0,0]),(88,Memo.k88,[1,18]),(87,Memo.k87,[1,0]),(21,Memo.k21,[3]),(25,Memo.k25,[1]),(67,Memo.k67,[3]),(110,Memo.k110,[4]),(68,Memo.k68,[11]),(30,Memo.k30,[0]),(31,Memo.k31,[1]),(116,Memo.k116,[0]),(162,Memo.k162,[0]),(72,Memo.k72,[1,0,3]),(34,Memo.k34,[0]),(71,Memo.k71,[0]),(73,Memo.k73,[0]),(65,Memo.k65,[0,0,0,0,0,0,0,0,0,0,0,0]),(119,Memo.k119,[3,0]),(155,Memo.k155,[0,0,0,0,0,0,0,0,0,0,0,0])]
theorem c114 : chunk (evG tr.get (addH (pickK s114) handH) 10000 60) 10 218 5 Memo.k10 = true:=by kernel_rfl
end Go.Proofs.YtkcfpgaepmllhaaGreatDoor
