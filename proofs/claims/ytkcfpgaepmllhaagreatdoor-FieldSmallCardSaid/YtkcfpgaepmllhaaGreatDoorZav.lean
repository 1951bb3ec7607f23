/- Calls give what is told: by computation. No condition. -/
import Derived.Test.YtkcfpgaepmllhaaGreatDoorZap
import Derived.Test.YtkcfpgaepmllhaaGreatDoorZaf
import Derived.Test.YtkcfpgaepmllhaaGreatDoorZao
set_option linter.unusedVariables false
set_option linter.unusedSimpArgs false
set_option linter.constructorNameAsVariable false
namespace Go.Proofs.YtkcfpgaepmllhaaGreatDoor
set_option maxRecDepth 100000
noncomputable def s4 : Sel:=[(95,Memo.k95,[0]),(96,Memo.k96,[0,0,0,0,0,0,0]),(82,Memo.k82,[0,0,0,0])]
theorem c4 : chunk (evG tr.get (addH (pickK s4) handH) 10000 60) 20 0 32 Memo.k20 = true:=by kernel_rfl
noncomputable def s20 : Sel:=[(102,Memo.k102,[0])]
theorem c20 : chunk (evG tr.get (addH (pickK s20) handH) 10000 60) 279 0 1 Memo.k279 = true:=by kernel_rfl
noncomputable def s32 : Sel:=[]
theorem c32 : chunk (evG tr.get (addH (pickK s32) handH) 10000 60) 157 0 6 Memo.k157 = true:=by kernel_rfl
noncomputable def s33 : Sel:=[(157,Memo.k157,[0,0,0,0,0,0])]
theorem c33 : chunk (evG tr.get (addH (pickK s33) handH) 10000 60) 156 0 1 Memo.k156 = true:=by kernel_rfl
noncomputable def s34 : Sel:=[(157,Memo.k157,[0,0,0,0,0,0]),(156,Memo.k156,[0])]
theorem c34 : chunk (evG tr.get (addH (pickK s34) handH) 10000 60) 110 0 5 Memo.k110 = true:=by kernel_rfl
noncomputable def s35 : Sel:=[(67,Memo.k67,[0]),(110,Memo.k110,[0])]
theorem c35 : chunk (evG tr.get (addH (pickK s35) handH) 10000 60) 28 0 1 Memo.k28 = true:=by kernel_rfl
noncomputable def s40 : Sel:=[(66,Memo.k66,[4,8,0,2,4,0]),(68,Memo.k68,[0,0,0])]
theorem c40 : chunk (evG tr.get (addH (pickK s40) handH) 10000 60) 29 0 6 Memo.k29 = true:=by kernel_rfl
noncomputable def s46 : Sel:=[(204,Memo.k204,[0,0,0])]
theorem c46 : chunk (evG tr.get (addH (pickK s46) handH) 10000 60) 111 0 1 Memo.k111 = true:=by kernel_rfl
noncomputable def s54 : Sel:=[(74,Memo.k74,[0,0]),(67,Memo.k67,[0]),(110,Memo.k110,[0]),(66,Memo.k66,[0,0,0,0,2,2,0,0,0,2,2,0]),(68,Memo.k68,[0,0,0,0,0,0,0]),(69,Memo.k69,[6,6,12,20,24,6,12,22]),(111,Memo.k111,[0]),(116,Memo.k116,[0,0,0]),(266,Memo.k266,[0]),(208,Memo.k208,[0,0,0]),(162,Memo.k162,[0,0,0,0,0,0,0,0]),(163,Memo.k163,[0,0,0]),(72,Memo.k72,[0])]
theorem c54 : chunk (evG tr.get (addH (pickK s54) handH) 10000 60) 33 0 13 Memo.k33 = true:=by kernel_rfl
noncomputable def s86 : Sel:=[(18,Memo.k18,[0,1,10,0]),(20,Memo.k20,[13,0]),(54,Memo.k54,[0]),(47,Memo.k47,[12,0]),(59,Memo.k59,[0,1]),(86,Memo.k86,[0,0]),(88,Memo.k88,[1,9]),(87,Memo.k87,[1,10]),(16,Memo.k16,[12,0]),(21,Memo.k21,[0]),(22,Memo.k22,[12,0]),(67,Memo.k67,[0]),(28,Memo.k28,[0]),(66,Memo.k66,[11,0]),(68,Memo.k68,[0,1,1]),(30,Memo.k30,[0,0]),(31,Memo.k31,[1,8,0]),(69,Memo.k69,[88,1,1,1]),(32,Memo.k32,[12,0]),(116,Memo.k116,[0,1]),(208,Memo.k208,[1]),(162,Memo.k162,[0,1]),(72,Memo.k72,[1]),(33,Memo.k33,[9]),(34,Memo.k34,[0]),(73,Memo.k73,[0]),(35,Memo.k35,[12,0]),(61,Memo.k61,[0]),(65,Memo.k65,[0,0,0,0,0,0,0,0,0,0,0,0]),(75,Memo.k75,[0]),(119,Memo.k119,[0]),(76,Memo.k76,[0]),(97,Memo.k97,[0,0]),(99,Memo.k99,[3]),(155,Memo.k155,[0,0,0,0,0,0,0,0,0,0,0,0])]
theorem c86 : chunk (evG tr.get (addH (pickK s86) handH) 10000 60) 10 90 5 Memo.k10 = true:=by kernel_rfl
noncomputable def s100 : Sel:=[(18,Memo.k18,[0,0,20]),(20,Memo.k20,[24,0]),(54,Memo.k54,[0]),(47,Memo.k47,[22,0]),(59,Memo.k59,[0,0]),(86,Memo.k86,[0,0]),(88,Memo.k88,[1,16]),(87,Memo.k87,[1,17]),(16,Memo.k16,[22,0]),(21,Memo.k21,[0]),(22,Memo.k22,[22,0]),(74,Memo.k74,[0]),(67,Memo.k67,[0]),(28,Memo.k28,[0]),(66,Memo.k66,[21,0]),(68,Memo.k68,[0,0,6]),(29,Memo.k29,[4]),(30,Memo.k30,[0,0,2]),(31,Memo.k31,[1,15,0]),(69,Memo.k69,[158,0,1,2,0]),(32,Memo.k32,[22,0]),(116,Memo.k116,[0,0]),(162,Memo.k162,[0,0]),(72,Memo.k72,[1,3]),(34,Memo.k34,[0,3]),(73,Memo.k73,[0]),(35,Memo.k35,[22,0]),(61,Memo.k61,[0]),(65,Memo.k65,[0,0,0,0,0,0,0,0,0,0,0,0]),(75,Memo.k75,[0]),(119,Memo.k119,[0]),(76,Memo.k76,[0]),(97,Memo.k97,[0,0]),(99,Memo.k99,[1]),(155,Memo.k155,[0,0,0,0,0,0,0,0,0,0,0,0])]
theorem c100 : chunk (evG tr.get (addH (pickK s100) handH) 10000 60) 10 160 5 Memo.k10 = true:=by kernel_rfl
noncomputable def s102 : Sel:=[(18,Memo.k18,[0,0,21]),(20,Memo.k20,[27]),(54,Memo.k54,[0]),(47,Memo.k47,[24]),(59,Memo.k59,[0,0]),(86,Memo.k86,[0,0]),(88,Memo.k88,[1,16]),(87,Memo.k87,[1,0,16]),(16,Memo.k16,[24]),(21,Memo.k21,[0]),(22,Memo.k22,[24]),(74,Memo.k74,[0]),(67,Memo.k67,[0]),(28,Memo.k28,[0]),(66,Memo.k66,[23]),(68,Memo.k68,[1]),(29,Memo.k29,[5]),(30,Memo.k30,[0,3]),(31,Memo.k31,[18]),(69,Memo.k69,[166,0,0,0,0,0,0,0]),(32,Memo.k32,[24]),(116,Memo.k116,[0,0]),(162,Memo.k162,[0,0]),(72,Memo.k72,[1,0,2]),(34,Memo.k34,[0,3]),(71,Memo.k71,[0]),(73,Memo.k73,[0]),(35,Memo.k35,[24]),(61,Memo.k61,[0]),(65,Memo.k65,[0,0,0,0,0,0,0,0,0,0,0,0]),(75,Memo.k75,[0]),(119,Memo.k119,[0]),(76,Memo.k76,[0]),(97,Memo.k97,[0,0,0]),(99,Memo.k99,[1]),(155,Memo.k155,[0,0,0,0,0,0,0,0,0,0,0,0])]
theorem c102 : chunk (evG tr.get (addH (pickK s102) handH) 10000 60) 10 170 5 Memo.k10 = true:=by kernel_rfl
noncomputable def s107 : Sel:=[(18,Memo.k18,[0,0,24]),(82,Memo.k82,[0]),(20,Memo.k20,[30,0]),(54,Memo.k54,[0]),(47,Memo.k47,[27]),(59,Memo.k59,[0]),(86,Memo.k86,[0,0]),(88,Memo.k88,[1,18]),(87,Memo.k87,[1,0]),(16,Memo.k16,[27]),(21,Memo.k21,[0]),(22,Memo.k22,[27]),(25,Memo.k25,[1]),(67,Memo.k67,[0]),(110,Memo.k110,[0]),(28,Memo.k28,[0]),(204,Memo.k204,[0,0]),(66,Memo.k66,[26]),(68,Memo.k68,[0,0]),(30,Memo.k30,[0,3]),(31,Memo.k31,[1,16]),(32,Memo.k32,[27]),(116,Memo.k116,[0]),(162,Memo.k162,[0]),(72,Memo.k72,[1,0,3]),(34,Memo.k34,[0,3]),(71,Memo.k71,[0]),(73,Memo.k73,[0]),(35,Memo.k35,[27]),(61,Memo.k61,[0]),(65,Memo.k65,[0,0,0,0,0,0,0,0,0,0,0,0]),(75,Memo.k75,[0]),(119,Memo.k119,[0]),(76,Memo.k76,[0]),(97,Memo.k97,[0,0]),(155,Memo.k155,[0,0,0,0,0,0,0,0,0,0,0,0])]
theorem c107 : chunk (evG tr.get (addH (pickK s107) handH) 10000 60) 10 195 4 Memo.k10 = true:=by kernel_rfl
noncomputable def s112 : Sel:=[(20,Memo.k20,[31]),(54,Memo.k54,[3]),(86,Memo.k86,[0,0]),(88,Memo.k88,[1]),(87,Memo.k87,[1,0]),(21,Memo.k21,[2]),(67,Memo.k67,[2]),(110,Memo.k110,[3]),(31,Memo.k31,[1]),(72,Memo.k72,[1,0]),(34,Memo.k34,[0]),(71,Memo.k71,[0]),(73,Memo.k73,[0]),(61,Memo.k61,[0]),(65,Memo.k65,[0,0,0,0,0,0,0,0,0,0,0,0]),(75,Memo.k75,[0]),(119,Memo.k119,[2]),(155,Memo.k155,[0,0,0,0,0,0,0,0,0,0,0,0])]
theorem c112 : chunk (evG tr.get (addH (pickK s112) handH) 10000 60) 10 213 2 Memo.k10 = true:=by kernel_rfl
end Go.Proofs.YtkcfpgaepmllhaaGreatDoor
