/- Calls give what is told: by computation. No condition. -/
import Derived.Test.YtkcfpgaepmllhaaGreatDoorZap
import Derived.Test.YtkcfpgaepmllhaaGreatDoorZaf
import Derived.Test.YtkcfpgaepmllhaaGreatDoorZao
set_option linter.unusedVariables false
set_option linter.unusedSimpArgs false
set_option linter.constructorNameAsVariable false
namespace Go.Proofs.YtkcfpgaepmllhaaGreatDoor
set_option maxRecDepth 100000
noncomputable def s11 : Sel:=[]
theorem c11 : chunk (evG tr.get (addH (pickK s11) handH) 10000 60) 286 0 1 Memo.k286 = true:=by kernel_rfl
noncomputable def s12 : Sel:=[(286,Memo.k286,[0])]
theorem c12 : chunk (evG tr.get (addH (pickK s12) handH) 10000 60) 149 0 3 Memo.k149 = true:=by kernel_rfl
noncomputable def s31 : Sel:=[(74,Memo.k74,[0,0])]
theorem c31 : chunk (evG tr.get (addH (pickK s31) handH) 10000 60) 67 0 4 Memo.k67 = true:=by kernel_rfl
noncomputable def s51 : Sel:=[(266,Memo.k266,[0]),(208,Memo.k208,[0,0,0])]
theorem c51 : chunk (evG tr.get (addH (pickK s51) handH) 10000 60) 162 0 10 Memo.k162 = true:=by kernel_rfl
noncomputable def s52 : Sel:=[(266,Memo.k266,[0]),(208,Memo.k208,[0,0]),(162,Memo.k162,[0,0,0])]
theorem c52 : chunk (evG tr.get (addH (pickK s52) handH) 10000 60) 163 0 3 Memo.k163 = true:=by kernel_rfl
noncomputable def s55 : Sel:=[(74,Memo.k74,[0,0]),(67,Memo.k67,[0,0,1]),(110,Memo.k110,[1,2]),(66,Memo.k66,[20,0,2]),(112,Memo.k112,[1]),(68,Memo.k68,[0,0,5,0,0,1]),(69,Memo.k69,[196,0,1]),(111,Memo.k111,[0]),(116,Memo.k116,[0,0,0]),(208,Memo.k208,[2]),(162,Memo.k162,[0,0,0,5,0]),(163,Memo.k163,[0,0]),(72,Memo.k72,[0])]
theorem c55 : chunk (evG tr.get (addH (pickK s55) handH) 10000 60) 33 13 5 Memo.k33 = true:=by kernel_rfl
noncomputable def s62 : Sel:=[]
theorem c62 : chunk (evG tr.get (addH (pickK s62) handH) 10000 60) 75 0 1 Memo.k75 = true:=by kernel_rfl
noncomputable def s64 : Sel:=[(119,Memo.k119,[0])]
theorem c64 : chunk (evG tr.get (addH (pickK s64) handH) 10000 60) 76 0 1 Memo.k76 = true:=by kernel_rfl
noncomputable def s71 : Sel:=[(18,Memo.k18,[1,0,1]),(20,Memo.k20,[2]),(54,Memo.k54,[0]),(47,Memo.k47,[2]),(59,Memo.k59,[1,0]),(86,Memo.k86,[0,0]),(88,Memo.k88,[1,1]),(87,Memo.k87,[1,0,1]),(16,Memo.k16,[2]),(21,Memo.k21,[0]),(22,Memo.k22,[2]),(67,Memo.k67,[0]),(28,Memo.k28,[0]),(66,Memo.k66,[1]),(68,Memo.k68,[1,0]),(30,Memo.k30,[0,0]),(31,Memo.k31,[1,1]),(69,Memo.k69,[13,0,0,0,0,0,0]),(32,Memo.k32,[2]),(116,Memo.k116,[1,0]),(162,Memo.k162,[1,0,0]),(72,Memo.k72,[1,0]),(33,Memo.k33,[2]),(34,Memo.k34,[0]),(71,Memo.k71,[0]),(73,Memo.k73,[0]),(35,Memo.k35,[2]),(61,Memo.k61,[0]),(65,Memo.k65,[0,0,0,0,0,0,0,0,0,0,0,0]),(75,Memo.k75,[0]),(119,Memo.k119,[0]),(76,Memo.k76,[0]),(97,Memo.k97,[0,0,0]),(99,Memo.k99,[0]),(155,Memo.k155,[0,0,0,0,0,0,0,0,0,0,0,0])]
theorem c71 : chunk (evG tr.get (addH (pickK s71) handH) 10000 60) 10 15 5 Memo.k10 = true:=by kernel_rfl
noncomputable def s83 : Sel:=[(18,Memo.k18,[0,1,8,0]),(20,Memo.k20,[11,0]),(54,Memo.k54,[0]),(47,Memo.k47,[10,0]),(59,Memo.k59,[0,1]),(86,Memo.k86,[0]),(88,Memo.k88,[9]),(87,Memo.k87,[10]),(16,Memo.k16,[10,0]),(21,Memo.k21,[0]),(22,Memo.k22,[10,0]),(67,Memo.k67,[0]),(28,Memo.k28,[0]),(66,Memo.k66,[9,0]),(68,Memo.k68,[0,1]),(30,Memo.k30,[0,0,1]),(31,Memo.k31,[1,6,0]),(69,Memo.k69,[79]),(32,Memo.k32,[10,0]),(116,Memo.k116,[0,1]),(162,Memo.k162,[0,1,2]),(33,Memo.k33,[7]),(34,Memo.k34,[0,2]),(35,Memo.k35,[10,0]),(65,Memo.k65,[0,0,0,0,0,0,0,0,0,0,0,0]),(119,Memo.k119,[0]),(76,Memo.k76,[0]),(97,Memo.k97,[0]),(99,Memo.k99,[0]),(155,Memo.k155,[0,0,0,0,0,0,0,0,0,0,0,0])]
theorem c83 : chunk (evG tr.get (addH (pickK s83) handH) 10000 60) 10 75 5 Memo.k10 = true:=by kernel_rfl
noncomputable def s88 : Sel:=[(18,Memo.k18,[0,1]),(20,Memo.k20,[15]),(54,Memo.k54,[0]),(47,Memo.k47,[14]),(59,Memo.k59,[0,1]),(86,Memo.k86,[0,0]),(88,Memo.k88,[1,10]),(87,Memo.k87,[1,0,10]),(16,Memo.k16,[14]),(21,Memo.k21,[0]),(22,Memo.k22,[14]),(74,Memo.k74,[1]),(67,Memo.k67,[0]),(28,Memo.k28,[0]),(66,Memo.k66,[13]),(68,Memo.k68,[2]),(29,Memo.k29,[1]),(30,Memo.k30,[0,2]),(31,Memo.k31,[12]),(69,Memo.k69,[95,0,0,0,0,0,0,0]),(32,Memo.k32,[14]),(116,Memo.k116,[0,1]),(162,Memo.k162,[0,1]),(72,Memo.k72,[1,0,1]),(34,Memo.k34,[0,2]),(71,Memo.k71,[0]),(73,Memo.k73,[0]),(35,Memo.k35,[14]),(61,Memo.k61,[0]),(65,Memo.k65,[0,0,0,0,0,0,0,0,0,0,0,0]),(75,Memo.k75,[0]),(119,Memo.k119,[0]),(76,Memo.k76,[0]),(97,Memo.k97,[0,0,0]),(99,Memo.k99,[1]),(155,Memo.k155,[0,0,0,0,0,0,0,0,0,0,0,0])]
theorem c88 : chunk (evG tr.get (addH (pickK s88) handH) 10000 60) 10 100 5 Memo.k10 = true:=by kernel_rfl
noncomputable def s92 : Sel:=[(18,Memo.k18,[0,1,14]),(20,Memo.k20,[19]),(54,Memo.k54,[0]),(47,Memo.k47,[17]),(59,Memo.k59,[0,1]),(86,Memo.k86,[0,0]),(88,Memo.k88,[1,10]),(87,Memo.k87,[1,0,10]),(16,Memo.k16,[17]),(21,Memo.k21,[0]),(22,Memo.k22,[17]),(74,Memo.k74,[1]),(67,Memo.k67,[0]),(28,Memo.k28,[0]),(66,Memo.k66,[16]),(68,Memo.k68,[0,1]),(30,Memo.k30,[0,2]),(31,Memo.k31,[12]),(69,Memo.k69,[118,0,0,0,0,0,0,0]),(32,Memo.k32,[17]),(116,Memo.k116,[0,1]),(162,Memo.k162,[0,1]),(72,Memo.k72,[1,0,1]),(34,Memo.k34,[0,2]),(71,Memo.k71,[0]),(73,Memo.k73,[0]),(35,Memo.k35,[17]),(61,Memo.k61,[0]),(65,Memo.k65,[0,0,0,0,0,0,0,0,0,0,0,0]),(75,Memo.k75,[0]),(119,Memo.k119,[0]),(76,Memo.k76,[0]),(97,Memo.k97,[0,0,0]),(99,Memo.k99,[1]),(155,Memo.k155,[0,0,0,0,0,0,0,0,0,0,0,0])]
theorem c92 : chunk (evG tr.get (addH (pickK s92) handH) 10000 60) 10 120 5 Memo.k10 = true:=by kernel_rfl
noncomputable def s96 : Sel:=[(18,Memo.k18,[0,0,18]),(20,Memo.k20,[22]),(54,Memo.k54,[0]),(47,Memo.k47,[20]),(59,Memo.k59,[0,0]),(86,Memo.k86,[0,0]),(88,Memo.k88,[1,13]),(87,Memo.k87,[1,0,13]),(16,Memo.k16,[20]),(21,Memo.k21,[0]),(22,Memo.k22,[20]),(67,Memo.k67,[0]),(28,Memo.k28,[0]),(66,Memo.k66,[19]),(68,Memo.k68,[0,0,4]),(30,Memo.k30,[0,0]),(31,Memo.k31,[1,13]),(69,Memo.k69,[140,0,0,0,0,0]),(32,Memo.k32,[20]),(116,Memo.k116,[0,0]),(162,Memo.k162,[0,0,5]),(72,Memo.k72,[1,0]),(33,Memo.k33,[12]),(34,Memo.k34,[0]),(71,Memo.k71,[0]),(73,Memo.k73,[0]),(35,Memo.k35,[20]),(61,Memo.k61,[0]),(65,Memo.k65,[0,0,0,0,0,0,0,0,0,0,0,0]),(75,Memo.k75,[0]),(119,Memo.k119,[0]),(76,Memo.k76,[0]),(97,Memo.k97,[0,0,0]),(99,Memo.k99,[0]),(155,Memo.k155,[0,0,0,0,0,0,0,0,0,0,0,0])]
theorem c96 : chunk (evG tr.get (addH (pickK s96) handH) 10000 60) 10 140 5 Memo.k10 = true:=by kernel_rfl
noncomputable def s101 : Sel:=[(18,Memo.k18,[0,0,21]),(20,Memo.k20,[25,1]),(54,Memo.k54,[0]),(47,Memo.k47,[23,0]),(88,Memo.k88,[1]),(87,Memo.k87,[2]),(16,Memo.k16,[23,0]),(21,Memo.k21,[0]),(22,Memo.k22,[23,0]),(67,Memo.k67,[0]),(28,Memo.k28,[0]),(66,Memo.k66,[22,0]),(29,Memo.k29,[4,0]),(30,Memo.k30,[0,3]),(31,Memo.k31,[18]),(69,Memo.k69,[160,1,0]),(32,Memo.k32,[23,0]),(72,Memo.k72,[2]),(34,Memo.k34,[0,3]),(71,Memo.k71,[0]),(73,Memo.k73,[0]),(35,Memo.k35,[23,0]),(61,Memo.k61,[0]),(65,Memo.k65,[0,0,0,0,0,0,0,0,0,0,0,0]),(75,Memo.k75,[0]),(119,Memo.k119,[0]),(76,Memo.k76,[0]),(97,Memo.k97,[2]),(155,Memo.k155,[0,0,0,0,0,0,0,0,0,0,0,0])]
theorem c101 : chunk (evG tr.get (addH (pickK s101) handH) 10000 60) 10 165 5 Memo.k10 = true:=by kernel_rfl
noncomputable def s113 : Sel:=[(18,Memo.k18,[0,0,0]),(82,Memo.k82,[0]),(20,Memo.k20,[0]),(54,Memo.k54,[4]),(59,Memo.k59,[0,0,0]),(86,Memo.k86,[0,0]),(88,Memo.k88,[0,0]),(87,Memo.k87,[0,0,0]),(21,Memo.k21,[3]),(67,Memo.k67,[3]),(110,Memo.k110,[4]),(204,Memo.k204,[0,0]),(112,Memo.k112,[0,0]),(68,Memo.k68,[11]),(30,Memo.k30,[0,0]),(31,Memo.k31,[0,0]),(69,Memo.k69,[199]),(111,Memo.k111,[0]),(116,Memo.k116,[0,0,0]),(162,Memo.k162,[0,0,0]),(72,Memo.k72,[1,0]),(33,Memo.k33,[17]),(34,Memo.k34,[0,0]),(71,Memo.k71,[0]),(73,Memo.k73,[0]),(61,Memo.k61,[0]),(65,Memo.k65,[0,0,0,0,0,0,0,0,0,0,0,0]),(75,Memo.k75,[0]),(119,Memo.k119,[3]),(99,Memo.k99,[0]),(155,Memo.k155,[0,0,0,0,0,0,0,0,0,0,0,0])]
theorem c113 : chunk (evG tr.get (addH (pickK s113) handH) 10000 60) 10 215 3 Memo.k10 = true:=by kernel_rfl
end Go.Proofs.YtkcfpgaepmllhaaGreatDoor
