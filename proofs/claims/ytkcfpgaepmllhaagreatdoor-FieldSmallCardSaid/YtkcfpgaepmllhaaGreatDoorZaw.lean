/- Calls give what is told: by computation. No condition. -/
import Derived.Test.YtkcfpgaepmllhaaGreatDoorZap
import Derived.Test.YtkcfpgaepmllhaaGreatDoorZaf
import Derived.Test.YtkcfpgaepmllhaaGreatDoorZao
set_option linter.unusedVariables false
set_option linter.unusedSimpArgs false
set_option linter.constructorNameAsVariable false
namespace Go.Proofs.YtkcfpgaepmllhaaGreatDoor
set_option maxRecDepth 100000
noncomputable def s9 : Sel:=[]
theorem c9 : chunk (evG tr.get (addH (pickK s9) handH) 10000 60) 59 0 3 Memo.k59 = true:=by kernel_rfl
noncomputable def s19 : Sel:=[]
theorem c19 : chunk (evG tr.get (addH (pickK s19) handH) 10000 60) 102 0 1 Memo.k102 = true:=by kernel_rfl
noncomputable def s21 : Sel:=[(102,Memo.k102,[0]),(279,Memo.k279,[0])]
theorem c21 : chunk (evG tr.get (addH (pickK s21) handH) 10000 60) 225 0 8 Memo.k225 = true:=by kernel_rfl
noncomputable def s29 : Sel:=[(102,Memo.k102,[0])]
theorem c29 : chunk (evG tr.get (addH (pickK s29) handH) 10000 60) 25 0 5 Memo.k25 = true:=by kernel_rfl
noncomputable def s59 : Sel:=[(74,Memo.k74,[0,0]),(67,Memo.k67,[0]),(110,Memo.k110,[0]),(66,Memo.k66,[0,0,0,0,0,0,0,0,0,0,0,0,0,0,0,0,0,0,0,0,0,0,0,0,0,0,0]),(68,Memo.k68,[1,0]),(69,Memo.k69,[0,0,0,0,0,0,1,0,0,0,0,0,1,0,0,0,0,0,0,0,0,0,0,0,1,0,0,0,0,0,0,0,0,0,0,0,0,0,0,0,0,0,0,0,1,0,0,0,0,0,0,0,0,0,0,0,0,0,0,0,0,0,0,0,0,0,0,0,1,0,0,0,0,0,1,0,0,0,0,0,0,0,0,0,0,0,1,0,0,0,0,0,0,0,0,0,0,0,0,0,0,0,0,0,0,0,0,0,1,0,0,0,0,0,0,0,0,0,0,0,0,0,0,0,0,0,0,0,0,0,0,0,0,0,0,0,0,0,0,0,0,0,0,0,0,0,0,0,0,0,0,0,0,0,0,0,0,0,0,0,0,0,0,0,0,0,0,0,0,0,0,0,0,0,0,0,0,0,0,0,0,0,0,0,0,0,0,0]),(111,Memo.k111,[0]),(116,Memo.k116,[0,0,0]),(162,Memo.k162,[0,0,0]),(72,Memo.k72,[1,0,0,0,0]),(33,Memo.k33,[0,0,0,0,0,0,0,0,0,0,0,0,0,0,0,0]),(71,Memo.k71,[0]),(73,Memo.k73,[0])]
theorem c59 : chunk (evG tr.get (addH (pickK s59) handH) 10000 60) 35 0 28 Memo.k35 = true:=by kernel_rfl
noncomputable def s60 : Sel:=[(88,Memo.k88,[1]),(25,Memo.k25,[1])]
theorem c60 : chunk (evG tr.get (addH (pickK s60) handH) 10000 60) 61 0 1 Memo.k61 = true:=by kernel_rfl
noncomputable def s61 : Sel:=[]
theorem c61 : chunk (evG tr.get (addH (pickK s61) handH) 10000 60) 65 0 12 Memo.k65 = true:=by kernel_rfl
noncomputable def s74 : Sel:=[(18,Memo.k18,[1,0,3]),(20,Memo.k20,[4]),(54,Memo.k54,[0]),(47,Memo.k47,[4]),(59,Memo.k59,[1,0]),(86,Memo.k86,[0,0]),(88,Memo.k88,[1,3]),(87,Memo.k87,[1,0,3]),(16,Memo.k16,[4]),(21,Memo.k21,[0]),(22,Memo.k22,[4]),(67,Memo.k67,[0]),(28,Memo.k28,[0]),(66,Memo.k66,[3]),(68,Memo.k68,[1,0]),(30,Memo.k30,[0,0]),(31,Memo.k31,[1,3]),(69,Memo.k69,[26,0,0,0,0,0,0]),(32,Memo.k32,[4]),(116,Memo.k116,[1,0]),(208,Memo.k208,[0]),(162,Memo.k162,[1,0]),(72,Memo.k72,[1,0]),(33,Memo.k33,[4]),(34,Memo.k34,[0]),(71,Memo.k71,[0]),(73,Memo.k73,[0]),(35,Memo.k35,[4]),(61,Memo.k61,[0]),(65,Memo.k65,[0,0,0,0,0,0,0,0,0,0,0,0]),(75,Memo.k75,[0]),(119,Memo.k119,[0]),(76,Memo.k76,[0]),(97,Memo.k97,[0,0,0]),(99,Memo.k99,[3]),(155,Memo.k155,[0,0,0,0,0,0,0,0,0,0,0,0])]
theorem c74 : chunk (evG tr.get (addH (pickK s74) handH) 10000 60) 10 30 5 Memo.k10 = true:=by kernel_rfl
noncomputable def s76 : Sel:=[(18,Memo.k18,[1,0,4]),(20,Memo.k20,[5,1]),(54,Memo.k54,[0]),(47,Memo.k47,[5,0]),(59,Memo.k59,[1,0]),(86,Memo.k86,[0]),(88,Memo.k88,[6]),(87,Memo.k87,[7]),(16,Memo.k16,[5,0]),(21,Memo.k21,[0]),(22,Memo.k22,[5,0]),(74,Memo.k74,[0,0]),(67,Memo.k67,[0]),(28,Memo.k28,[0]),(66,Memo.k66,[4,0]),(68,Memo.k68,[1,0]),(29,Memo.k29,[0]),(30,Memo.k30,[0,1]),(31,Memo.k31,[6]),(69,Memo.k69,[40]),(32,Memo.k32,[5,0]),(116,Memo.k116,[1,0]),(162,Memo.k162,[1,0]),(72,Memo.k72,[3]),(34,Memo.k34,[0,1]),(35,Memo.k35,[5,0]),(65,Memo.k65,[0,0,0,0,0,0,0,0,0,0,0,0]),(119,Memo.k119,[0]),(76,Memo.k76,[0]),(97,Memo.k97,[0]),(99,Memo.k99,[1]),(155,Memo.k155,[0,0,0,0,0,0,0,0,0,0,0,0])]
theorem c76 : chunk (evG tr.get (addH (pickK s76) handH) 10000 60) 10 40 5 Memo.k10 = true:=by kernel_rfl
noncomputable def s77 : Sel:=[(18,Memo.k18,[0,0,0,4,0]),(20,Memo.k20,[7,0]),(54,Memo.k54,[0]),(47,Memo.k47,[6,0]),(86,Memo.k86,[1]),(88,Memo.k88,[1]),(87,Memo.k87,[1,0]),(16,Memo.k16,[6,0]),(21,Memo.k21,[0]),(22,Memo.k22,[6,0]),(67,Memo.k67,[0]),(28,Memo.k28,[0]),(66,Memo.k66,[5,0]),(68,Memo.k68,[0,0,0]),(30,Memo.k30,[0,0,0]),(31,Memo.k31,[1,4,0]),(69,Memo.k69,[41,0,0,0,0,0]),(32,Memo.k32,[6,0]),(72,Memo.k72,[1,0]),(34,Memo.k34,[0,1]),(71,Memo.k71,[0]),(73,Memo.k73,[0]),(35,Memo.k35,[6,0]),(61,Memo.k61,[0]),(65,Memo.k65,[0,0,0,0,0,0,0,0,0,0,0,0]),(75,Memo.k75,[0]),(119,Memo.k119,[0]),(76,Memo.k76,[0]),(97,Memo.k97,[1,0]),(155,Memo.k155,[0,0,0,0,0,0,0,0,0,0,0,0])]
theorem c77 : chunk (evG tr.get (addH (pickK s77) handH) 10000 60) 10 45 5 Memo.k10 = true:=by kernel_rfl
noncomputable def s82 : Sel:=[(18,Memo.k18,[0,1,8]),(20,Memo.k20,[11]),(54,Memo.k54,[0]),(47,Memo.k47,[10]),(59,Memo.k59,[0,1]),(86,Memo.k86,[0,0]),(88,Memo.k88,[1,6]),(87,Memo.k87,[1,0,6]),(16,Memo.k16,[10]),(21,Memo.k21,[0]),(22,Memo.k22,[10]),(67,Memo.k67,[0]),(28,Memo.k28,[0]),(66,Memo.k66,[9]),(68,Memo.k68,[0,1]),(30,Memo.k30,[0,2]),(31,Memo.k31,[1,6]),(69,Memo.k69,[68,0,0,0,0,0,0]),(32,Memo.k32,[10]),(116,Memo.k116,[0,1]),(162,Memo.k162,[0,1]),(72,Memo.k72,[1,0]),(33,Memo.k33,[6]),(34,Memo.k34,[0,2]),(71,Memo.k71,[0]),(73,Memo.k73,[0]),(35,Memo.k35,[10]),(61,Memo.k61,[0]),(65,Memo.k65,[0,0,0,0,0,0,0,0,0,0,0,0]),(75,Memo.k75,[0]),(119,Memo.k119,[0]),(76,Memo.k76,[0]),(97,Memo.k97,[0,0,0]),(99,Memo.k99,[1]),(155,Memo.k155,[0,0,0,0,0,0,0,0,0,0,0,0])]
theorem c82 : chunk (evG tr.get (addH (pickK s82) handH) 10000 60) 10 70 5 Memo.k10 = true:=by kernel_rfl
noncomputable def s84 : Sel:=[(18,Memo.k18,[0,1,9,0]),(20,Memo.k20,[12,0]),(54,Memo.k54,[0]),(47,Memo.k47,[11,0]),(86,Memo.k86,[1]),(88,Memo.k88,[1]),(87,Memo.k87,[1,0]),(16,Memo.k16,[11,0]),(21,Memo.k21,[0]),(22,Memo.k22,[11,0]),(67,Memo.k67,[0]),(28,Memo.k28,[0]),(66,Memo.k66,[10,0]),(68,Memo.k68,[0,1,1]),(30,Memo.k30,[0,0]),(31,Memo.k31,[1,7,0]),(69,Memo.k69,[75,0,0,0,1,0]),(32,Memo.k32,[11,0]),(72,Memo.k72,[1,0]),(34,Memo.k34,[0]),(71,Memo.k71,[0]),(73,Memo.k73,[0]),(35,Memo.k35,[11,0]),(61,Memo.k61,[0]),(65,Memo.k65,[0,0,0,0,0,0,0,0,0,0,0,0]),(75,Memo.k75,[0]),(119,Memo.k119,[0]),(76,Memo.k76,[0]),(97,Memo.k97,[1,0]),(155,Memo.k155,[0,0,0,0,0,0,0,0,0,0,0,0])]
theorem c84 : chunk (evG tr.get (addH (pickK s84) handH) 10000 60) 10 80 5 Memo.k10 = true:=by kernel_rfl
noncomputable def s90 : Sel:=[(18,Memo.k18,[0,0,0,12,0]),(20,Memo.k20,[17,0]),(54,Memo.k54,[0]),(47,Memo.k47,[15,0]),(59,Memo.k59,[0,1]),(86,Memo.k86,[0]),(88,Memo.k88,[13]),(87,Memo.k87,[14]),(16,Memo.k16,[15,0]),(21,Memo.k21,[0]),(22,Memo.k22,[15,0]),(67,Memo.k67,[0]),(28,Memo.k28,[0]),(66,Memo.k66,[14,0]),(68,Memo.k68,[0,0,0]),(29,Memo.k29,[2]),(30,Memo.k30,[0,0,1]),(31,Memo.k31,[1,10,0]),(69,Memo.k69,[115]),(32,Memo.k32,[15,0]),(116,Memo.k116,[0,1]),(162,Memo.k162,[0,1,3]),(33,Memo.k33,[10]),(34,Memo.k34,[0,2]),(35,Memo.k35,[15,0]),(65,Memo.k65,[0,0,0,0,0,0,0,0,0,0,0,0]),(119,Memo.k119,[0]),(76,Memo.k76,[0]),(97,Memo.k97,[0]),(99,Memo.k99,[0]),(155,Memo.k155,[0,0,0,0,0,0,0,0,0,0,0,0])]
theorem c90 : chunk (evG tr.get (addH (pickK s90) handH) 10000 60) 10 110 5 Memo.k10 = true:=by kernel_rfl
noncomputable def s115 : Sel:=[(90,Memo.k90,[0]),(156,Memo.k156,[0]),(31,Memo.k31,[1]),(34,Memo.k34,[0]),(65,Memo.k65,[0,0,0,0,0,0,0,0,0,0,0,0]),(119,Memo.k119,[0]),(155,Memo.k155,[0,0,0,0,0,0,0,0,0,0,0,0])]
theorem c115 : chunk (evG tr.get (addH (pickK s115) handH) 10000 60) 10 223 4 Memo.k10 = true:=by kernel_rfl
end Go.Proofs.YtkcfpgaepmllhaaGreatDoor
