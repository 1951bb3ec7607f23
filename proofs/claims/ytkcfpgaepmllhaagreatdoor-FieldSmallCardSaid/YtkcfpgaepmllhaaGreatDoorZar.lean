/- Calls give what is told: by computation. No condition. -/
import Derived.Test.YtkcfpgaepmllhaaGreatDoorZap
import Derived.Test.YtkcfpgaepmllhaaGreatDoorZaf
import Derived.Test.YtkcfpgaepmllhaaGreatDoorZao
set_option linter.unusedVariables false
set_option linter.unusedSimpArgs false
set_option linter.constructorNameAsVariable false
namespace Go.Proofs.YtkcfpgaepmllhaaGreatDoor
set_option maxRecDepth 100000
noncomputable def s1 : Sel:=[]
theorem c1 : chunk (evG tr.get (addH (pickK s1) handH) 10000 60) 95 0 1 Memo.k95 = true:=by kernel_rfl
noncomputable def s18 : Sel:=[(286,Memo.k286,[0]),(149,Memo.k149,[0,0,0]),(259,Memo.k259,[0,0,0])]
theorem c18 : chunk (evG tr.get (addH (pickK s18) handH) 10000 60) 178 0 3 Memo.k178 = true:=by kernel_rfl
noncomputable def s23 : Sel:=[(259,Memo.k259,[0,0,0]),(225,Memo.k225,[0,0,0]),(244,Memo.k244,[0,0])]
theorem c23 : chunk (evG tr.get (addH (pickK s23) handH) 10000 60) 179 0 3 Memo.k179 = true:=by kernel_rfl
noncomputable def s27 : Sel:=[(96,Memo.k96,[0,0,0,0,0,0,0]),(54,Memo.k54,[0,0,1,0])]
theorem c27 : chunk (evG tr.get (addH (pickK s27) handH) 10000 60) 21 0 4 Memo.k21 = true:=by kernel_rfl
noncomputable def s28 : Sel:=[(47,Memo.k47,[0,0,0,0,0,0,0,0,0,0,0,0,0,0,0,0,0,0,0,0,0,0,0,0,0,0,0,0]),(59,Memo.k59,[0,0,0]),(21,Memo.k21,[0])]
theorem c28 : chunk (evG tr.get (addH (pickK s28) handH) 10000 60) 22 0 28 Memo.k22 = true:=by kernel_rfl
noncomputable def s30 : Sel:=[]
theorem c30 : chunk (evG tr.get (addH (pickK s30) handH) 10000 60) 74 0 2 Memo.k74 = true:=by kernel_rfl
noncomputable def s43 : Sel:=[(68,Memo.k68,[0])]
theorem c43 : chunk (evG tr.get (addH (pickK s43) handH) 10000 60) 69 0 96 Memo.k69 = true:=by kernel_rfl
noncomputable def s49 : Sel:=[]
theorem c49 : chunk (evG tr.get (addH (pickK s49) handH) 10000 60) 266 0 1 Memo.k266 = true:=by kernel_rfl
noncomputable def s67 : Sel:=[]
theorem c67 : chunk (evG tr.get (addH (pickK s67) handH) 10000 60) 155 0 12 Memo.k155 = true:=by kernel_rfl
noncomputable def s69 : Sel:=[(18,Memo.k18,[0,0,0,0]),(20,Memo.k20,[0,0]),(54,Memo.k54,[0]),(47,Memo.k47,[0,0]),(59,Memo.k59,[1,0]),(86,Memo.k86,[0]),(88,Memo.k88,[2]),(87,Memo.k87,[3]),(16,Memo.k16,[0,0]),(21,Memo.k21,[0]),(22,Memo.k22,[0,0]),(67,Memo.k67,[0]),(110,Memo.k110,[0]),(28,Memo.k28,[0]),(66,Memo.k66,[0]),(68,Memo.k68,[0,0,0]),(30,Memo.k30,[0,0,0]),(31,Memo.k31,[0,0,0]),(69,Memo.k69,[6]),(111,Memo.k111,[0]),(32,Memo.k32,[0,0]),(116,Memo.k116,[1,0]),(162,Memo.k162,[1,0]),(33,Memo.k33,[1]),(34,Memo.k34,[0,0,0]),(35,Memo.k35,[0,0]),(65,Memo.k65,[0,0,0,0,0,0,0,0,0,0,0,0]),(119,Memo.k119,[0]),(76,Memo.k76,[0]),(97,Memo.k97,[0]),(99,Memo.k99,[1]),(155,Memo.k155,[0,0,0,0,0,0,0,0,0,0,0,0])]
theorem c69 : chunk (evG tr.get (addH (pickK s69) handH) 10000 60) 10 5 5 Memo.k10 = true:=by kernel_rfl
noncomputable def s81 : Sel:=[(18,Memo.k18,[1,0,7]),(20,Memo.k20,[10]),(54,Memo.k54,[0]),(47,Memo.k47,[9]),(59,Memo.k59,[1,0]),(86,Memo.k86,[0,0]),(88,Memo.k88,[1,4]),(87,Memo.k87,[1,0,4]),(16,Memo.k16,[9]),(21,Memo.k21,[0]),(22,Memo.k22,[9]),(74,Memo.k74,[0,0]),(67,Memo.k67,[0]),(28,Memo.k28,[0]),(66,Memo.k66,[8]),(68,Memo.k68,[1,0]),(30,Memo.k30,[0,1]),(31,Memo.k31,[6]),(69,Memo.k69,[61,0,0,0,0,0,0]),(32,Memo.k32,[9]),(116,Memo.k116,[1,0]),(162,Memo.k162,[1,0]),(72,Memo.k72,[1,0,0]),(34,Memo.k34,[0,1]),(71,Memo.k71,[0]),(73,Memo.k73,[0]),(35,Memo.k35,[9]),(61,Memo.k61,[0]),(65,Memo.k65,[0,0,0,0,0,0,0,0,0,0,0,0]),(75,Memo.k75,[0]),(119,Memo.k119,[0]),(76,Memo.k76,[0]),(97,Memo.k97,[0,0,0]),(99,Memo.k99,[1]),(155,Memo.k155,[0,0,0,0,0,0,0,0,0,0,0,0])]
theorem c81 : chunk (evG tr.get (addH (pickK s81) handH) 10000 60) 10 65 5 Memo.k10 = true:=by kernel_rfl
noncomputable def s94 : Sel:=[(18,Memo.k18,[0,0,0,15,0]),(20,Memo.k20,[20,0]),(54,Memo.k54,[0]),(47,Memo.k47,[18,0]),(88,Memo.k88,[1]),(87,Memo.k87,[2]),(16,Memo.k16,[18,0]),(21,Memo.k21,[0]),(22,Memo.k22,[18,0]),(67,Memo.k67,[0]),(28,Memo.k28,[0]),(66,Memo.k66,[17,0]),(68,Memo.k68,[0,0,3]),(29,Memo.k29,[3]),(30,Memo.k30,[0,2,0]),(31,Memo.k31,[1,10,1]),(69,Memo.k69,[128,1,1]),(32,Memo.k32,[18,0]),(72,Memo.k72,[2]),(34,Memo.k34,[0,2,0]),(71,Memo.k71,[0]),(73,Memo.k73,[0]),(35,Memo.k35,[18,0]),(61,Memo.k61,[0]),(65,Memo.k65,[0,0,0,0,0,0,0,0,0,0,0,0]),(75,Memo.k75,[0]),(119,Memo.k119,[0]),(76,Memo.k76,[0]),(97,Memo.k97,[2]),(155,Memo.k155,[0,0,0,0,0,0,0,0,0,0,0,0])]
theorem c94 : chunk (evG tr.get (addH (pickK s94) handH) 10000 60) 10 130 5 Memo.k10 = true:=by kernel_rfl
noncomputable def s98 : Sel:=[(18,Memo.k18,[0,0,19,0]),(20,Memo.k20,[23,0]),(54,Memo.k54,[0]),(47,Memo.k47,[21,0]),(86,Memo.k86,[1]),(88,Memo.k88,[1]),(87,Memo.k87,[1,0]),(16,Memo.k16,[21,0]),(21,Memo.k21,[0]),(22,Memo.k22,[21,0]),(67,Memo.k67,[0]),(28,Memo.k28,[0]),(66,Memo.k66,[20,0]),(68,Memo.k68,[0,0,5,0]),(30,Memo.k30,[0,0]),(31,Memo.k31,[1,14,0]),(69,Memo.k69,[146,0,0,0,0,0]),(32,Memo.k32,[21,0]),(72,Memo.k72,[1,0]),(34,Memo.k34,[0]),(71,Memo.k71,[0]),(73,Memo.k73,[0]),(35,Memo.k35,[21,0]),(61,Memo.k61,[0]),(65,Memo.k65,[0,0,0,0,0,0,0,0,0,0,0,0]),(75,Memo.k75,[0]),(119,Memo.k119,[0]),(76,Memo.k76,[0]),(97,Memo.k97,[1,0]),(155,Memo.k155,[0,0,0,0,0,0,0,0,0,0,0,0])]
theorem c98 : chunk (evG tr.get (addH (pickK s98) handH) 10000 60) 10 150 5 Memo.k10 = true:=by kernel_rfl
noncomputable def s103 : Sel:=[(18,Memo.k18,[0,0,0,21]),(20,Memo.k20,[28]),(54,Memo.k54,[0]),(47,Memo.k47,[25]),(59,Memo.k59,[0,0]),(86,Memo.k86,[0,0]),(88,Memo.k88,[1,17]),(87,Memo.k87,[1,0,17]),(16,Memo.k16,[25]),(21,Memo.k21,[0]),(22,Memo.k22,[25]),(67,Memo.k67,[0]),(28,Memo.k28,[0]),(66,Memo.k66,[24]),(68,Memo.k68,[0,0,0,6]),(30,Memo.k30,[0,0]),(31,Memo.k31,[1,17]),(69,Memo.k69,[174,0,0,0,0,0]),(32,Memo.k32,[25]),(116,Memo.k116,[0,0]),(162,Memo.k162,[0,0,7]),(72,Memo.k72,[1,0]),(33,Memo.k33,[15]),(34,Memo.k34,[0,0]),(71,Memo.k71,[0]),(73,Memo.k73,[0]),(35,Memo.k35,[25]),(61,Memo.k61,[0]),(65,Memo.k65,[0,0,0,0,0,0,0,0,0,0,0,0]),(75,Memo.k75,[0]),(119,Memo.k119,[0]),(76,Memo.k76,[0]),(97,Memo.k97,[0,0,0]),(99,Memo.k99,[0]),(155,Memo.k155,[0,0,0,0,0,0,0,0,0,0,0,0])]
theorem c103 : chunk (evG tr.get (addH (pickK s103) handH) 10000 60) 10 175 5 Memo.k10 = true:=by kernel_rfl
noncomputable def s111 : Sel:=[(18,Memo.k18,[1,0]),(82,Memo.k82,[0]),(20,Memo.k20,[0,5]),(54,Memo.k54,[2,0]),(59,Memo.k59,[1,0]),(86,Memo.k86,[0,0]),(88,Memo.k88,[1,4]),(87,Memo.k87,[1,0,4]),(21,Memo.k21,[2]),(67,Memo.k67,[2]),(110,Memo.k110,[2,0]),(204,Memo.k204,[0,0]),(112,Memo.k112,[0]),(68,Memo.k68,[10]),(30,Memo.k30,[1]),(31,Memo.k31,[1,4]),(69,Memo.k69,[198]),(111,Memo.k111,[0]),(116,Memo.k116,[1,0]),(162,Memo.k162,[1,0]),(72,Memo.k72,[1,0,0]),(34,Memo.k34,[0,1]),(71,Memo.k71,[0]),(73,Memo.k73,[0]),(65,Memo.k65,[0,0,0,0,0,0,0,0,0,0,0,0]),(119,Memo.k119,[1,0]),(99,Memo.k99,[1]),(155,Memo.k155,[0,0,0,0,0,0,0,0,0,0,0,0])]
theorem c111 : chunk (evG tr.get (addH (pickK s111) handH) 10000 60) 10 209 4 Memo.k10 = true:=by kernel_rfl
end Go.Proofs.YtkcfpgaepmllhaaGreatDoor
