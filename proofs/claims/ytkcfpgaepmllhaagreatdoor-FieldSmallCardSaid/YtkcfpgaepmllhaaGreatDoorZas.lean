/- Calls give what is told: by computation. No condition. -/
import Derived.Test.YtkcfpgaepmllhaaGreatDoorZap
import Derived.Test.YtkcfpgaepmllhaaGreatDoorZaf
import Derived.Test.YtkcfpgaepmllhaaGreatDoorZao
set_option linter.unusedVariables false
set_option linter.unusedSimpArgs false
set_option linter.constructorNameAsVariable false
namespace Go.Proofs.YtkcfpgaepmllhaaGreatDoor
set_option maxRecDepth 100000
noncomputable def s13 : Sel:=[]
theorem c13 : chunk (evG tr.get (addH (pickK s13) handH) 10000 60) 181 0 3 Memo.k181 = true:=by kernel_rfl
noncomputable def s15 : Sel:=[(286,Memo.k286,[0]),(149,Memo.k149,[0,0,0]),(181,Memo.k181,[0,0,0]),(264,Memo.k264,[0])]
theorem c15 : chunk (evG tr.get (addH (pickK s15) handH) 10000 60) 88 0 21 Memo.k88 = true:=by kernel_rfl
noncomputable def s16 : Sel:=[]
theorem c16 : chunk (evG tr.get (addH (pickK s16) handH) 10000 60) 150 0 2 Memo.k150 = true:=by kernel_rfl
noncomputable def s17 : Sel:=[]
theorem c17 : chunk (evG tr.get (addH (pickK s17) handH) 10000 60) 259 0 3 Memo.k259 = true:=by kernel_rfl
noncomputable def s25 : Sel:=[(286,Memo.k286,[0]),(181,Memo.k181,[0,0,0]),(264,Memo.k264,[0]),(88,Memo.k88,[12,0,0,0,0,0,0,0]),(150,Memo.k150,[0,0]),(259,Memo.k259,[0,0,0]),(178,Memo.k178,[0,0,0]),(225,Memo.k225,[0,0,0,0,0,0,0,0]),(244,Memo.k244,[0,0]),(179,Memo.k179,[0,0,0])]
theorem c25 : chunk (evG tr.get (addH (pickK s25) handH) 10000 60) 87 13 8 Memo.k87 = true:=by kernel_rfl
noncomputable def s36 : Sel:=[]
theorem c36 : chunk (evG tr.get (addH (pickK s36) handH) 10000 60) 204 0 3 Memo.k204 = true:=by kernel_rfl
noncomputable def s39 : Sel:=[(112,Memo.k112,[0,0])]
theorem c39 : chunk (evG tr.get (addH (pickK s39) handH) 10000 60) 68 0 12 Memo.k68 = true:=by kernel_rfl
noncomputable def s63 : Sel:=[]
theorem c63 : chunk (evG tr.get (addH (pickK s63) handH) 10000 60) 119 0 5 Memo.k119 = true:=by kernel_rfl
noncomputable def s65 : Sel:=[(54,Memo.k54,[0])]
theorem c65 : chunk (evG tr.get (addH (pickK s65) handH) 10000 60) 97 0 3 Memo.k97 = true:=by kernel_rfl
noncomputable def s78 : Sel:=[(18,Memo.k18,[0,0,0,5]),(20,Memo.k20,[8]),(54,Memo.k54,[0]),(47,Memo.k47,[7]),(59,Memo.k59,[1,0]),(86,Memo.k86,[0,0]),(88,Memo.k88,[1,5]),(87,Memo.k87,[1,0,5]),(16,Memo.k16,[7]),(21,Memo.k21,[0]),(22,Memo.k22,[7]),(67,Memo.k67,[0]),(28,Memo.k28,[0]),(66,Memo.k66,[6]),(68,Memo.k68,[0,0,0]),(30,Memo.k30,[0,0]),(31,Memo.k31,[1,5]),(69,Memo.k69,[47,0,0,0,0,0,0]),(32,Memo.k32,[7]),(116,Memo.k116,[1,0]),(162,Memo.k162,[1,0,1]),(72,Memo.k72,[1,0]),(33,Memo.k33,[5]),(34,Memo.k34,[0]),(71,Memo.k71,[0]),(73,Memo.k73,[0]),(35,Memo.k35,[7]),(61,Memo.k61,[0]),(65,Memo.k65,[0,0,0,0,0,0,0,0,0,0,0,0]),(75,Memo.k75,[0]),(119,Memo.k119,[0]),(76,Memo.k76,[0]),(97,Memo.k97,[0,0,0]),(99,Memo.k99,[0]),(155,Memo.k155,[0,0,0,0,0,0,0,0,0,0,0,0])]
theorem c78 : chunk (evG tr.get (addH (pickK s78) handH) 10000 60) 10 50 5 Memo.k10 = true:=by kernel_rfl
noncomputable def s80 : Sel:=[(18,Memo.k18,[1,0,6,0]),(20,Memo.k20,[9,0]),(54,Memo.k54,[0]),(47,Memo.k47,[8,0]),(88,Memo.k88,[1]),(87,Memo.k87,[2]),(16,Memo.k16,[8,0]),(21,Memo.k21,[0]),(22,Memo.k22,[8,0]),(67,Memo.k67,[0]),(28,Memo.k28,[0]),(66,Memo.k66,[7,0]),(68,Memo.k68,[1,0]),(30,Memo.k30,[0,1]),(31,Memo.k31,[6]),(69,Memo.k69,[56,1,0]),(32,Memo.k32,[8,0]),(72,Memo.k72,[2]),(34,Memo.k34,[0,1]),(71,Memo.k71,[0]),(73,Memo.k73,[0]),(35,Memo.k35,[8,0]),(61,Memo.k61,[0]),(65,Memo.k65,[0,0,0,0,0,0,0,0,0,0,0,0]),(75,Memo.k75,[0]),(119,Memo.k119,[0]),(76,Memo.k76,[0]),(97,Memo.k97,[2]),(155,Memo.k155,[0,0,0,0,0,0,0,0,0,0,0,0])]
theorem c80 : chunk (evG tr.get (addH (pickK s80) handH) 10000 60) 10 60 5 Memo.k10 = true:=by kernel_rfl
noncomputable def s89 : Sel:=[(18,Memo.k18,[0,1,12]),(20,Memo.k20,[17]),(54,Memo.k54,[0]),(47,Memo.k47,[15]),(59,Memo.k59,[0,1]),(86,Memo.k86,[0,0]),(88,Memo.k88,[1,10]),(87,Memo.k87,[1,0,10]),(16,Memo.k16,[15]),(21,Memo.k21,[0]),(22,Memo.k22,[15]),(74,Memo.k74,[1]),(67,Memo.k67,[0]),(28,Memo.k28,[0]),(66,Memo.k66,[14]),(68,Memo.k68,[2]),(29,Memo.k29,[2]),(30,Memo.k30,[0,2]),(31,Memo.k31,[12]),(69,Memo.k69,[103,0,0,0,0,0,0,0]),(32,Memo.k32,[15]),(116,Memo.k116,[0,1]),(162,Memo.k162,[0,1]),(72,Memo.k72,[1,0,1]),(34,Memo.k34,[0,2]),(71,Memo.k71,[0]),(73,Memo.k73,[0]),(35,Memo.k35,[15]),(61,Memo.k61,[0]),(65,Memo.k65,[0,0,0,0,0,0,0,0,0,0,0,0]),(75,Memo.k75,[0]),(119,Memo.k119,[0]),(76,Memo.k76,[0]),(97,Memo.k97,[0,0,0]),(99,Memo.k99,[1]),(155,Memo.k155,[0,0,0,0,0,0,0,0,0,0,0,0])]
theorem c89 : chunk (evG tr.get (addH (pickK s89) handH) 10000 60) 10 105 5 Memo.k10 = true:=by kernel_rfl
noncomputable def s91 : Sel:=[(18,Memo.k18,[0,0,0,13,0]),(20,Memo.k20,[18,0]),(54,Memo.k54,[0]),(47,Memo.k47,[16,0]),(86,Memo.k86,[1]),(88,Memo.k88,[1]),(87,Memo.k87,[1,0]),(16,Memo.k16,[16,0]),(21,Memo.k21,[0]),(22,Memo.k22,[16,0]),(67,Memo.k67,[0]),(28,Memo.k28,[0]),(66,Memo.k66,[15,0]),(68,Memo.k68,[0,0,0]),(30,Memo.k30,[0,0,1]),(31,Memo.k31,[1,10,0]),(69,Memo.k69,[111,0,0,0,1,0]),(32,Memo.k32,[16,0]),(72,Memo.k72,[1,0]),(34,Memo.k34,[0,2]),(71,Memo.k71,[0]),(73,Memo.k73,[0]),(35,Memo.k35,[16,0]),(61,Memo.k61,[0]),(65,Memo.k65,[0,0,0,0,0,0,0,0,0,0,0,0]),(75,Memo.k75,[0]),(119,Memo.k119,[0]),(76,Memo.k76,[0]),(97,Memo.k97,[1,0]),(155,Memo.k155,[0,0,0,0,0,0,0,0,0,0,0,0])]
theorem c91 : chunk (evG tr.get (addH (pickK s91) handH) 10000 60) 10 115 5 Memo.k10 = true:=by kernel_rfl
noncomputable def s99 : Sel:=[(18,Memo.k18,[0,0,20]),(20,Memo.k20,[24]),(54,Memo.k54,[0]),(47,Memo.k47,[22]),(59,Memo.k59,[0,0]),(86,Memo.k86,[0,0]),(88,Memo.k88,[1,15]),(87,Memo.k87,[1,0,15]),(16,Memo.k16,[22]),(21,Memo.k21,[0]),(22,Memo.k22,[22]),(67,Memo.k67,[0]),(28,Memo.k28,[0]),(66,Memo.k66,[21]),(68,Memo.k68,[0,0,6]),(30,Memo.k30,[0,0]),(31,Memo.k31,[1,15]),(69,Memo.k69,[152,0,0,0,0,0]),(32,Memo.k32,[22]),(116,Memo.k116,[0,0]),(162,Memo.k162,[0,0,6]),(72,Memo.k72,[1,0]),(33,Memo.k33,[14]),(34,Memo.k34,[0]),(71,Memo.k71,[0]),(73,Memo.k73,[0]),(35,Memo.k35,[22]),(61,Memo.k61,[0]),(65,Memo.k65,[0,0,0,0,0,0,0,0,0,0,0,0]),(75,Memo.k75,[0]),(119,Memo.k119,[0]),(76,Memo.k76,[0]),(97,Memo.k97,[0,0,0]),(99,Memo.k99,[3]),(155,Memo.k155,[0,0,0,0,0,0,0,0,0,0,0,0])]
theorem c99 : chunk (evG tr.get (addH (pickK s99) handH) 10000 60) 10 155 5 Memo.k10 = true:=by kernel_rfl
noncomputable def s105 : Sel:=[(18,Memo.k18,[0,0,23,0]),(20,Memo.k20,[29,0]),(54,Memo.k54,[0]),(47,Memo.k47,[26,0]),(86,Memo.k86,[1]),(88,Memo.k88,[1]),(87,Memo.k87,[1,0]),(16,Memo.k16,[26,0]),(21,Memo.k21,[0]),(22,Memo.k22,[26,0]),(67,Memo.k67,[0]),(28,Memo.k28,[0]),(66,Memo.k66,[25,0]),(68,Memo.k68,[0,0]),(30,Memo.k30,[0,3]),(31,Memo.k31,[18]),(69,Memo.k69,[181,0,0,0,0,1]),(32,Memo.k32,[26,0]),(72,Memo.k72,[1,0]),(34,Memo.k34,[0,3]),(71,Memo.k71,[0]),(73,Memo.k73,[0]),(35,Memo.k35,[26,0]),(61,Memo.k61,[0]),(65,Memo.k65,[0,0,0,0,0,0,0,0,0,0,0,0]),(75,Memo.k75,[0]),(119,Memo.k119,[0]),(76,Memo.k76,[0]),(97,Memo.k97,[1,0]),(155,Memo.k155,[0,0,0,0,0,0,0,0,0,0,0,0])]
theorem c105 : chunk (evG tr.get (addH (pickK s105) handH) 10000 60) 10 185 5 Memo.k10 = true:=by kernel_rfl
end Go.Proofs.YtkcfpgaepmllhaaGreatDoor
