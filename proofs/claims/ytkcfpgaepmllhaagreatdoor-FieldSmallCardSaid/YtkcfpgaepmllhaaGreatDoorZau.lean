/- Calls give what is told: by computation. No condition. -/
import Derived.Test.YtkcfpgaepmllhaaGreatDoorZap
import Derived.Test.YtkcfpgaepmllhaaGreatDoorZaf
import Derived.Test.YtkcfpgaepmllhaaGreatDoorZao
set_option linter.unusedVariables false
set_option linter.unusedSimpArgs false
set_option linter.constructorNameAsVariable false
namespace Go.Proofs.YtkcfpgaepmllhaaGreatDoor
set_option maxRecDepth 100000
noncomputable def s2 : Sel:=[]
theorem c2 : chunk (evG tr.get (addH (pickK s2) handH) 10000 60) 96 0 7 Memo.k96 = true:=by kernel_rfl
noncomputable def s5 : Sel:=[]
theorem c5 : chunk (evG tr.get (addH (pickK s5) handH) 10000 60) 226 0 3 Memo.k226 = true:=by kernel_rfl
noncomputable def s10 : Sel:=[]
theorem c10 : chunk (evG tr.get (addH (pickK s10) handH) 10000 60) 86 0 2 Memo.k86 = true:=by kernel_rfl
noncomputable def s24 : Sel:=[(286,Memo.k286,[0]),(181,Memo.k181,[0,0,0]),(264,Memo.k264,[0]),(88,Memo.k88,[0,0,0,0,0,0,0,0,0,0,0,0]),(150,Memo.k150,[0,0]),(259,Memo.k259,[0,0,0]),(178,Memo.k178,[0,0,0]),(225,Memo.k225,[0,0,0,0,0,0,0,0]),(244,Memo.k244,[0,0]),(179,Memo.k179,[0,0,0])]
theorem c24 : chunk (evG tr.get (addH (pickK s24) handH) 10000 60) 87 0 13 Memo.k87 = true:=by kernel_rfl
noncomputable def s26 : Sel:=[(47,Memo.k47,[0,0,0,0,0,0,0,0,0,0,0,0,0,0,0,0,0,0,0,0,0,0,0,0,0,0,0,0]),(59,Memo.k59,[0,0,0]),(86,Memo.k86,[0,0]),(88,Memo.k88,[0,0,0,0,0,0,0,0,0,0,0,0,0,0,0,0,0,0,0,0]),(87,Memo.k87,[0,0,0,0,0,0,0,0,0,0,0,0,0,0,0,0,0,0,0,0,0])]
theorem c26 : chunk (evG tr.get (addH (pickK s26) handH) 10000 60) 16 0 28 Memo.k16 = true:=by kernel_rfl
noncomputable def s47 : Sel:=[(67,Memo.k67,[0]),(110,Memo.k110,[0]),(66,Memo.k66,[0,0,0,0,0,0,0,0,0,0,0,0,0,0,0,0,0,0,0,0,0,0,0,0,0,0,0]),(68,Memo.k68,[0,0,0,0,0,0,0,0,0,0]),(69,Memo.k69,[0,0,0,0,0,0,0,0,0,0,0,0,0,0,0,0,0,0,0,0,0,0,0,0,0,0,0,0,0,0,0,0,0,0,0,0,0,0,0,0,0,0,0,0,0,0,0,0,0,0,0,0,0,0,0,0,0,0,0,0,0,0,0,0,0,0,0,0,0,0,0,0,0,0,0,0,0,0,0,0,0,0,0,0,0,0,0,0,0,0,0,0,0,0,0,0,0,0,0,0,0,0,0,0,0,0,0,0,0,0,0,0,0,0,0,0,0,0,0,0,0,0,0,0,0,0,0,0,0,0,0,0,0,0,0,0,0,0,0,0,0,0,0,0,0,0,0,0,0,0,0,0,0,0,0,0,0,0,0,0,0,0,0,0,0,0,0,0,0,0,0,0,0,0,0,0,0,0,0,0,0,0,0,0,0,0,0,0,0,0,0,0,0,0,0,0]),(111,Memo.k111,[0])]
theorem c47 : chunk (evG tr.get (addH (pickK s47) handH) 10000 60) 32 0 28 Memo.k32 = true:=by kernel_rfl
noncomputable def s50 : Sel:=[(266,Memo.k266,[0])]
theorem c50 : chunk (evG tr.get (addH (pickK s50) handH) 10000 60) 208 0 3 Memo.k208 = true:=by kernel_rfl
noncomputable def s53 : Sel:=[(116,Memo.k116,[0,0,0]),(162,Memo.k162,[0,0,0]),(163,Memo.k163,[0,0,0])]
theorem c53 : chunk (evG tr.get (addH (pickK s53) handH) 10000 60) 72 0 7 Memo.k72 = true:=by kernel_rfl
noncomputable def s56 : Sel:=[]
theorem c56 : chunk (evG tr.get (addH (pickK s56) handH) 10000 60) 34 0 5 Memo.k34 = true:=by kernel_rfl
noncomputable def s75 : Sel:=[(18,Memo.k18,[1,0]),(20,Memo.k20,[5]),(54,Memo.k54,[0]),(47,Memo.k47,[5]),(59,Memo.k59,[1,0]),(86,Memo.k86,[0,0]),(88,Memo.k88,[1,4]),(87,Memo.k87,[1,0,4]),(16,Memo.k16,[5]),(21,Memo.k21,[0]),(22,Memo.k22,[5]),(74,Memo.k74,[0,0]),(67,Memo.k67,[0]),(28,Memo.k28,[0]),(66,Memo.k66,[4]),(68,Memo.k68,[1,0]),(29,Memo.k29,[0]),(30,Memo.k30,[0,1]),(31,Memo.k31,[6]),(69,Memo.k69,[33,0,0,0,0,0,0]),(32,Memo.k32,[5]),(116,Memo.k116,[1,0]),(162,Memo.k162,[1,0]),(72,Memo.k72,[1,0,0]),(34,Memo.k34,[0,1]),(71,Memo.k71,[0]),(73,Memo.k73,[0]),(35,Memo.k35,[5]),(61,Memo.k61,[0]),(65,Memo.k65,[0,0,0,0,0,0,0,0,0,0,0,0]),(75,Memo.k75,[0]),(119,Memo.k119,[0]),(76,Memo.k76,[0]),(97,Memo.k97,[0,0,0]),(99,Memo.k99,[1]),(155,Memo.k155,[0,0,0,0,0,0,0,0,0,0,0,0])]
theorem c75 : chunk (evG tr.get (addH (pickK s75) handH) 10000 60) 10 35 5 Memo.k10 = true:=by kernel_rfl
noncomputable def s79 : Sel:=[(18,Memo.k18,[0,0,0,5,0]),(20,Memo.k20,[8,0]),(54,Memo.k54,[0]),(47,Memo.k47,[7,0]),(59,Memo.k59,[1,0]),(86,Memo.k86,[0,0]),(88,Memo.k88,[1,4]),(87,Memo.k87,[1,5]),(16,Memo.k16,[7,0]),(21,Memo.k21,[0]),(22,Memo.k22,[7,0]),(74,Memo.k74,[0,0]),(67,Memo.k67,[0]),(28,Memo.k28,[0]),(66,Memo.k66,[6,0]),(68,Memo.k68,[0,0,0]),(30,Memo.k30,[0,0,0]),(31,Memo.k31,[1,4,0]),(69,Memo.k69,[54,0,1,2]),(32,Memo.k32,[7,0]),(116,Memo.k116,[1,0]),(162,Memo.k162,[1,0]),(72,Memo.k72,[1,1]),(34,Memo.k34,[0,1]),(73,Memo.k73,[0]),(35,Memo.k35,[7,0]),(61,Memo.k61,[0]),(65,Memo.k65,[0,0,0,0,0,0,0,0,0,0,0,0]),(75,Memo.k75,[0]),(119,Memo.k119,[0]),(76,Memo.k76,[0]),(97,Memo.k97,[0,0]),(99,Memo.k99,[1]),(155,Memo.k155,[0,0,0,0,0,0,0,0,0,0,0,0])]
theorem c79 : chunk (evG tr.get (addH (pickK s79) handH) 10000 60) 10 55 5 Memo.k10 = true:=by kernel_rfl
noncomputable def s87 : Sel:=[(18,Memo.k18,[0,1,11]),(20,Memo.k20,[14,0]),(54,Memo.k54,[0]),(47,Memo.k47,[13,0]),(88,Memo.k88,[1]),(87,Memo.k87,[2]),(16,Memo.k16,[13,0]),(21,Memo.k21,[0]),(22,Memo.k22,[13,0]),(67,Memo.k67,[0]),(28,Memo.k28,[0]),(66,Memo.k66,[12,0]),(68,Memo.k68,[0,1]),(29,Memo.k29,[1]),(30,Memo.k30,[0,0,1]),(31,Memo.k31,[1,9,0]),(69,Memo.k69,[89,1,1]),(32,Memo.k32,[13,0]),(72,Memo.k72,[2]),(34,Memo.k34,[0,2]),(71,Memo.k71,[0]),(73,Memo.k73,[0]),(35,Memo.k35,[13,0]),(61,Memo.k61,[0]),(65,Memo.k65,[0,0,0,0,0,0,0,0,0,0,0,0]),(75,Memo.k75,[0]),(119,Memo.k119,[0]),(76,Memo.k76,[0]),(97,Memo.k97,[2]),(155,Memo.k155,[0,0,0,0,0,0,0,0,0,0,0,0])]
theorem c87 : chunk (evG tr.get (addH (pickK s87) handH) 10000 60) 10 95 5 Memo.k10 = true:=by kernel_rfl
noncomputable def s93 : Sel:=[(18,Memo.k18,[0,1,14,0]),(20,Memo.k20,[19,0]),(54,Memo.k54,[0]),(47,Memo.k47,[17,0]),(59,Memo.k59,[0,1]),(86,Memo.k86,[0,0]),(88,Memo.k88,[1,10]),(87,Memo.k87,[1,11]),(16,Memo.k16,[17,0]),(21,Memo.k21,[0]),(22,Memo.k22,[17,0]),(74,Memo.k74,[1]),(67,Memo.k67,[0]),(28,Memo.k28,[0]),(66,Memo.k66,[16,0]),(68,Memo.k68,[0,1]),(29,Memo.k29,[3]),(30,Memo.k30,[0,2]),(31,Memo.k31,[12]),(69,Memo.k69,[126,0,1,1,1]),(32,Memo.k32,[17,0]),(116,Memo.k116,[0,1]),(162,Memo.k162,[0,1]),(72,Memo.k72,[1,2]),(34,Memo.k34,[0,2]),(73,Memo.k73,[0]),(35,Memo.k35,[17,0]),(61,Memo.k61,[0]),(65,Memo.k65,[0,0,0,0,0,0,0,0,0,0,0,0]),(75,Memo.k75,[0]),(119,Memo.k119,[0]),(76,Memo.k76,[0]),(97,Memo.k97,[0,0]),(99,Memo.k99,[1]),(155,Memo.k155,[0,0,0,0,0,0,0,0,0,0,0,0])]
theorem c93 : chunk (evG tr.get (addH (pickK s93) handH) 10000 60) 10 125 5 Memo.k10 = true:=by kernel_rfl
noncomputable def s104 : Sel:=[(18,Memo.k18,[0,0,0,21,0]),(20,Memo.k20,[28,0]),(54,Memo.k54,[0]),(47,Memo.k47,[25,0]),(59,Memo.k59,[0,0]),(86,Memo.k86,[0]),(88,Memo.k88,[18]),(87,Memo.k87,[19]),(16,Memo.k16,[25,0]),(21,Memo.k21,[0]),(22,Memo.k22,[25,0]),(74,Memo.k74,[0]),(67,Memo.k67,[0]),(28,Memo.k28,[0]),(66,Memo.k66,[24,0]),(68,Memo.k68,[0,0,0,6]),(30,Memo.k30,[0,0,2]),(31,Memo.k31,[1,16,0]),(69,Memo.k69,[180,5]),(32,Memo.k32,[25,0]),(116,Memo.k116,[0,0]),(162,Memo.k162,[0,0]),(72,Memo.k72,[5]),(34,Memo.k34,[0,0,2]),(35,Memo.k35,[25,0]),(65,Memo.k65,[0,0,0,0,0,0,0,0,0,0,0,0]),(119,Memo.k119,[0]),(76,Memo.k76,[0]),(97,Memo.k97,[0]),(99,Memo.k99,[1]),(155,Memo.k155,[0,0,0,0,0,0,0,0,0,0,0,0])]
theorem c104 : chunk (evG tr.get (addH (pickK s104) handH) 10000 60) 10 180 5 Memo.k10 = true:=by kernel_rfl
noncomputable def s116 : Sel:=[(18,Memo.k18,[0,0]),(20,Memo.k20,[26]),(54,Memo.k54,[0]),(47,Memo.k47,[0,10]),(59,Memo.k59,[0,0,0]),(86,Memo.k86,[0]),(88,Memo.k88,[0,8,8]),(87,Memo.k87,[0,9,8]),(21,Memo.k21,[0]),(97,Memo.k97,[0]),(10,Memo.k10,[0,0,0,0,0,0,0,0,0,0,0,0,0,0,0,0,0,0,0,0,0,0,0,0,0,0,0,0,0,0,0,0,0,0,0,0,0,0,0,0,0,0,0,0,0,0,0,0,0,0,0,0,0,0,0,0,0,0,0,0,0,0,0,0,0,0,0,0,0,0,0,0,0,0,0,0,0,0,0,0,0,0,0,0,0,0,0,0,0,0,0,0,0,0,0,0,0,0,0,0,0,0,0,0,0,0,0,0,0,0,0,0,0,0,0,0,0,0,0,0,0,0,0,0,0,0,0,0,0,0,0,0,0,0,0,0,0,0,0,0,0,0,0,0,0,0,0,0,0,0,0,0,0,0,0,0,0,0,0,0,0,0,0,0,0,0,0,0,0,0,0,0,0,0,0,0,0,0,0,0,0,0,0,0,0,0,0,0,0,0,0,0,0,0,0,0,0,0,0,0,0,0,0,0,0,0,0,0,0,0,0,0,0,0,0,0,0,0,0,0,0,0,0,0,0,0,0])]
theorem c116 : chunk (evG tr.get (addH (pickK s116) handH) 10000 60) 4 0 1 Memo.k4 = true:=by kernel_rfl
end Go.Proofs.YtkcfpgaepmllhaaGreatDoor
