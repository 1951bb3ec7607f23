/- Calls give what is told: by computation. No condition. -/
import Derived.Test.YtkcfpgaepmllhaaGreatDoorZap
import Derived.Test.YtkcfpgaepmllhaaGreatDoorZaf
import Derived.Test.YtkcfpgaepmllhaaGreatDoorZao
set_option linter.unusedVariables false
set_option linter.unusedSimpArgs false
set_option linter.constructorNameAsVariable false
namespace Go.Proofs.YtkcfpgaepmllhaaGreatDoor
set_option maxRecDepth 100000
noncomputable def s0 : Sel:=[]
theorem c0 : chunk (evG tr.get (addH (pickK s0) handH) 10000 60) 18 0 28 Memo.k18 = true:=by kernel_rfl
noncomputable def s3 : Sel:=[(95,Memo.k95,[0]),(96,Memo.k96,[0,0,1,0,0])]
theorem c3 : chunk (evG tr.get (addH (pickK s3) handH) 10000 60) 82 0 4 Memo.k82 = true:=by kernel_rfl
noncomputable def s7 : Sel:=[(226,Memo.k226,[0,0,0]),(90,Memo.k90,[0])]
theorem c7 : chunk (evG tr.get (addH (pickK s7) handH) 10000 60) 54 0 6 Memo.k54 = true:=by kernel_rfl
noncomputable def s8 : Sel:=[(18,Memo.k18,[0,0,0,0,0,0,0,0,0,0,0,0,0,0,0,0,0,0,0,0,0,0,0,0,0,0,0,0]),(20,Memo.k20,[0,0,0,0,0,0,0,0,0,0,0,0,0,0,0,0,0,0,0,0,0,0,0,0,0,0,0,0,0,0,0]),(54,Memo.k54,[0,0])]
theorem c8 : chunk (evG tr.get (addH (pickK s8) handH) 10000 60) 47 0 29 Memo.k47 = true:=by kernel_rfl
noncomputable def s41 : Sel:=[]
theorem c41 : chunk (evG tr.get (addH (pickK s41) handH) 10000 60) 30 0 5 Memo.k30 = true:=by kernel_rfl
noncomputable def s42 : Sel:=[]
theorem c42 : chunk (evG tr.get (addH (pickK s42) handH) 10000 60) 31 0 20 Memo.k31 = true:=by kernel_rfl
noncomputable def s45 : Sel:=[(112,Memo.k112,[0])]
theorem c45 : chunk (evG tr.get (addH (pickK s45) handH) 10000 60) 69 194 6 Memo.k69 = true:=by kernel_rfl
noncomputable def s48 : Sel:=[]
theorem c48 : chunk (evG tr.get (addH (pickK s48) handH) 10000 60) 116 0 3 Memo.k116 = true:=by kernel_rfl
noncomputable def s57 : Sel:=[]
theorem c57 : chunk (evG tr.get (addH (pickK s57) handH) 10000 60) 71 0 1 Memo.k71 = true:=by kernel_rfl
noncomputable def s68 : Sel:=[(18,Memo.k18,[0,0,0]),(20,Memo.k20,[0]),(54,Memo.k54,[0]),(47,Memo.k47,[0]),(59,Memo.k59,[0,0,0]),(86,Memo.k86,[0,0]),(88,Memo.k88,[0,0]),(87,Memo.k87,[0,0,0]),(16,Memo.k16,[0]),(21,Memo.k21,[0]),(22,Memo.k22,[0]),(67,Memo.k67,[0]),(110,Memo.k110,[0]),(28,Memo.k28,[0]),(68,Memo.k68,[0,0,0]),(30,Memo.k30,[0,0]),(31,Memo.k31,[0,0]),(69,Memo.k69,[0,0,0,0,0,0]),(111,Memo.k111,[0]),(32,Memo.k32,[0]),(116,Memo.k116,[0,0,0]),(162,Memo.k162,[0,0,0]),(72,Memo.k72,[1,0]),(33,Memo.k33,[0]),(34,Memo.k34,[0,0]),(71,Memo.k71,[0]),(73,Memo.k73,[0]),(35,Memo.k35,[0]),(61,Memo.k61,[0]),(65,Memo.k65,[0,0,0,0,0,0,0,0,0,0,0,0]),(75,Memo.k75,[0]),(119,Memo.k119,[0]),(76,Memo.k76,[0]),(97,Memo.k97,[0,0,0]),(99,Memo.k99,[0]),(155,Memo.k155,[0,0,0,0,0,0,0,0,0,0,0,0])]
theorem c68 : chunk (evG tr.get (addH (pickK s68) handH) 10000 60) 10 0 5 Memo.k10 = true:=by kernel_rfl
noncomputable def s70 : Sel:=[(18,Memo.k18,[1,0,0,0]),(20,Memo.k20,[1,0]),(54,Memo.k54,[0]),(47,Memo.k47,[1,0]),(86,Memo.k86,[1]),(88,Memo.k88,[1]),(87,Memo.k87,[1,0]),(16,Memo.k16,[1,0]),(21,Memo.k21,[0]),(22,Memo.k22,[1,0]),(67,Memo.k67,[0]),(28,Memo.k28,[0]),(66,Memo.k66,[0,0]),(68,Memo.k68,[1,0]),(30,Memo.k30,[0,0,0]),(31,Memo.k31,[1,0,0]),(69,Memo.k69,[7,0,0,0,0,0]),(32,Memo.k32,[1,0]),(72,Memo.k72,[1,0]),(34,Memo.k34,[0,1]),(71,Memo.k71,[0]),(73,Memo.k73,[0]),(35,Memo.k35,[1,0]),(61,Memo.k61,[0]),(65,Memo.k65,[0,0,0,0,0,0,0,0,0,0,0,0]),(75,Memo.k75,[0]),(119,Memo.k119,[0]),(76,Memo.k76,[0]),(97,Memo.k97,[1,0]),(155,Memo.k155,[0,0,0,0,0,0,0,0,0,0,0,0])]
theorem c70 : chunk (evG tr.get (addH (pickK s70) handH) 10000 60) 10 10 5 Memo.k10 = true:=by kernel_rfl
noncomputable def s73 : Sel:=[(18,Memo.k18,[1,0,2,0]),(20,Memo.k20,[3,0]),(54,Memo.k54,[0]),(47,Memo.k47,[3,0]),(88,Memo.k88,[1]),(87,Memo.k87,[2]),(16,Memo.k16,[3,0]),(21,Memo.k21,[0]),(22,Memo.k22,[3,0]),(67,Memo.k67,[0]),(28,Memo.k28,[0]),(66,Memo.k66,[2,0]),(68,Memo.k68,[1,0,0]),(30,Memo.k30,[0,0]),(31,Memo.k31,[1,2,0]),(69,Memo.k69,[21,1,0]),(32,Memo.k32,[3,0]),(72,Memo.k72,[2]),(34,Memo.k34,[0]),(71,Memo.k71,[0]),(73,Memo.k73,[0]),(35,Memo.k35,[3,0]),(61,Memo.k61,[0]),(65,Memo.k65,[0,0,0,0,0,0,0,0,0,0,0,0]),(75,Memo.k75,[0]),(119,Memo.k119,[0]),(76,Memo.k76,[0]),(97,Memo.k97,[2]),(155,Memo.k155,[0,0,0,0,0,0,0,0,0,0,0,0])]
theorem c73 : chunk (evG tr.get (addH (pickK s73) handH) 10000 60) 10 25 5 Memo.k10 = true:=by kernel_rfl
noncomputable def s85 : Sel:=[(18,Memo.k18,[0,1,10]),(20,Memo.k20,[13]),(54,Memo.k54,[0]),(47,Memo.k47,[12]),(59,Memo.k59,[0,1]),(86,Memo.k86,[0,0]),(88,Memo.k88,[1,8]),(150,Memo.k150,[0,0]),(87,Memo.k87,[1,0,8]),(16,Memo.k16,[12]),(21,Memo.k21,[0]),(22,Memo.k22,[12]),(67,Memo.k67,[0]),(28,Memo.k28,[0]),(66,Memo.k66,[11]),(68,Memo.k68,[0,1,1]),(30,Memo.k30,[0,0]),(31,Memo.k31,[1,8]),(69,Memo.k69,[82,0,0,0,0,0]),(32,Memo.k32,[12]),(116,Memo.k116,[0,1]),(162,Memo.k162,[0,1]),(72,Memo.k72,[1,0]),(33,Memo.k33,[8]),(34,Memo.k34,[0]),(71,Memo.k71,[0]),(73,Memo.k73,[0]),(35,Memo.k35,[12]),(61,Memo.k61,[0]),(65,Memo.k65,[0,0,0,0,0,0,0,0,0,0,0,0]),(75,Memo.k75,[0]),(119,Memo.k119,[0]),(76,Memo.k76,[0]),(97,Memo.k97,[0,0,0]),(99,Memo.k99,[2]),(155,Memo.k155,[0,0,0,0,0,0,0,0,0,0,0,0])]
theorem c85 : chunk (evG tr.get (addH (pickK s85) handH) 10000 60) 10 85 5 Memo.k10 = true:=by kernel_rfl
noncomputable def s106 : Sel:=[(18,Memo.k18,[0,0,24]),(20,Memo.k20,[30]),(54,Memo.k54,[0]),(47,Memo.k47,[27]),(59,Memo.k59,[0,0]),(86,Memo.k86,[0,0]),(88,Memo.k88,[1,16]),(87,Memo.k87,[1,0,16]),(16,Memo.k16,[27]),(21,Memo.k21,[0]),(22,Memo.k22,[27]),(74,Memo.k74,[0]),(67,Memo.k67,[0]),(28,Memo.k28,[0]),(66,Memo.k66,[26]),(68,Memo.k68,[0,0]),(30,Memo.k30,[0,3]),(31,Memo.k31,[18]),(69,Memo.k69,[188,0,0,0,0,0,0,0]),(32,Memo.k32,[27]),(116,Memo.k116,[0,0]),(162,Memo.k162,[0,0]),(72,Memo.k72,[1,0,2]),(34,Memo.k34,[0,3]),(71,Memo.k71,[0]),(73,Memo.k73,[0]),(35,Memo.k35,[27]),(61,Memo.k61,[0]),(65,Memo.k65,[0,0,0,0,0,0,0,0,0,0,0,0]),(75,Memo.k75,[0]),(119,Memo.k119,[0]),(76,Memo.k76,[0]),(97,Memo.k97,[0,0,0]),(99,Memo.k99,[1]),(155,Memo.k155,[0,0,0,0,0,0,0,0,0,0,0,0])]
theorem c106 : chunk (evG tr.get (addH (pickK s106) handH) 10000 60) 10 190 5 Memo.k10 = true:=by kernel_rfl
noncomputable def s108 : Sel:=[(18,Memo.k18,[27]),(82,Memo.k82,[0]),(20,Memo.k20,[0]),(54,Memo.k54,[1]),(47,Memo.k47,[28]),(59,Memo.k59,[0,0,0]),(86,Memo.k86,[0,0]),(88,Memo.k88,[0,0]),(87,Memo.k87,[0,0,0]),(21,Memo.k21,[1]),(67,Memo.k67,[1]),(110,Memo.k110,[1]),(204,Memo.k204,[0,0]),(112,Memo.k112,[0,0]),(31,Memo.k31,[0,0]),(69,Memo.k69,[196,0]),(111,Memo.k111,[0]),(116,Memo.k116,[0,0,0]),(162,Memo.k162,[0,0,0]),(72,Memo.k72,[1,0]),(33,Memo.k33,[16]),(34,Memo.k34,[0,0]),(71,Memo.k71,[0]),(73,Memo.k73,[0]),(65,Memo.k65,[0,0,0,0,0,0,0,0,0,0,0,0]),(119,Memo.k119,[0]),(99,Memo.k99,[0]),(155,Memo.k155,[0,0,0,0,0,0,0,0,0,0,0,0])]
theorem c108 : chunk (evG tr.get (addH (pickK s108) handH) 10000 60) 10 199 2 Memo.k10 = true:=by kernel_rfl
end Go.Proofs.YtkcfpgaepmllhaaGreatDoor
