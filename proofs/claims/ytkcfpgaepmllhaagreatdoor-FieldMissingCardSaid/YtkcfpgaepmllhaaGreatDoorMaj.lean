/- The terms of functions are those that are told: by computation. No condition. -/
import Derived.Test.YtkcfpgaepmllhaaGreatDoorMaa
import Derived.Test.YtkcfpgaepmllhaaGreatDoorMab
namespace Go.Proofs.YtkcfpgaepmllhaaGreatDoor
set_option maxRecDepth 100000
theorem Ue : aN cx 15 1 aab:=okF_eq (by kernel_rfl)
theorem Uf : aN cx 18 2 aad:=okF_eq (by kernel_rfl)
theorem YR : aN cx 19 2 UP:=okF_eq (by kernel_rfl)
theorem aeb : aN cx 23 3 aag:=okF_eq (by kernel_rfl)
theorem ZC : aN cx 40 4 aaj:=okF_eq (by kernel_rfl)
theorem ZE : aN cx 44 2 aam:=okF_eq (by kernel_rfl)
theorem ZK : aN cx 52 2 aat:=okF_eq (by kernel_rfl)
theorem ZR : aN cx 63 3 UU:=okF_eq (by kernel_rfl)
theorem Ug : aN cx 78 3 UW:=okF_eq (by kernel_rfl)
theorem ZY : aN cx 88 1 UY:=okF_eq (by kernel_rfl)
theorem aem : aN cx 90 2 aaL:=okF_eq (by kernel_rfl)
theorem Ow : aN cx 100 2 PR:=okF_eq (by kernel_rfl)
theorem OD : aN cx 106 2 PX:=okF_eq (by kernel_rfl)
theorem OM : aN cx 150 2 P_:=okF_eq (by kernel_rfl)
theorem YG : aN cx 168 3 Qd:=okF_eq (by kernel_rfl)
theorem E_ : aN cx 178 2 Qi:=okF_eq (by kernel_rfl)
theorem OT : aN cx 190 1 Qs:=okF_eq (by kernel_rfl)
theorem O0 : aN cx 197 1 Qz:=okF_eq (by kernel_rfl)
theorem O6 : aN cx 220 1 QK:=okF_eq (by kernel_rfl)
theorem Zj : aN cx 232 2 QW:=okF_eq (by kernel_rfl)
theorem Pd : aN cx 242 1 Q5:=okF_eq (by kernel_rfl)
theorem Zu : aN cx 254 1 Rf:=okF_eq (by kernel_rfl)
theorem Pm : aN cx 262 2 Ro:=okF_eq (by kernel_rfl)
theorem ZA : aN cx 272 3 Rx:=okF_eq (by kernel_rfl)
theorem Pu : aN cx 278 2 RD:=okF_eq (by kernel_rfl)
theorem PD : aN cx 288 3 RL:=okF_eq (by kernel_rfl)
end Go.Proofs.YtkcfpgaepmllhaaGreatDoor
