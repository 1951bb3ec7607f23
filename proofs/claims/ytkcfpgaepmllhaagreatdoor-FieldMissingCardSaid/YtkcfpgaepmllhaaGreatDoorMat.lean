/- Part of the proof: symbolic execution of the program, its soundness, and the closing lemmas. No condition. -/
import Derived.Test.YtkcfpgaepmllhaaGreatDoorFag
import Derived.Test.YtkcfpgaepmllhaaGreatDoorMas
namespace Go.Proofs.YtkcfpgaepmllhaaGreatDoor
open Go.RowKit
set_option maxRecDepth 100000
set_option linter.all false
section
open Go.ChangeShapes Go.WideShapes Go.ChangeAt Go.RowKit
theorem yR{H:Type}(ds:List (DataW H))(hl:ds.length=Tryz.f6.params.size):Rows.fieldMissingSpec.fn H ds={results:= [.lit (.bool true)],args:=ds}:=by
 match ds,hl with
 | [_,_,_],_=>rfl
theorem yO:dD Tryz.prog 6:=⟨Tryz.f6,Tryz.func6,rfl,by kernel_rfl⟩
theorem iV:Tryz.f6.params.toList= [45,46,61]:=by kernel_rfl
theorem BA:([45,46,61]:List Nat).all (fun t=>decide (t<Tryz.prog.types.size)&&uM Tryz.prog 6 t&&Tryz.prog.readableRec t)=true:=by kernel_rfl
theorem uG(hc: ∀Ds,n_ Tryz.prog 6 [45,46,61] Ds→xR Tryz.prog 6 Ds (bv true))(os:Os)(started:os.Started)(H:Type)(enc:TypeId×Value→H):
  ReturnsInHanded {} Tryz.checked os 6 .any (fun w args=>(Rows.fieldMissingSpec.pre enc Tryz.prog Tryz.f6 [] false w args∧laidMetH Tryz.prog Rows.fieldMissingRow.laid w)∧sizedMet enc Tryz.prog Tryz.f6 (OpenSpec.ofChange Rows.fieldMissingSpec) false w args)
   (Rows.fieldMissingSpec.post enc Tryz.prog Tryz.f6 false true false false):=by
 refine returnsInHanded_of_change_and (C:=Tryz.checked) (X:=fun w _=>laidMetH Tryz.prog Rows.fieldMissingRow.laid w) (fun _ _ _ hh h=>h.of_heap hh) aet started (by kernel_rfl) Tryz.func6
  (ChangeSpec.witness_at (enc:=enc) (C:=Tryz.checked) (os:=os) (X:=fun w _=>laidMetH Tryz.prog Rows.fieldMissingRow.laid w) false (xl os) #[.agg #[.int .u8 0, .int .u8 0, .int .u8 0, .int .u8 0], .slice none 0 0, .int .u16 0] 8 rfl (by kernel_rfl) (by kernel_rfl) (by kernel_rfl) (by kernel_rfl) (by kernel_rfl) (v8 os _)) ?_
 intro W base args ds gs before Tm hW _ _ hL _
 exact yK (P:=Tryz.prog) (fn:=Tryz.f6) (s:=Rows.fieldMissingSpec) (n:=6) (tb:=4) laidOut rfl yR (by kernel_rfl) (by kernel_rfl) (fun t h=>by
  rw[iV]at h;have h2:=Tz.1 BA t h;simp only[Az,decide_eq_true_eq]at h2
  exact⟨h2.1.1,h2.1.2,h2.2⟩) (fun Ds h=>hc Ds (by rw[iV]at h;exact h)) W base args ds gs before Tm (Is hL) yO hW
end
section
open Go.ChangeShapes Go.WideShapes Go.ChangeAt Go.RowKit
theorem yQ(hc: ∀Ds,n_ Tryz.prog 6 [45,46,61] Ds→xR Tryz.prog 6 Ds (bv true)):Rows.FieldMissingSaid:=
 OpenClaim.holds_of_wide 6 Tryz.f6 rfl rfl rfl rfl rfl rfl rfl ⟨rfl,rfl,rfl,rfl,rfl⟩ rfl rfl rfl rfl rfl (by kernel_rfl) Tryz.func6 v_
  (of_decide_eq_true (by kernel_rfl)) (by unfold Func.isWrapper;first|(rw[if_pos (by decide+kernel)];kernel_rfl)|(rw[if_neg (by decide+kernel)];exact⟨rfl,rfl⟩))
  (fun os started H enc _=>uG hc os started H enc)
end
end Go.Proofs.YtkcfpgaepmllhaaGreatDoor
