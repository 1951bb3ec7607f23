/- Part of the proof: symbolic execution of the program, its soundness, and the closing lemmas. No condition. -/
import Derived.Test.YtkcfpgaepmllhaaGreatDoorEag
import Derived.Test.YtkcfpgaepmllhaaGreatDoorWab
namespace Go.Proofs.YtkcfpgaepmllhaaGreatDoor
open Go.RowKit
set_option maxRecDepth 100000
set_option linter.all false
section
open Go.ChangeShapes Go.WideShapes Go.ChangeAt Go.RowKit
theorem ahh{H:Type}(ds:List (DataW H))(hl:ds.length=Tryz.f5.params.size):Rows.fieldOrderSpec.fn H ds={results:= [.lit (.bool true)],args:=ds}:=by
 match ds,hl with
 | [_,_,_,_],_=>rfl
theorem ahe:dw Tryz.prog 5:=⟨Tryz.f5,Tryz.func5,rfl,by kernel_rfl⟩
theorem ag':Tryz.f5.params.toList= [45,46,5,27]:=by kernel_rfl
theorem ahj:([45,46,5,27]:List Nat).all (fun t=>decide (t<Tryz.prog.types.size)&&uf Tryz.prog 6 t&&Tryz.prog.readableRec t)=true:=by kernel_rfl
theorem ahc(hc: ∀Ds,nN Tryz.prog 6 [45,46,5,27] Ds→xk Tryz.prog 5 Ds (bv true))(os:Os)(started:os.Started)(H:Type)(enc:TypeId×Value→H):
  ReturnsInHanded {} Tryz.checked os 5 .any (fun w args=>(Rows.fieldOrderSpec.pre enc Tryz.prog Tryz.f5 [] false w args∧laidMetH Tryz.prog Rows.fieldOrderRow.laid w)∧sizedMet enc Tryz.prog Tryz.f5 (OpenSpec.ofChange Rows.fieldOrderSpec) false w args)
   (Rows.fieldOrderSpec.post enc Tryz.prog Tryz.f5 false true false false):=by
 refine returnsInHanded_of_change_and (C:=Tryz.checked) (X:=fun w _=>laidMetH Tryz.prog Rows.fieldOrderRow.laid w) (fun _ _ _ hh h=>h.of_heap hh) ad7 started (by kernel_rfl) Tryz.func5
  (ChangeSpec.witness_at (enc:=enc) (C:=Tryz.checked) (os:=os) (X:=fun w _=>laidMetH Tryz.prog Rows.fieldOrderRow.laid w) false (wB os) #[.agg #[.int .u8 0, .int .u8 0, .int .u8 0, .int .u8 0], .slice none 0 0, .int .u8 0, .slice none 0 0] 8 rfl (by kernel_rfl) (by kernel_rfl) (by kernel_rfl) (by kernel_rfl) (by kernel_rfl) (vo os _)) ?_
 intro W base args ds gs before SP hW _ _ hL _
 exact yg (P:=Tryz.prog) (fn:=Tryz.f5) (s:=Rows.fieldOrderSpec) (n:=6) (tb:=4) laidOut rfl ahh (by kernel_rfl) (by kernel_rfl) (fun t h=>by
  rw[ag']at h;have h2:=Tz.1 ahj t h;simp only[Az,decide_eq_true_eq]at h2
  exact⟨h2.1.1,h2.1.2,h2.2⟩) (fun Ds h=>hc Ds (by rw[ag']at h;exact h)) W base args ds gs before SP (HK hL) ahe hW
end
section
open Go.ChangeShapes Go.WideShapes Go.ChangeAt Go.RowKit
theorem ahg(hc: ∀Ds,nN Tryz.prog 6 [45,46,5,27] Ds→xk Tryz.prog 5 Ds (bv true)):Rows.FieldOrderSaid:=
 OpenClaim.holds_of_wide 5 Tryz.f5 rfl rfl rfl rfl rfl rfl rfl ⟨rfl,rfl,rfl,rfl,rfl⟩ rfl rfl rfl rfl rfl (by kernel_rfl) Tryz.func5 ahd
  (of_decide_eq_true (by kernel_rfl)) (by unfold Func.isWrapper;first|(rw[if_pos (by decide+kernel)];kernel_rfl)|(rw[if_neg (by decide+kernel)];exact⟨rfl,rfl⟩))
  (fun os started H enc _=>ahc hc os started H enc)
end
end Go.Proofs.YtkcfpgaepmllhaaGreatDoor
