/- FieldTurned is true for the given program, as its card says: with an entry turned its two pairs exchange their scores, and no other one changes. No condition. -/
import Derived.Test.YtkcfpgaepmllhaaGreatDoorEag
import Derived.Test.YtkcfpgaepmllhaaGreatDoorCaq
import Derived.Test.YtkcfpgaepmllhaaGreatDoorYaa
namespace Go.Proofs.YtkcfpgaepmllhaaGreatDoor
open Go.RowKit
set_option maxRecDepth 100000
set_option linter.all false
section
open Go.ChangeShapes Go.WideShapes Go.ChangeAt Go.RowKit
theorem Bv{H:Type}(ds:List (DataW H))(hl:ds.length=Tryz.f7.params.size):Rows.fieldTurnedSpec.fn H ds={results:= [.lit (.bool true)],args:=ds}:=by
 match ds,hl with
 | [_,_,_],_=>rfl
theorem Bs:dw Tryz.prog 7:=⟨Tryz.f7,Tryz.func7,rfl,by kernel_rfl⟩
theorem jQ:Tryz.f7.params.toList= [45,46,5]:=by kernel_rfl
theorem Dk:([45,46,5]:List Nat).all (fun t=>decide (t<Tryz.prog.types.size)&&uf Tryz.prog 6 t&&Tryz.prog.readableRec t)=true:=by kernel_rfl
theorem vH(hc: ∀Ds,nN Tryz.prog 6 [45,46,5] Ds→xk Tryz.prog 7 Ds (bv true))(os:Os)(started:os.Started)(H:Type)(enc:TypeId×Value→H):
  ReturnsInHanded {} Tryz.checked os 7 .any (fun w args=>(Rows.fieldTurnedSpec.pre enc Tryz.prog Tryz.f7 [] false w args∧laidMetH Tryz.prog Rows.fieldTurnedRow.laid w)∧sizedMet enc Tryz.prog Tryz.f7 (OpenSpec.ofChange Rows.fieldTurnedSpec) false w args)
   (Rows.fieldTurnedSpec.post enc Tryz.prog Tryz.f7 false true false false):=by
 refine returnsInHanded_of_change_and (C:=Tryz.checked) (X:=fun w _=>laidMetH Tryz.prog Rows.fieldTurnedRow.laid w) (fun _ _ _ hh h=>h.of_heap hh) ad7 started (by kernel_rfl) Tryz.func7
  (ChangeSpec.witness_at (enc:=enc) (C:=Tryz.checked) (os:=os) (X:=fun w _=>laidMetH Tryz.prog Rows.fieldTurnedRow.laid w) false (wB os) #[.agg #[.int .u8 0, .int .u8 0, .int .u8 0, .int .u8 0], .slice none 0 0, .int .u8 0] 8 rfl (by kernel_rfl) (by kernel_rfl) (by kernel_rfl) (by kernel_rfl) (by kernel_rfl) (vo os _)) ?_
 intro W base args ds gs before SP hW _ _ hL _
 exact yg (P:=Tryz.prog) (fn:=Tryz.f7) (s:=Rows.fieldTurnedSpec) (n:=6) (tb:=4) laidOut rfl Bv (by kernel_rfl) (by kernel_rfl) (fun t h=>by
  rw[jQ]at h;have h2:=Tz.1 Dk t h;simp only[Az,decide_eq_true_eq]at h2
  exact⟨h2.1.1,h2.1.2,h2.2⟩) (fun Ds h=>hc Ds (by rw[jQ]at h;exact h)) W base args ds gs before SP (HK hL) Bs hW
end
section
open Go.ChangeShapes Go.WideShapes Go.ChangeAt Go.RowKit
theorem yX:joinedFacts Tryz.prog 7 Tryz.f7 Rows.fieldTurnedSpec Rows.fieldTurnedRow=true:=by kernel_rfl
end
section
open Go.ChangeShapes Go.WideShapes Go.ChangeAt Go.RowKit
theorem Bu(hc: ∀Ds,nN Tryz.prog 6 [45,46,5] Ds→xk Tryz.prog 7 Ds (bv true)):Rows.FieldTurnedSaid:=
 OpenClaim.holds_of_wide 7 Tryz.f7 rfl rfl rfl rfl rfl rfl rfl ⟨rfl,rfl,rfl,rfl,rfl⟩ rfl rfl rfl rfl rfl (by kernel_rfl) Tryz.func7 yX
  (of_decide_eq_true (by kernel_rfl)) (by unfold Func.isWrapper;first|(rw[if_pos (by decide+kernel)];kernel_rfl)|(rw[if_neg (by decide+kernel)];exact⟨rfl,rfl⟩))
  (fun os started H enc _=>vH hc os started H enc)
end
section
open Go.ChangeShapes Go.WideShapes Go.ChangeAt Go.RowKit
theorem rW:([45,46,5]:List Nat).all (fun t=> !Tryz.prog.wantsStandIn t)=true:=by kernel_rfl
theorem uU(t:Nat)(h:t∈ [45,46,5]):Tryz.prog.wantsStandIn t=false:=by
 have h2:=Tz.1 rW t h;cases hb:Tryz.prog.wantsStandIn t with
 |false=>rfl
 |true=>rw[hb]at h2;cases h2
theorem Bt(h:Rows.FieldTurnedSaid):Rows.FieldTurnedCardSaid:=
 Claim7.holds_tied_plain_at .later [] [.data, .data, .data, .data, .data] true (true, "060423aed630cc99e62185091ca7d4608069895c63391b9335caa56a34ade969") false
  h (fun _ h=>by cases h) (by kernel_rfl) (fun _ h=>by cases h) fieldTurned_row_tie rfl ⟨rfl,rfl⟩ (by kernel_rfl) rfl
  (fun f fn hf hfn=>by
   obtain rfl:f=7:=Option.some.inj ((show Tryz.prog.funcNamed Tryz.f7.name=some 7 by kernel_rfl).symm.trans hf)|>.symm;obtain rfl:fn=Tryz.f7:=(Option.some.inj (Tryz.func7.symm.trans hfn)).symm;refine⟨by kernel_rfl,fun j t ht=> ?_⟩
   have hm:t∈Tryz.f7.params.toList:=by
    obtain⟨hj,e⟩:=Array.getElem?_eq_some_iff.1 ht;rw[←e];exact Array.mem_toList_iff.2 (Array.getElem_mem hj)
   rw[jQ]at hm
   exact uU t hm)
  (by kernel_rfl)
end
section
open Go.RowKit Go.Sort
theorem fieldTurned_holds:Rows.FieldTurnedCardSaid:=Bt (Bu fun _ h=>Ty.Dl Ty.Nx Ty.W4 Ty.mvs Ty.W3 Ty.HX h)
end
end Go.Proofs.YtkcfpgaepmllhaaGreatDoor
