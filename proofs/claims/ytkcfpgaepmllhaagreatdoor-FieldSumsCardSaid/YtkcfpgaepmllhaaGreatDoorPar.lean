/- FieldSums is true for the given program, as its card says: on each board of a session the scores of each side add up to what the board demands; no pair has two scores of one board. No condition. -/
import Derived.Test.YtkcfpgaepmllhaaGreatDoorEag
import Derived.Test.YtkcfpgaepmllhaaGreatDoorPaq
namespace Go.Proofs.YtkcfpgaepmllhaaGreatDoor
open Go.RowKit
set_option maxRecDepth 100000
set_option linter.all false
section
open Go.ChangeShapes Go.WideShapes Go.ChangeAt Go.RowKit
theorem aiv{H:Type}(ds:List (DataW H))(hl:ds.length=Tryz.f8.params.size):Rows.fieldSumsSpec.fn H ds={results:= [.lit (.bool true)],args:=ds}:=by
 match ds,hl with
 | [_,_],_=>rfl
theorem ais:dw Tryz.prog 8:=⟨Tryz.f8,Tryz.func8,rfl,by kernel_rfl⟩
theorem ahH:Tryz.f8.params.toList= [45,46]:=by kernel_rfl
theorem aiL:([45,46]:List Nat).all (fun t=>decide (t<Tryz.prog.types.size)&&uf Tryz.prog 6 t&&Tryz.prog.readableRec t)=true:=by kernel_rfl
theorem aib(hc: ∀Ds,nN Tryz.prog 6 [45,46] Ds→xk Tryz.prog 8 Ds (bv true))(os:Os)(started:os.Started)(H:Type)(enc:TypeId×Value→H):
  ReturnsInHanded {} Tryz.checked os 8 .any (fun w args=>(Rows.fieldSumsSpec.pre enc Tryz.prog Tryz.f8 [] false w args∧laidMetH Tryz.prog Rows.fieldSumsRow.laid w)∧sizedMet enc Tryz.prog Tryz.f8 (OpenSpec.ofChange Rows.fieldSumsSpec) false w args)
   (Rows.fieldSumsSpec.post enc Tryz.prog Tryz.f8 false true false false):=by
 refine returnsInHanded_of_change_and (C:=Tryz.checked) (X:=fun w _=>laidMetH Tryz.prog Rows.fieldSumsRow.laid w) (fun _ _ _ hh h=>h.of_heap hh) ad7 started (by kernel_rfl) Tryz.func8
  (ChangeSpec.witness_at (enc:=enc) (C:=Tryz.checked) (os:=os) (X:=fun w _=>laidMetH Tryz.prog Rows.fieldSumsRow.laid w) false (wB os) #[.agg #[.int .u8 0, .int .u8 0, .int .u8 0, .int .u8 0], .slice none 0 0] 8 rfl (by kernel_rfl) (by kernel_rfl) (by kernel_rfl) (by kernel_rfl) (by kernel_rfl) (vo os _)) ?_
 intro W base args ds gs before SP hW _ _ hL _
 exact yg (P:=Tryz.prog) (fn:=Tryz.f8) (s:=Rows.fieldSumsSpec) (n:=6) (tb:=4) laidOut rfl aiv (by kernel_rfl) (by kernel_rfl) (fun t h=>by
  rw[ahH]at h;have h2:=Tz.1 aiL t h;simp only[Az,decide_eq_true_eq]at h2
  exact⟨h2.1.1,h2.1.2,h2.2⟩) (fun Ds h=>hc Ds (by rw[ahH]at h;exact h)) W base args ds gs before SP (HK hL) ais hW
end
section
open Go.ChangeShapes Go.WideShapes Go.ChangeAt Go.RowKit
theorem aij:joinedFacts Tryz.prog 8 Tryz.f8 Rows.fieldSumsSpec Rows.fieldSumsRow=true:=by kernel_rfl
end
section
open Go.ChangeShapes Go.WideShapes Go.ChangeAt Go.RowKit
theorem aiu(hc: ∀Ds,nN Tryz.prog 6 [45,46] Ds→xk Tryz.prog 8 Ds (bv true)):Rows.FieldSumsSaid:=
 OpenClaim.holds_of_wide 8 Tryz.f8 rfl rfl rfl rfl rfl rfl rfl ⟨rfl,rfl,rfl,rfl,rfl⟩ rfl rfl rfl rfl rfl (by kernel_rfl) Tryz.func8 aij
  (of_decide_eq_true (by kernel_rfl)) (by unfold Func.isWrapper;first|(rw[if_pos (by decide+kernel)];kernel_rfl)|(rw[if_neg (by decide+kernel)];exact⟨rfl,rfl⟩))
  (fun os started H enc _=>aib hc os started H enc)
end
section
open Go.ChangeShapes Go.WideShapes Go.ChangeAt Go.RowKit
theorem ah1:([45,46]:List Nat).all (fun t=> !Tryz.prog.wantsStandIn t)=true:=by kernel_rfl
theorem ah8(t:Nat)(h:t∈ [45,46]):Tryz.prog.wantsStandIn t=false:=by
 have h2:=Tz.1 ah1 t h;cases hb:Tryz.prog.wantsStandIn t with
 |false=>rfl
 |true=>rw[hb]at h2;cases h2
theorem ait(h:Rows.FieldSumsSaid):Rows.FieldSumsCardSaid:=
 Claim7.holds_tied_plain_at .later [] [.data, .data, .data, .data, .data] true (true, "060423aed630cc99e62185091ca7d4608069895c63391b9335caa56a34ade969") false
  h (fun _ h=>by cases h) (by kernel_rfl) (fun _ h=>by cases h) fieldSums_row_tie rfl ⟨rfl,rfl⟩ (by kernel_rfl) rfl
  (fun f fn hf hfn=>by
   obtain rfl:f=8:=Option.some.inj ((show Tryz.prog.funcNamed Tryz.f8.name=some 8 by kernel_rfl).symm.trans hf)|>.symm;obtain rfl:fn=Tryz.f8:=(Option.some.inj (Tryz.func8.symm.trans hfn)).symm;refine⟨by kernel_rfl,fun j t ht=> ?_⟩
   have hm:t∈Tryz.f8.params.toList:=by
    obtain⟨hj,e⟩:=Array.getElem?_eq_some_iff.1 ht;rw[←e];exact Array.mem_toList_iff.2 (Array.getElem_mem hj)
   rw[ahH]at hm
   exact ah8 t hm)
  (by kernel_rfl)
end
section
open Go.RowKit Go.Sort
theorem fieldSums_holds:Rows.FieldSumsCardSaid:=ait (aiu fun _ h=>Ty.aiM Ty.Nx Ty.W4 Ty.mvs Ty.W3 Ty.HX h)
end
end Go.Proofs.YtkcfpgaepmllhaaGreatDoor
