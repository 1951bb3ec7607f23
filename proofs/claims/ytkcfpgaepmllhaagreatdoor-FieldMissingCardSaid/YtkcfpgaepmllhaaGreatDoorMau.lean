/- Facts of the row, by computation. No condition. -/
import Derived.Test.YtkcfpgaepmllhaaGreatDoorMat
namespace Go.Proofs.YtkcfpgaepmllhaaGreatDoor
open Go.ChangeShapes Go.WideShapes Go.ChangeAt Go.RowKit
set_option maxRecDepth 100000
theorem qM : ([45,46,61] : List Nat).all (fun t=>!Tryz.prog.wantsStandIn t) = true:=by kernel_rfl
theorem sF (t : Nat) (h : t ∈ [45,46,61]) : Tryz.prog.wantsStandIn t = false:=by
  have h2:=List.all_eq_true.1 qM t h
  cases hb : Tryz.prog.wantsStandIn t with
  | false=>rfl
  | true=>rw [hb] at h2; cases h2
theorem yP (h : Rows.FieldMissingSaid) : Rows.FieldMissingCardSaid:=
  Claim7.holds_tied_plain_at .later [] [.data, .data, .data, .data, .data] true (true, "060423aed630cc99e62185091ca7d4608069895c63391b9335caa56a34ade969") false
    h (fun _ h=>by cases h) (by kernel_rfl) (fun _ h=>by cases h) fieldMissing_row_tie rfl ⟨rfl,rfl⟩ (by kernel_rfl) rfl
    (fun f fn hf hfn=>by
      obtain rfl : f = 6:=Option.some.inj ((show Tryz.prog.funcNamed Tryz.f6.name = some 6 by kernel_rfl).symm.trans hf) |>.symm
      obtain rfl : fn = Tryz.f6:=(Option.some.inj (Tryz.func6.symm.trans hfn)).symm
      refine ⟨by kernel_rfl,fun j t ht=>?_⟩
      have hm : t ∈ Tryz.f6.params.toList:=by
        obtain ⟨hj,e⟩:=Array.getElem?_eq_some_iff.1 ht
        rw [← e]; exact Array.mem_toList_iff.2 (Array.getElem_mem hj)
      rw [iV] at hm
      exact sF t hm)
    (by kernel_rfl)
end Go.Proofs.YtkcfpgaepmllhaaGreatDoor
