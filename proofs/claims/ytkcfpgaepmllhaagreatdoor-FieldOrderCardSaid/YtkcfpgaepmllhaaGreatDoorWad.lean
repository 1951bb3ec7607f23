/- Facts of the row, by computation. No condition. -/
import Derived.Test.YtkcfpgaepmllhaaGreatDoorWac
namespace Go.Proofs.YtkcfpgaepmllhaaGreatDoor
open Go.ChangeShapes Go.WideShapes Go.ChangeAt Go.RowKit
set_option maxRecDepth 100000
theorem aha : ([45,46,5,27] : List Nat).all (fun t=>!Tryz.prog.wantsStandIn t) = true:=by kernel_rfl
theorem ahb (t : Nat) (h : t ∈ [45,46,5,27]) : Tryz.prog.wantsStandIn t = false:=by
  have h2:=List.all_eq_true.1 aha t h
  cases hb : Tryz.prog.wantsStandIn t with
  | false=>rfl
  | true=>rw [hb] at h2; cases h2
theorem ahf (h : Rows.FieldOrderSaid) : Rows.FieldOrderCardSaid:=
  Claim7.holds_tied_plain_at .later [] [.data, .data, .data, .data, .data] true (true, "060423aed630cc99e62185091ca7d4608069895c63391b9335caa56a34ade969") false
    h (fun _ h=>by cases h) (by kernel_rfl) (fun _ h=>by cases h) fieldOrder_row_tie rfl ⟨rfl,rfl⟩ (by kernel_rfl) rfl
    (fun f fn hf hfn=>by
      obtain rfl : f = 5:=Option.some.inj ((show Tryz.prog.funcNamed Tryz.f5.name = some 5 by kernel_rfl).symm.trans hf) |>.symm
      obtain rfl : fn = Tryz.f5:=(Option.some.inj (Tryz.func5.symm.trans hfn)).symm
      refine ⟨by kernel_rfl,fun j t ht=>?_⟩
      have hm : t ∈ Tryz.f5.params.toList:=by
        obtain ⟨hj,e⟩:=Array.getElem?_eq_some_iff.1 ht
        rw [← e]; exact Array.mem_toList_iff.2 (Array.getElem_mem hj)
      rw [ag'] at hm
      exact ahb t hm)
    (by kernel_rfl)
end Go.Proofs.YtkcfpgaepmllhaaGreatDoor
