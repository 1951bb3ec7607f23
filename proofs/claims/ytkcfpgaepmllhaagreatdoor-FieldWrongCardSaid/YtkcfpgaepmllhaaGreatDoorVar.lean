/- Facts of the row, by computation. No condition. -/
import Derived.Test.YtkcfpgaepmllhaaGreatDoorVao
namespace Go.Proofs.YtkcfpgaepmllhaaGreatDoor
open Go.ChangeShapes Go.WideShapes Go.ChangeAt Go.RowKit
set_option maxRecDepth 100000
theorem wrong_noStands : ([45,46,3] : List Nat).all (fun t=>!Tryz.prog.wantsStandIn t) = true:=by kernel_rfl
theorem wrong_noStand (t : Nat) (h : t ∈ [45,46,3]) : Tryz.prog.wantsStandIn t = false:=by
  have h2:=List.all_eq_true.1 wrong_noStands t h
  cases hb : Tryz.prog.wantsStandIn t with
  | false=>rfl
  | true=>rw [hb] at h2; cases h2
theorem wrong_card (h : Rows.FieldWrongSaid) : Rows.FieldWrongCardSaid:=
  Claim7.holds_tied_plain_at .later [] [.data, .data, .data, .data, .data] true (true, "060423aed630cc99e62185091ca7d4608069895c63391b9335caa56a34ade969") false
    h (fun _ h=>by cases h) (by kernel_rfl) (fun _ h=>by cases h) fieldWrong_row_tie rfl ⟨rfl,rfl⟩ (by kernel_rfl) rfl
    (fun f fn hf hfn=>by
      obtain rfl : f = 9:=Option.some.inj ((show Tryz.prog.funcNamed Tryz.f9.name = some 9 by kernel_rfl).symm.trans hf) |>.symm
      obtain rfl : fn = Tryz.f9:=(Option.some.inj (Tryz.func9.symm.trans hfn)).symm
      refine ⟨by kernel_rfl,fun j t ht=>?_⟩
      have hm : t ∈ Tryz.f9.params.toList:=by
        obtain ⟨hj,e⟩:=Array.getElem?_eq_some_iff.1 ht
        rw [← e]; exact Array.mem_toList_iff.2 (Array.getElem_mem hj)
      rw [wrong_params] at hm
      exact wrong_noStand t hm)
    (by kernel_rfl)
end Go.Proofs.YtkcfpgaepmllhaaGreatDoor
