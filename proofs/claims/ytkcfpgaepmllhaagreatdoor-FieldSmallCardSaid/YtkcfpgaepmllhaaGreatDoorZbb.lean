/- Facts of the row, by computation. No condition. -/
import Derived.Test.YtkcfpgaepmllhaaGreatDoorZay
set_option linter.unusedVariables false
set_option linter.unusedSimpArgs false
set_option linter.constructorNameAsVariable false
namespace Go.Proofs.YtkcfpgaepmllhaaGreatDoor
open Go.ChangeShapes Go.WideShapes Go.ChangeAt Go.RowKit
set_option maxRecDepth 100000
theorem small_card (h : Rows.FieldSmallSaid) : Rows.FieldSmallCardSaid:=
  Claim7.holds_tied_plain_at .later [] [.data, .data, .data, .data, .data] true (true, "060423aed630cc99e62185091ca7d4608069895c63391b9335caa56a34ade969") false
    h (fun _ h=>by cases h) (by kernel_rfl) (fun _ h=>by cases h) fieldSmall_row_tie rfl ⟨rfl,rfl⟩ (by kernel_rfl) rfl
    (fun f fn hf hfn=>by
      obtain rfl : f = 4:=Option.some.inj ((show Tryz.prog.funcNamed Tryz.f4.name = some 4 by kernel_rfl).symm.trans hf) |>.symm
      obtain rfl : fn = Tryz.f4:=(Option.some.inj (Tryz.func4.symm.trans hfn)).symm
      exact ⟨by kernel_rfl,fun j t ht=>by simp [Tryz.f4] at ht⟩)
    (by kernel_rfl)
end Go.Proofs.YtkcfpgaepmllhaaGreatDoor
