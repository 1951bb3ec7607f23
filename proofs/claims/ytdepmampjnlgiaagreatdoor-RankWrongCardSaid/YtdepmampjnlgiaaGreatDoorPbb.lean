/- RankWrong is true for the given program, as its card says: sessions, lists and scores that are not right are rejected. No condition. -/
import Derived.Test.YtdepmampjnlgiaaGreatDoorPar
import Derived.Test.YtdepmampjnlgiaaGreatDoorPax
import Derived.Test.YtdepmampjnlgiaaGreatDoorPay
import Derived.Test.YtdepmampjnlgiaaGreatDoorPaz
import Derived.Test.YtdepmampjnlgiaaGreatDoorPba
import Derived.Test.YtdepmampjnlgiaaGreatDoorPaw
namespace Go.Proofs.YtdepmampjnlgiaaGreatDoor
open Go.RowKit
set_option maxRecDepth 100000
set_option linter.all false
section
open Go.ChangeShapes Go.WideShapes Go.ChangeAt Go.RowKit
theorem vo(t:Nat)(h:t∈ [57,3,5]):Tryz.prog.wantsStandIn t=false:=by
 have h2:=Tz.1 uH t h;cases hb:Tryz.prog.wantsStandIn t with
 |false=>rfl
 |true=>rw[hb]at h2;cases h2
theorem CA(h:Rows.RankWrongSaid):Rows.RankWrongCardSaid:=
 Claim7.holds_tied_plain_at .later [] [.data, .data, .data, .data, .data] true (true, "4871a85e52ea96260400f0ebe3c44082bcf8bea35d3bfc4375ebd900b048ea82") false
  h (fun _ h=>by cases h) wd1 (fun _ h=>by cases h) rankWrong_row_tie rfl ⟨rfl,rfl⟩ wd2 rfl
  (fun f fn hf hfn=>by
   obtain rfl:f=6:=Option.some.inj (wd3.symm.trans hf)|>.symm;obtain rfl:fn=Tryz.f6:=(Option.some.inj (Tryz.func6.symm.trans hfn)).symm;refine⟨wd4,fun j t ht=> ?_⟩
   have hm:t∈Tryz.f6.params.toList:=by
    obtain⟨hj,e⟩:=Array.getElem?_eq_some_iff.1 ht;rw[←e];exact Array.mem_toList_iff.2 (Array.getElem_mem hj)
   rw[lx]at hm
   exact vo t hm)
  wd5
end
section
open Go.RowKit Go.Sort
theorem rankWrong_holds:Rows.RankWrongCardSaid:=CA (CB fun _ h=>Ty.FC Ty.L5 Ty.mvs Ty.Uv Ty.Uw Ty.Ux Ty.GZ h)
end
end Go.Proofs.YtdepmampjnlgiaaGreatDoor
