/- FieldWrong is true for the given program, as its card says: sessions, lists and boards that are not right are rejected. No condition. -/
import Derived.Test.YtkcfpgaepmllhaaGreatDoorVan
import Derived.Test.YtkcfpgaepmllhaaGreatDoorVat
import Derived.Test.YtkcfpgaepmllhaaGreatDoorVau
import Derived.Test.YtkcfpgaepmllhaaGreatDoorVav
import Derived.Test.YtkcfpgaepmllhaaGreatDoorVaw
import Derived.Test.YtkcfpgaepmllhaaGreatDoorVax
import Derived.Test.YtkcfpgaepmllhaaGreatDoorVao
import Derived.Test.YtkcfpgaepmllhaaGreatDoorVaq
import Derived.Test.YtkcfpgaepmllhaaGreatDoorVar
namespace Go.Proofs.YtkcfpgaepmllhaaGreatDoor
open Go.RowKit
set_option maxRecDepth 100000
section
theorem cs {s : Sel} (hs : DoneS cx.P s) {f lo n : Nat} {l : List Known} (h : chunk (evK tr.get (knK (pickK s) handH) 10000 60) f lo n l = true) : Done cx.P f ((l.drop lo).take n):=chunk_sound rfl hand_sound mixedP tr_ok hs h
theorem z : DoneS cx.P []:=.nil
theorem o {f : Nat} {l : List Known} {gs : List Nat} {r : Sel} (h : Done cx.P f l) (k : DoneS cx.P r) : DoneS cx.P ((f,l,gs) :: r):=.cons h k
theorem d166 : Done cx.P 166 Memo.k166:=(cs (s:=s0) z c0).fin (by kernel_rfl)
theorem d1000043000210 : Done cx.P 1000043000210 Memo.k1000043000210:=chunkA_sound (e:=42) (f:=210) rfl hand_sound mixedP tr_ok okA210 (by decide) z c1
theorem d168 : Done cx.P 168 Memo.k168:=(cs (s:=s2) (o d1000043000210 z) c2).fin (by kernel_rfl)
theorem d167 : Done cx.P 167 Memo.k167:=(cs (s:=s3) (o d1000043000210 z) c3).fin (by kernel_rfl)
theorem d171 : Done cx.P 171 Memo.k171:=(cs (s:=s4) z c4).fin (by kernel_rfl)
theorem d218 : Done cx.P 218 Memo.k218:=(cs (s:=s5) z c5).fin (by kernel_rfl)
theorem d123 : Done cx.P 123 Memo.k123:=(cs (s:=s6) (o d171 (o d218 z)) c6).fin (by kernel_rfl)
theorem d91 : Done cx.P 91 Memo.k91:=(cs (s:=s7) z c7).fin (by kernel_rfl)
theorem d226 : Done cx.P 226 Memo.k226:=(cs (s:=s8) z c8).fin (by kernel_rfl)
theorem d90 : Done cx.P 90 Memo.k90:=(cs (s:=s9) (o d91 (o d226 z)) c9).join ((cs (s:=s10) (o d91 (o d226 z)) c10).join ((cs (s:=s11) (o d91 (o d226 z)) c11).join ((cs (s:=s12) (o d91 (o d226 z)) c12).join ((cs (s:=s13) (o d91 (o d226 z)) c13).join ((cs (s:=s14) (o d91 (o d226 z)) c14).join ((cs (s:=s15) (o d91 (o d226 z)) c15).join ((cs (s:=s16) (o d91 (o d226 z)) c16).join ((cs (s:=s17) (o d91 (o d226 z)) c17).join ((cs (s:=s18) (o d91 (o d226 z)) c18).join ((cs (s:=s19) (o d91 (o d226 z)) c19).join ((cs (s:=s20) (o d91 (o d226 z)) c20).join ((cs (s:=s21) (o d91 (o d226 z)) c21).join ((cs (s:=s22) (o d91 (o d226 z)) c22).join ((cs (s:=s23) (o d91 (o d226 z)) c23).join ((cs (s:=s24) (o d91 (o d226 z)) c24).join ((cs (s:=s25) (o d91 (o d226 z)) c25).join ((cs (s:=s26) (o d91 (o d226 z)) c26).join ((cs (s:=s27) (o d91 (o d226 z)) c27).join ((cs (s:=s28) (o d91 (o d226 z)) c28).join ((cs (s:=s29) (o d91 (o d226 z)) c29).join ((cs (s:=s30) (o d91 (o d226 z)) c30).join ((cs (s:=s31) (o d91 (o d226 z)) c31).join ((cs (s:=s32) (o d91 (o d226 z)) c32).fin (by kernel_rfl))))))))))))))))))))))))
theorem d54 : Done cx.P 54 Memo.k54:=(cs (s:=s33) (o d91 (o d90 z)) c33).join ((cs (s:=s34) (o d91 (o d90 z)) c34).fin (by kernel_rfl))
theorem d20 : Done cx.P 20 Memo.k20:=(cs (s:=s35) z c35).fin (by kernel_rfl)
theorem d286 : Done cx.P 286 Memo.k286:=(cs (s:=s36) z c36).fin (by kernel_rfl)
theorem d149 : Done cx.P 149 Memo.k149:=(cs (s:=s37) (o d286 z) c37).fin (by kernel_rfl)
theorem d88 : Done cx.P 88 Memo.k88:=(cs (s:=s38) (o d286 (o d149 z)) c38).fin (by kernel_rfl)
theorem d225 : Done cx.P 225 Memo.k225:=(cs (s:=s39) z c39).fin (by kernel_rfl)
theorem d179 : Done cx.P 179 Memo.k179:=(cs (s:=s40) (o d225 z) c40).fin (by kernel_rfl)
theorem d222 : Done cx.P 222 Memo.k222:=(cs (s:=s41) (o d286 z) c41).fin (by kernel_rfl)
theorem d11 : Done cx.P 11 Memo.k11:=(cs (s:=s42) (o d54 (o d20 (o d286 (o d149 (o d88 (o d225 (o d179 (o d222 z)))))))) c42).fin (by kernel_rfl)
noncomputable def KM : KT:=[(166,Memo.k166),(168,Memo.k168),(167,Memo.k167),(123,Memo.k123),(90,Memo.k90),(54,Memo.k54),(11,Memo.k11)]
theorem km_ok : KM.AOK cx.P:=(KT.AOK.cons d166 (KT.AOK.cons d168 (KT.AOK.cons d167 (KT.AOK.cons d123 (KT.AOK.cons d90 (KT.AOK.cons d54 (KT.AOK.cons d11 KT.AOK.nil)))))))
end
section
open Go.RowKit Go.Sort
namespace Ty
noncomputable abbrev HM:FP:=knK KM handS
theorem up_to{p:Int→Prop}{k:Nat}(h: ∀i:Nat,i<k→p ((i:Int)+1))(n:Int)(h1:1≤n)(h2:n≤k):p n:=by
 have:=h (n-1).toNat (by omega)
 rw[show(((n-1).toNat:Nat):Int)+1=n by omega]at this
 exact this
theorem km_pos:pos54 KM=true:=by kernel_rfl
theorem mk_to{f k:Nat}{pre post:List D}(h:((List.range k).all fun i=>goodM KM (f,pre++iv ((i:Int)+1)::post))=true)(n:Int)(h1:1≤n)(h2:n≤k):Mk HM f (pre++iv n::post):=
 up_to (p:=fun n=>Mk HM f (pre++iv n::post)) (k:=k) (fun i hi=>good_m km_pos (Tz.1 h i (List.mem_range.2 hi))) n h1 h2
theorem m22:((List.range 1).all fun i=>goodM KM (168,[iv 2]++iv ((i:Int)+1):: [uv 2]))=true:=by kernel_rfl
theorem m42:((List.range 3).all fun i=>goodM KM (168,[iv 4]++iv ((i:Int)+1):: [uv 2]))=true:=by kernel_rfl
theorem m23:((List.range 2).all fun i=>goodM KM (168,[iv 2]++iv ((i:Int)+1):: [uv 3]))=true:=by kernel_rfl
theorem m43:((List.range 4).all fun i=>goodM KM (168,[iv 4]++iv ((i:Int)+1):: [uv 3]))=true:=by kernel_rfl
theorem m31:((List.range 3).all fun i=>goodM KM (168,[iv 3]++iv ((i:Int)+1):: [uv 1]))=true:=by kernel_rfl
theorem m51:((List.range 5).all fun i=>goodM KM (168,[iv 5]++iv ((i:Int)+1):: [uv 1]))=true:=by kernel_rfl
theorem r5:((List.range 5).all fun i=>goodM KM (167,[iv 5]++iv ((i:Int)+1):: []))=true:=by kernel_rfl
theorem h2:((List.range 3).all fun i=>goodM KM (123,[iv 2]++iv ((i:Int)+1):: []))=true:=by kernel_rfl
theorem h3:((List.range 5).all fun i=>goodM KM (123,[iv 3]++iv ((i:Int)+1):: []))=true:=by kernel_rfl
theorem h4:((List.range 7).all fun i=>goodM KM (123,[iv 4]++iv ((i:Int)+1):: []))=true:=by kernel_rfl
theorem h5:((List.range 9).all fun i=>goodM KM (123,[iv 5]++iv ((i:Int)+1):: []))=true:=by kernel_rfl
theorem mvs:Mvs HM where
 q22:=r_call (GG_hand (show knK KM handS 166 [iv 2,uv 2]=some (.tup [iv 1,iv 0]) by kernel_rfl)) rfl rfl
 m22:=mk_to m22
 q42:=r_call (GG_hand (show knK KM handS 166 [iv 4,uv 2]=some (.tup [iv 3,iv 0]) by kernel_rfl)) rfl rfl
 m42:=mk_to m42
 q23:=r_call (GG_hand (show knK KM handS 166 [iv 2,uv 3]=some (.tup [iv 2,iv 0]) by kernel_rfl)) rfl rfl
 m23:=mk_to m23
 q43:=r_call (GG_hand (show knK KM handS 166 [iv 4,uv 3]=some (.tup [iv 4,iv 0]) by kernel_rfl)) rfl rfl
 m43:=mk_to m43
 q31:=r_call (GG_hand (show knK KM handS 166 [iv 3,uv 1]=some (.tup [iv 3,iv 0]) by kernel_rfl)) rfl rfl
 m31:=mk_to m31
 q51:=r_call (GG_hand (show knK KM handS 166 [iv 5,uv 1]=some (.tup [iv 5,iv 0]) by kernel_rfl)) rfl rfl
 m51:=mk_to m51
 r5:=mk_to r5
 h2:=mk_to h2
 h3:=mk_to h3
 h4:=mk_to h4
 h5:=mk_to h5
theorem hm_hd:Hd HM:=hd_kn (by kernel_rfl)
theorem hm_sound:Sound PP (env0 HM):=knK_sound handS_sound km_ok
theorem hm_11:XK.run (GK HM) (.call false 11) []=some (bv true):=r_call (GG_hand (show knK KM handS 11 []=some (bv true) by kernel_rfl)) rfl rfl
end Ty
theorem fieldWrong_holds:Rows.FieldWrongCardSaid:=wrong_card (wrong_said fun _ h=>Ty.wrong_vcp Ty.hm_hd Ty.mvs Ty.hm_11 Ty.hm_sound h)
end
end Go.Proofs.YtkcfpgaepmllhaaGreatDoor
