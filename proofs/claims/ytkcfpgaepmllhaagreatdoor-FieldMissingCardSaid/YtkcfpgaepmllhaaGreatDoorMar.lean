/- Part of the proof: symbolic execution of the program, its soundness, and the closing lemmas. No condition. -/
import Derived.Test.YtkcfpgaepmllhaaGreatDoorMak
import Derived.Test.YtkcfpgaepmllhaaGreatDoorMam
import Derived.Test.YtkcfpgaepmllhaaGreatDoorMan
import Derived.Test.YtkcfpgaepmllhaaGreatDoorMao
import Derived.Test.YtkcfpgaepmllhaaGreatDoorMap
import Derived.Test.YtkcfpgaepmllhaaGreatDoorMaq
import Init
import Derived.Test.YtkcfpgaepmllhaaGreatDoorFag
namespace Go.Proofs.YtkcfpgaepmllhaaGreatDoor
open Go.RowKit
set_option maxRecDepth 100000
set_option linter.all false
section
theorem cs {s : g_} (hs : j_ cx.P s) {f lo n : Nat} {l : List cV} (h : chunk (iE tr.get (eh (aZ s) aS) 10000 60) f lo n l = true) : fg cx.P f ((l.drop lo).take n):=Aw rfl gB qN RM hs h
theorem z : j_ cx.P []:=.nil
theorem o {f : Nat} {l : List cV} {gs : List Nat} {r : g_} (h : fg cx.P f l) (k : j_ cx.P r) : j_ cx.P ((f,l,gs) :: r):=.cons h k
theorem d166 : fg cx.P 166 ak.TB:=(cs (s:=s0) z c0).fin (by kernel_rfl)
theorem ml : fg cx.P 1000043000210 ak.fX:=yd (e:=42) (f:=210) rfl gB qN RM Uj (by decide) z c1
theorem d168 : fg cx.P 168 ak.TD:=(cs (s:=s2) (o ml z) c2).fin (by kernel_rfl)
theorem d167 : fg cx.P 167 ak.TC:=(cs (s:=s3) (o ml z) c3).fin (by kernel_rfl)
theorem d171 : fg cx.P 171 ak.TE:=(cs (s:=s4) z c4).fin (by kernel_rfl)
theorem d218 : fg cx.P 218 ak.TG:=(cs (s:=s5) z c5).fin (by kernel_rfl)
theorem d123 : fg cx.P 123 ak.TA:=(cs (s:=s6) (o d171 (o d218 z)) c6).fin (by kernel_rfl)
theorem d91 : fg cx.P 91 ak.p_:=(cs (s:=s7) z c7).fin (by kernel_rfl)
theorem d226 : fg cx.P 226 ak.gS:=(cs (s:=s8) z c8).fin (by kernel_rfl)
theorem d90 : fg cx.P 90 ak.p9:=(cs (s:=s9) (o d91 (o d226 z)) c9).join ((cs (s:=s10) (o d91 (o d226 z)) c10).join ((cs (s:=s11) (o d91 (o d226 z)) c11).join ((cs (s:=s12) (o d91 (o d226 z)) c12).join ((cs (s:=s13) (o d91 (o d226 z)) c13).join ((cs (s:=s14) (o d91 (o d226 z)) c14).join ((cs (s:=s15) (o d91 (o d226 z)) c15).join ((cs (s:=s16) (o d91 (o d226 z)) c16).join ((cs (s:=s17) (o d91 (o d226 z)) c17).join ((cs (s:=s18) (o d91 (o d226 z)) c18).join ((cs (s:=s19) (o d91 (o d226 z)) c19).join ((cs (s:=s20) (o d91 (o d226 z)) c20).join ((cs (s:=s21) (o d91 (o d226 z)) c21).join ((cs (s:=s22) (o d91 (o d226 z)) c22).join ((cs (s:=s23) (o d91 (o d226 z)) c23).join ((cs (s:=s24) (o d91 (o d226 z)) c24).join ((cs (s:=s25) (o d91 (o d226 z)) c25).join ((cs (s:=s26) (o d91 (o d226 z)) c26).join ((cs (s:=s27) (o d91 (o d226 z)) c27).join ((cs (s:=s28) (o d91 (o d226 z)) c28).join ((cs (s:=s29) (o d91 (o d226 z)) c29).join ((cs (s:=s30) (o d91 (o d226 z)) c30).join ((cs (s:=s31) (o d91 (o d226 z)) c31).join ((cs (s:=s32) (o d91 (o d226 z)) c32).fin (by kernel_rfl))))))))))))))))))))))))
theorem d54 : fg cx.P 54 ak.XL:=(cs (s:=s33) (o d91 (o d90 z)) c33).join ((cs (s:=s34) (o d91 (o d90 z)) c34).fin (by kernel_rfl))
theorem d20 : fg cx.P 20 ak.k20:=(cs (s:=s35) z c35).fin (by kernel_rfl)
theorem d286 : fg cx.P 286 ak.Gi:=(cs (s:=s36) z c36).fin (by kernel_rfl)
theorem d149 : fg cx.P 149 ak.LP:=(cs (s:=s37) (o d286 z) c37).fin (by kernel_rfl)
theorem d88 : fg cx.P 88 ak.k88:=(cs (s:=s38) (o d286 (o d149 z)) c38).fin (by kernel_rfl)
theorem d225 : fg cx.P 225 ak.LQ:=(cs (s:=s39) z c39).fin (by kernel_rfl)
theorem d179 : fg cx.P 179 ak.TF:=(cs (s:=s40) (o d225 z) c40).fin (by kernel_rfl)
theorem d222 : fg cx.P 222 ak.TH:=(cs (s:=s41) (o d286 z) c41).fin (by kernel_rfl)
theorem d11 : fg cx.P 11 ak.VB:=(cs (s:=s42) (o d54 (o d20 (o d286 (o d149 (o d88 (o d225 (o d179 (o d222 z)))))))) c42).fin (by kernel_rfl)
noncomputable def KM : KT:=[(166,ak.TB),(168,ak.TD),(167,ak.TC),(123,ak.TA),(90,ak.p9),(54,ak.XL),(11,ak.VB)]
theorem XO : KM.Cn cx.P:=(KT.Cn.cons d166 (KT.Cn.cons d168 (KT.Cn.cons d167 (KT.Cn.cons d123 (KT.Cn.cons d90 (KT.Cn.cons d54 (KT.Cn.cons d11 KT.Cn.nil)))))))
end
section
open Go.RowKit Go.Sort
namespace Ty
noncomputable abbrev HM:FP:=eh KM dA
theorem aa1{p:Int→Prop}{k:Nat}(h: ∀i:Nat,i<k→p ((i:Int)+1))(n:Int)(h1:1≤n)(h2:n≤k):p n:=by
 have:=h (n-1).toNat (by omega);rw[show(((n-1).toNat:Nat):Int)+1=n by omega]at this;exact this
theorem TM:Fk KM=true:=by kernel_rfl
theorem mF{f k:Nat}{pre post:List D}(h:((List.range k).all fun i=>jo KM (f,pre++iv ((i:Int)+1)::post))=true)(n:Int)(h1:1≤n)(h2:n≤k):Mk HM f (pre++iv n::post):=
 aa1 (p:=fun n=>Mk HM f (pre++iv n::post)) (k:=k) (fun i hi=>SR TM (Tz.1 h i (List.mem_range.2 hi))) n h1 h2
theorem m22:((List.range 1).all fun i=>jo KM (168,[iv 2]++iv ((i:Int)+1):: [uv 2]))=true:=by kernel_rfl
theorem m42:((List.range 3).all fun i=>jo KM (168,[iv 4]++iv ((i:Int)+1):: [uv 2]))=true:=by kernel_rfl
theorem m23:((List.range 2).all fun i=>jo KM (168,[iv 2]++iv ((i:Int)+1):: [uv 3]))=true:=by kernel_rfl
theorem m43:((List.range 4).all fun i=>jo KM (168,[iv 4]++iv ((i:Int)+1):: [uv 3]))=true:=by kernel_rfl
theorem m31:((List.range 3).all fun i=>jo KM (168,[iv 3]++iv ((i:Int)+1):: [uv 1]))=true:=by kernel_rfl
theorem T4:((List.range 5).all fun i=>jo KM (168,[iv 5]++iv ((i:Int)+1):: [uv 1]))=true:=by kernel_rfl
theorem r5:((List.range 5).all fun i=>jo KM (167,[iv 5]++iv ((i:Int)+1):: []))=true:=by kernel_rfl
theorem h2:((List.range 3).all fun i=>jo KM (123,[iv 2]++iv ((i:Int)+1):: []))=true:=by kernel_rfl
theorem h3:((List.range 5).all fun i=>jo KM (123,[iv 3]++iv ((i:Int)+1):: []))=true:=by kernel_rfl
theorem h4:((List.range 7).all fun i=>jo KM (123,[iv 4]++iv ((i:Int)+1):: []))=true:=by kernel_rfl
theorem h5:((List.range 9).all fun i=>jo KM (123,[iv 5]++iv ((i:Int)+1):: []))=true:=by kernel_rfl
theorem mvs:Mvs HM where
 q22:=ag (dC (show eh KM dA 166 [iv 2,uv 2]=some (.tup [iv 1,iv 0]) by kernel_rfl)) rfl rfl
 m22:=mF m22
 q42:=ag (dC (show eh KM dA 166 [iv 4,uv 2]=some (.tup [iv 3,iv 0]) by kernel_rfl)) rfl rfl
 m42:=mF m42
 q23:=ag (dC (show eh KM dA 166 [iv 2,uv 3]=some (.tup [iv 2,iv 0]) by kernel_rfl)) rfl rfl
 m23:=mF m23
 q43:=ag (dC (show eh KM dA 166 [iv 4,uv 3]=some (.tup [iv 4,iv 0]) by kernel_rfl)) rfl rfl
 m43:=mF m43
 q31:=ag (dC (show eh KM dA 166 [iv 3,uv 1]=some (.tup [iv 3,iv 0]) by kernel_rfl)) rfl rfl
 m31:=mF m31
 q51:=ag (dC (show eh KM dA 166 [iv 5,uv 1]=some (.tup [iv 5,iv 0]) by kernel_rfl)) rfl rfl
 T4:=mF T4
 r5:=mF r5
 h2:=mF h2
 h3:=mF h3
 h4:=mF h4
 h5:=mF h5
theorem NY:Hd HM:=Xl (by kernel_rfl)
theorem IF:Sound PP (br HM):=qI Bb XO
theorem Xr:XK.run (GK HM) (.call false 11) []=some (bv true):=ag (dC (show eh KM dA 11 []=some (bv true) by kernel_rfl)) rfl rfl
end Ty
end
section
namespace Ty
theorem aeU:UU= .lets [.mk (.pk (.fbox 2)) [.t 1]] (.lets [.mk (.pk (.fbox 2)) [.t 0]] (.lets [.mk (.call false 101) [.mk .bq [.mk (.pk (.load 1 false)) [.mk (.pk (.fld 1)) [.t 3]]]]] (.lets [.mk (.call false 101) [.mk .bq [.mk (.pk (.load 1 false)) [.mk (.pk (.fld 1)) [.t 4]]]]] (.lets [.mk (.call false 100) [.mk .bq [.t 6], .mk .bq [.t 5]]] (.lets [.mk (.call false 101) [.mk .bq [.mk (.pk (.load 1 false)) [.mk (.pk (.fld 0)) [.t 4]]]]] (.lets [.mk (.call false 102) [.mk .bq [.t 8], .mk .bq [.mk (.pk (.ibin .quo)) [.t 5, .t 7]]]] (.fM [.mk (.cell 0 2) [.t 9]] (.lets [.mk (.call false 101) [.mk .bq [.mk (.pk (.load 1 false)) [.mk (.pk (.fld 0)) [.t 3]]]]] (.lets [.mk (.call false 102) [.mk .bq [.t 10], .mk .bq [.mk (.pk (.ibin .quo)) [.t 6, .t 7]]]] (.fM [.mk (.cell 0 2) [.t 11]] (.lets [.mk (.pk (.ibin .lss)) [.mk (.pk (.load 1 false)) [.mk (.pk (.fld 0)) [.t 4]], .q (iv 0)]] (.jp (.lets [.mk (.call false 106) [.mk .agg [.mk .eA [.t 14], .mk .eA [.t 15]], .mk .bq [.t 7]]] (.fM [.mk (.cell 0 2) [.mk (.pk (.ext 0)) [.t 16]]] (.lets [.mk (.pk (.ext 1)) [.t 16]] (.lets [.mk (.call false 100) [.mk .bq [.t 7], .mk .bq [.t 17]]] (.lets [.mk (.call false 106) [.mk .agg [.mk .eA [.t 14], .mk .eA [.t 15]], .mk .bq [.t 18]]] (.fM [.mk (.pk (.ext 1)) [.t 19], .mk (.cell 0 2) [.mk (.pk (.ext 0)) [.t 19]]] (.lets [.mk (.pk (.ext 0)) [.t 19]] (.lets [.mk (.call false 102) [.mk .bq [.mk (.pk (.ibin .quo)) [.t 6, .t 7]], .mk .bq [.mk (.pk (.ibin .quo)) [.t 5, .t 18]]]] (.lets [.mk (.call false 107) [.mk .bq [.t 13], .mk .bq [.t 20], .mk .bq [.t 21]]] (.fM [.mk (.cell 0 2) [.mk (.pk (.ext 0)) [.t 22]]] (.lets [.mk (.pk (.ext 1)) [.t 22]] (.lets [.mk (.pk (.ext 0)) [.t 22]] (.ret (.mk .tup [.mk .bq [.t 24], .mk .bq [.t 23]])))))))))))))) (.lets [.mk (.pk (.beq false)) [.t 12, .t 2]] (.ite (.t 13) (.lets [.mk (.call false 103) [.mk .bq [.t 9], .mk .bq [.t 11]]] (.fM [.mk (.cell 0 2) [.t 14]] (.next 0 [.t 12, .mk (.cell 0 2) [.t 14], .mk (.cell 1 2) [.t 14]]))) (.lets [.mk (.call false 104) [.mk .bq [.t 9], .mk .bq [.t 11]]] (.lets [.mk (.pk (.ibin .geq)) [.t 14, .q (iv 0)]] (.ite (.t 15) (.lets [.mk (.call false 105) [.mk .bq [.t 9], .mk .bq [.t 11]]] (.fM [.mk (.cell 0 2) [.t 16]] (.next 0 [.t 12, .mk (.cell 0 2) [.t 16], .mk (.cell 1 2) [.t 16]]))) (.lets [.mk (.call false 105) [.mk .bq [.t 11], .mk .bq [.t 9]]] (.fM [.mk (.cell 0 2) [.t 16]] (.next 0 [.t 2, .mk (.cell 0 2) [.t 16], .mk (.cell 1 2) [.t 16]])))))))))))))))))))):=by kernel_rfl
end Ty
end
section
namespace Ty
structure Fq where
 n:Int
 d:Int
def Fq.ok(f:Fq):Prop:=0<f.d∧Nat.gcd f.n.natAbs f.d.natAbs=1
def red(n d:Int):Fq:=⟨n/(Nat.gcd n.natAbs d.natAbs:Nat),d/(Nat.gcd n.natAbs d.natAbs:Nat)⟩
theorem Ip(n d:Int):((Nat.gcd n.natAbs d.natAbs:Nat):Int)∣n:=Int.ofNat_dvd_left.2 (Nat.gcd_dvd_left ..)
theorem Iq(n d:Int):((Nat.gcd n.natAbs d.natAbs:Nat):Int)∣d:=Int.ofNat_dvd_left.2 (Nat.gcd_dvd_right ..)
theorem sW{n d:Int}(hd:0<d):0<Nat.gcd n.natAbs d.natAbs:=Nat.gcd_pos_of_pos_right _ (by omega)
theorem Fo{n d:Int}:(red n d).n*(Nat.gcd n.natAbs d.natAbs:Nat)=n:=Int.ediv_mul_cancel (Ip n d)
theorem Fm{n d:Int}:(red n d).d*(Nat.gcd n.natAbs d.natAbs:Nat)=d:=Int.ediv_mul_cancel (Iq n d)
theorem oI{n d:Int}(hd:0<d):(red n d).ok:=by
 have hg:=sW (n:=n) hd;have h1:= @Fo n d;have h2:= @Fm n d;generalize hgg:Nat.gcd n.natAbs d.natAbs=g at*;generalize red n d=f at*;refine⟨?_, ?_⟩
 ·refine Int.pos_of_mul_pos_left (b:=(g:Int)) (by rw[h2];exact hd) (by omega)
 ·have e1:n.natAbs=f.n.natAbs*g:=by rw[←h1,Int.natAbs_mul];rfl
  have e2:d.natAbs=f.d.natAbs*g:=by rw[←h2,Int.natAbs_mul];rfl
  rw[e1,e2,Nat.gcd_mul_right]at hgg;exact Nat.eq_of_mul_eq_mul_right hg (by rw[hgg,Nat.one_mul])
theorem Ij{f g:Fq}(h1:f.n=g.n)(h2:f.d=g.d):f=g:=by cases f;cases g;cases h1;cases h2;rfl
theorem GD{f g:Fq}(hf:f.ok)(hg:g.ok)(e:f.n*g.d=g.n*f.d):f=g:=by
 obtain⟨f1,f2⟩:=hf;obtain⟨g1,g2⟩:=hg;have en:f.n.natAbs*g.d.natAbs=g.n.natAbs*f.d.natAbs:=by rw[←Int.natAbs_mul,e,Int.natAbs_mul]
 have d1:f.d.natAbs∣g.d.natAbs:=(Nat.Coprime.symm f2).dvd_of_dvd_mul_left (m:=f.n.natAbs) ⟨g.n.natAbs,by rw[en,Nat.mul_comm]⟩;have d2:g.d.natAbs∣f.d.natAbs:=(Nat.Coprime.symm g2).dvd_of_dvd_mul_left (m:=g.n.natAbs) ⟨f.n.natAbs,by rw[←en,Nat.mul_comm]⟩;have h:=Nat.dvd_antisymm d1 d2;have hd:f.d=g.d:=by omega
 refine Ij ?_ hd;rw[hd]at e;exact Int.eq_of_mul_eq_mul_right (by omega) e
theorem kT{n d:Int}(hd:0<d):(red n d).n*d=n*(red n d).d:=by
 have h1:= @Fo n d;have h2:= @Fm n d;generalize Nat.gcd n.natAbs d.natAbs=g at*;generalize red n d=f at*;rw[←h1,←h2,Int.mul_comm f.d,←Int.mul_assoc]
theorem lK{f:Fq}(h:f.ok){n d:Int}(hd:0<d)(e:f.n*d=n*f.d):f=red n d:=by
 have hr:=oI (n:=n) hd;refine GD h hr ?_;have h2:= @Fm n d;have h1:= @Fo n d;have hg:=sW (n:=n) hd;generalize Nat.gcd n.natAbs d.natAbs=g at*;generalize red n d=r at*;refine Int.eq_of_mul_eq_mul_right (a:=(g:Int)) (by omega) ?_;rw[Int.mul_assoc,h2,e,Int.mul_right_comm,h1]
theorem JH{n d n' d':Int}(hd:0<d)(hd':0<d')(e:n*d'=n'*d):red n d=red n' d':=by
 refine lK (oI hd) hd' ?_;have h:=kT (n:=n) hd;refine Int.eq_of_mul_eq_mul_right (a:=d) (by omega) ?_;rw[Int.mul_right_comm,h,Int.mul_right_comm,e,Int.mul_right_comm]
theorem GL{f:Fq}(h:f.ok):red f.n f.d=f:=(lK h h.1 rfl).symm
theorem RW{a b c d k:Nat}(hb:0<b)(hd:0<d)(h1:Nat.gcd a b=1)(h2:Nat.gcd c d=1)(hk:k=Nat.gcd b d){t:Nat}(ht:(∃x y,t=x+y∧x=a*(d/k)∧y=c*(b/k))∨(∃x y,x=a*(d/k)∧y=c*(b/k)∧(t+y=x∨t+x=y))):
  Nat.gcd (t/Nat.gcd k t) ((b/k)*(d/Nat.gcd k t))=1:=by
 have hk0:0<k:=by rw[hk];exact Nat.gcd_pos_of_pos_left _ hb
 obtain⟨b',hb'⟩:k∣b:=hk▸Nat.gcd_dvd_left ..;obtain⟨d',hd'⟩:k∣d:=hk▸Nat.gcd_dvd_right ..;have eb:b/k=b':=by rw[hb',Nat.mul_div_cancel_left _ hk0]
 have ed:d/k=d':=by rw[hd',Nat.mul_div_cancel_left _ hk0]
 have hbd:Nat.Coprime b' d':=by
  have:Nat.gcd (k*b') (k*d')=k:=by rw[←hb',←hd',←hk]
  rw[Nat.gcd_mul_left]at this;exact Nat.eq_of_mul_eq_mul_left hk0 (by rw[this,Nat.mul_one])
 have hab:Nat.Coprime a b':=Nat.Coprime.coprime_dvd_right ⟨k,by rw[hb',Nat.mul_comm]⟩ h1;have hcd:Nat.Coprime c d':=Nat.Coprime.coprime_dvd_right ⟨k,by rw[hd',Nat.mul_comm]⟩ h2;rw[eb,ed]at ht;rw[eb];have q1:Nat.Coprime (a*d') b':=Nat.Coprime.mul_left hab hbd.symm;have q2:Nat.Coprime (c*b') d':=Nat.Coprime.mul_left hcd hbd
 have dx: ∀g,g∣t→g∣c*b'→g∣a*d':=fun g g1 g2=>by
  rcases ht with⟨x,y,rfl,rfl,rfl⟩|⟨x,y,rfl,rfl,h|h⟩
  ·exact(Nat.dvd_add_left g2).1 g1
  ·rw[←h];exact Nat.dvd_add g1 g2
  ·exact(Nat.dvd_add_right g1).1 (by rw[h];exact g2)
 have dy: ∀g,g∣t→g∣a*d'→g∣c*b':=fun g g1 g2=>by
  rcases ht with⟨x,y,rfl,rfl,rfl⟩|⟨x,y,rfl,rfl,h|h⟩
  ·exact(Nat.dvd_add_right g2).1 g1
  ·exact(Nat.dvd_add_right g1).1 (by rw[h];exact g2)
  ·rw[←h];exact Nat.dvd_add g1 g2
 have tb:Nat.Coprime t b':=by
  have g1:Nat.gcd t b'∣t:=Nat.gcd_dvd_left ..;have g2:Nat.gcd t b'∣b':=Nat.gcd_dvd_right ..;have g3:=dx _ g1 (Nat.dvd_trans g2 (Nat.dvd_mul_left ..));exact Nat.eq_one_of_dvd_one (by rw[←show Nat.gcd (a*d') b'=1 from q1];exact Nat.dvd_gcd g3 g2)
 have td:Nat.Coprime t d':=by
  have g1:Nat.gcd t d'∣t:=Nat.gcd_dvd_left ..;have g2:Nat.gcd t d'∣d':=Nat.gcd_dvd_right ..;have g3:=dy _ g1 (Nat.dvd_trans g2 (Nat.dvd_mul_left ..));exact Nat.eq_one_of_dvd_one (by rw[←show Nat.gcd (c*b') d'=1 from q2];exact Nat.dvd_gcd g3 g2)
 have hg0:0<Nat.gcd k t:=Nat.gcd_pos_of_pos_left _ hk0;obtain⟨k2,e1⟩:Nat.gcd k t∣k:=Nat.gcd_dvd_left ..;obtain⟨t2,e2⟩:Nat.gcd k t∣t:=Nat.gcd_dvd_right ..
 have hk2:Nat.Coprime t2 k2:=by
  have h:Nat.gcd (Nat.gcd k t*k2) (Nat.gcd k t*t2)=Nat.gcd k t:=by rw[←e1,←e2]
  rw[Nat.gcd_mul_left]at h;exact(show Nat.Coprime k2 t2 from Nat.eq_of_mul_eq_mul_left hg0 (by rw[h,Nat.mul_one])).symm
 have et:t/Nat.gcd k t=t2:=by
  generalize Nat.gcd k t=g at*;rw[e2,Nat.mul_div_cancel_left _ hg0]
 have edd:d/Nat.gcd k t=k2*d':=by
  generalize Nat.gcd k t=g at*;rw[hd',e1,Nat.mul_assoc,Nat.mul_div_cancel_left _ hg0]
 rw[et,edd];have t2d:t2∣t:=⟨Nat.gcd k t,by rw[Nat.mul_comm];exact e2⟩;exact Nat.Coprime.mul_right (Nat.Coprime.coprime_dvd_left t2d tb) (Nat.Coprime.mul_right hk2 (Nat.Coprime.coprime_dvd_left t2d td))
theorem T'{a b c d:Nat}(hb:0<b)(hd:0<d)(h1:Nat.gcd a b=1)(h2:Nat.gcd c d=1):
  Nat.gcd (a/Nat.gcd a d*(c/Nat.gcd c b)) (b/Nat.gcd c b*(d/Nat.gcd a d))=1:=by
 have hg:0<Nat.gcd a d:=Nat.gcd_pos_of_pos_right _ hd;have hh:0<Nat.gcd c b:=Nat.gcd_pos_of_pos_right _ hb;have cop: ∀{x y:Nat},0<Nat.gcd x y→Nat.Coprime (x/Nat.gcd x y) (y/Nat.gcd x y):=fun h=>Nat.coprime_div_gcd_div_gcd h
 have dv: ∀{x y:Nat},y∣x→x/y∣x:=fun{x y} ⟨k,hk⟩=>by
  subst hk;rcases Nat.eq_zero_or_pos y with rfl|hy
  ·simp
  ·rw[Nat.mul_div_cancel_left _ hy];exact Nat.dvd_mul_left ..
 have a1:a/Nat.gcd a d∣a:=dv (Nat.gcd_dvd_left ..);have c1:c/Nat.gcd c b∣c:=dv (Nat.gcd_dvd_left ..);have b1:b/Nat.gcd c b∣b:=dv (Nat.gcd_dvd_right ..);have d1:d/Nat.gcd a d∣d:=dv (Nat.gcd_dvd_right ..);have ab:Nat.Coprime (a/Nat.gcd a d) (b/Nat.gcd c b):=Nat.Coprime.coprime_dvd_left a1 (Nat.Coprime.coprime_dvd_right b1 h1);have cd:Nat.Coprime (c/Nat.gcd c b) (d/Nat.gcd a d):=Nat.Coprime.coprime_dvd_left c1 (Nat.Coprime.coprime_dvd_right d1 h2);exact Nat.Coprime.mul_left (Nat.Coprime.mul_right ab (cop hg)) (Nat.Coprime.mul_right (cop hh) cd)
theorem KQ{f g:Fq}(hf:f.ok)(hg:g.ok){k t:Nat}(hk:k=Nat.gcd f.d.natAbs g.d.natAbs){s m:Int}(hs:s=f.n*((g.d.natAbs/k:Nat):Int)+g.n*((f.d.natAbs/k:Nat):Int))(ht:s.natAbs=t)(hm:m*(Nat.gcd k t:Nat)=s):
  (⟨m,((f.d.natAbs/k*(g.d.natAbs/Nat.gcd k t):Nat):Int)⟩:Fq)=red (f.n*g.d+g.n*f.d) (f.d*g.d):=by
 obtain⟨f1,f2⟩:=hf;obtain⟨g1,g2⟩:=hg;have hb:0<f.d.natAbs:=by omega
 have hd:0<g.d.natAbs:=by omega
 have hk0:0<k:=by rw[hk];exact Nat.gcd_pos_of_pos_left _ hb
 have hx:(f.n*((g.d.natAbs/k:Nat):Int)).natAbs=f.n.natAbs*(g.d.natAbs/k):=by rw[Int.natAbs_mul,Int.natAbs_natCast]
 have hy:(g.n*((f.d.natAbs/k:Nat):Int)).natAbs=g.n.natAbs*(f.d.natAbs/k):=by rw[Int.natAbs_mul,Int.natAbs_natCast]
 have hgt:0<Nat.gcd k t:=Nat.gcd_pos_of_pos_left _ hk0
 have hmt:m.natAbs=t/Nat.gcd k t:=by
  have h:=congrArg Int.natAbs hm;rw[Int.natAbs_mul,Int.natAbs_natCast,ht]at h;exact(Nat.div_eq_of_eq_mul_left hgt h.symm).symm
 have hco:=RW hb hd f2 g2 hk (t:=t) (by
  rw[←hx,←hy];generalize f.n*((g.d.natAbs/k:Nat):Int)=x at*;generalize g.n*((f.d.natAbs/k:Nat):Int)=y at*;by_cases hxy:t=x.natAbs+y.natAbs
  ·exact .inl ⟨_,_,hxy,rfl,rfl⟩
  ·exact .inr ⟨_,_,rfl,rfl,by omega⟩)
 obtain⟨b',hb'⟩:k∣f.d.natAbs:=hk▸Nat.gcd_dvd_left ..;obtain⟨d',hd'⟩:k∣g.d.natAbs:=hk▸Nat.gcd_dvd_right ..;obtain⟨k2,e1⟩:Nat.gcd k t∣k:=Nat.gcd_dvd_left ..;have eb:f.d.natAbs/k=b':=by rw[hb',Nat.mul_div_cancel_left _ hk0]
 have ed:g.d.natAbs/k=d':=by rw[hd',Nat.mul_div_cancel_left _ hk0]
 have edd:g.d.natAbs/Nat.gcd k t=k2*d':=by
  rw[hd'];generalize Nat.gcd k t=q at*;rw[e1,Nat.mul_assoc,Nat.mul_div_cancel_left _ hgt]
 have b0:0<b':=Nat.pos_of_ne_zero fun h=>by subst h;omega
 have d0:0<d':=Nat.pos_of_ne_zero fun h=>by subst h;omega
 have k0:0<k2:=Nat.pos_of_ne_zero fun h=>by subst h;omega
 have hfd:f.d=(k:Int)*b':=by
  have:(f.d.natAbs:Int)=f.d:=by omega
  rw[←this,hb'];simp
 have hgd:g.d=(k:Int)*d':=by
  have:(g.d.natAbs:Int)=g.d:=by omega
  rw[←this,hd'];simp
 refine lK ⟨?_, ?_⟩ (Int.mul_pos f1 g1) ?_
 ·show(0:Int)<((_:Nat):Int);rw[eb,edd];exact Int.natCast_pos.2 (Nat.mul_pos b0 (Nat.mul_pos k0 d0))
 ·show Nat.gcd m.natAbs (((_:Nat):Int)).natAbs=1;rw[Int.natAbs_natCast,hmt];exact hco
 ·show m*(f.d*g.d)=(f.n*g.d+g.n*f.d)*((_:Nat):Int);rw[eb,edd];rw[eb,ed]at hs
  have hk':(k:Int)=(Nat.gcd k t:Nat)*(k2:Int):=by
   rw[←Int.natCast_mul,←e1]
  generalize((Nat.gcd k t:Nat):Int)=q at*;rw[hfd,hgd,Int.natCast_mul,Int.natCast_mul];clear eb ed edd hb' hd' hco hmt hx hy ht e1 hfd hgd;generalize(k:Int)=K at*;generalize(b':Int)=B at*;generalize(d':Int)=E at*;generalize(k2:Int)=L at*
  grind
theorem Mq{f g:Fq}(hf:f.ok)(hg:g.ok){m:Int}(hm:m.natAbs=f.n.natAbs/Nat.gcd f.n.natAbs g.d.natAbs*(g.n.natAbs/Nat.gcd g.n.natAbs f.d.natAbs))(hs:m*((Nat.gcd f.n.natAbs g.d.natAbs:Nat):Int)*((Nat.gcd g.n.natAbs f.d.natAbs:Nat):Int)=f.n*g.n):
  (⟨m,((f.d.natAbs/Nat.gcd g.n.natAbs f.d.natAbs*(g.d.natAbs/Nat.gcd f.n.natAbs g.d.natAbs):Nat):Int)⟩:Fq)=red (f.n*g.n) (f.d*g.d):=by
 obtain⟨f1,f2⟩:=hf;obtain⟨g1,g2⟩:=hg;have hb:0<f.d.natAbs:=by omega
 have hd:0<g.d.natAbs:=by omega
 have hco:=T' hb hd f2 g2;have hfd:(f.d.natAbs:Int)=f.d:=by omega
 have hgd:(g.d.natAbs:Int)=g.d:=by omega
 obtain⟨d',hd'⟩:Nat.gcd f.n.natAbs g.d.natAbs∣g.d.natAbs:=Nat.gcd_dvd_right ..;obtain⟨b',hb'⟩:Nat.gcd g.n.natAbs f.d.natAbs∣f.d.natAbs:=Nat.gcd_dvd_right ..;have hp:0<Nat.gcd f.n.natAbs g.d.natAbs:=Nat.gcd_pos_of_pos_right _ hd;have hq:0<Nat.gcd g.n.natAbs f.d.natAbs:=Nat.gcd_pos_of_pos_right _ hb;generalize Nat.gcd f.n.natAbs g.d.natAbs=p at*;generalize Nat.gcd g.n.natAbs f.d.natAbs=q at*;have ed:g.d.natAbs/p=d':=by rw[hd',Nat.mul_div_cancel_left _ hp]
 have eb:f.d.natAbs/q=b':=by rw[hb',Nat.mul_div_cancel_left _ hq]
 have d0:0<d':=Nat.pos_of_ne_zero fun h=>by subst h;omega
 have b0:0<b':=Nat.pos_of_ne_zero fun h=>by subst h;omega
 refine lK ⟨?_, ?_⟩ (Int.mul_pos f1 g1) ?_
 ·show(0:Int)<((_:Nat):Int);rw[eb,ed];exact Int.natCast_pos.2 (Nat.mul_pos b0 d0)
 ·show Nat.gcd m.natAbs (((_:Nat):Int)).natAbs=1;rw[Int.natAbs_natCast,hm];exact hco
 ·show m*(f.d*g.d)=f.n*g.n*((_:Nat):Int);rw[eb,ed,←hfd,←hgd,hb',hd',←hs];simp only[Int.natCast_mul]
  grind
end Ty
end
section
namespace Ty
variable {H : FP}
structure Fb(H:FP):Prop where
 fr:Fr H
 a: ∀ds,H 152 ds=qe ds
 s: ∀ds,H 153 ds=qZ ds
def uw(a:Nat):D:= .v (.int .u64 ((a:Nat):Int))
def gm(a b:Nat):Nat:=if b=0 then 0 else Nat.log2 (a*b)+1+(if a<b then 1 else 0)
theorem SQ{a b:Nat}(hb:b≠0):gm b (a%b)<gm a b:=by
 have hr:=Nat.mod_lt a (Nat.pos_of_ne_zero hb);unfold gm;rw[if_neg hb];by_cases h0:a%b=0
 ·rw[if_pos h0];omega
 ·rw[if_neg h0,if_neg (by omega)];by_cases h1:a<b
  ·rw[if_pos h1,Nat.mod_eq_of_lt h1,Nat.mul_comm];omega
  ·rw[if_neg h1]
   have h2:2*(a%b)≤a:=by
    have:=Nat.div_add_mod a b;have:1≤a/b:=(Nat.one_le_div_iff (Nat.pos_of_ne_zero hb)).2 (by omega);have:b*1≤b*(a/b):=Nat.mul_le_mul_left _ this;omega
   have h3:2*(b*(a%b))≤a*b:=by
    have:=Nat.mul_le_mul_left b h2;rw[Nat.mul_comm a b,Nat.mul_left_comm];exact this
   have h4:b*(a%b)≠0:=Nat.mul_ne_zero hb h0
   have h5:Nat.log2 (b*(a%b))+1≤Nat.log2 (a*b):=by
    rw[←Nat.log2_two_mul h4];exact(Nat.le_log2 (by omega)).2 (Nat.le_trans (Nat.log2_self_le (by omega)) h3)
   omega
theorem Wt{a b:Nat}(ha:a<18446744073709551616)(hb:b<18446744073709551616):gm a b<200:=by
 unfold gm;split
 ·omega
 ·have:Nat.log2 (a*b)<128:=by
   by_cases h:a*b=0
   ·rw[h];decide
   ·refine(Nat.log2_lt h).2 ?_;have:=Nat.mul_lt_mul'' ha hb;exact Nat.lt_of_lt_of_le this (by decide)
  split<;>omega
theorem wu{z:Int}(h1:0≤z)(h2:z<18446744073709551616):IntKind.u64.wrap z=z:=iC .u64 z (by show-(0:Int)≤z;omega) h2
theorem wun{a:Nat}(h:a<18446744073709551616):IntKind.u64.wrap (a:Int)=(a:Int):=wu (by omega) (by omega)
section
variable {G : FP} {f : Fq} {a b c : Nat}
def Fq.cells(f:Fq):List D:= [iv f.n,iv f.d]
@[simp] theorem Fq.cell0:XK.run G (.cell 0 2) [.agg f.cells]=some (iv f.n):=nr rfl
@[simp] theorem Fq.fp:XK.run G (.cell 1 2) [.agg f.cells]=some (iv f.d):=nr rfl
@[simp] theorem Fq.fb:XK.run G (.pk (.fbox 2)) [.agg f.cells]=some (.lptr f.cells):=nr rfl
@[simp] theorem Fq.L4:XK.run G (.pk (.load 2 true)) [.lptr f.cells]=some (.agg f.cells):=nr rfl
@[simp] theorem Fq.L5:XK.run G (.pk (.load 1 false)) [.lptr f.cells]=some (iv f.n):=nr rfl
@[simp] theorem Fq.Oh:XK.run G (.pk (.load 1 false)) [.lptr f.cells.tail]=some (iv f.d):=nr rfl
@[simp] theorem Fq.bq:XK.run G .bq [.agg f.cells]=some (.agg f.cells):=nr rfl
@[simp] theorem Fq.aF:(D.agg f.cells).aF=true:=nr rfl
@[simp] theorem Fq.e0{v:Value}:XK.run G (.pk (.ext 0)) [.tup [.agg f.cells, .v v]]=some (.agg f.cells):=nr rfl
@[simp] theorem Fq.e1{v:Value}:XK.run G (.pk (.ext 1)) [.tup [.agg f.cells, .v v]]=some (.v v):=nr rfl
@[simp] theorem Fq.ad'{v:Value}:(D.tup [.agg f.cells, .v v]).aF=true:=nr rfl
@[simp] theorem Fq.tag{x:X}{v:Value}:bY x (.tup [.agg f.cells, .v v])= .tup [.agg f.cells, .v v]:=nr rfl
theorem Fq.Mu{n d:Int}:XK.run G .agg [iv n,iv d]=some (.agg (Fq.cells ⟨n,d⟩)):=nr rfl
def W(a b:Nat):List D:= [uw a,uw b]
@[simp] theorem W.cell0:XK.run G (.cell 0 2) [.agg (W a b)]=some (uw a):=nr rfl
@[simp] theorem W.fp:XK.run G (.cell 1 2) [.agg (W a b)]=some (uw b):=nr rfl
@[simp] theorem W.fb:XK.run G (.pk (.fbox 2)) [.agg (W a b)]=some (.lptr (W a b)):=nr rfl
@[simp] theorem W.L4:XK.run G (.pk (.load 2 true)) [.lptr (W a b)]=some (.agg (W a b)):=nr rfl
@[simp] theorem W.bq:XK.run G .bq [.agg (W a b)]=some (.agg (W a b)):=nr rfl
@[simp] theorem W.aF:(D.agg (W a b)).aF=true:=nr rfl
@[simp] theorem W.aht{x:X}:bY x (.agg (W a b))= .agg (W a b):=nr rfl
@[simp] theorem W.ai0:XK.run G (.pk (.aidx 2 1)) [.lptr (W a b),iv 0]=some (.lptr (W a b)):=nr rfl
@[simp] theorem W.ai1:XK.run G (.pk (.aidx 2 1)) [.lptr (W a b),iv 1]=some (.lptr ((W a b).drop 1)):=nr rfl
@[simp] theorem W.KF:XK.run G (.pk (.load 1 false)) [.lptr (W a b)]=some (uw a):=nr rfl
@[simp] theorem W.Oh:XK.run G (.pk (.load 1 false)) [.lptr (W a b).tail]=some (uw b):=nr rfl
@[simp] theorem W.ax0:XK.run G (.pk (.aix 2 1 false)) [.agg (W a b),iv 0]=some (uw a):=nr rfl
@[simp] theorem W.ax1:XK.run G (.pk (.aix 2 1 false)) [.agg (W a b),iv 1]=some (uw b):=nr rfl
@[simp] theorem W.mk:XK.run G .agg [uw a,uw b]=some (.agg (W a b)):=nr rfl
@[simp] theorem abJ{v:Value}:XK.run G (.cell 0 1) [.v v]=some (.v v):=nr rfl
@[simp] theorem η{k:IntKind}{z:Int}:XK.run G (.pk .ineg) [.v (.int k z)]=some (.v (.int k (k.wrap (0-z)))):=nr rfl
@[simp] theorem uw.bq:XK.run G .bq [uw a]=some (uw a):=nr rfl
@[simp] theorem uw.eA:XK.run G .eA [uw a]=some (uw a):=nr rfl
@[simp] theorem uw.qa:XK.run G .qa [uw a]=some (uw a):=nr rfl
@[simp] theorem uw.cell:XK.run G (.cell 0 1) [uw a]=some (uw a):=nr rfl
@[simp] theorem uw.aF:(uw a).aF=true:=nr rfl
@[simp] theorem uw.aM:(uw a).aM=true:=nr rfl
@[simp] theorem uw.tag{x:X}:bY x (uw a)=uw a:=nr rfl
@[simp] theorem uw.T0:D.v (.int .u64 0)=uw 0:=nr rfl
@[simp] theorem uw.agJ:D.v (.int .u64 1)=uw 1:=nr rfl
@[simp] theorem uw.ag'{b:Nat}:(D.tup [uw a,uw b]).aF=true:=nr rfl
@[simp] theorem uw.ahu{x:X}{b:Nat}:bY x (.tup [uw a,uw b])= .tup [uw a,uw b]:=nr rfl
@[simp] theorem W.e1':XK.run G (.pk (.ext 1)) [.tup [.agg (W a b),uw c]]=some (uw c):=nr rfl
@[simp] theorem W.e0':XK.run G (.pk (.ext 0)) [.tup [.agg (W a b),uw c]]=some (.agg (W a b)):=nr rfl
@[simp] theorem W.ag9:(D.tup [.agg (W a b),uw c]).aF=true:=nr rfl
@[simp] theorem W.ahs{x:X}:bY x (.tup [.agg (W a b),uw c])= .tup [.agg (W a b),uw c]:=nr rfl
@[simp] theorem afE:XK.run G (.pk (.ibin .and)) [uw a, .v (.int .u64 4294967295)]=some (uw (a%4294967296)):=by
 have e:bits .and .u64 (a:Int) 4294967295=((a%4294967296:Nat):Int):=by
  show IntKind.u64.wrap (((BitVec.ofInt 64 (a:Int))&&&(BitVec.ofInt 64 4294967295)).toNat:Int)=_;rw[BitVec.toNat_and,BitVec.ofInt_natCast,BitVec.toNat_ofNat,show(BitVec.ofInt 64 4294967295).toNat=2^32-1 from by decide,Nat.and_two_pow_sub_one_eq_mod,wun (by omega)];omega
 show(if true=true then some (D.v (.int .u64 (bits .and .u64 (a:Int) 4294967295)))else none).bind _=_;rw[e];rfl
@[simp] theorem afQ:XK.run G (.pk (.ishift .shr)) [uw a, .v (.int .u64 32)]=some (uw (a/4294967296)):=by
 have e:(a:Int).fdiv (2^(min (32:Int).toNat IntKind.u64.bits))=((a/4294967296:Nat):Int):=by
  show(a:Int).fdiv 4294967296=_;rw[Int.fdiv_eq_ediv_of_nonneg _ (by omega)];omega
 show(if(32:Int)<0 then none else some (D.v (.int .u64 ((a:Int).fdiv (2^(min (32:Int).toNat IntKind.u64.bits)))))).bind _=_;rw[e];rfl
theorem tdn:(a:Int).tdiv (b:Int)=((a/b:Nat):Int):=(Int.ofNat_tdiv a b).symm
theorem tmn:(a:Int).tmod (b:Int)=((a%b:Nat):Int):=(Int.ofNat_tmod a b).symm
theorem uw.quo(hb:b≠0)(ha:a<18446744073709551616):XK.run G (.pk (.ibin .quo)) [uw a,uw b]=some (uw (a/b)):=by
 unfold uw;rw[ξ,if_neg (by omega),tdn,wun (Nat.lt_of_le_of_lt (Nat.div_le_self ..) ha)]
theorem uw.rem(hb:b≠0):XK.run G (.pk (.ibin .rem)) [uw a,uw b]=some (uw (a%b)):=by
 unfold uw;rw[ο,if_neg (by omega),tmn]
theorem uw.mul(h:a*b<18446744073709551616):XK.run G (.pk (.ibin .mul)) [uw a,uw b]=some (uw (a*b)):=by
 unfold uw;rw[ζ,←Int.natCast_mul,wun h]
theorem uw.add(h:a+b<18446744073709551616):XK.run G (.pk (.ibin .add)) [uw a,uw b]=some (uw (a+b)):=by
 unfold uw;rw[Z8,←Int.natCast_add,wun h]
@[simp] theorem uw.eql:XK.run G (.pk (.ibin .eql)) [uw a,uw b]=some (bv (decide (a=b))):=by unfold uw;rw[Z9];congr 3;rw[Bool.eq_iff_iff];simp;omega
@[simp] theorem uw.neq:XK.run G (.pk (.ibin .neq)) [uw a,uw b]=some (bv (!decide (a=b))):=by unfold uw;rw[θ];congr 4;rw[Bool.eq_iff_iff];simp;omega
@[simp] theorem uw.lss:XK.run G (.pk (.ibin .lss)) [uw a,uw b]=some (bv (decide (a<b))):=by unfold uw;rw[δ];congr 3;rw[Bool.eq_iff_iff];simp
@[simp] theorem uw.gtr:XK.run G (.pk (.ibin .gtr)) [uw a,uw b]=some (bv (decide (b<a))):=by unfold uw;rw[Z'];congr 3;rw[Bool.eq_iff_iff];simp
@[simp] theorem uw.leq:XK.run G (.pk (.ibin .leq)) [uw a,uw b]=some (bv (decide (a≤b))):=by unfold uw;rw[Z_];congr 3;rw[Bool.eq_iff_iff];simp
@[simp] theorem uw.gtm:XK.run G (.pk (.ibin .gtr)) [uw a, .v (.int .u64 9223372036854775807)]=some (bv (decide (9223372036854775807<a))):=uw.gtr (b:=9223372036854775807)
theorem W.all: ∀x,x∈W a b→x.aM=true:=fun x hx=>by
 simp[W]at hx;rcases hx with rfl|rfl<;>rfl
@[simp] theorem uw.af6:XK.run G (.pk (.ibin .gtr)) [uw a, .v (.int .u64 9223372036854775808)]=some (bv (decide (9223372036854775808<a))):=uw.gtr (b:=9223372036854775808)
theorem uw.int(h:a<9223372036854775808):XK.run G (.pk (.conv .i64)) [uw a]=some (iv a):=by
 unfold uw;rw[JG,wr (by omega) (by omega)]
theorem uw.neg(h:a<18446744073709551616)(h0:0<a):XK.run G (.pk .ineg) [uw a]=some (uw (18446744073709551616-a)):=by
 unfold uw;rw[η]
 have e:IntKind.u64.wrap (0-(a:Int))=((18446744073709551616-a:Nat):Int):=by
  simp only[IntKind.wrap,IntKind.bits,IntKind.signed,Bool.false_and];simp;omega
 rw[e]
theorem uw.ad5:XK.run G (.pk .ineg) [uw 0]=some (uw 0):=rfl
theorem uw.adh(h:a≤9223372036854775808)(h0:0<a):XK.run G (.pk (.conv .i64)) [uw (18446744073709551616-a)]=some (iv (-(a:Int))):=by
 unfold uw;rw[JG]
 have e:IntKind.i64.wrap ((18446744073709551616-a:Nat):Int)= -(a:Int):=by
  simp only[IntKind.wrap,IntKind.bits,IntKind.signed,Bool.true_and,decide_eq_true_eq];split<;>rename_i h<;>simp at h⊢ <;>omega
 rw[e]
@[simp] theorem afF{p q:Bool}:XK.run G (.pk (.beq false)) [bv p,bv q]=some (bv (p==q)):=nr rfl
@[simp] theorem afG{p q:Bool}:XK.run G (.pk (.beq true)) [bv p,bv q]=some (bv (p !=q)):=nr rfl
end
theorem Gt(hF:Fr H)(a b:Nat)(ha:a<18446744073709551616)(hb:b<18446744073709551616):GK H 100 [uw a,uw b]=some (uw (Nat.gcd a b)):=by
 refine af hF Ow ?_
 conv=>enter [1,3];cbv
 simp;refine cG (S:=Nat×Nat) (enc:=fun s=> [uw s.1,uw s.2]) (res:=fun s=>uw (Nat.gcd s.1 s.2)) (mes:=fun s=>gm s.1 s.2) (ok:=fun s=>s.1<18446744073709551616∧s.2<18446744073709551616) ?_ (a,b) ⟨ha,hb⟩ (by have:=Wt ha hb;show gm a b<10000;omega);rintro rec ⟨a,b⟩ ⟨ha,hb⟩ ih;simp only[]at ha hb;by_cases h:b=0
 ·subst h;simp
 ·have ih:=ih (b,a%b) ⟨hb,by have:=Nat.mod_lt a (Nat.pos_of_ne_zero h);show a%b<_;omega⟩ (SQ h);have k:=uw.rem (G:=GK H) (a:=a) h;have e:Nat.gcd b (a%b)=Nat.gcd a b:=by rw[Nat.gcd_comm a b,Nat.gcd_rec b a,Nat.gcd_comm]
  simp only[e]at ih;simp[h,k];exact ih
theorem sD(hF:Fr H){z:Int}(h1: -9223372036854775808≤z)(h2:z<9223372036854775808):GK H 101 [iv z]=some (uw z.natAbs):=by
 refine af hF Ox ?_
 conv=>enter [1,3];cbv
 by_cases h:z<0
 ·have e:IntKind.u64.wrap (-IntKind.u64.wrap z)=(z.natAbs:Int):=by
   simp only[IntKind.wrap,IntKind.bits,IntKind.signed,Bool.false_and];simp;omega
  simp[h,e];rfl
 ·have e:IntKind.u64.wrap z=(z.natAbs:Int):=by rw[wu (by omega) (by omega)];omega
  simp[h];rw[e];rfl
theorem LB{a b:Nat}(h:a*b<18446744073709551616):(a/4294967296)*(b/4294967296)+((a/4294967296)*(b%4294967296)+(a%4294967296)*(b%4294967296)/4294967296)/4294967296+(((a/4294967296)*(b%4294967296)+(a%4294967296)*(b%4294967296)/4294967296)%4294967296+(a%4294967296)*(b/4294967296))/4294967296=0:=by
 have e:a*b=(a/4294967296)*(b/4294967296)*18446744073709551616+((a/4294967296)*(b%4294967296)+(a%4294967296)*(b/4294967296))*4294967296+(a%4294967296)*(b%4294967296):=by
  have ea:=Nat.div_add_mod a 4294967296;have eb:=Nat.div_add_mod b 4294967296;generalize a/4294967296=a1 at*;generalize a%4294967296=a0 at*;generalize b/4294967296=b1 at*;generalize b%4294967296=b0 at*;subst ea eb
  grind
 rw[e]at h;generalize(a/4294967296)*(b/4294967296)=p11 at*;generalize(a/4294967296)*(b%4294967296)=p10 at*;generalize(a%4294967296)*(b/4294967296)=p01 at*;generalize(a%4294967296)*(b%4294967296)=p00 at*;omega
theorem E7{a b:Nat}(ha:a<4294967296)(hb:b<4294967296):a*b≤18446744065119617025:=by
 have:a*b≤4294967295*4294967295:=Nat.mul_le_mul (by omega) (by omega);omega
theorem adt(hF:Fr H)(a b:Nat)(h:a*b<18446744073709551616)(ha:a<18446744073709551616)(hb:b<18446744073709551616):GK H 151 [uw a,uw b]=some (.tup [uw 0,uw (a*b)]):=by
 refine af hF ON ?_
 conv=>enter [1,3];cbv
 have hz:=LB h;have q11:=E7 (a:=a/4294967296) (b:=b/4294967296) (by omega) (by omega);have q10:=E7 (a:=a/4294967296) (b:=b%4294967296) (by omega) (by omega);have q01:=E7 (a:=a%4294967296) (b:=b/4294967296) (by omega) (by omega);have q00:=E7 (a:=a%4294967296) (b:=b%4294967296) (by omega) (by omega);have k1:=uw.mul (G:=GK H) (a:=a%4294967296) (b:=b%4294967296) (by omega);have k2:=uw.mul (G:=GK H) (a:=a/4294967296) (b:=b%4294967296) (by omega);have k3:=uw.add (G:=GK H) (a:=a/4294967296*(b%4294967296)) (b:=a%4294967296*(b%4294967296)/4294967296) (by omega);have k4:=uw.mul (G:=GK H) (a:=a%4294967296) (b:=b/4294967296) (by omega);have k5:=uw.add (G:=GK H) (a:=(a/4294967296*(b%4294967296)+a%4294967296*(b%4294967296)/4294967296)%4294967296) (b:=a%4294967296*(b/4294967296)) (by omega);have k6:=uw.mul (G:=GK H) (a:=a/4294967296) (b:=b/4294967296) (by omega);have k7:=uw.add (G:=GK H) (a:=a/4294967296*(b/4294967296)) (b:=(a/4294967296*(b%4294967296)+a%4294967296*(b%4294967296)/4294967296)/4294967296) (by omega);have k8:=uw.add (G:=GK H) (a:=a/4294967296*(b/4294967296)+(a/4294967296*(b%4294967296)+a%4294967296*(b%4294967296)/4294967296)/4294967296) (b:=((a/4294967296*(b%4294967296)+a%4294967296*(b%4294967296)/4294967296)%4294967296+a%4294967296*(b/4294967296))/4294967296) (by omega);have k9:=uw.mul (G:=GK H) (a:=a) (b:=b) h;rw[hz]at k8;simp[k1,k2,k3,k4,k5,k6,k7,k8,k9]
theorem Je(hF:Fr H)(a b:Nat)(h:a*b<18446744073709551616)(ha:a<18446744073709551616)(hb:b<18446744073709551616):GK H 102 [uw a,uw b]=some (.agg (W 0 (a*b))):=by
 refine af hF Oy ?_
 conv=>enter [1,3];cbv
 have k:XK.run (GK H) (.call false 151) [uw a,uw b]=some (.tup [uw 0,uw (a*b)]):=ag (adt hF a b h ha hb) rfl rfl;simp[-fu,k];exact W.all
theorem XW(hB:Fb H)(a b:Nat)(h:a+b<18446744073709551616):XK.run (GK H) (.call false 152) [uw a,uw b,uw 0]=some (.tup [uw (a+b),uw 0]):=by
 refine ag (dC ?_) rfl rfl;rw[hB.a];show(if 0≤(a:Int)∧0≤(b:Int)∧0≤((0:Nat):Int)∧((0:Nat):Int)≤1 then some (D.tup [.v (.int .u64 (((a:Int)+b+((0:Nat):Int))%fw)), .v (.int .u64 (((a:Int)+b+((0:Nat):Int))/fw))])else none)=_;rw[if_pos (by omega),show((a:Int)+b+((0:Nat):Int))%fw=((a+b:Nat):Int) by unfold fw;omega,show((a:Int)+b+((0:Nat):Int))/fw=((0:Nat):Int) by unfold fw;omega];rfl
theorem XX(hB:Fb H)(a b:Nat)(h:b≤a)(ha:a<18446744073709551616):XK.run (GK H) (.call false 153) [uw a,uw b,uw 0]=some (.tup [uw (a-b),uw 0]):=by
 refine ag (dC ?_) rfl rfl;rw[hB.s];show(if(0≤(a:Int)∧0≤(b:Int)∧(b:Int)<fw)∧0≤((0:Nat):Int)∧((0:Nat):Int)≤1 then some (D.tup [.v (.int .u64 (((a:Int)+fw-b-((0:Nat):Int))%fw)), .v (.int .u64 (if(a:Int)<b+((0:Nat):Int)then 1 else 0))])else none)=_;rw[if_pos (by unfold fw;omega),if_neg (by omega),show((a:Int)+fw-b-((0:Nat):Int))%fw=((a-b:Nat):Int) by unfold fw;omega];rfl
theorem adm(hB:Fb H)(a b:Nat)(h:a+b<18446744073709551616):GK H 103 [.agg (W 0 a), .agg (W 0 b)]=some (.agg (W 0 (a+b))):=by
 refine af hB.fr OA ?_
 conv=>enter [1,3];cbv
 have k1:=XW hB a b h;have k2:=XW hB 0 0 (by omega);simp[-fu,k1,k2];exact W.all
theorem adp(hB:Fb H)(a b:Nat)(h:b≤a)(ha:a<18446744073709551616):GK H 105 [.agg (W 0 a), .agg (W 0 b)]=some (.agg (W 0 (a-b))):=by
 refine af hB.fr OC ?_
 conv=>enter [1,3];cbv
 have k1:=XX hB a b h ha;have k2:=XX hB 0 0 (by omega) (by omega);simp[-fu,k1,k2];exact W.all
theorem ado(hF:Fr H)(a b:Nat):GK H 104 [.agg (W 0 a), .agg (W 0 b)]=some (iv (if a<b then-1 else if b<a then 1 else 0)):=by
 refine af hF OB ?_
 conv=>enter [1,3];cbv
 by_cases h1:a<b
 ·simp[h1]
 ·by_cases h2:b<a
  ·simp[h1,h2]
  ·simp[h1,h2]
theorem Il:FD= .lets [.mk (.pk (.ibin .eql)) [.t 2, .q (.v (.int .u64 0))]] (.ite (.t 3) (.bad 2 none) (.lets [.mk (.pk (.ibin .leq)) [.t 2, .t 0]] (.ite (.t 4) (.bad 4 none) (.lets [.mk (.pk (.ibin .eql)) [.t 0, .q (.v (.int .u64 0))]] (.ite (.t 5) (.lets [.mk (.pk (.ibin .rem)) [.t 1, .t 2]] (.lets [.mk (.pk (.ibin .quo)) [.t 1, .t 2]] (.ret (.mk .tup [.mk .bq [.t 7], .mk .bq [.t 6]])))) (sub [0,1,0,1,0,1] FD)))))):=by kernel_rfl
theorem adu(hF:Fr H)(a d:Nat)(ha:a<18446744073709551616)(hd:d≠0):GK H 154 [uw 0,uw a,uw d]=some (.tup [uw (a/d),uw (a%d)]):=by
 refine af hF OP ?_;rw[Il];have k1:=uw.rem (G:=GK H) (a:=a) hd;have k2:=uw.quo (G:=GK H) (a:=a) hd ha;simp[hd,k1,k2]
theorem XT(hF:Fr H)(a d:Nat)(ha:a<18446744073709551616)(hd:d≠0):GK H 106 [.agg (W 0 a),uw d]=some (.tup [.agg (W 0 (a/d)),uw (a%d)]):=by
 refine af hF OD ?_
 conv=>enter [1,3];cbv
 have k:XK.run (GK H) (.call false 154) [uw 0,uw a,uw d]=some (.tup [uw (a/d),uw (a%d)]):=ag (adu hF a d ha hd) rfl rfl;have k1:=uw.rem (G:=GK H) (a:=0) hd;have k2:=uw.quo (G:=GK H) (a:=0) hd (by omega);rw[Nat.zero_mod]at k1;rw[Nat.zero_div]at k2;simp[-fu,k,k1,k2]
theorem TN(hF:Fr H)(m:Bool)(n d:Nat)(hn:n<9223372036854775808)(hd:d<9223372036854775808):GK H 107 [bv m, .agg (W 0 n), .agg (W 0 d)]=some (.tup [.agg (Fq.cells ⟨if m then-(n:Int)else n,d⟩),iv 0]):=by
 refine af hF OF ?_
 conv=>enter [1,3];cbv
 have k1:=uw.int (G:=GK H) (a:=d) hd;have k2:=uw.int (G:=GK H) (a:=n) hn;have hn1: ¬9223372036854775807<n:=by omega
 have hn2: ¬9223372036854775808<n:=by omega
 have hd1: ¬9223372036854775807<d:=by omega
 cases m with
 |true=>
  by_cases h0:n=0
  ·subst h0;have k3:=uw.ad5 (G:=GK H);have k4:=uw.int (G:=GK H) (a:=0) (by omega);simp[k1,k3,k4,hd1];exact⟨rfl,rfl⟩
  ·have k3:=uw.neg (G:=GK H) (a:=n) (by omega) (by omega);have k4:=uw.adh (G:=GK H) (a:=n) (by omega) (by omega);simp[k1,k3,k4,hn2,hd1];exact⟨rfl,rfl⟩
 |false=>
  simp[k1,k2,hn1,hd1];exact⟨rfl,rfl⟩
def Fq.rg(f:Fq):Prop:=(-9223372036854775808≤f.n∧f.n<9223372036854775808)∧(-9223372036854775808≤f.d∧f.d<9223372036854775808)
theorem l62(hF:Fr H)(f:Fq)(hr:f.rg):GK H 62 [.agg f.cells]=some (bv (decide (0<f.d)&&decide (Nat.gcd f.n.natAbs f.d.natAbs=1))):=by
 refine af hF ZQ ?_
 conv=>enter [1,3];cbv
 obtain⟨⟨a1,a2⟩,a3,a4⟩:=hr;have k1:XK.run (GK H) (.call false 101) [iv f.n]=some (uw f.n.natAbs):=ag (sD hF a1 a2) rfl rfl;have k2:XK.run (GK H) (.call false 101) [iv f.d]=some (uw f.d.natAbs):=ag (sD hF a3 a4) rfl rfl;have k3:XK.run (GK H) (.call false 100) [uw f.n.natAbs,uw f.d.natAbs]=some (uw (Nat.gcd f.n.natAbs f.d.natAbs)):=ag (Gt hF _ _ (by omega) (by omega)) rfl rfl;by_cases h:0<f.d
 ·simp[h,k1,k2,k3]
 ·simp[h]
theorem Bs(hF:Fr H)(f:Fq)(hr:f.rg)(hf:f.ok):XK.run (GK H) (.call false 62) [.agg f.cells]=some (bv true):=by
 have h:=l62 hF f hr;rw[decide_eq_true hf.1,decide_eq_true hf.2]at h;exact ag h rfl rfl
theorem cK{a b N:Nat}(h:a*b<N)(hb:0<b):a<N:=Nat.lt_of_le_of_lt (Nat.le_mul_of_pos_right _ hb) h
theorem l63(hB:Fb H)(f g:Fq)(hf:f.ok)(hg:g.ok)(h1:f.n.natAbs*g.d.natAbs+g.n.natAbs*f.d.natAbs<9223372036854775808)(h2:f.d.natAbs*g.d.natAbs<9223372036854775808):
  GK H 63 [.agg f.cells, .agg g.cells,bv (decide (g.n<0))]=some (.tup [.agg (red (f.n*g.d+g.n*f.d) (f.d*g.d)).cells,iv 0]):=by
 have hF:=hB.fr;refine af hF ZR ?_;rw[aeU];have f1:=hf.1;have g1:=hg.1;have fd0:0<f.d.natAbs:=by omega
 have gd0:0<g.d.natAbs:=by omega
 have b1:f.n.natAbs<9223372036854775808:=cK (b:=g.d.natAbs) (by omega) gd0;have b2:g.n.natAbs<9223372036854775808:=cK (b:=f.d.natAbs) (by omega) fd0;have b3:f.d.natAbs<9223372036854775808:=cK h2 gd0;have b4:g.d.natAbs<9223372036854775808:=cK (b:=f.d.natAbs) (by rw[Nat.mul_comm];exact h2) fd0;have k1:XK.run (GK H) (.call false 101) [iv f.n]=some (uw f.n.natAbs):=ag (sD hF (by omega) (by omega)) rfl rfl;have k2:XK.run (GK H) (.call false 101) [iv f.d]=some (uw f.d.natAbs):=ag (sD hF (by omega) (by omega)) rfl rfl;have k3:XK.run (GK H) (.call false 101) [iv g.n]=some (uw g.n.natAbs):=ag (sD hF (by omega) (by omega)) rfl rfl;have k4:XK.run (GK H) (.call false 101) [iv g.d]=some (uw g.d.natAbs):=ag (sD hF (by omega) (by omega)) rfl rfl;have k5:XK.run (GK H) (.call false 100) [uw f.d.natAbs,uw g.d.natAbs]=some (uw (Nat.gcd f.d.natAbs g.d.natAbs)):=ag (Gt hF _ _ (by omega) (by omega)) rfl rfl;generalize hk:Nat.gcd f.d.natAbs g.d.natAbs=k at k5;have hk0:0<k:=by rw[←hk];exact Nat.gcd_pos_of_pos_left _ fd0
 have hk1:k≤f.d.natAbs:=by rw[←hk];exact Nat.gcd_le_left _ fd0
 have k6:=uw.quo (G:=GK H) (a:=g.d.natAbs) (b:=k) (by omega) (by omega);have k7:=uw.quo (G:=GK H) (a:=f.d.natAbs) (b:=k) (by omega) (by omega);have c1:f.n.natAbs*(g.d.natAbs/k)≤f.n.natAbs*g.d.natAbs:=Nat.mul_le_mul_left _ (Nat.div_le_self ..);have c2:g.n.natAbs*(f.d.natAbs/k)≤g.n.natAbs*f.d.natAbs:=Nat.mul_le_mul_left _ (Nat.div_le_self ..);have k8:XK.run (GK H) (.call false 102) [uw f.n.natAbs,uw (g.d.natAbs/k)]=some (.agg (W 0 (f.n.natAbs*(g.d.natAbs/k)))):=ag (Je hF _ _ (by omega) (by omega) (by have:=Nat.div_le_self g.d.natAbs k;omega)) rfl rfl;have k9:XK.run (GK H) (.call false 102) [uw g.n.natAbs,uw (f.d.natAbs/k)]=some (.agg (W 0 (g.n.natAbs*(f.d.natAbs/k)))):=ag (Je hF _ _ (by omega) (by omega) (by have:=Nat.div_le_self f.d.natAbs k;omega)) rfl rfl
 have fin: ∀(m:Bool) (t:Nat) (s:Int),s=f.n*((g.d.natAbs/k:Nat):Int)+g.n*((f.d.natAbs/k:Nat):Int)→s.natAbs=t→s=(if m then-(t:Int)else t)→t<9223372036854775808→
   XK.run (GK H) (.call false 106) [.agg (W 0 t),uw k]=some (.tup [.agg (W 0 (t/k)),uw (t%k)])∧XK.run (GK H) (.call false 100) [uw k,uw (t%k)]=some (uw (Nat.gcd k t))∧
   XK.run (GK H) (.call false 106) [.agg (W 0 t),uw (Nat.gcd k t)]=some (.tup [.agg (W 0 (t/Nat.gcd k t)),uw (t%Nat.gcd k t)])∧XK.run (GK H) (.pk (.ibin .quo)) [uw g.d.natAbs,uw (Nat.gcd k t)]=some (uw (g.d.natAbs/Nat.gcd k t))∧
   XK.run (GK H) (.call false 102) [uw (f.d.natAbs/k),uw (g.d.natAbs/Nat.gcd k t)]=some (.agg (W 0 (f.d.natAbs/k*(g.d.natAbs/Nat.gcd k t))))∧
   XK.run (GK H) (.call false 107) [bv m, .agg (W 0 (t/Nat.gcd k t)), .agg (W 0 (f.d.natAbs/k*(g.d.natAbs/Nat.gcd k t)))]=some (.tup [.agg (red (f.n*g.d+g.n*f.d) (f.d*g.d)).cells,iv 0]):=fun m t s hs ht hm htl=>by
  have hg0:0<Nat.gcd k t:=Nat.gcd_pos_of_pos_left _ hk0;have hgk:Nat.gcd k t≤k:=Nat.gcd_le_left _ hk0;have d1:f.d.natAbs/k*(g.d.natAbs/Nat.gcd k t)≤f.d.natAbs*g.d.natAbs:=Nat.mul_le_mul (Nat.div_le_self ..) (Nat.div_le_self ..);have d2:=Nat.div_le_self f.d.natAbs k;have d3:=Nat.div_le_self g.d.natAbs (Nat.gcd k t);have d4:=Nat.mod_lt t hk0;have d5:=Nat.div_le_self t (Nat.gcd k t);have e1:Nat.gcd k (t%k)=Nat.gcd k t:=by rw[Nat.gcd_comm k (t%k),←Nat.gcd_rec]
  refine⟨ag (XT hF t k (by omega) (by omega)) rfl rfl, ?_,ag (XT hF t _ (by omega) (by omega)) rfl rfl,uw.quo (by omega) (by omega),ag (Je hF _ _ (by omega) (by omega) (by omega)) rfl rfl, ?_⟩
  ·rw[←e1];exact ag (Gt hF _ _ (by omega) (by omega)) rfl rfl
  ·have e2:=KQ hf hg hk.symm hs ht (m:=if m then-((t/Nat.gcd k t:Nat):Int)else((t/Nat.gcd k t:Nat):Int)) (by
    have h3:t/Nat.gcd k t*Nat.gcd k t=t:=Nat.div_mul_cancel (Nat.gcd_dvd_right ..);have h4:((t/Nat.gcd k t:Nat):Int)*((Nat.gcd k t:Nat):Int)=(t:Int):=by rw[←Int.natCast_mul,h3]
    rw[hm];split
    ·rw[Int.neg_mul,h4]
    ·exact h4)
   rw[←e2];exact ag (TN hF m _ _ (by omega) (by omega)) rfl rfl
 have sgn: ∀(z:Int) (p:Nat),z*(p:Int)=if z<0 then-((z.natAbs*p:Nat):Int)else((z.natAbs*p:Nat):Int):=fun z p=>by
  rw[Int.natCast_mul];split
  ·rw[show((z.natAbs:Nat):Int)= -z by omega,Int.neg_mul,Int.neg_neg]
  ·rw[show((z.natAbs:Nat):Int)=z by omega]
 have sx:=sgn f.n (g.d.natAbs/k);have sy:=sgn g.n (f.d.natAbs/k);have k10: ∀a b:Nat,a+b<9223372036854775808→XK.run (GK H) (.call false 103) [.agg (W 0 a), .agg (W 0 b)]=some (.agg (W 0 (a+b))):=fun a b h=>ag (adm hB a b (by omega)) rfl rfl;have VB: ∀a b:Nat,XK.run (GK H) (.call false 104) [.agg (W 0 a), .agg (W 0 b)]=some (iv (if a<b then-1 else if b<a then 1 else 0)):=fun a b=>ag (ado hF a b) rfl rfl;have k12: ∀a b:Nat,b≤a→a<9223372036854775808→XK.run (GK H) (.call false 105) [.agg (W 0 a), .agg (W 0 b)]=some (.agg (W 0 (a-b))):=fun a b h h'=>ag (adp hB a b h (by omega)) rfl rfl;generalize f.n.natAbs*(g.d.natAbs/k)=x at*;generalize g.n.natAbs*(f.d.natAbs/k)=y at*;generalize f.n*((g.d.natAbs/k:Nat):Int)=X at*;generalize g.n*((f.d.natAbs/k:Nat):Int)=Y at*;by_cases hs:decide (f.n<0)=decide (g.n<0)
 ·obtain⟨q1,q2,q3,q4,q5,q6⟩:=fin (decide (g.n<0)) (x+y) (X+Y) rfl (by
   rw[sx,sy];by_cases h:g.n<0<;>simp only[h,decide_true,decide_false,decide_eq_true_eq,decide_eq_false_iff_not]at hs<;>simp only[hs,h,if_true,if_false]<;>omega) (by
   rw[sx,sy];by_cases h:g.n<0<;>simp only[h,decide_true,decide_false,decide_eq_true_eq,decide_eq_false_iff_not]at hs<;>simp[hs,h]<;>omega) (by omega)
  have q:=k10 x y (by omega);simp[-fu,-bN,k1,k2,k3,k4,k5,k6,k7,k8,k9,hs,q,q1,q2,q3,q4,q5,q6]
 ·by_cases hxy:x<y
  ·obtain⟨q1,q2,q3,q4,q5,q6⟩:=fin (decide (g.n<0)) (y-x) (X+Y) rfl (by
    rw[sx,sy];by_cases h:g.n<0<;>simp only[h,decide_true,decide_false,decide_eq_true_eq,decide_eq_false_iff_not]at hs<;>simp only[h,if_true,if_false]<;>split<;>first|omega|contradiction) (by
    rw[sx,sy];by_cases h:g.n<0<;>simp[h]at hs⊢ <;>split<;>omega) (by omega)
   have q:=k12 y x (by omega) (by omega);have q0:=VB x y;rw[if_pos hxy]at q0;simp[-fu,-bN,k1,k2,k3,k4,k5,k6,k7,k8,k9,hs,q,q0,q1,q2,q3,q4,q5,q6]
  ·obtain⟨q1,q2,q3,q4,q5,q6⟩:=fin (decide (f.n<0)) (x-y) (X+Y) rfl (by
    rw[sx,sy];by_cases h:g.n<0<;>simp only[h,decide_true,decide_false,decide_eq_true_eq,decide_eq_false_iff_not]at hs<;>simp only[h,if_true,if_false]<;>split<;>first|omega|contradiction) (by
    rw[sx,sy];by_cases h:g.n<0<;>simp[h]at hs⊢ <;>split<;>omega) (by omega)
   have q:=k12 x y (by omega) (by omega);have q0:=VB x y;rw[if_neg hxy]at q0;by_cases hyx:y<x
   ·rw[if_pos hyx]at q0;simp[-fu,-bN,k1,k2,k3,k4,k5,k6,k7,k8,k9,hs,q,q0,q1,q2,q3,q4,q5,q6]
   ·rw[if_neg hyx]at q0;simp[-fu,-bN,k1,k2,k3,k4,k5,k6,k7,k8,k9,hs,q,q0,q1,q2,q3,q4,q5,q6]
theorem A0{f:Fq}(hf:f.ok)(h1:f.n.natAbs<9223372036854775808)(h2:f.d.natAbs<9223372036854775808):f.rg:=⟨by omega,by have:=hf.1;omega⟩
theorem l25(hB:Fb H)(f g:Fq)(hf:f.ok)(hg:g.ok)(h1:f.n.natAbs*g.d.natAbs+g.n.natAbs*f.d.natAbs<9223372036854775808)(h2:f.d.natAbs*g.d.natAbs<9223372036854775808):
  GK H 25 [.agg f.cells, .agg g.cells]=some (.tup [.agg (red (f.n*g.d+g.n*f.d) (f.d*g.d)).cells,iv 0]):=by
 refine af hB.fr Zp ?_
 conv=>enter [1,3];cbv
 have f1:=hf.1;have g1:=hg.1;have fd0:0<f.d.natAbs:=by omega
 have gd0:0<g.d.natAbs:=by omega
 have b1:f.n.natAbs<9223372036854775808:=cK (b:=g.d.natAbs) (by omega) gd0;have b2:g.n.natAbs<9223372036854775808:=cK (b:=f.d.natAbs) (by omega) fd0;have b3:f.d.natAbs<9223372036854775808:=cK h2 gd0;have b4:g.d.natAbs<9223372036854775808:=cK (b:=f.d.natAbs) (by rw[Nat.mul_comm];exact h2) fd0;have k1:=Bs hB.fr f (A0 hf b1 b3) hf;have k2:=Bs hB.fr g (A0 hg b2 b4) hg;have k3:XK.run (GK H) (.call false 63) [.agg f.cells, .agg g.cells,bv (decide (g.n<0))]=some (.tup [.agg (red (f.n*g.d+g.n*f.d) (f.d*g.d)).cells,iv 0]):=ag (l63 hB f g hf hg h1 h2) rfl rfl;simp[-bN,k1,k2,k3]
theorem X5(hF:Fr H)(n d:Int)(hn:n.natAbs<9223372036854775808)(hd0:0<d)(hd:d<9223372036854775808):GK H 244 [iv n,iv d]=some (.tup [.agg (red n d).cells,iv 0]):=by
 refine af hF Pf ?_
 conv=>enter [1,3];cbv
 have hz: ¬d=0:=by omega
 have hz2: ¬d<0:=by omega
 have k1:XK.run (GK H) (.call false 101) [iv n]=some (uw n.natAbs):=ag (sD hF (by omega) (by omega)) rfl rfl;have k2:XK.run (GK H) (.call false 101) [iv d]=some (uw d.natAbs):=ag (sD hF (by omega) (by omega)) rfl rfl;have k3:XK.run (GK H) (.call false 100) [uw n.natAbs,uw d.natAbs]=some (uw (Nat.gcd n.natAbs d.natAbs)):=ag (Gt hF _ _ (by omega) (by omega)) rfl rfl;have hg:=sW (n:=n) hd0;have q1:=Nat.div_le_self n.natAbs (Nat.gcd n.natAbs d.natAbs);have q2:=Nat.div_le_self d.natAbs (Nat.gcd n.natAbs d.natAbs);have k4:=uw.quo (G:=GK H) (a:=n.natAbs) (b:=Nat.gcd n.natAbs d.natAbs) (by omega) (by omega);have k5:=uw.quo (G:=GK H) (a:=d.natAbs) (b:=Nat.gcd n.natAbs d.natAbs) (by omega) (by omega)
 have e:(⟨if decide (n<0)=true then-((n.natAbs/Nat.gcd n.natAbs d.natAbs:Nat):Int)else((n.natAbs/Nat.gcd n.natAbs d.natAbs:Nat):Int),((d.natAbs/Nat.gcd n.natAbs d.natAbs:Nat):Int)⟩:Fq)=red n d:=by
  refine Ij ?_ ?_
  ·show _=n/(Nat.gcd n.natAbs d.natAbs:Nat);have hdv:((Nat.gcd n.natAbs d.natAbs:Nat):Int)∣(n.natAbs:Int):=Int.natCast_dvd_natCast.2 (Nat.gcd_dvd_left ..);by_cases h:n<0
   ·rw[if_pos (by simpa using h),Int.natCast_ediv,←Int.neg_ediv_of_dvd hdv,show-(n.natAbs:Int)=n by omega]
   ·rw[if_neg (by simpa using h),Int.natCast_ediv,show(n.natAbs:Int)=n by omega]
  ·show((d.natAbs/Nat.gcd n.natAbs d.natAbs:Nat):Int)=d/(Nat.gcd n.natAbs d.natAbs:Nat);rw[Int.natCast_ediv];generalize((Nat.gcd n.natAbs d.natAbs:Nat):Int)=q;rw[show(d.natAbs:Int)=d by omega]
 have k6:XK.run (GK H) (.call false 107) [bv (decide (n<0)), .agg (W 0 (n.natAbs/Nat.gcd n.natAbs d.natAbs)), .agg (W 0 (d.natAbs/Nat.gcd n.natAbs d.natAbs))]=some (.tup [.agg (red n d).cells,iv 0]):=by
  rw[←e];exact ag (TN hF _ _ _ (by omega) (by omega)) rfl rfl
 simp[-bN,-fu,hz,hz2,k1,k2,k3,k4,k5,k6]
theorem adH(hF:Fr H)(m:Bool)(a b c d:Nat)(hb:0<b)(hd:0<d)(h1:a*c<9223372036854775808)(h2:b*d<9223372036854775808)(ha:a<9223372036854775808)(hc:c<9223372036854775808):
  GK H 265 [bv m,uw a,uw b,uw c,uw d]=some (.tup [.agg (Fq.cells ⟨if m then-((a/Nat.gcd a d*(c/Nat.gcd c b):Nat):Int)else((a/Nat.gcd a d*(c/Nat.gcd c b):Nat):Int),((b/Nat.gcd c b*(d/Nat.gcd a d):Nat):Int)⟩),iv 0]):=by
 refine af hF Po ?_
 conv=>enter [1,3];cbv
 have b3:b<9223372036854775808:=cK h2 hd;have b4:d<9223372036854775808:=cK (b:=b) (by rw[Nat.mul_comm];exact h2) hb;have hg:0<Nat.gcd a d:=Nat.gcd_pos_of_pos_right _ hd;have hh:0<Nat.gcd c b:=Nat.gcd_pos_of_pos_right _ hb;have k1:XK.run (GK H) (.call false 100) [uw c,uw b]=some (uw (Nat.gcd c b)):=ag (Gt hF _ _ (by omega) (by omega)) rfl rfl;have k2:XK.run (GK H) (.call false 100) [uw a,uw d]=some (uw (Nat.gcd a d)):=ag (Gt hF _ _ (by omega) (by omega)) rfl rfl;generalize Nat.gcd a d=g at*;generalize Nat.gcd c b=h at*;have q1:=uw.quo (G:=GK H) (a:=a) (b:=g) (by omega) (by omega);have q2:=uw.quo (G:=GK H) (a:=c) (b:=h) (by omega) (by omega);have q3:=uw.quo (G:=GK H) (a:=b) (b:=h) (by omega) (by omega);have q4:=uw.quo (G:=GK H) (a:=d) (b:=g) (by omega) (by omega);have p1:a/g*(c/h)≤a*c:=Nat.mul_le_mul (Nat.div_le_self ..) (Nat.div_le_self ..);have p2:b/h*(d/g)≤b*d:=Nat.mul_le_mul (Nat.div_le_self ..) (Nat.div_le_self ..);have s1:=Nat.div_le_self a g;have s2:=Nat.div_le_self c h;have s3:=Nat.div_le_self b h;have s4:=Nat.div_le_self d g;have k3:XK.run (GK H) (.call false 102) [uw (a/g),uw (c/h)]=some (.agg (W 0 (a/g*(c/h)))):=ag (Je hF _ _ (by omega) (by omega) (by omega)) rfl rfl;have k4:XK.run (GK H) (.call false 102) [uw (b/h),uw (d/g)]=some (.agg (W 0 (b/h*(d/g)))):=ag (Je hF _ _ (by omega) (by omega) (by omega)) rfl rfl;have k5:XK.run (GK H) (.call false 107) [bv m, .agg (W 0 (a/g*(c/h))), .agg (W 0 (b/h*(d/g)))]=some (.tup [.agg (Fq.cells ⟨if m then-((a/g*(c/h):Nat):Int)else((a/g*(c/h):Nat):Int),((b/h*(d/g):Nat):Int)⟩),iv 0]):=ag (TN hF m _ _ (by omega) (by omega)) rfl rfl;simp[-bN,-Int.natCast_mul,k1,k2,q1,q2,q3,q4,k3,k4,k5]
theorem adD(hF:Fr H)(f g:Fq)(hf:f.ok)(hg:g.ok)(h1:f.n.natAbs*g.n.natAbs<9223372036854775808)(h2:f.d.natAbs*g.d.natAbs<9223372036854775808)(b1:f.n.natAbs<9223372036854775808)(b2:g.n.natAbs<9223372036854775808):
  GK H 245 [.agg f.cells, .agg g.cells]=some (.tup [.agg (red (f.n*g.n) (f.d*g.d)).cells,iv 0]):=by
 refine af hF Pg ?_
 conv=>enter [1,3];cbv
 have f1:=hf.1;have g1:=hg.1;have fd0:0<f.d.natAbs:=by omega
 have gd0:0<g.d.natAbs:=by omega
 have b3:f.d.natAbs<9223372036854775808:=cK h2 gd0;have b4:g.d.natAbs<9223372036854775808:=cK (b:=f.d.natAbs) (by rw[Nat.mul_comm];exact h2) fd0;have k1:=Bs hF f (A0 hf b1 b3) hf;have k2:=Bs hF g (A0 hg b2 b4) hg;have k3:XK.run (GK H) (.call false 101) [iv f.n]=some (uw f.n.natAbs):=ag (sD hF (by omega) (by omega)) rfl rfl;have k4:XK.run (GK H) (.call false 101) [iv f.d]=some (uw f.d.natAbs):=ag (sD hF (by omega) (by omega)) rfl rfl;have k5:XK.run (GK H) (.call false 101) [iv g.n]=some (uw g.n.natAbs):=ag (sD hF (by omega) (by omega)) rfl rfl;have k6:XK.run (GK H) (.call false 101) [iv g.d]=some (uw g.d.natAbs):=ag (sD hF (by omega) (by omega)) rfl rfl;have k7:=adH hF (decide (f.n<0) !=decide (g.n<0)) f.n.natAbs f.d.natAbs g.n.natAbs g.d.natAbs fd0 gd0 h1 h2 b1 b2
 have e:=Mq hf hg (m:=if(decide (f.n<0) !=decide (g.n<0))=true then-((f.n.natAbs/Nat.gcd f.n.natAbs g.d.natAbs*(g.n.natAbs/Nat.gcd g.n.natAbs f.d.natAbs):Nat):Int)else((f.n.natAbs/Nat.gcd f.n.natAbs g.d.natAbs*(g.n.natAbs/Nat.gcd g.n.natAbs f.d.natAbs):Nat):Int)) (by split<;>omega) (by
  have d1:f.n.natAbs/Nat.gcd f.n.natAbs g.d.natAbs*Nat.gcd f.n.natAbs g.d.natAbs=f.n.natAbs:=Nat.div_mul_cancel (Nat.gcd_dvd_left ..);have d2:g.n.natAbs/Nat.gcd g.n.natAbs f.d.natAbs*Nat.gcd g.n.natAbs f.d.natAbs=g.n.natAbs:=Nat.div_mul_cancel (Nat.gcd_dvd_left ..);generalize f.n.natAbs/Nat.gcd f.n.natAbs g.d.natAbs=x at*;generalize g.n.natAbs/Nat.gcd g.n.natAbs f.d.natAbs=y at*;generalize Nat.gcd f.n.natAbs g.d.natAbs=p at*;generalize Nat.gcd g.n.natAbs f.d.natAbs=q at*;have e1:(x:Int)*p=f.n.natAbs:=by rw[←Int.natCast_mul,d1]
  have e2:(y:Int)*q=g.n.natAbs:=by rw[←Int.natCast_mul,d2]
  have e3:((x*y:Nat):Int)*p*q=(f.n.natAbs:Int)*g.n.natAbs:=by rw[←e1,←e2,Int.natCast_mul];grind
  by_cases s1:f.n<0<;>by_cases s2:g.n<0<;>simp only[s1,s2,decide_true,decide_false,bne_self_eq_false,Bool.false_eq_true,if_false,if_true,show(true !=false)=true from rfl,show(false !=true)=true from rfl]
  ·rw[e3,show(f.n.natAbs:Int)= -f.n by omega,show(g.n.natAbs:Int)= -g.n by omega,Int.neg_mul_neg]
  ·rw[Int.neg_mul,Int.neg_mul,e3,show(f.n.natAbs:Int)= -f.n by omega,show(g.n.natAbs:Int)=g.n by omega,Int.neg_mul,Int.neg_neg]
  ·rw[Int.neg_mul,Int.neg_mul,e3,show(f.n.natAbs:Int)=f.n by omega,show(g.n.natAbs:Int)= -g.n by omega,Int.mul_neg,Int.neg_neg]
  ·rw[e3,show(f.n.natAbs:Int)=f.n by omega,show(g.n.natAbs:Int)=g.n by omega])
 rw[e]at k7;have k8:XK.run (GK H) (.call false 265) [bv (decide (f.n<0) !=decide (g.n<0)),uw f.n.natAbs,uw f.d.natAbs,uw g.n.natAbs,uw g.d.natAbs]=some (.tup [.agg (red (f.n*g.n) (f.d*g.d)).cells,iv 0]):=ag k7 rfl rfl;simp[-bN,k1,k2,k3,k4,k5,k6,k8]
end Ty
end
section
open Go.RowKit Go.Sort
namespace Ty
theorem Of(f:Nat)(h: [54,90,166,167,168,123,11].contains f=false): ∀p∈KM,p.1≠f:=fun p hp e=>by
 have hk:KM.all (fun p=> [54,90,166,167,168,123,11].contains p.1)=true:=by kernel_rfl
 have:=Tz.1 hk p hp;rw[e,h]at this;cases this
theorem Xs:Fb HM where
 fr:=NY.fr
 a ds:=by
  show eh KM dA 152 ds=_;rw[gU (Of 152 (by decide))];rfl
 s ds:=by
  show eh KM dA 153 ds=_;rw[gU (Of 153 (by decide))];rfl
end Ty
end
section
namespace Ty
end Ty
end
section
namespace Ty
variable {H : FP}
theorem zf{a b:Int}(hb:0<b):(red a b).n.natAbs≤a.natAbs∧(red a b).d.natAbs≤b.natAbs:=by
 have h1:= @Fo a b;have h2:= @Fm a b;have hg:=sW (n:=a) hb;generalize Nat.gcd a.natAbs b.natAbs=g at*;generalize red a b=f at*;have e1:a.natAbs=f.n.natAbs*g:=by rw[←h1,Int.natAbs_mul];rfl
 have e2:b.natAbs=f.d.natAbs*g:=by rw[←h2,Int.natAbs_mul];rfl
 exact⟨by rw[e1];exact Nat.le_mul_of_pos_right _ hg,by rw[e2];exact Nat.le_mul_of_pos_right _ hg⟩
theorem uU{a b:Int}(hb:0<b):0<(red a b).d:=(oI hb).1
theorem ME{a b c d:Int}(hb:0<b)(hd:0<d):red ((red a b).n*d+c*(red a b).d) ((red a b).d*d)=red (a*d+c*b) (b*d):=by
 have h:=kT (n:=a) hb;refine JH (Int.mul_pos (uU hb) hd) (Int.mul_pos hb hd) ?_
 grind
theorem MF{a b c d:Int}(hb:0<b)(hd:0<d):red ((red a b).n*(red c d).n) ((red a b).d*(red c d).d)=red (a*c) (b*d):=by
 have h:=kT (n:=a) hb;have h':=kT (n:=c) hd;refine JH (Int.mul_pos (uU hb) (uU hd)) (Int.mul_pos hb hd) ?_
 grind
theorem Jy(n:Int):(⟨n,1⟩:Fq).ok:=⟨show(0:Int)<1 by decide,by simp⟩
theorem X8(hB:Fb H)(a b n:Int)(hb:0<b)(h1:a.natAbs+n.natAbs*b.natAbs<9223372036854775808)(h2:b.natAbs<9223372036854775808):GK H 279 [.agg (red a b).cells, .lptr [iv n]]=some (.tup [.agg (red (a+n*b) b).cells,iv 0]):=by
 refine af hB.fr Pv ?_
 conv=>enter [1,3];cbv
 have q:=zf (a:=a) hb;have q1:n.natAbs*(red a b).d.natAbs≤n.natAbs*b.natAbs:=Nat.mul_le_mul_left _ q.2;have h:=l25 hB (red a b) ⟨n,1⟩ (oI hb) (Jy n) (by show(red a b).n.natAbs*1+n.natAbs*(red a b).d.natAbs<_;omega) (by show(red a b).d.natAbs*1<_;omega);have e:red ((red a b).n*1+n*(red a b).d) ((red a b).d*1)=red (a+n*b) b:=by rw[ME hb (by decide),Int.mul_one,Int.mul_one]
 rw[show(⟨n,1⟩:Fq).n=n from rfl,show(⟨n,1⟩:Fq).d=1 from rfl,e]at h;have k:XK.run (GK H) (.call false 25) [.agg (red a b).cells, .agg [iv n,iv 1]]=some (.tup [.agg (red (a+n*b) b).cells,iv 0]):=ag h rfl rfl;simp[-bN,k]
theorem X4(hF:Fr H)(a b n d:Int)(hb:0<b)(hd:0<d)(h1:a.natAbs*n.natAbs<9223372036854775808)(h2:b.natAbs*d.natAbs<9223372036854775808)(ha:a.natAbs<9223372036854775808)(hn:n.natAbs<9223372036854775808):
  GK H 243 [.agg (red a b).cells, .lptr [iv n], .lptr [iv d]]=some (.tup [.agg (red (a*n) (b*d)).cells,iv 0]):=by
 refine af hF Pe ?_
 conv=>enter [1,3];cbv
 have hdd:d.natAbs<9223372036854775808:=cK (b:=b.natAbs) (by rw[Nat.mul_comm];exact h2) (by omega);have k1:XK.run (GK H) (.call false 244) [iv n,iv d]=some (.tup [.agg (red n d).cells,iv 0]):=ag (X5 hF n d hn hd (by omega)) rfl rfl;have q:=zf (a:=a) hb;have q':=zf (a:=n) hd;have h:=adD hF (red a b) (red n d) (oI hb) (oI hd) (Nat.lt_of_le_of_lt (Nat.mul_le_mul q.1 q'.1) h1) (Nat.lt_of_le_of_lt (Nat.mul_le_mul q.2 q'.2) h2) (by omega) (by omega);rw[MF hb hd]at h;have k2:XK.run (GK H) (.call false 245) [.agg (red a b).cells, .agg (red n d).cells]=some (.tup [.agg (red (a*n) (b*d)).cells,iv 0]):=ag h rfl rfl;simp[-bN,k1,k2]
theorem X0(hF:Fr H)(a b:Int):XK.run (GK H) (.call false 196) [iv a,iv b]=some (.clo 243 [.lptr [iv a], .lptr [iv b]]):=by
 refine ag (af hF OZ (d:= .clo 243 [.lptr [iv a], .lptr [iv b]]) ?_) rfl rfl
 kernel_rfl
theorem X6(hF:Fr H)(a:Int):XK.run (GK H) (.call false 263) [iv a]=some (.clo 279 [.lptr [iv a]]):=by
 refine ag (af hF Pn (d:= .clo 279 [.lptr [iv a]]) ?_) rfl rfl
 kernel_rfl
theorem XZ(hF:Fr H)(cs:List D)(ff:Nat→Fq)(hl:cs.length<9999)(hT: ∀c∈cs,c.aF=true)(hs: ∀(i:Nat) (c:D),cs[i]?=some c→XK.run (GK H) (.ccall false) [c, .agg (ff i).cells]=some (.tup [.agg (ff (i+1)).cells,iv 0])):
  GK H 195 [.agg (ff 0).cells, .list (cs.map fun c=> [c])]=some (.tup [.agg (ff cs.length).cells,iv 0]):=by
 refine af hF OY ?_
 conv=>enter [1,3];cbv
 have kk: ∀i,XK.run (GK H) .agg [iv (ff i).n,iv (ff i).d]=some (.agg (ff i).cells):=fun i=>Fq.Mu;simp[-bN,-fu];refine aI (n:=cs.length) (fun i=> [iv (i:Int),iv 0,iv (ff i).n,iv (ff i).d]) (.tup [.agg (ff cs.length).cells,iv 0]) (by omega) ?_;intro rec i hi ih;cases h3:cs[i]? with
 |some c=>
  have l3:=(Gz.1 h3).1;have e3:cs[i]=c:=(Gz.1 h3).2;have ih:=ih (by omega);have k1:=hs i c h3;have k2:=hT c (Lz h3);have k3:=kk i;simp[-bN,-fu,l3,e3,k1,k2,k3,wr (z:=(i:Int)+1) (by omega) (by omega)];exact ih
 |none=>
  have l3:=List.getElem?_eq_none_iff.1 h3;have e:cs.length=i:=by omega
  have k3:=kk i;simp[-bN,-fu,e,k3]
theorem TQ(hF:Fr H)(a:Int):XK.run (GK H) (.call false 194) [iv a]=some (bv (decide (1≤a)&&decide (a≤24))):=by
 refine ag (af hF OX (d:=bv (decide (1≤a)&&decide (a≤24))) ?_) rfl rfl
 conv=>enter [1,3];cbv
 by_cases h:1≤a<;>simp[h]
theorem X1(hF:Fr H)(a:Int)(h1:1≤a)(h2:a≤1000):XK.run (GK H) (.call false 197) [iv a]=some (iv (2*(a-1))):=by
 refine ag (af hF O0 (d:=iv (2*(a-1))) ?_) rfl rfl
 conv=>enter [1,3];cbv
 have h: ¬a<1:=by omega
 simp[h,wr (z:=a-1) (by omega) (by omega),wr (z:=2*(a-1)) (by omega) (by omega)]
theorem adC(hB:Fb H)(s n all:Int)(hn:1≤n)(hna:n≤all)(ha:all≤24)(hs1:10000≤s)(hs2:s≤10000+(n-1)*20000):
  GK H 225 [.agg (red (s-10000) 10000).cells,iv n,iv all]=some (.tup [.agg (red (s*all-10000*n) (10000*n)).cells,iv 0]):=by
 have hF:=hB.fr;refine af hF O_ ?_
 conv=>enter [1,3];cbv
 have hb:(0:Int)<10000:=by decide
 have q:=zf (a:=s-10000) hb;have hok:=oI (n:=s-10000) hb;have hc:=kT (n:=s-10000) hb;have hd:=hok.1;have k1:=TQ hF all;rw[decide_eq_true (show(1:Int)≤all by omega),decide_eq_true ha]at k1;have k2:=Bs hF (red (s-10000) 10000) (A0 hok (by omega) (by omega)) hok;have k3:=X1 hF n hn (by omega);have k4:=X6 hF 1;have k5:=X0 hF all n;have k6:=X6 hF (-1)
 have g1: ¬(red (s-10000) 10000).n<0:=fun h=>by
  have:=Int.mul_neg_of_neg_of_pos h hb;have:=Int.mul_nonneg (show 0≤s-10000 by omega) (show 0≤(red (s-10000) 10000).d by omega);omega
 have g2: ¬2*(n-1)*(red (s-10000) 10000).d<(red (s-10000) 10000).n:=fun h=>by
  have a1:2*(n-1)*(red (s-10000) 10000).d*10000<(red (s-10000) 10000).n*10000:=Int.mul_lt_mul_of_pos_right h hb;have a2:(s-10000)*(red (s-10000) 10000).d≤(n-1)*20000*(red (s-10000) 10000).d:=Int.mul_le_mul_of_nonneg_right (by omega) (by omega);have a3:2*(n-1)*(red (s-10000) 10000).d*10000=(n-1)*20000*(red (s-10000) 10000).d:=by grind
  omega
 have g3: ¬10000<(red (s-10000) 10000).d:=by omega
 have w1:IntKind.i64.wrap (2*(n-1)*(red (s-10000) 10000).d)=2*(n-1)*(red (s-10000) 10000).d:=by
  have b1:2*(n-1)*(red (s-10000) 10000).d≤2*(n-1)*10000:=Int.mul_le_mul_of_nonneg_left (by omega) (by omega);have b2:0≤2*(n-1)*(red (s-10000) 10000).d:=Int.mul_nonneg (by omega) (by omega);exact wr (by omega) (by omega)
 have sa:s*all≤s*24:=Int.mul_le_mul_of_nonneg_left (by omega) (by omega);have sa0:0≤s*all:=Int.mul_nonneg (by omega) (by omega);have hs3:s≤480000:=by omega
 have t1:XK.run (GK H) (.ccall false) [.clo 279 [.lptr [iv 1]], .agg (red (s-10000) 10000).cells]=some (.tup [.agg (red s 10000).cells,iv 0]):=by
  have h:=X8 hB (s-10000) 10000 1 hb (by rw[show Int.natAbs 1*Int.natAbs 10000=10000 from rfl];omega) (by decide);rw[show s-10000+1*10000=s by omega]at h;exact(fZ (by decide) (cs:= [.lptr [iv 1]]) rfl).trans (ag h rfl rfl)
 have t2:XK.run (GK H) (.ccall false) [.clo 243 [.lptr [iv all], .lptr [iv n]], .agg (red s 10000).cells]=some (.tup [.agg (red (s*all) (10000*n)).cells,iv 0]):=by
  have h:=X4 hF s 10000 all n hb (by omega) (by rw[←Int.natAbs_mul];omega) (by rw[←Int.natAbs_mul];omega) (by omega) (by omega);exact(fZ (by decide) (cs:= [.lptr [iv all], .lptr [iv n]]) rfl).trans (ag h rfl rfl)
 have t3:XK.run (GK H) (.ccall false) [.clo 279 [.lptr [iv (-1)]], .agg (red (s*all) (10000*n)).cells]=some (.tup [.agg (red (s*all-10000*n) (10000*n)).cells,iv 0]):=by
  have h:=X8 hB (s*all) (10000*n) (-1) (by omega) (by rw[show Int.natAbs (-1)=1 from rfl];omega) (by omega);rw[show s*all+ -1*(10000*n)=s*all-10000*n by omega]at h;exact(fZ (by decide) (cs:= [.lptr [iv (-1)]]) rfl).trans (ag h rfl rfl)
 have k7:=XZ hF [.clo 279 [.lptr [iv 1]], .clo 243 [.lptr [iv all], .lptr [iv n]], .clo 279 [.lptr [iv (-1)]]] (fun i=>match i with|0=>red (s-10000) 10000|1=>red s 10000|2=>red (s*all) (10000*n)|_=>red (s*all-10000*n) (10000*n)) (by simp) (by intro c hc;simp only[List.mem_cons,List.not_mem_nil,or_false]at hc;rcases hc with rfl|rfl|rfl<;>rfl) (fun i c h=>by
  match i,h with
  |0,h=>cases h;exact t1
  |1,h=>cases h;exact t2
  |2,h=>cases h;exact t3)
 have k8:XK.run (GK H) (.call true 195) [.agg (red (s-10000) 10000).cells, .list [[.clo 279 [.lptr [iv 1]]],[.clo 243 [.lptr [iv all], .lptr [iv n]]],[.clo 279 [.lptr [iv (-1)]]]]]=some (.tup [.agg (red (s*all-10000*n) (10000*n)).cells,iv 0]):=ag k7 rfl rfl;have k9:XK.run (GK H) (.lit 1 3 [.v .nilFunc, .v .nilFunc, .v .nilFunc] [(0,1),(1,1),(2,1)]) [.clo 279 [.lptr [iv 1]], .clo 243 [.lptr [iv all], .lptr [iv n]], .clo 279 [.lptr [iv (-1)]]]=some (.list [[.clo 279 [.lptr [iv 1]]],[.clo 243 [.lptr [iv all], .lptr [iv n]]],[.clo 279 [.lptr [iv (-1)]]]]):=rfl;have n1: ¬n<1:=by omega
 have n2: ¬all<n:=by omega
 simp[-bN,k1,k2,k3,k4,k5,k6,k8,k9,g1,g2,g3,n1,n2,w1]
end Ty
end
section
namespace Ty
variable {H : FP}
structure Pt where
 p:Int
 w:Int
def Pt.cells(x:Pt):List D:= [iv x.p,iv x.w]
section
variable {G : FP} {x : Pt}
@[simp] theorem Pt.cell0:XK.run G (.cell 0 2) [.agg x.cells]=some (iv x.p):=nr rfl
@[simp] theorem Pt.fp:XK.run G (.cell 1 2) [.agg x.cells]=some (iv x.w):=nr rfl
@[simp] theorem Pt.fb:XK.run G (.pk (.fbox 2)) [.agg x.cells]=some (.lptr x.cells):=nr rfl
@[simp] theorem Pt.L4:XK.run G (.pk (.load 2 true)) [.lptr x.cells]=some (.agg x.cells):=nr rfl
@[simp] theorem Pt.L5:XK.run G (.pk (.load 1 false)) [.lptr x.cells]=some (iv x.p):=nr rfl
@[simp] theorem Pt.Oh:XK.run G (.pk (.load 1 false)) [.lptr x.cells.tail]=some (iv x.w):=nr rfl
@[simp] theorem Pt.bq:XK.run G .bq [.agg x.cells]=some (.agg x.cells):=nr rfl
@[simp] theorem Pt.aF:(D.agg x.cells).aF=true:=nr rfl
@[simp] theorem Pt.len:x.cells.length=2:=nr rfl
theorem Pt.Mu{a b:Int}:XK.run G .agg [iv a,iv b]=some (.agg (Pt.cells ⟨a,b⟩)):=nr rfl
@[simp] theorem af5{es:List (List D)}:XK.run G (.pk (.fbox 1)) [.list es]=some (.lptr [.list es]):=nr rfl
end
def aR:List Int→Int
 | []=>0
 |a::r=>a+aR r
theorem jE: ∀{l:List Int},(∀x∈l,0≤x)→0≤aR l
 | [],_=>by simp[aR]
 |a::r,h=>by
  have:=h a (List.mem_cons_self ..);have:=jE (l:=r) fun x hx=>h x (Cz _ hx);simp only[aR];omega
theorem ti{B:Int}: ∀{l:List Int},(∀x∈l,x≤B)→aR l≤l.length*B
 | [],_=>by simp[aR]
 |a::r,h=>by
  have h1:=h a (List.mem_cons_self ..);have h2:=ti (l:=r) fun x hx=>h x (Cz _ hx);have e:((a::r).length:Int)*B=r.length*B+B:=by simp only[List.length_cons];rw[Int.natCast_add,Int.add_mul];simp
  rw[e];simp only[aR];omega
theorem pQ: ∀(l m:List Int),aR (l++m)=aR l+aR m
 | [],m=>by simp[aR]
 |a::r,m=>by simp only[List.cons_append,aR,pQ r m];omega
theorem TW(hF:Fr H)(l:List Pt)(c:D)(hc:c.aF=true)(φ:Pt→Int)(B:Int)(hφ: ∀x∈l,XK.run (GK H) (.ccall false) [c, .agg x.cells]=some (iv (φ x)))(h0: ∀x∈l,0≤φ x∧φ x≤B)(hl:l.length≤4)(hB:B≤1000000000000):
  GK H 275 [.list (l.map Pt.cells),c]=some (iv (aR (l.map φ))):=by
 refine af hF Pq (hn:=by simp[hc]) ?_
 conv=>enter [1,3];cbv
 simp;refine aI (n:=l.length) (fun i=> [iv (i:Int),iv (aR ((l.take i).map φ))]) (iv (aR (l.map φ))) (by omega) ?_;intro rec i hi ih;cases h3:l[i]? with
 |some x=>
  have l3:=(Gz.1 h3).1;have e3:l[i]=x:=(Gz.1 h3).2;have ih:=ih (by omega);have k:=hφ x (Lz h3);have b1:=h0 x (Lz h3);have et:l.take (i+1)=l.take i++ [x]:=by rw[List.take_add_one,h3];rfl
  have es:aR ((l.take (i+1)).map φ)=aR ((l.take i).map φ)+φ x:=by rw[et,List.map_append,pQ];simp[aR]
  have s0:0≤aR ((l.take i).map φ):=jE fun z hz=>by
   obtain⟨y,hy,rfl⟩:=List.mem_map.1 hz;exact(h0 y (List.mem_of_mem_take hy)).1
  have s1:aR ((l.take i).map φ)≤((l.take i).map φ).length*B:=ti fun z hz=>by
   obtain⟨y,hy,rfl⟩:=List.mem_map.1 hz;exact(h0 y (List.mem_of_mem_take hy)).2
  have s2:(((l.take i).map φ).length:Int)*B≤4*B:=Int.mul_le_mul_of_nonneg_right (by simp;omega) (by omega);rw[es]at ih;have w:=wr (z:=aR ((l.take i).map φ)+φ x) (by omega) (by omega);generalize aR ((l.take i).map φ)=acc at*;simp[l3,e3,k,w,wr (z:=(i:Int)+1) (by omega) (by omega)];exact ih
 |none=>
  have l3:=List.getElem?_eq_none_iff.1 h3;have e:l.length=i:=by omega
  have et:l.take i=l:=List.take_of_length_le (by omega);rw[et];simp[e]
theorem adE(hF:Fr H)(l:List (List Pt))(c:D)(hc:c.aF=true)(φ:List Pt→Int)(B:Int)(hφ: ∀x∈l,XK.run (GK H) (.ccall false) [c, .list (x.map Pt.cells)]=some (iv (φ x)))(h0: ∀x∈l,0≤φ x∧φ x≤B)(hl:l.length≤24)(hB:B≤1000000000000):
  GK H 260 [.list (l.map fun r=> [.list (r.map Pt.cells)]),c]=some (iv (aR (l.map φ))):=by
 refine af hF Pj (hn:=by simp[hc]) ?_
 conv=>enter [1,3];cbv
 simp;refine aI (n:=l.length) (fun i=> [iv (i:Int),iv (aR ((l.take i).map φ))]) (iv (aR (l.map φ))) (by omega) ?_;intro rec i hi ih;cases h3:l[i]? with
 |some x=>
  have l3:=(Gz.1 h3).1;have e3:l[i]=x:=(Gz.1 h3).2;have ih:=ih (by omega);have k:=hφ x (Lz h3);have b1:=h0 x (Lz h3);have et:l.take (i+1)=l.take i++ [x]:=by rw[List.take_add_one,h3];rfl
  have es:aR ((l.take (i+1)).map φ)=aR ((l.take i).map φ)+φ x:=by rw[et,List.map_append,pQ];simp[aR]
  have s0:0≤aR ((l.take i).map φ):=jE fun z hz=>by
   obtain⟨y,hy,rfl⟩:=List.mem_map.1 hz;exact(h0 y (List.mem_of_mem_take hy)).1
  have s1:aR ((l.take i).map φ)≤((l.take i).map φ).length*B:=ti fun z hz=>by
   obtain⟨y,hy,rfl⟩:=List.mem_map.1 hz;exact(h0 y (List.mem_of_mem_take hy)).2
  have s2:(((l.take i).map φ).length:Int)*B≤24*B:=Int.mul_le_mul_of_nonneg_right (by simp;omega) (by omega);rw[es]at ih;have w:=wr (z:=aR ((l.take i).map φ)+φ x) (by omega) (by omega);generalize aR ((l.take i).map φ)=acc at*;simp[l3,e3,k,w,wr (z:=(i:Int)+1) (by omega) (by omega)];exact ih
 |none=>
  have l3:=List.getElem?_eq_none_iff.1 h3;have e:l.length=i:=by omega
  have et:l.take i=l:=List.take_of_length_le (by omega);rw[et];simp[e]
def Pt.ok(x:Pt):Prop:=(1≤x.w∧x.w≤100)∧(-10000≤x.p∧x.p≤10000)
structure rh(r:List Pt):Prop where
 ne:1≤r.length
 le:r.length≤4
 pt: ∀x∈r,x.ok
 sum:aR (r.map Pt.w)=100
theorem adJ(hF:Fr H)(x:Pt):XK.run (GK H) (.ccall false) [.clo 276 [], .agg x.cells]=some (iv x.w):=by
 refine(fZ (by decide) (cs:= []) rfl).trans (ag (af hF Pr (d:=iv x.w) ?_) rfl rfl)
 conv=>enter [1,3];cbv
 simp
theorem TV(hF:Fr H)(r:List Pt)(hr:rh r){fl:Bool}:XK.run (GK H) (.call fl 259) [.list (r.map Pt.cells)]=some (bv true):=by
 refine ag (af hF Ph (d:=bv true) ?_) rfl (by cases fl<;>rfl)
 conv=>enter [1,3];cbv
 have h1:=hr.ne;have h2:=hr.le;have n1: ¬(r.length:Int)<1:=by omega
 have n2: ¬(4:Int)<r.length:=by omega
 have k:XK.run (GK H) (.call false 275) [.list (r.map Pt.cells), .clo 276 []]=some (iv (aR (r.map Pt.w))):=ag (TW hF r (.clo 276 []) rfl Pt.w 100 (fun x _=>adJ hF x) (fun x hx=>by have:=hr.pt x hx;unfold Pt.ok at this;omega) hr.le (by decide)) rfl rfl;rw[hr.sum]at k;simp[n1,n2];refine aI (n:=r.length) (fun i=> [iv (i:Int),bv false]) (bv true) (by omega) ?_;intro rec i hi ih;cases h3:r[i]? with
 |some x=>
  have l3:=(Gz.1 h3).1;have e3:r[i]=x:=(Gz.1 h3).2;have ih:=ih (by omega);obtain⟨⟨c1,c2⟩,c3,c4⟩:=hr.pt x (Lz h3);have d1: ¬x.w<1:=by omega
  have d2: ¬100<x.w:=by omega
  have d3: ¬x.p< -10000:=by omega
  have d4: ¬10000<x.p:=by omega
  simp[l3,e3,d1,d2,d3,d4,wr (z:=(i:Int)+1) (by omega) (by omega)];exact ih
 |none=>
  have l3:=List.getElem?_eq_none_iff.1 h3;have e:r.length=i:=by omega
  have kn:XK.run (GK H) .bq [.clo 276 []]=some (.clo 276 []):=rfl;simp[e,k,kn]
def fV(a b:Int):Int:=if a<b then 0 else if a=b then 1 else 2
theorem adL(hF:Fr H)(x q:Pt)(hq:q.ok):XK.run (GK H) (.ccall false) [.clo 278 [.lptr x.cells], .agg q.cells]=some (iv (q.w*fV x.p q.p)):=by
 refine(fZ (by decide) (cs:= [.lptr x.cells]) rfl).trans (ag (af hF Pu (d:=iv (q.w*fV x.p q.p)) ?_) rfl rfl)
 conv=>enter [1,3];cbv
 obtain⟨⟨c1,c2⟩,c3,c4⟩:=hq;have k:XK.run (GK H) (.call false 96) [iv x.p,iv q.p]=some (iv (c_ x.p q.p)):=ag (l96 hF x.p q.p) rfl rfl;have a0:XK.run (GK H) (.pk (.aidx 3 1)) [.lptr [iv 0,iv 1,iv 2],iv 0]=some (.lptr [iv 0,iv 1,iv 2]):=rfl;have a1:XK.run (GK H) (.pk (.aidx 3 1)) [.lptr [iv 0,iv 1,iv 2],iv 1]=some (.lptr [iv 1,iv 2]):=rfl;have a2:XK.run (GK H) (.pk (.aidx 3 1)) [.lptr [iv 0,iv 1,iv 2],iv 2]=some (.lptr [iv 2]):=rfl;have w0:IntKind.i64.wrap 0=0:=rfl;unfold c_ at k;unfold fV;by_cases h1:x.p<q.p
 ·simp[h1]at k⊢;simp[k,a0,w0]
 ·by_cases h2:x.p=q.p
  ·have h3: ¬q.p<q.p:=by omega
   simp[h2]at k⊢;simp[k,a1,wr (z:=q.w) (by omega) (by omega)]
  ·simp[h1,h2]at k⊢;have h3:q.p<x.p:=by omega
   simp[h3]at k;simp[k,a2,wr (z:=q.w*2) (by omega) (by omega)]
theorem A9(a b:Int):0≤fV a b∧fV a b≤2:=by unfold fV;repeat' split<;>omega
theorem Gx{a b A B:Int}(h0:0≤a)(h1:a≤A)(h2:0≤b)(h3:b≤B):0≤a*b∧a*b≤A*B:=⟨Int.mul_nonneg h0 h2,Int.mul_le_mul h1 h3 h2 (by omega)⟩
def inner(x:Pt)(b:List Pt):Int:=aR (b.map fun q=>q.w*fV x.p q.p)
theorem abb{b:List Pt}(φ:Pt→Int)(h: ∀q∈b,0≤φ q∧φ q≤2*q.w):0≤aR (b.map φ)∧aR (b.map φ)≤2*aR (b.map Pt.w):=by
 induction b with
 |nil=>simp[aR]
 |cons q r ih=>
  have h1:=h q (List.mem_cons_self ..);have h2:=ih fun x hx=>h x (Cz _ hx);simp only[List.map_cons,aR];omega
theorem qF{x:Pt}{b:List Pt}(hb:rh b):0≤inner x b∧inner x b≤200:=by
 have h:=abb (b:=b) (fun q=>q.w*fV x.p q.p) fun q hq=>by
  have h1:=hb.pt q hq;have h2:=A9 x.p q.p;have:=Gx (a:=q.w) (b:=fV x.p q.p) (A:=q.w) (B:=2) (by have:=h1.1;omega) (by omega) h2.1 h2.2;show 0≤q.w*fV x.p q.p∧_;omega
 rw[hb.sum]at h;exact h
theorem adK(hF:Fr H)(x:Pt)(b:List Pt)(hx:x.ok)(hb:rh b):XK.run (GK H) (.ccall false) [.clo 277 [.lptr [.list (b.map Pt.cells)]], .agg x.cells]=some (iv (x.w*inner x b)):=by
 refine(fZ (by decide) (cs:= [.lptr [.list (b.map Pt.cells)]]) rfl).trans (ag (af hF Ps (d:=iv (x.w*inner x b)) ?_) rfl rfl)
 conv=>enter [1,3];cbv
 have k:XK.run (GK H) (.call false 275) [.list (b.map Pt.cells), .clo 278 [.lptr x.cells]]=some (iv (inner x b)):=ag (TW hF b (.clo 278 [.lptr x.cells]) rfl (fun q=>q.w*fV x.p q.p) 200 (fun q hq=>adL hF x q (hb.pt q hq)) (fun q hq=>by
  have h1:=(hb.pt q hq).1;have h2:=A9 x.p q.p;have:=Gx (a:=q.w) (b:=fV x.p q.p) (A:=100) (B:=2) (by omega) (by omega) h2.1 h2.2;show 0≤q.w*fV x.p q.p∧q.w*fV x.p q.p≤200
  omega) hb.le (by decide)) rfl rfl
 have hi:=qF (x:=x) hb;have hw:=Gx (a:=x.w) (b:=inner x b) (A:=100) (B:=200) (by have:=hx.1;omega) (by have:=hx.1;omega) hi.1 hi.2;have kc:XK.run (GK H) (.clo 278) [.lptr x.cells]=some (.clo 278 [.lptr x.cells]):=rfl;simp[k,kc,wr (z:=x.w*inner x b) (by omega) (by omega)]
def dE(a b:List Pt):Int:=aR (a.map fun x=>x.w*inner x b)
theorem ma{a b:List Pt}(ha:rh a)(hb:rh b):0≤dE a b∧dE a b≤20000:=by
 have key: ∀l:List Pt,(∀x∈l,x.ok)→0≤aR (l.map fun x=>x.w*inner x b)∧aR (l.map fun x=>x.w*inner x b)≤200*aR (l.map Pt.w):=fun l=>by
  induction l with
  |nil=>intro _;simp[aR]
  |cons q r ih=>
   intro h;have h1:=(h q (List.mem_cons_self ..)).1;have h2:=ih fun x hx=>h x (Cz _ hx);have h3:=qF (x:=q) hb;have:=Gx (a:=q.w) (b:=inner q b) (A:=q.w) (B:=200) (by omega) (by omega) h3.1 h3.2;simp only[List.map_cons,aR];omega
 have h:=key a ha.pt;rw[ha.sum]at h;exact h
theorem adG(hF:Fr H)(a b:List Pt)(ha:rh a)(hb:rh b):GK H 262 [.list (a.map Pt.cells), .list (b.map Pt.cells)]=some (iv (dE a b)):=by
 refine af hF Pm ?_
 conv=>enter [1,3];cbv
 have k:XK.run (GK H) (.call false 275) [.list (a.map Pt.cells), .clo 277 [.lptr [.list (b.map Pt.cells)]]]=some (iv (dE a b)):=ag (TW hF a (.clo 277 [.lptr [.list (b.map Pt.cells)]]) rfl (fun x=>x.w*inner x b) 20000 (fun x hx=>adK hF x b (ha.pt x hx) hb) (fun x hx=>by
  have h1:=(ha.pt x hx).1;have h3:=qF (x:=x) hb;have:=Gx (a:=x.w) (b:=inner x b) (A:=100) (B:=200) (by omega) (by omega) h3.1 h3.2;show 0≤x.w*inner x b∧x.w*inner x b≤20000
  omega) ha.le (by decide)) rfl rfl
 have kc:XK.run (GK H) (.clo 277) [.lptr [.list (b.map Pt.cells)]]=some (.clo 277 [.lptr [.list (b.map Pt.cells)]]):=rfl;simp[k,kc]
theorem adF(hF:Fr H)(a b:List Pt)(ha:rh a)(hb:rh b):XK.run (GK H) (.ccall false) [.clo 261 [.lptr [.list (a.map Pt.cells)]], .list (b.map Pt.cells)]=some (iv (dE a b)):=by
 refine(fZ (by decide) (cs:= [.lptr [.list (a.map Pt.cells)]]) rfl).trans (ag (af hF Pk (d:=iv (dE a b)) ?_) rfl rfl)
 conv=>enter [1,3];cbv
 have k:XK.run (GK H) (.call false 262) [.list (a.map Pt.cells), .list (b.map Pt.cells)]=some (iv (dE a b)):=ag (adG hF a b ha hb) rfl rfl;simp[k]
theorem Ir(a b:Int):fV a b+fV b a=2:=by unfold fV;repeat' split<;>omega
theorem pR(c:Int): ∀(l:List Pt) (φ:Pt→Int),aR (l.map fun x=>c*φ x)=c*aR (l.map φ)
 | [],_=>by simp[aR]
 |a::r,φ=>by simp only[List.map_cons,aR,pR c r φ];rw[Int.mul_add]
theorem pP: ∀(l:List Pt) (φ ψ:Pt→Int),aR (l.map fun x=>φ x+ψ x)=aR (l.map φ)+aR (l.map ψ)
 | [],_,_=>by simp[aR]
 |a::r,φ,ψ=>by simp only[List.map_cons,aR,pP r φ ψ];omega
theorem xI: ∀(a b:List Pt) (f:Pt→Pt→Int),aR (a.map fun x=>aR (b.map fun y=>f x y))=aR (b.map fun y=>aR (a.map fun x=>f x y))
 | [],b,f=>by
  simp only[List.map_nil,aR]
  induction b with
  |nil=>rfl
  |cons y r ih=>simp only[List.map_cons,aR];omega
 |x::r,b,f=>by
  simp only[List.map_cons,aR];rw[xI r b f,←pP b (fun y=>f x y) fun y=>aR (r.map fun x=>f x y)]
theorem tv(a b:List Pt):dE a b=aR (a.map fun x=>aR (b.map fun q=>x.w*(q.w*fV x.p q.p))):=by
 unfold dE inner;congr 1;refine List.map_congr_left fun x _=> ?_;rw[pR x.w b fun q=>q.w*fV x.p q.p]
theorem Ai{a b:List Pt}(ha:rh a)(hb:rh b):dE a b+dE b a=20000:=by
 rw[tv a b,tv b a,xI b a];rw[←pP a (fun x:Pt=>aR (b.map fun q:Pt=>x.w*(q.w*fV x.p q.p))) fun x:Pt=>aR (b.map fun q:Pt=>q.w*(x.w*fV q.p x.p))]
 have e: ∀x:Pt,aR (b.map fun q:Pt=>x.w*(q.w*fV x.p q.p))+aR (b.map fun q:Pt=>q.w*(x.w*fV q.p x.p))=200*x.w:=fun x=>by
  rw[←pP b (fun q:Pt=>x.w*(q.w*fV x.p q.p)) fun q:Pt=>q.w*(x.w*fV q.p x.p)]
  have e2:(b.map fun q:Pt=>x.w*(q.w*fV x.p q.p)+q.w*(x.w*fV q.p x.p))=b.map fun q:Pt=>(2*x.w)*q.w:=List.map_congr_left fun q _=>by
   have:=Ir x.p q.p;have h:fV q.p x.p=2-fV x.p q.p:=by omega
   rw[h];grind
  rw[e2,pR (2*x.w) b Pt.w,hb.sum];omega
 rw[List.map_congr_left (g:=fun x:Pt=>200*x.w) fun x _=>e x,pR 200 a Pt.w,ha.sum];rfl
theorem xS{a:List Pt}(ha:rh a):dE a a=10000:=by have:=Ai ha ha;omega
def total(l:List (List Pt))(r:List Pt):Int:=aR (l.map fun o=>dE r o)
theorem xM: ∀{l:List (List Pt)} {r:List Pt},(∀x∈l,rh x)→rh r→0≤total l r∧total l r≤l.length*20000
 | [],r,_,_=>by simp[total,aR]
 |a::s,r,h,hr=>by
  have h1:=ma hr (h a (List.mem_cons_self ..));have h2:=xM (l:=s) (fun x hx=>h x (Cz _ hx)) hr;have e:total (a::s) r=dE r a+total s r:=rfl;rw[e,List.length_cons,Int.natCast_add,Int.add_mul];omega
theorem q_: ∀{l:List (List Pt)} {r:List Pt},(∀x∈l,rh x)→r∈l→10000≤total l r∧total l r≤10000+(l.length-1)*20000
 | [],r,_,hr=>by cases hr
 |a::s,r,h,hr=>by
  have ha:=h a (List.mem_cons_self ..);have hs:=fun x hx=>h x (Cz a hx);have e:total (a::s) r=dE r a+total s r:=rfl;rw[e,List.length_cons,Int.natCast_add];rcases List.mem_cons.1 hr with rfl|hr
  ·have h2:=xM hs ha;rw[xS ha];omega
  ·have h1:=ma (hs r hr) ha;have h2:=q_ hs hr;omega
def gj(r:List Pt):List Pt:=r.map fun x=>⟨-x.p,x.w⟩
theorem zP{r:List Pt}(h:rh r):rh (gj r) where
 ne:=by unfold gj;rw[List.length_map];exact h.ne
 le:=by unfold gj;rw[List.length_map];exact h.le
 pt x hx:=by
  obtain⟨y,hy,rfl⟩:=List.mem_map.1 hx;have:=h.pt y hy;unfold Pt.ok at*;exact⟨this.1,by show-10000≤ -y.p∧ -y.p≤10000;omega⟩
 sum:=by
  have e:(gj r).map Pt.w=r.map Pt.w:=by unfold gj;rw[List.map_map];rfl
  rw[e];exact h.sum
section
variable {G : FP}
theorem k_{x y:X}{es:List (List D)}{v:Value}(h:(es.all fun c=>c.all D.aW)=true):bY (.mk .tup [.mk .own [x],y]) (.tup [.list es, .v v])=D.own (.tup [.list es, .v v]):=by
 have h:l6 (.mk .tup [.mk .own [x],y]) (.tup [.list es, .v v])=true:=by
  have h1:iy (.mk .own [x]) (.list es)=true:=by
   cases es with
   |nil=>rfl
   |cons a r=>exact h
  show(iy _ _&&(iy _ _&&true))=true;rw[h1];cases y<;>rfl
 show(if _ then _ else if l6 (.mk .tup [.mk .own [x],y]) (.tup [.list es, .v v])=true then _ else _)=_;rw[h];rfl
theorem xU{size:Nat}{es:List (List D)}{c:List D}(h:es.length<65536)(hc:aO size [c]=true):XK.run G (.app size) [.list es, .list [c]]=some (.list (es++ [c])):=by
 show(if aO size [c]=true∧es.length+1≤aC then some (D.list (es++ [c]))else none)=_;rw[if_pos ⟨hc,by simp[aC];omega⟩]
theorem Yo{n:Int}(h0:0≤n)(h1:n≤1000):XK.run G (.mks 2 [iv 0,iv 0]) [iv 0,iv n]=some (.list []):=by
 show(if(0:Int)≤0∧0≤n∧n≤aC∧n.toNat*2≤16777216∧ [iv 0,iv 0].length=2∧([iv 0,iv 0]:List D).all D.nV=true then some (D.list (List.replicate (0:Int).toNat [iv 0,iv 0]))else none)=_;rw[if_pos ⟨by omega,h0,by simp[aC];omega,by omega,rfl,rfl⟩];rfl
@[simp] theorem Fq.len{f:Fq}:f.cells.length=2:=nr rfl
theorem Oi{x:Pt}:XK.run G (.lit 2 1 [iv 0,iv 0] [(0,2)]) [.agg x.cells]=some (.list [x.cells]):=rfl
theorem Yf{f:Fq}:XK.run G (.lit 2 1 [iv 0,iv 0] [(0,2)]) [.agg f.cells]=some (.list [f.cells]):=rfl
theorem Ψ{es:List (List D)}{i:Nat}{f g:Fq}(h:es[i]?=some g.cells):XK.run G (.setl 2 0 2) [.list es,iv (i:Int), .agg f.cells]=some (.list (es.set i f.cells)):=by
 show(if(i:Int)<0 then none else(es[(i:Int).toNat]?).bind fun c=>if(D.agg f.cells).cells.length=2∧0+2≤2∧c.length=2∧(D.agg f.cells).cells.all D.gK=true∧(D.agg f.cells).cells.all D.nV=true then some (D.list (es.set (i:Int).toNat (putAt c 0 (D.agg f.cells).cells)))else none)=_;rw[if_neg (by omega),Int.toNat_natCast,h,Oz,if_pos ⟨rfl,by omega,rfl,rfl,rfl⟩];rfl
end
theorem AY{α:Type}{l:List α}{f:α→List D}(h: ∀x,(f x).all D.aW=true):((l.map f).all fun c=>c.all D.aW)=true:=by
 rw[Tz];intro c hc;obtain⟨e,_,rfl⟩:=List.mem_map.1 hc;exact h e
theorem TS(hF:Fr H)(r:List Pt)(hr:rh r):XK.run (GK H) (.call false 223) [.list (r.map Pt.cells)]=some (.tup [.list ((gj r).map Pt.cells),iv 0]):=by
 refine eI (af hF O9 ?_) rfl
 conv=>enter [1,3];cbv
 have k:=TV hF r hr (fl:=false);have km:=Yo (G:=GK H) (n:=r.length) (by omega) (by have:=hr.le;omega);simp[k,km];refine cG (S:=Nat) (enc:=fun i=> [iv (i:Int), .list (((gj r).take i).map Pt.cells)]) (res:=fun _=>D.own (.tup [.list ((gj r).map Pt.cells),iv 0])) (mes:=fun i=>r.length-i) (ok:=fun i=>i≤r.length) ?_ 0 (by omega) (by have:=hr.le;omega);intro rec i hi ih;have hlt:(gj r).length=r.length:=by unfold gj;rw[List.length_map]
 have hle:=hr.le;cases h3:r[i]? with
 |some x=>
  have l3:=(Gz.1 h3).1;have e3:r[i]=x:=(Gz.1 h3).2;have ih:=ih (i+1) (by omega) (by omega);obtain⟨⟨c1,c2⟩,c3,c4⟩:=hr.pt x (Lz h3);have ht:(gj r)[i]?=some ⟨-x.p,x.w⟩:=by unfold gj;rw[Dz,h3];rfl
  have et:((gj r).take (i+1)).map Pt.cells=((gj r).take i).map Pt.cells++ [Pt.cells ⟨-x.p,x.w⟩]:=by rw[List.take_add_one,ht];simp
  rw[et]at ih;have w1:IntKind.i64.wrap (-x.p)= -x.p:=wr (by omega) (by omega);have ka:XK.run (GK H) .agg [iv (-x.p),iv x.w]=some (.agg (Pt.cells ⟨-x.p,x.w⟩)):=Pt.Mu;have kp:=xU (G:=GK H) (size:=2) (es:=((gj r).take i).map Pt.cells) (c:=Pt.cells ⟨-x.p,x.w⟩) (by simp;omega) rfl;generalize((gj r).take i).map Pt.cells=acc at*;simp[-fu,l3,e3,w1,ka,Oi,kp,wr (z:=(i:Int)+1) (by omega) (by omega)];exact ih
 |none=>
  have l3:=List.getElem?_eq_none_iff.1 h3;have e:r.length=i:=by omega
  have et:(gj r).take i=gj r:=List.take_of_length_le (by omega);have sw: ∀x y,bY (.mk .tup [.mk .own [x],y]) (.tup [.list ((gj r).map Pt.cells),iv 0])=D.own (.tup [.list ((gj r).map Pt.cells),iv 0]):=fun x y=>k_ (AY fun x=>rfl);rw[et];generalize(gj r).map Pt.cells=acc at*;have ko:XK.run (GK H) .own [.list acc]=some (.list acc):=rfl;simp[e,ko,sw]<;>rfl
def pre(l:List (List Pt))(r:List Pt):Fq:=red (total l r-10000) 10000
def Cv(l:List (List Pt))(all:Int)(r:List Pt):Fq:=red (total l r*all-10000*l.length) (10000*l.length)
def Cr(l:List (List Pt))(all:Int)(i:Nat):List (List D):=(l.take i).map (fun r=>(Cv l all r).cells)++(l.drop i).map fun r=>(pre l r).cells
theorem Mg(l:List (List Pt))(all:Int)(i:Nat):(Cr l all i).length=l.length:=by simp[Cr];omega
theorem Mf{l:List (List Pt)}{all:Int}{i:Nat}{r:List Pt}(h:l[i]?=some r):(Cr l all i)[i]?=some (pre l r).cells:=by
 have hi:=(Gz.1 h).1;unfold Cr;rw[Xz (by simp;omega),cF h];simp[Nat.min_eq_left (Nat.le_of_lt hi)]
theorem Mh{l:List (List Pt)}{all:Int}{i:Nat}{r:List Pt}(h:l[i]?=some r):(Cr l all i).set i (Cv l all r).cells=Cr l all (i+1):=by
 have hi:=(Gz.1 h).1;unfold Cr;rw[List.set_append_right _ _ (by simp;omega),cF h,List.take_add_one,h];simp[Nat.min_eq_left (Nat.le_of_lt hi)]
theorem XY(hB:Fb H)(l:List (List Pt))(all:Int)(hl: ∀r∈l,rh r)(h1:1≤all)(h2:(l.length:Int)≤all)(h3:all≤24){fl:Bool}:
  XK.run (GK H) (.call fl 179) [.list (l.map fun r=> [.list (r.map Pt.cells)]),iv all]=some (.tup [.list (l.map fun r=>(Cv l all r).cells),iv 0]):=by
 have hF:=hB.fr;refine eI (af hF OQ ?_) rfl
 conv=>enter [1,3];cbv
 have k1:=TQ hF all;rw[decide_eq_true h1,decide_eq_true h3]at k1;have n1: ¬all<(l.length:Int):=by omega
 have n2: ¬(24:Int)<(l.length:Int):=by omega
 have km:=Yo (G:=GK H) (n:=l.length) (by omega) (by omega);obtain⟨R,hR⟩: ∃R,R=D.own (.tup [.list (l.map fun r=>(Cv l all r).cells),iv 0]):=⟨_,rfl⟩;rw[←hR];simp[k1,n1];refine aI (n:=l.length) (fun i=> [iv (i:Int),iv 0]) R (by omega) ?_;intro rec i hi ih;cases g3:l[i]? with
 |some r=>
  have l3:=(Gz.1 g3).1;have e3:l[i]=r:=(Gz.1 g3).2;have ih:=ih (by omega);have k:=TV hF r (hl r (Lz g3)) (fl:=false);simp[l3,e3,k,wr (z:=(i:Int)+1) (by omega) (by omega)];exact ih
 |none=>
  have l3:=List.getElem?_eq_none_iff.1 g3;have e:l.length=i:=by omega
  clear ih g3 l3 hi;subst e;simp[n2,km];refine aI (n:=l.length) (fun i=> [iv (i:Int), .list ((l.take i).map fun r=>(pre l r).cells),iv 0]) R (by omega) ?_;intro rec i hi ih;cases g3:l[i]? with
  |some r=>
   have l3:=(Gz.1 g3).1;have e3:l[i]=r:=(Gz.1 g3).2;have ih:=ih (by omega);have hr:=hl r (Lz g3);have k:XK.run (GK H) (.call true 260) [.list (l.map fun r=> [.list (r.map Pt.cells)]), .clo 261 [.lptr [.list (r.map Pt.cells)]]]=some (iv (total l r)):=ag (adE hF l (.clo 261 [.lptr [.list (r.map Pt.cells)]]) rfl (fun o=>dE r o) 20000 (fun o ho=>adF hF r o hr (hl o ho)) (fun o ho=>ma hr (hl o ho)) (by omega) (by decide)) rfl rfl;have kc:XK.run (GK H) (.clo 261) [.lptr [.list (r.map Pt.cells)]]=some (.clo 261 [.lptr [.list (r.map Pt.cells)]]):=rfl;have hm:=q_ hl (Lz g3);have k2:XK.run (GK H) (.call false 244) [iv (total l r-10000),iv 10000]=some (.tup [.agg (pre l r).cells,iv 0]):=ag (X5 hF (total l r-10000) 10000 (by omega) (by decide) (by decide)) rfl rfl;have w1:IntKind.i64.wrap (total l r-10000)=total l r-10000:=wr (by omega) (by omega);have et:((l.take (i+1)).map fun r=>(pre l r).cells)=((l.take i).map fun r=>(pre l r).cells)++ [(pre l r).cells]:=by rw[List.take_add_one,g3];simp
   rw[et]at ih;have kp:=xU (G:=GK H) (size:=2) (es:=(l.take i).map fun r=>(pre l r).cells) (c:=(pre l r).cells) (by simp;omega) rfl;generalize((l.take i).map fun r=>(pre l r).cells)=acc at*;simp[-bN,l3,e3,k,kc,w1,k2,Yf,kp,wr (z:=(i:Int)+1) (by omega) (by omega)];exact ih
  |none=>
   have l3:=List.getElem?_eq_none_iff.1 g3;have e:l.length=i:=by omega
   clear ih g3 l3 hi;subst e;have e0:(l.take l.length).map (fun r=>(pre l r).cells)=Cr l all 0:=by simp[Cr]
   rw[e0];have hm0:=Mg l all 0;obtain⟨es0,hes⟩: ∃x,x=Cr l all 0:=⟨_,rfl⟩;rw[←hes]at hm0⊢;simp[hm0];have hz: [D.v (.int .i64 0),D.v (.int .i64 0),D.v (.int .i64 0),D.list es0]= [iv ((0:Nat):Int),iv 0,iv 0, .list (Cr l all 0)]:=by rw[←hes];rfl
   rw[hz];refine aI (n:=l.length) (fun i=> [iv (i:Int),iv 0,iv 0, .list (Cr l all i)]) R (by omega) ?_;intro rec i hi ih;cases g3:l[i]? with
   |some r=>
    have l3:=(Gz.1 g3).1;have ih:=ih (by omega);have hr:=hl r (Lz g3);have hm:=q_ hl (Lz g3);have hg:=Mf (all:=all) g3;have hs:=Mh (all:=all) g3;have kq:XK.run (GK H) (.call false 225) [.agg (pre l r).cells,iv (l.length:Int),iv all]=some (.tup [.agg (Cv l all r).cells,iv 0]):=ag (adC hB (total l r) l.length all (by omega) h2 h3 hm.1 hm.2) rfl rfl;have XR:=Ψ (G:=GK H) (f:=Cv l all r) hg;rw[hs]at XR;generalize Cr l all i=es at*;generalize Cr l all (i+1)=es' at*;simp[-bN,l3,hg,kq,XR,wr (z:=(i:Int)+1) (by omega) (by omega)];exact ih
   |none=>
    have l3:=List.getElem?_eq_none_iff.1 g3;have e:l.length=i:=by omega
    clear ih g3 l3 hi;subst e;have em:Cr l all l.length=l.map fun r=>(Cv l all r).cells:=by simp[Cr]
    have sw: ∀x y,bY (.mk .tup [.mk .own [x],y]) (.tup [.list (l.map fun r=>(Cv l all r).cells),iv 0])=R:=fun x y=>by rw[hR];exact k_ (AY fun x=>rfl)
    rw[em];generalize(l.map fun r=>(Cv l all r).cells)=acc at*;have ko:XK.run (GK H) .own [.list acc]=some (.list acc):=rfl;simp[ko,sw]<;>rfl
end Ty
end
section
namespace Ty
theorem aeT:US= .lets [.mk (.call false 86) [.mk .bq [.t 1]]] (.lets [.mk (.pk (.ext 1)) [.t 3]] (.lets [.mk (.pk (.ext 0)) [.t 3]] (.lets [.mk (.pk (.ibin .neq)) [.t 4, .q (iv 0)]] (.ite (.t 6) (.ret (.mk .tup [.mk .bq [.q .nil], .mk .bq [.t 4]])) (.lets [.mk (.call false 87) [.mk .bq [.t 2], .mk .bq [.t 5]]] (.lets [.mk (.pk (.ext 1)) [.t 7]] (.lets [.mk (.pk (.ext 0)) [.t 7]] (.lets [.mk (.pk (.ibin .neq)) [.t 8, .q (iv 0)]] (.ite (.t 10) (.ret (.mk .tup [.mk .bq [.q .nil], .mk .bq [.t 8]])) (.lets [.mk (.call false 88) [.mk .bq [.t 2]]] (.fM [.mk (.cell 0 4) [.mk (.pk (.ext 1)) [.t 11]]] (.lets [.mk (.pk (.ext 2)) [.t 11]] (.lets [.mk (.pk (.ext 0)) [.t 11]] (.lets [.mk (.pk (.ibin .neq)) [.t 12, .q (iv 0)]] (.ite (.t 14) (.ret (.mk .tup [.mk .bq [.q .nil], .mk .bq [.t 12]])) (.lets [.mk (.pk .llen) [.t 2]] (.loop [.q (iv 0), .q (.list [])] (.lets [.mk (.pk (.ibin .lss)) [.t 16, .t 15]] (.ite (.t 18) (.jp (.lets [.mk (.pk (.ibin .add)) [.t 16, .q (iv 1)]] (.next 0 [.t 54, .t 20])) (.fM [.mk (.cell 0 33) [.mk (.pk (.load 33 true)) [.mk (.pk (.idx 40 33)) [.t 2, .t 16]]]] (.lets [.mk (.pk (.load 33 true)) [.mk (.pk (.idx 40 33)) [.t 2, .t 16]]] (.lets [.ite (.mk (.pk (.ibin .eql)) [.mk (.cell 4 33) [.t 19], .q (uv 0)]) (.q (bv true)) (.mk (.pk (.ibin .geq)) [.t 16, .mk (.pk .llen) [.t 9]])] (.ite (.t 20) (.next 0 ([.t 20, .t 17]++cs 19 33 0 33)) (.fM [.mk .qa [.mk (.cell 0 33) [.t 19]], .mk .qa [.mk (.cell 1 33) [.t 19]], .mk (.cell 0 5) [.mk (.pk (.lkp [99,3,3] (.agg [iv 0,iv 0,iv 0,iv 0,iv 0]) false)) [.t 0, .mk .agg [.mk (.cell 0 33) [.t 19], .mk (.cell 1 33) [.t 19]]]]] (.lets [.mk (.pk (.lkp [99,3,3] (.agg [iv 0,iv 0,iv 0,iv 0,iv 0]) false)) [.t 0, .mk .agg [.mk (.cell 0 33) [.t 19], .mk (.cell 1 33) [.t 19]]]] (.lets [.mk (.call false 59) [.mk .bq [.t 19]]] (.fM [.mk (.cell 0 2) [.mk (.pk (.load 2 true)) [.mk (.pk (.fld 0)) [.mk (.pk (.idx 181 5)) [.t 9, .t 16]]]], .mk (.cell 0 2) [.mk (.pk (.load 2 true)) [.mk (.pk (.fld 2)) [.mk (.pk (.idx 181 5)) [.t 9, .t 16]]]], .mk (.cell 0 3) [.t 22], .mk .qa [.mk (.cell 2 5) [.t 21]], .mk .qa [.mk (.cell 3 5) [.t 21]], .mk (.cell 0 1) [.mk (.pk (.load 1 false)) [.mk (.pk (.fld 4)) [.mk (.pk (.idx 181 5)) [.t 9, .t 16]]]], .mk .qa [.mk (.pk (.ibin .mul)) [.q (iv 2), .mk (.pk (.ibin .sub)) [.t 13, .q (iv 1)]]]] (.lets [.mk (.pk (.load 2 true)) [.mk (.pk (.fld 0)) [.mk (.pk (.idx 181 5)) [.t 9, .t 16]]]] (.lets [.mk (.pk (.load 2 true)) [.mk (.pk (.fld 2)) [.mk (.pk (.idx 181 5)) [.t 9, .t 16]]]] (.lets [.mk (.pk (.ibin .mul)) [.q (iv 2), .mk (.pk (.ibin .sub)) [.t 13, .q (iv 1)]]] (.lets [.mk (.pk (.load 1 false)) [.mk (.pk (.fld 4)) [.mk (.pk (.idx 181 5)) [.t 9, .t 16]]]] (.jp (.lets [.mk (.app 11) [.t 17, .mk (.lit 11 1 [iv 0,iv 0,iv 0,iv 0,iv 0,iv 0,iv 0,iv 0,iv 0,iv 0,bv false] [(0,11)]) [.mk .agg [.mk (.cell 0 3) [.t 22], .mk (.cell 1 3) [.t 22], .mk (.cell 2 3) [.t 22], .t 27, .t 28, .mk (.cell 0 2) [.t 23], .mk (.cell 1 2) [.t 23], .mk (.cell 0 2) [.t 24], .mk (.cell 1 2) [.t 24], .t 25, .mk (.cell 0 1) [.t 26]]]]] (.next 0 ([.t 20, .t 29]++cs 19 33 0 33))) (.ite (.mk (.cell 6 33) [.t 19]) (.fM [.mk .qa [.mk (.cell 3 5) [.t 21]], .mk .qa [.mk (.cell 2 5) [.t 21]]] (.next 0 [.mk (.cell 3 5) [.t 21], .mk (.cell 2 5) [.t 21]])) (.next 0 [.mk (.cell 2 5) [.t 21], .mk (.cell 3 5) [.t 21]])))))))))))))))) (.ret (.mk .tup [.mk .own [.t 17], .mk .bq [.q (iv 0)]]))))))))))))))))))))):=by kernel_rfl
end Ty
end
noncomputable section
namespace Ty
variable {H : FP}
theorem EM{G1 G:FP}(h: ∀f ds d,G1 f ds=some d→G f ds=some d){N:Nat}{t:FT}{ds:List D}{d:D}(he:ae G1 N t [] ds=some d):ae G N t [] ds=some d:=by
 obtain⟨k0,hk⟩:=fU (G:=G1) (Gk:=fun _=>G) (fun f ds d h'=>⟨0,fun _ _=>h f ds d h'⟩) (Lk:=fun _=> []) t (fun j f hf=>by simp at hf) he;exact hk k0 (Nat.le_refl _)
def Ct(lv dn rk dc:Int):List D:= [uv lv,uv dn,uv rk,uv dc]
section
variable {G : FP} {lv dn rk dc : Int}
@[simp] theorem Ct.fb:XK.run G (.pk (.fbox 4)) [.agg (Ct lv dn rk dc)]=some (.lptr (Ct lv dn rk dc)):=nr rfl
@[simp] theorem Ct.L4:XK.run G (.pk (.load 4 true)) [.lptr (Ct lv dn rk dc)]=some (.agg (Ct lv dn rk dc)):=nr rfl
@[simp] theorem Ct.bq:XK.run G .bq [.agg (Ct lv dn rk dc)]=some (.agg (Ct lv dn rk dc)):=nr rfl
@[simp] theorem Ct.L5:XK.run G (.pk (.load 1 false)) [.lptr (Ct lv dn rk dc)]=some (uv lv):=nr rfl
@[simp] theorem Ct.Oh:XK.run G (.pk (.load 1 false)) [.lptr (Ct lv dn rk dc).tail]=some (uv dn):=nr rfl
@[simp] theorem Ct.TZ:XK.run G (.pk (.load 1 false)) [.lptr ((Ct lv dn rk dc).drop 2)]=some (uv rk):=nr rfl
@[simp] theorem Ct.ld3:XK.run G (.pk (.load 1 false)) [.lptr ((Ct lv dn rk dc).drop 3)]=some (uv dc):=nr rfl
@[simp] theorem Ct.Wj{ks:List Nat}{ys:List D}:aa ks (Ct lv dn rk dc) ys=aa ks [uv lv,uv dn,uv rk,uv dc] ys:=nr rfl
@[simp] theorem Ct.aF:(D.agg (Ct lv dn rk dc)).aF=true:=nr rfl
end
def AD(lv dn rk dc:Int):Bool:=(decide (lv=0)&&(decide (dn=0)&&(decide (rk=0)&&decide (dc=0))))||(decide (1≤lv)&&decide (lv≤7)&&decide (dn≤4)&&decide (rk≤2)&&decide (dc≤3))
theorem X9(hF:Fr H)(lv dn rk dc:Int):XK.run (GK H) (.call false 286) [.agg (Ct lv dn rk dc)]=some (bv (AD lv dn rk dc)):=by
 refine ag (af hF PB (d:=bv (AD lv dn rk dc)) ?_) rfl rfl
 conv=>enter [1,3];cbv
 unfold AD;by_cases h0:lv=0∧dn=0∧rk=0∧dc=0
 ·obtain⟨rfl,rfl,rfl,rfl⟩:=h0;simp
 ·have e:(decide (lv=0)&&(decide (dn=0)&&(decide (rk=0)&&decide (dc=0))))=false:=by
   rw[Bool.eq_false_iff];intro h;simp at h;exact h0 h
  rw[e];by_cases h1:1≤lv<;>by_cases h2:lv≤7<;>by_cases h3:dn≤4<;>by_cases h4:rk≤2<;>simp[h1,h2,h3,h4,e]
def vA(rk i:Int)(v:Bool):Int:=if rk=0 then(if v then 100 else 50)else if i=0 then(if v then 200 else 100)else if i<3 then(if v then 300 else 200)else 300
theorem acg(hF:Fr H)(lv dn rk dc i:Int)(v:Bool):GK H 288 [iv i, .lptr (Ct lv dn rk dc), .lptr [iv (if v then 1 else 0)]]=some (iv (vA rk i v)):=by
 refine af hF PD ?_
 conv=>enter [1,3];cbv
 unfold vA;have a: ∀x y:Int,XK.run (GK H) (.pk (.aix 2 1 false)) [.agg [iv x,iv y],iv 1]=some (iv y):=fun x y=>rfl;have b: ∀x y:Int,XK.run (GK H) (.pk (.aix 2 1 false)) [.agg [iv x,iv y],iv 0]=some (iv x):=fun x y=>rfl;by_cases h:rk=0
 ·cases v<;>simp[h,a,b]
 ·by_cases h1:i=0
  ·cases v<;>simp[h,h1,a,b]
  ·by_cases h2:i<3
   ·cases v<;>simp[h,h1,h2,a,b]
   ·cases v<;>simp[h,h1,h2]
def G3:FP:=fun f ds=>if f=287 then(match ds with
  | [.v (.bool v)]=>some (iv (if v then 1 else 0))
  |_=>none)
 else if f=288 then(match ds with
  | [.v (.int .i64 i), .lptr [.v (.int .u8 _), .v (.int .u8 _), .v (.int .u8 rk), .v (.int .u8 _)], .lptr [.v (.int .i64 w)]]=>if w=1 then some (iv (vA rk i true))else if w=0 then some (iv (vA rk i false))else none
  |_=>none)
 else none
theorem NR(hF:Fr H): ∀f ds d,G3 f ds=some d→GK H f ds=some d:=fun f ds d h=>by
 unfold G3 at h;split at h
 ·rename_i hf;subst hf;split at h
  ·cases h;rename_i v;exact af hF PC (by(conv=>enter [1,3];cbv);cases v<;>simp)
  ·cases h
 ·split at h
  ·rename_i hf;subst hf;split at h
   ·rename_i i lv dn rk dc w
    have key: ∀v:Bool,GK H 288 [iv i, .lptr (Ct lv dn rk dc), .lptr [iv (if v then 1 else 0)]]=some (iv (vA rk i v)):=fun v=>by
     exact acg hF lv dn rk dc i v
    split at h
    ·rename_i hw;cases h;subst hw;exact key true
    ·split at h
     ·rename_i hw;cases h;subst hw;exact key false
     ·cases h
   ·cases h
  ·cases h
def inB:Option D→Bool
 |some (.v (.int .i64 z))=>decide (-10000≤z)&&decide (z≤10000)
 |_=>false
theorem IN{o:Option D}(h:inB o=true): ∃z,o=some (iv z)∧ -10000≤z∧z≤10000:=by
 unfold inB at h;split at h
 ·rename_i z;simp at h;exact⟨z,rfl,h.1,h.2⟩
 ·cases h
def NG(dc:Int):Bool:= [1,2,3,4,5,6,7].all fun lv=> [0,1,2,3,4].all fun dn=> [0,1,2].all fun rk=> [0,1,2,3,4,5,6].all fun ov=> [false,true].all fun v=>
 inB (kf G3 10000 Cb [] 3 [bv v,iv ov, .agg (Ct lv dn rk dc)])
def NF(lv dn dc:Int):Bool:= [0,1,2].all fun rk=> [1,2,3,4,5,6,7,8,9,10,11,12,13].all fun un=> [false,true].all fun v=>
 inB (kf G3 10000 Ca [] 3 [bv v,iv un, .agg (Ct lv dn rk dc)])
theorem HF(dc:Int):NG dc=true:=by kernel_rfl
theorem HE(lv dn dc:Int):NF lv dn dc=true:=by kernel_rfl
theorem adP(hF:Fr H){lv dn rk:Int}(dc:Int){ov:Int}(v:Bool)(h1:1≤lv∧lv≤7)(h2:0≤dn∧dn≤4)(h3:0≤rk∧rk≤2)(h4:0≤ov∧ov≤6): ∃z,XK.run (GK H) (.call false 283) [.agg (Ct lv dn rk dc),iv ov,bv v]=some (iv z)∧ -10000≤z∧z≤10000:=by
 have h:=HF dc;unfold NG at h;rw[Tz]at h;have h:=h lv (by simp;omega);rw[Tz]at h;have h:=h dn (by simp;omega);rw[Tz]at h;have h:=h rk (by simp;omega);rw[Tz]at h;have h:=h ov (by simp;omega);rw[Tz]at h;have h:=h v (by cases v<;>simp);obtain⟨z,h5,h6⟩:=IN h;refine⟨z, ?_,h6⟩;have e:=EZ G3 10000 Cb [] [.agg (Ct lv dn rk dc),iv ov,bv v];rw[show kf G3 10000 Cb [] [D.agg (Ct lv dn rk dc),iv ov,bv v].length [D.agg (Ct lv dn rk dc),iv ov,bv v].reverse=some (iv z)from h5,oz]at e;exact ag (af hF PA (EM (NR hF) e.symm)) rfl rfl
theorem adO(hF:Fr H)(lv dn:Int){rk:Int}(dc:Int){un:Int}(v:Bool)(h3:0≤rk∧rk≤2)(h4:1≤un∧un≤13): ∃z,XK.run (GK H) (.call false 282) [.agg (Ct lv dn rk dc),iv un,bv v]=some (iv z)∧ -10000≤z∧z≤10000:=by
 have h:=HE lv dn dc;unfold NF at h;rw[Tz]at h;have h:=h rk (by simp;omega);rw[Tz]at h;have h:=h un (by simp;omega);rw[Tz]at h;have h:=h v (by cases v<;>simp);obtain⟨z,h5,h6⟩:=IN h;refine⟨z, ?_,h6⟩;have e:=EZ G3 10000 Ca [] [.agg (Ct lv dn rk dc),iv un,bv v];rw[show kf G3 10000 Ca [] [D.agg (Ct lv dn rk dc),iv un,bv v].length [D.agg (Ct lv dn rk dc),iv un,bv v].reverse=some (iv z)from h5,oz]at e;exact ag (af hF Py (EM (NR hF) e.symm)) rfl rfl
structure RV(lv dn rk dc tr:Int):Prop where
 ok:AD lv dn rk dc=true
 l0:0≤lv
 d0:0≤dn
 r0:0≤rk
 c0:0≤dc
 t0:0≤tr
 t1:tr≤13
 z:lv=0→tr=0
theorem RV.VD{lv dn rk dc tr:Int}(h:RV lv dn rk dc tr)(hl:lv≠0):(1≤lv∧lv≤7)∧(0≤dn∧dn≤4)∧(0≤rk∧rk≤2)∧0≤dc∧dc≤3:=by
 have h1:=h.ok;simp[AD,hl]at h1;have:=h.d0;have:=h.r0;have:=h.c0;omega
theorem adN(hF:Fr H){lv dn rk dc tr:Int}(h:RV lv dn rk dc tr)(hl:lv≠0):XK.run (GK H) (.call false 281) [.agg (Ct lv dn rk dc)]=some (iv (6+lv)):=by
 refine ag (af hF Px (d:=iv (6+lv)) ?_) rfl rfl
 conv=>enter [1,3];cbv
 have k:=X9 hF lv dn rk dc;rw[h.ok]at k;have h2:=h.VD hl;simp[k,hl,wr (z:=lv) (by omega) (by omega),wr (z:=6+lv) (by omega) (by omega)]
theorem adM(hF:Fr H){lv dn rk dc tr:Int}(h:RV lv dn rk dc tr):XK.run (GK H) (.call false 280) [.agg (Ct lv dn rk dc),iv tr]=some (bv true):=by
 refine ag (af hF Pw (d:=bv true) ?_) rfl rfl
 conv=>enter [1,3];cbv
 have k:=X9 hF lv dn rk dc;rw[h.ok]at k;have a1: ¬tr<0:=by have:=h.t0;omega
 have a2: ¬13<tr:=by have:=h.t1;omega
 by_cases hl:lv=0
 ·subst hl;simp[k,a1,a2,h.z rfl]
 ·have a3:0<lv:=by have:=h.l0;omega
  simp[k,a1,a2,a3]
theorem X7(hF:Fr H){lv dn rk dc tr:Int}(h:RV lv dn rk dc tr)(v:Bool): ∃z,XK.run (GK H) (.call false 264) [.agg (Ct lv dn rk dc),iv tr,bv v]=some (.tup [iv z,iv 0])∧ -10000≤z∧z≤10000:=by
 have k1:=adM hF h;by_cases hl:lv=0
 ·refine⟨0,ag (af hF Fa (d:= .tup [iv 0,iv 0]) ?_) rfl rfl,by omega,by omega⟩
  conv=>enter [1,3];cbv
  subst hl;simp[k1]
 ·have k2:=adN hF h hl;obtain⟨b1,b2,b3,b4,b5⟩:=h.VD hl;have t0:=h.t0;have t1:=h.t1;by_cases hm:tr<6+lv
  ·obtain⟨z,k3,z1,z2⟩:=adO hF lv dn dc (un:=6+lv-tr) v b3 (by omega);refine⟨-z,ag (af hF Fa (d:= .tup [iv (-z),iv 0]) ?_) rfl rfl,by omega,by omega⟩
   conv=>enter [1,3];cbv
   simp[k1,k2,hl,hm,k3,wr (z:=6+lv-tr) (by omega) (by omega),wr (z:= -z) (by omega) (by omega)]
  ·obtain⟨z,k3,z1,z2⟩:=adP hF (lv:=lv) (dn:=dn) (rk:=rk) dc (ov:=tr-(6+lv)) v b1 b2 b3 (by omega);refine⟨z,ag (af hF Fa (d:= .tup [iv z,iv 0]) ?_) rfl rfl,by omega,by omega⟩
   conv=>enter [1,3];cbv
   simp[k1,k2,hl,hm,k3,wr (z:=tr-(6+lv)) (by omega) (by omega)]
def aa2(vul dc:Int):Bool:=if dc%2=0 then decide (vul%2=1)else decide (vul/2%2=1)
theorem adI(hF:Fr H){vul dc:Int}(h1:0≤vul∧vul≤3)(h2:0≤dc∧dc≤3): ∃b,XK.run (GK H) (.call false 274) [uv vul,uv dc]=some (bv b):=by
 have c1:vul=0∨vul=1∨vul=2∨vul=3:=by omega
 have c2:dc=0∨dc=1∨dc=2∨dc=3:=by omega
 have hb:sR (GK H) 10000 Kd [] [uv vul,uv dc]=some (bv (aa2 vul dc)):=by
  rcases c1 with rfl|rfl|rfl|rfl<;>rcases c2 with rfl|rfl|rfl|rfl<;>kernel_rfl
 rw[oz]at hb;exact⟨aa2 vul dc,ag (af hF Pp hb) rfl rfl⟩
def oM(H:FP)(o:Ou)(vul:Int):Int:=match GK H 258 [.agg (Ct o.lv o.dn o.rk o.dc),iv o.tr,uv vul]with
 |some (.tup [.v (.int .i64 z),_])=>z
 |_=>0
theorem TU(hF:Fr H){o:Ou}(h:RV o.lv o.dn o.rk o.dc o.tr){vul:Int}(hv:0≤vul∧vul≤3):XK.run (GK H) (.call false 258) [.agg (Ct o.lv o.dn o.rk o.dc),iv o.tr,uv vul]=some (.tup [iv (oM H o vul),iv 0])∧ -10000≤oM H o vul∧oM H o vul≤10000:=by
 have key: ∃z,GK H 258 [.agg (Ct o.lv o.dn o.rk o.dc),iv o.tr,uv vul]=some (.tup [iv z,iv 0])∧ -10000≤z∧z≤10000:=by
  have hd:0≤o.dc∧o.dc≤3:=by
   refine⟨h.c0, ?_⟩;by_cases hl:o.lv=0
   ·have:=h.ok;simp[AD,hl]at this;omega
   ·exact(h.VD hl).2.2.2.2
  obtain⟨b,kb⟩:=adI hF hv hd;obtain⟨z,k,z1,z2⟩:=X7 hF h b;have n1: ¬3<vul:=by omega
  by_cases hs:o.dc.tmod 2=1
  ·refine⟨-z,af hF Jt (d:= .tup [iv (-z),iv 0]) ?_,by omega,by omega⟩
   conv=>enter [1,3];cbv
   simp[n1,kb,k,hs,wr (z:= -z) (by omega) (by omega)]
  ·refine⟨z,af hF Jt (d:= .tup [iv z,iv 0]) ?_,by omega,by omega⟩
   conv=>enter [1,3];cbv
   simp[n1,kb,k,hs]
 obtain⟨z,hz,z1,z2⟩:=key;have e:oM H o vul=z:=by unfold oM;rw[hz]
 rw[e];exact⟨ag hz rfl rfl,z1,z2⟩
end Ty
end
section
namespace Ty
variable {H : FP}
def Ou.HJ(o:Ou):Prop:=RV o.lv o.dn o.rk o.dc o.tr
theorem jJ{o:Ou}(h:o.aQ=true)(hb:o.okB=true):o.HJ:=by
 simp[Ou.okB,u8]at hb;unfold Ou.aQ at h;by_cases h0:o.lv=0
 ·rw[if_pos h0]at h;simp at h;obtain⟨⟨a,b,c,d⟩,e⟩:=h;exact⟨by simp[AD,a,b,c,d],by omega,by omega,by omega,by omega,by omega,by omega,fun _=>e⟩
 ·rw[if_neg h0]at h;simp at h;refine⟨?_,by omega,by omega,by omega,by omega,by omega,by omega,fun h=>absurd h h0⟩;have:1≤o.lv:=by omega
  simp[AD,h0,this,h]
noncomputable def part(H:FP)(vul:Int)(o:Ou):Pt:=⟨oM H o vul,o.wt⟩
section
variable {G : FP}
theorem Ct.Mu{a b c d:Int}:XK.run G .agg [uv a,uv b,uv c,uv d]=some (.agg (Ct a b c d)):=rfl
end
theorem LZ(hF:Fr H)(l:List Ou){vul:Int}(hv:0≤vul∧vul≤3)(hc: ∀o∈l,o.HJ)(hr:rh (l.map (part H vul))):
  XK.run (GK H) (.call false 222) [.list (l.map Ou.cells),uv vul]=some (.tup [.list ((l.map (part H vul)).map Pt.cells),iv 0]):=by
 refine eI (af hF O8 ?_) rfl
 conv=>enter [1,3];cbv
 have hle:=hr.le;rw[List.length_map]at hle;have n1: ¬(4:Int)<(l.length:Int):=by omega
 obtain⟨R,hR⟩: ∃R,R=D.own (.tup [.list ((l.map (part H vul)).map Pt.cells),iv 0]):=⟨_,rfl⟩;rw[←hR];simp[n1];refine aI (n:=l.length) (fun i=> [iv (i:Int), .list (((l.take i).map (part H vul)).map Pt.cells),iv 0]) R (by omega) ?_;intro rec i hi ih;cases h3:l[i]? with
 |some o=>
  have l3:=(Gz.1 h3).1;have e3:l[i]=o:=(Gz.1 h3).2;have ih:=ih (by omega);have hs:=TU hF (hc o (Lz h3)) hv;have k1:=hs.1;have kc:XK.run (GK H) .agg [uv o.lv,uv o.dn,uv o.rk,uv o.dc]=some (.agg (Ct o.lv o.dn o.rk o.dc)):=Ct.Mu;have kp:XK.run (GK H) .agg [iv (oM H o vul),iv o.wt]=some (.agg (part H vul o).cells):=Pt.Mu;have et:((l.take (i+1)).map (part H vul)).map Pt.cells=((l.take i).map (part H vul)).map Pt.cells++ [(part H vul o).cells]:=by rw[List.take_add_one,h3];simp
  rw[et]at ih;have ka:=xU (G:=GK H) (size:=2) (es:=((l.take i).map (part H vul)).map Pt.cells) (c:=(part H vul o).cells) (by simp;omega) rfl;generalize((l.take i).map (part H vul)).map Pt.cells=acc at*;simp[-fu,l3,e3,k1,kc,kp,Oi,ka,wr (z:=(i:Int)+1) (by omega) (by omega)];exact ih
 |none=>
  have l3:=List.getElem?_eq_none_iff.1 h3;have e:l.length=i:=by omega
  have et:l.take i=l:=List.take_of_length_le (by omega);have n2: ¬3<vul:=by omega
  have k1:=TV hF (l.map (part H vul)) hr (fl:=true);have sw: ∀x y,bY (.mk .tup [.mk .own [x],y]) (.tup [.list ((l.map (part H vul)).map Pt.cells),iv 0])=R:=fun x y=>by rw[hR];exact k_ (AY fun x=>rfl)
  rw[et];generalize(l.map (part H vul)).map Pt.cells=acc at*;have ko:XK.run (GK H) .own [.list acc]=some (.list acc):=rfl;simp[e,n2,k1,ko,sw]
def Ou.whole(o:Ou):Ou:={o with wt:=100}
theorem TR(hF:Fr H)(o:Ou):XK.run (GK H) (.call false 220) [.agg o.cells]=some (.list (([o.whole]:List Ou).map Ou.cells)):=by
 have key: ∃x,GK H 220 [.agg o.cells]=some (bY x (.list (([o.whole]:List Ou).map Ou.cells))):=by
  refine⟨.mk .own [.t 1],af hF O6 ?_⟩
  conv=>enter [1,3];cbv
  have k:XK.run (GK H) (.lit 6 1 [uv 0,uv 0,uv 0,uv 0,iv 0,iv 0] [(0,6)]) [.agg [uv o.lv,uv o.dn,uv o.rk,uv o.dc,iv o.tr,iv 100]]=some (.list [o.whole.cells]):=rfl;have ko:XK.run (GK H) .own [.list [o.whole.cells]]=some (.list [o.whole.cells]):=rfl;simp[k,ko]
 obtain⟨x,hx⟩:=key;refine jA hx ?_ rfl;unfold bY;split
 ·rfl
 ·split<;>rfl
def bn:List Ou→Nat
 | []=>0
 |o::r=>if o.wt=0 then 0 else bn r+1
theorem s_: ∀l:List Ou,bn l≤l.length
 | []=>Nat.le_refl _
 |o::r=>by unfold bn;have:=s_ r;split<;>simp;omega
theorem X2(hF:Fr H)(e:En):XK.run (GK H) (.call false 221) [.agg e.cells]=some (iv (bn e.ol:Int)):=by
 refine ag (af hF O7 (d:=iv (bn e.ol:Int)) ?_) rfl rfl
 conv=>enter [1,3];cbv
 simp;refine cG (S:=Nat) (enc:=fun i=> [iv (i:Int)]) (res:=fun _=>iv (bn e.ol:Int)) (mes:=fun i=>4-i) (ok:=fun i=>i≤4∧bn e.ol=i+bn (e.ol.drop i)) ?_ 0 ⟨by omega,by simp⟩ (by omega);rintro rec (_|_|_|_|_|j) ⟨hj,hn⟩ ih
 ·by_cases hw:e.o0.wt=0
  ·have h:bn e.ol=0:=by rw[hn];simp[En.ol,bn,hw]
   simp[hw,h]
  ·have h:bn e.ol=1+bn (e.ol.drop 1):=by rw[hn];simp[En.ol,bn,hw];omega
   have ih:=ih 1 ⟨by omega,h⟩ (by omega);simp[hw];exact ih
 ·by_cases hw:e.o1.wt=0
  ·have h:bn e.ol=1:=by rw[hn];simp[En.ol,bn,hw]
   simp[hw,h]
  ·have h:bn e.ol=2+bn (e.ol.drop 2):=by rw[hn];simp[En.ol,bn,hw];omega
   have ih:=ih 2 ⟨by omega,h⟩ (by omega);simp[hw];exact ih
 ·by_cases hw:e.o2.wt=0
  ·have h:bn e.ol=2:=by rw[hn];simp[En.ol,bn,hw]
   simp[hw,h]
  ·have h:bn e.ol=3+bn (e.ol.drop 3):=by rw[hn];simp[En.ol,bn,hw];omega
   have ih:=ih 3 ⟨by omega,h⟩ (by omega);simp[hw];exact ih
 ·by_cases hw:e.o3.wt=0
  ·have h:bn e.ol=3:=by rw[hn];simp[En.ol,bn,hw]
   simp[hw,h]
  ·have h:bn e.ol=4+bn (e.ol.drop 4):=by rw[hn];simp[En.ol,bn,hw]
   have ih:=ih 4 ⟨by omega,h⟩ (by omega);simp[hw];exact ih
 ·have h:bn e.ol=4:=by rw[hn];simp[En.ol,bn]
  simp[h]
 ·exact absurd hj (by omega)
theorem L0(hF:Fr H)(e:En)(h0:e.a0=0)(h1:e.a1=0):XK.run (GK H) (.call false 240) [.agg e.cells]=some (bv true):=by
 refine ag (af hF Pb (d:=bv true) ?_) rfl rfl
 conv=>enter [1,3];cbv
 simp[h0,h1]
theorem Tx{o:Ou}(h:o.qH=true):o=⟨0,0,0,0,0,0⟩:=by
 obtain⟨a,b,c,d,e,f⟩:=o;simp[Ou.qH]at h;obtain⟨rfl,rfl,rfl,rfl,rfl,rfl⟩:=h;rfl
theorem Jf(hF:Fr H)(e:En){n:Nat}(hn:n≤4)(hz:(e.ol.drop n).all Ou.qH=true):XK.run (GK H) (.call false 239) [.agg e.cells,iv (n:Int)]=some (bv true):=by
 refine ag (af hF Pa (d:=bv true) ?_) rfl rfl
 conv=>enter [1,3];cbv
 have k:=sll (G:=GK H) (x:=e) hn;generalize hl:e.ol.drop n=l at*;have hlen:l.length≤4:=by rw[←hl];simp[En.ol]
 simp[k];refine aI (n:=l.length) (fun i=> [iv (i:Int),bv false]) (bv true) (by omega) ?_;intro rec i hi ih;cases h3:l[i]? with
 |some o=>
  have l3:=(Gz.1 h3).1;have e3:l[i]=o:=(Gz.1 h3).2;have ih:=ih (by omega);have ho:=Tx (Tz.1 hz o (Lz h3));subst ho;simp[l3,e3,wr (z:=(i:Int)+1) (by omega) (by omega)];exact ih
 |none=>
  have l3:=List.getElem?_eq_none_iff.1 h3;have e:l.length=i:=by omega
  simp[e]
theorem X3(hF:Fr H)(o:Ou)(h:o.HJ):XK.run (GK H) (.call false 242) [.agg o.cells]=some (bv true):=by
 refine ag (af hF Pd (d:=bv true) ?_) rfl rfl
 conv=>enter [1,3];cbv
 obtain⟨z,k,_⟩:=X7 hF h false;have kc:XK.run (GK H) (.pk (.load 4 true)) [.lptr o.cells]=some (.agg (Ct o.lv o.dn o.rk o.dc)):=rfl;have kc':XK.run (GK H) (.pk (.load 4 true)) [.lptr (o.cells.drop 0)]=some (.agg (Ct o.lv o.dn o.rk o.dc)):=rfl;simp[kc,kc',k]
theorem TT(hF:Fr H)(o:Ou)(h:o.HJ)(hw:o.wt=0):XK.run (GK H) (.call false 241) [.agg o.cells]=some (bv true):=by
 refine ag (af hF Pc (d:=bv true) ?_) rfl rfl
 conv=>enter [1,3];cbv
 simp[X3 hF o h,hw]
end Ty
end
section
namespace Ty
variable {H : FP}
theorem n9: ∀{l:List Ou} {s:Int} {n:Nat} {m:Int},ay l s n=(m,true)→0≤s→s≤99*n→n+l.length≤4→m=((n+bn l:Nat):Int)∧s+aR ((l.take (bn l)).map Ou.wt)=100∧2≤n+bn l∧ ∀o∈l.take (bn l),(1≤o.wt∧o.wt≤99)∧o.aQ=true
 | [],s,n,m,h,_,_,_=>by
  simp[ay]at h;simp[bn,aR];omega
 |o::r,s,n,m,h,h0,h1,h2=>by
  unfold ay at h;by_cases hw:o.wt=0
  ·rw[if_pos hw]at h;simp at h;simp[bn,hw,aR];omega
  ·rw[if_neg hw]at h;split at h
   rotate_left
   ·simp at h
   rename_i hok;simp[Ou.Nr]at hok;simp only[List.length_cons]at h2;rw[wr (by omega) (by omega)]at h;obtain⟨k1,k2,k3,k4⟩:=n9 h (by omega) (by omega) (by omega);have e:bn (o::r)=bn r+1:=by simp[bn,hw]
   rw[e,List.take_succ_cons,List.map_cons];simp only[aR];refine⟨by rw[k1];omega,by omega,by omega,fun x hx=> ?_⟩;rcases List.mem_cons.1 hx with rfl|hx
   ·exact⟨by omega,hok.2⟩
   ·exact k4 x hx
inductive RK(e:En):Prop
 |void (hk:e.kd=0) (hf:e.fl=0) (hz:e.ol.all Ou.qH=true) (h0:e.a0=0) (h1:e.a1=0)
 |aQ (hk:e.kd=1) (hp:e.o0.aQ=true) (hw:e.o0.wt=0) (hz:(e.ol.drop 1).all Ou.qH=true) (h0:e.a0=0) (h1:e.a1=0)
 |ay (hk:e.kd=2) (h2:2≤bn e.ol) (hs:aR ((e.ol.take (bn e.ol)).map Ou.wt)=100) (hp: ∀o∈e.ol.take (bn e.ol),(1≤o.wt∧o.wt≤99)∧o.aQ=true) (hz:(e.ol.drop (bn e.ol)).all Ou.qH=true) (h0:e.a0=0) (h1:e.a1=0)
 |split(hk:e.kd=3) (hp:e.o0.aQ=true) (hw:e.o0.wt=0) (hp1:e.o1.aQ=true) (hw1:e.o1.wt=0) (hz:(e.ol.drop 2).all Ou.qH=true) (h0:e.a0=0) (h1:e.a1=0)
 |award (hk:e.kd=4) (hf:e.fl=0) (hz:e.ol.all Ou.qH=true) (h0:wQ e.a0=true) (h1:wQ e.a1=true)
theorem tf{e:En}(hb:e.okB=true)(h:e.right=true):RK e∧(0≤e.fl∧e.fl≤3):=by
 have hkd:0≤e.kd∧0≤e.fl:=by
  simp[En.okB,u8]at hb;omega
 unfold En.right at h;split at h
 ·cases h
 rename_i c1;split at h
 ·cases h
 rename_i c2;split at h
 ·cases h
 rename_i c3;simp only[Az]at h;obtain⟨h1,h2⟩:=h;refine⟨?_,by omega⟩;have c2:e.used.2=true:=by simpa using c2
 have hk:e.kd=0∨e.kd=1∨e.kd=2∨e.kd=3∨e.kd=4:=by omega
 rcases hk with hk|hk|hk|hk|hk
 ·have e1:e.used=(0,true):=by unfold En.used;simp[hk]
  rw[e1]at h1 c3;have ha:e.a0=0∧e.a1=0:=by simpa[En.Ag,hk]using h2
  have hf:e.fl=0:=by
   by_cases hf:e.fl=0
   ·exact hf
   ·exact absurd ⟨rfl, .inl hf⟩ c3
  exact .void hk hf (by simpa using h1) ha.1 ha.2
 ·have ha:e.a0=0∧e.a1=0:=by simpa[En.Ag,hk]using h2
  unfold En.used at c2 h1;rw[if_pos hk]at c2 h1;split at c2
  ·rename_i hp;rw[if_pos hp]at h1;exact .aQ hk hp.1 hp.2 h1 ha.1 ha.2
  ·cases c2
 ·have ha:e.a0=0∧e.a1=0:=by simpa[En.Ag,hk]using h2
  unfold En.used at c2 h1;rw[if_neg (by omega),if_neg (by omega),if_pos hk]at c2 h1;obtain⟨k1,k2,k3,k4⟩:=n9 (l:= [e.o0,e.o1,e.o2,e.o3]) (s:=0) (n:=0) (m:=(Ty.ay [e.o0,e.o1,e.o2,e.o3] 0 0).1) (by rw[←c2]) (by omega) (by omega) (by simp);rw[k1,Int.toNat_natCast,Nat.zero_add]at h1;exact .ay hk (by have:=k3;show 2≤bn [e.o0,e.o1,e.o2,e.o3];omega) (by have:=k2;show aR (([e.o0,e.o1,e.o2,e.o3].take (bn [e.o0,e.o1,e.o2,e.o3])).map Ou.wt)=100;omega) k4 h1 ha.1 ha.2
 ·have ha:e.a0=0∧e.a1=0:=by simpa[En.Ag,hk]using h2
  unfold En.used at c2 h1;rw[if_neg (by omega),if_pos hk]at c2 h1;split at c2
  ·rename_i hp;rw[if_pos hp]at h1;exact .split hk hp.1.1 hp.1.2 hp.2.1 hp.2.2 h1 ha.1 ha.2
  ·cases c2
 ·have e1:e.used=(0,true):=by unfold En.used;simp[hk]
  rw[e1]at h1 c3;have ha:wQ e.a0=true∧wQ e.a1=true:=by simpa[En.Ag,hk]using h2
  have hf:e.fl=0:=by
   by_cases hf:e.fl=0
   ·exact hf
   ·exact absurd ⟨rfl, .inl hf⟩ c3
  exact .award hk hf (by simpa using h1) ha.1 ha.2
theorem BL{e:En}(hb:e.okB=true): ∀o∈e.ol,o.okB=true:=fun o ho=>by
 simp only[En.okB,Az]at hb;simp[En.ol]at ho;rcases ho with rfl|rfl|rfl|rfl
 ·exact hb.1.1.1.2
 ·exact hb.1.1.2
 ·exact hb.1.2
 ·exact hb.2
theorem adv(hF:Fr H)(e:En)(hz:e.ol.all Ou.qH=true)(h0:e.a0=0)(h1:e.a1=0):GK H 189 [.agg e.cells]=some (bv true):=by
 refine af hF OS ?_
 conv=>enter [1,3];cbv
 have k:=Jf hF e (n:=0) (by omega) hz;have k:XK.run (GK H) (.call false 239) [.agg e.cells,iv 0]=some (bv true):=k;simp[k,L0 hF e h0 h1]
theorem ady(hF:Fr H)(e:En)(hp:e.o0.HJ)(hw:e.o0.wt=0)(hz:(e.ol.drop 1).all Ou.qH=true)(h0:e.a0=0)(h1:e.a1=0):GK H 190 [.agg e.cells]=some (bv true):=by
 refine af hF OT ?_
 conv=>enter [1,3];cbv
 have k:XK.run (GK H) (.call false 239) [.agg e.cells,iv 1]=some (bv true):=Jf hF e (n:=1) (by omega) hz;simp[k,L0 hF e h0 h1,TT hF e.o0 hp hw]
theorem adA(hF:Fr H)(e:En)(hp:e.o0.HJ)(hw:e.o0.wt=0)(hp1:e.o1.HJ)(hw1:e.o1.wt=0)(hz:(e.ol.drop 2).all Ou.qH=true)(h0:e.a0=0)(h1:e.a1=0):GK H 192 [.agg e.cells]=some (bv true):=by
 refine af hF OV ?_
 conv=>enter [1,3];cbv
 have k:XK.run (GK H) (.call false 239) [.agg e.cells,iv 2]=some (bv true):=Jf hF e (n:=2) (by omega) hz;simp[k,L0 hF e h0 h1,TT hF e.o0 hp hw,TT hF e.o1 hp1 hw1]
theorem slh{G:FP}{x:En}{n:Nat}(h:n≤4):XK.run G (.pk (.sla 4 6 false true)) [.lptr (x.cells.drop 7),iv (n:Int)]=some (.list ((x.ol.take n).map Ou.cells)):=by
 rcases n with _|_|_|_|_|n
 ·rfl
 ·rfl
 ·rfl
 ·rfl
 ·rfl
 ·omega
theorem adz(hF:Fr H)(e:En)(h2:2≤bn e.ol)(hs:aR ((e.ol.take (bn e.ol)).map Ou.wt)=100)(hp: ∀o∈e.ol.take (bn e.ol),(1≤o.wt∧o.wt≤99)∧o.HJ)(hz:(e.ol.drop (bn e.ol)).all Ou.qH=true)(h0:e.a0=0)(h1:e.a1=0):GK H 191 [.agg e.cells]=some (bv true):=by
 refine af hF OU ?_
 conv=>enter [1,3];cbv
 have k1:=X2 hF e;have hn:bn e.ol≤4:=s_ e.ol;have k2:=slh (G:=GK H) (x:=e) hn;have k3:=Jf hF e hn hz;have k4:=L0 hF e h0 h1;have h2':(2:Int)≤(bn e.ol:Int):=by omega
 generalize hl:e.ol.take (bn e.ol)=l at*;have hlen:l.length≤4:=by rw[←hl,List.length_take];omega
 generalize bn e.ol=n at*;simp[k1,k2];refine aI (n:=l.length) (fun i=> [iv (i:Int),iv (aR ((l.take i).map Ou.wt)),bv false]) (bv true) (by omega) ?_;intro rec i hi ih;cases h3:l[i]? with
 |some o=>
  have l3:=(Gz.1 h3).1;have e3:l[i]=o:=(Gz.1 h3).2;have ih:=ih (by omega);obtain⟨⟨w1,w2⟩,hc⟩:=hp o (Lz h3);have k:=X3 hF o hc;have es:aR ((l.take (i+1)).map Ou.wt)=aR ((l.take i).map Ou.wt)+o.wt:=by rw[List.take_add_one,h3,List.map_append,pQ];simp[aR]
  have s0:0≤aR ((l.take i).map Ou.wt):=jE fun z hz=>by
   obtain⟨y,hy,rfl⟩:=List.mem_map.1 hz;have:=(hp y (List.mem_of_mem_take hy)).1;omega
  have s1:aR ((l.take i).map Ou.wt)≤((l.take i).map Ou.wt).length*99:=ti fun z hz=>by
   obtain⟨y,hy,rfl⟩:=List.mem_map.1 hz;have:=(hp y (List.mem_of_mem_take hy)).1;omega
  have s2:((l.take i).map Ou.wt).length≤4:=by simp;omega
  rw[es]at ih;have w:=wr (z:=aR ((l.take i).map Ou.wt)+o.wt) (by omega) (by omega);generalize aR ((l.take i).map Ou.wt)=acc at*;have d1: ¬o.wt<1:=by omega
  have d2: ¬100<o.wt:=by omega
  simp[l3,e3,k,d1,d2,w,wr (z:=(i:Int)+1) (by omega) (by omega)];exact ih
 |none=>
  have l3:=List.getElem?_eq_none_iff.1 h3;have e:l.length=i:=by omega
  have et:l.take i=l:=List.take_of_length_le (by omega);rw[et,hs];simp[e,h2',k3,k4]
set_option maxHeartbeats 4000000 in
theorem adB(hF:Fr H)(e:En)(hz:e.ol.all Ou.qH=true)(h0:wQ e.a0=true)(h1:wQ e.a1=true):GK H 193 [.agg e.cells]=some (bv true):=by
 refine af hF OW ?_
 conv=>enter [1,3];cbv
 have k:XK.run (GK H) (.call false 239) [.agg e.cells,iv 0]=some (bv true):=Jf hF e (n:=0) (by omega) hz;have c0:e.a0=0∨e.a0=30∨e.a0=40∨e.a0=50∨e.a0=60∨e.a0=70∨e.a0=100:=by simp[wQ]at h0;omega
 have c1:e.a1=0∨e.a1=30∨e.a1=40∨e.a1=50∨e.a1=60∨e.a1=70∨e.a1=100:=by simp[wQ]at h1;omega
 rcases c0 with c0|c0|c0|c0|c0|c0|c0<;>rcases c1 with c1|c1|c1|c1|c1|c1|c1<;>simp[k,c0,c1]
end Ty
end
noncomputable section
namespace Ty
variable {H : FP}
structure KB(e:En):Prop where
 b:e.okB=true
 r:e.right=true
theorem D6{e:En}(hb:e.okB=true)(hp: ∀o∈e.ol.take (bn e.ol),(1≤o.wt∧o.wt≤99)∧o.aQ=true): ∀o∈e.ol.take (bn e.ol),(1≤o.wt∧o.wt≤99)∧o.HJ:=
 fun o ho=>⟨(hp o ho).1,jJ (hp o ho).2 (BL hb o (List.mem_of_mem_take ho))⟩
theorem TO(hF:Fr H)(e:En)(h:KB e):XK.run (GK H) (.call false 149) [.agg e.cells]=some (bv true):=by
 refine ag (af hF OL (d:=bv true) ?_) rfl rfl
 conv=>enter [1,3];cbv
 obtain⟨hk,hf⟩:=tf h.b h.r;have o0:e.o0.okB=true:=BL h.b _ (by simp[En.ol]);have o1:e.o1.okB=true:=BL h.b _ (by simp[En.ol]);have c: ∀n,XK.run (GK H) .qa [.clo n []]=some (.clo n []):=fun n=>rfl
 have rg: ∀k:Int,0≤k∧k<5→XK.run (GK H) (.rngi 5) [uv k]=some (.tup []):=fun k hk=>by
  show(if 0≤k∧k<(5:Nat)then some (D.tup [])else none)=_;rw[if_pos (by omega)]
 have f3:e.fl≤3:=hf.2;have cc: ∀f,f<1000000→GK H f [.agg e.cells]=some (bv true)→XK.run (GK H) (.ccall false) [.clo f [], .agg e.cells]=some (bv true):=fun f hlt h=>(fZ hlt (cs:= []) rfl).trans (ag h rfl rfl);have ka:XK.run (GK H) .agg [.clo 189 [], .clo 190 [], .clo 191 [], .clo 192 [], .clo 193 []]=some (.agg [.clo 189 [], .clo 190 [], .clo 191 [], .clo 192 [], .clo 193 []]):=rfl;cases hk with
 |void hk hf hz h0 h1=>
  have k1:=cc 189 (by decide) (adv hF e hz h0 h1);have g:XK.run (GK H) (.geta 5 1 0 1 false) [.agg [.clo 189 [], .clo 190 [], .clo 191 [], .clo 192 [], .clo 193 []],uv 0]=some (.clo 189 []):=rfl;simp[-fu,c,rg 0 (by omega),f3,hk,ka,g,k1,wr (z:=0) (by omega) (by omega)]
 |aQ hk hp hw hz h0 h1=>
  have k1:=cc 190 (by decide) (ady hF e (jJ hp o0) hw hz h0 h1);have g:XK.run (GK H) (.geta 5 1 0 1 false) [.agg [.clo 189 [], .clo 190 [], .clo 191 [], .clo 192 [], .clo 193 []],uv 1]=some (.clo 190 []):=rfl;simp[-fu,c,rg 1 (by omega),f3,hk,ka,g,k1,wr (z:=1) (by omega) (by omega)]
 |ay hk h2 hs hp hz h0 h1=>
  have k1:=cc 191 (by decide) (adz hF e h2 hs (D6 h.b hp) hz h0 h1);have g:XK.run (GK H) (.geta 5 1 0 1 false) [.agg [.clo 189 [], .clo 190 [], .clo 191 [], .clo 192 [], .clo 193 []],uv 2]=some (.clo 191 []):=rfl;simp[-fu,c,rg 2 (by omega),f3,hk,ka,g,k1,wr (z:=2) (by omega) (by omega)]
 |split hk hp hw hp1 hw1 hz h0 h1=>
  have k1:=cc 192 (by decide) (adA hF e (jJ hp o0) hw (jJ hp1 o1) hw1 hz h0 h1);have g:XK.run (GK H) (.geta 5 1 0 1 false) [.agg [.clo 189 [], .clo 190 [], .clo 191 [], .clo 192 [], .clo 193 []],uv 3]=some (.clo 192 []):=rfl;simp[-fu,c,rg 3 (by omega),f3,hk,ka,g,k1,wr (z:=3) (by omega) (by omega)]
 |award hk hf hz h0 h1=>
  have k1:=cc 193 (by decide) (adB hF e hz h0 h1);have g:XK.run (GK H) (.geta 5 1 0 1 false) [.agg [.clo 189 [], .clo 190 [], .clo 191 [], .clo 192 [], .clo 193 []],uv 4]=some (.clo 193 []):=rfl;simp[-fu,c,rg 4 (by omega),f3,hk,ka,g,k1,wr (z:=4) (by omega) (by omega)]
def Cu(H:FP)(vul:Int)(e:En):List Pt:=if e.kd=2 then(e.ol.take (bn e.ol)).map (part H vul)else [part H vul e.o0.whole]
def Cq(H:FP)(vul:Int)(e:En):List Pt:=gj (if e.kd=2 then(e.ol.take (bn e.ol)).map (part H vul)else if e.kd=3 then [part H vul e.o1.whole]else [part H vul e.o0.whole])
theorem yY(hF:Fr H){o:Ou}(h:o.HJ){vul:Int}(hv:0≤vul∧vul≤3):rh ([o.whole].map (part H vul)) where
 ne:=by simp
 le:=by simp
 pt x hx:=by
  simp at hx;subst hx;have:=TU hF (o:=o.whole) h hv;exact⟨by show 1≤(100:Int)∧(100:Int)≤100;omega,this.2⟩
 sum:=by rfl
theorem aba(hF:Fr H){e:En}{vul:Int}(hv:0≤vul∧vul≤3)(h2:2≤bn e.ol)(hs:aR ((e.ol.take (bn e.ol)).map Ou.wt)=100)(hp: ∀o∈e.ol.take (bn e.ol),(1≤o.wt∧o.wt≤99)∧o.HJ):rh ((e.ol.take (bn e.ol)).map (part H vul)) where
 ne:=by simp;have:=s_ e.ol;omega
 le:=by simp[En.ol];omega
 pt x hx:=by
  obtain⟨o,ho,rfl⟩:=List.mem_map.1 hx;obtain⟨h1,h2⟩:=hp o ho;have:=TU hF h2 hv;exact⟨by show 1≤o.wt∧o.wt≤100;omega,this.2⟩
 sum:=by
  have e1:((e.ol.take (bn e.ol)).map (part H vul)).map Pt.w=(e.ol.take (bn e.ol)).map Ou.wt:=by rw[List.map_map];rfl
  rw[e1];exact hs
theorem FO{x:X}{a b:List (List D)}{v:Value}:(bY x (.tup [.list a, .list b, .v v])).bare= .tup [.list a, .list b, .v v]:=by
 unfold bY;split
 ·rfl
 ·split<;>rfl
def En.gP(e:En):Bool:= !decide (e.kd=0)&& !decide (e.kd=4)
theorem TP(hF:Fr H)(e:En)(h:KB e)(hc:e.gP=true){vul:Int}(hv:0≤vul∧vul≤3):
  (rh (Cu H vul e)∧rh (Cq H vul e))∧XK.run (GK H) (.call false 178) [.agg e.cells,uv vul]=some (.tup [.list ((Cu H vul e).map Pt.cells), .list ((Cq H vul e).map Pt.cells),iv 0]):=by
 obtain⟨hk,hf⟩:=tf h.b h.r;have o0:e.o0.okB=true:=BL h.b _ (by simp[En.ol]);have o1:e.o1.okB=true:=BL h.b _ (by simp[En.ol]);have k0:=TO hF e h;have v3: ¬3<vul:=by omega
 have fin: ∀(n s:List Pt) (r:D),GK H 178 [.agg e.cells,uv vul]=some (bY (.mk .tup [.mk .bq [.t 9], .mk .bq [.t 17], .mk .bq [.q (iv 0)]]) (.tup [.list (n.map Pt.cells), .list (s.map Pt.cells),iv 0]))→XK.run (GK H) (.call false 178) [.agg e.cells,uv vul]=some (.tup [.list (n.map Pt.cells), .list (s.map Pt.cells),iv 0]):=fun n s r h=>jA h FO rfl;have no3: ∀(a b:List (List D)),(D.tup [.list a, .list b,iv 0]).aF=true:=fun a b=>rfl;cases hk with
 |void hk=>simp[En.gP,hk]at hc
 |award hk=>simp[En.gP,hk]at hc
 |aQ hk hp hw hz h0 h1=>
  have hn:Cu H vul e= [e.o0.whole].map (part H vul):=by simp[Cu,hk]
  have he:Cq H vul e=gj ([e.o0.whole].map (part H vul)):=by simp[Cq,hk]
  have hr:=yY hF (jJ hp o0) hv;rw[hn,he];refine⟨⟨hr,zP hr⟩,fin _ _ (iv 0) (af hF E_ ?_)⟩
  conv=>enter [1,3];cbv
  have k1:=TR hF e.o0;have k2:=LZ hF [e.o0.whole] hv (fun o ho=>by simp at ho;subst ho;exact jJ hp o0) hr;have k3:=TS hF _ hr;generalize([e.o0.whole]:List Ou).map Ou.cells=fl at*;generalize(([e.o0.whole]:List Ou).map (part H vul)).map Pt.cells=a at*;generalize(gj (([e.o0.whole]:List Ou).map (part H vul))).map Pt.cells=b at*;simp[k0,v3,hk,k1,k2,k3,no3]
 |ay hk h2 hs hp hz h0 h1=>
  have hn:Cu H vul e=(e.ol.take (bn e.ol)).map (part H vul):=by simp[Cu,hk]
  have he:Cq H vul e=gj ((e.ol.take (bn e.ol)).map (part H vul)):=by simp[Cq,hk]
  have hr:=aba hF hv h2 hs (D6 h.b hp);rw[hn,he];refine⟨⟨hr,zP hr⟩,fin _ _ (iv 0) (af hF E_ ?_)⟩
  conv=>enter [1,3];cbv
  have k1:=X2 hF e;have k4:=slh (G:=GK H) (x:=e) (n:=bn e.ol) (s_ e.ol);have k2:=LZ hF (e.ol.take (bn e.ol)) hv (fun o ho=>(D6 h.b hp o ho).2) hr;have k3:=TS hF _ hr;generalize(e.ol.take (bn e.ol)).map Ou.cells=fl at*;generalize((e.ol.take (bn e.ol)).map (part H vul)).map Pt.cells=a at*;generalize(gj ((e.ol.take (bn e.ol)).map (part H vul))).map Pt.cells=b at*;simp[k0,v3,hk,k1,k2,k3,k4,no3]
 |split hk hp hw hp1 hw1 hz h0 h1=>
  have hn:Cu H vul e= [e.o0.whole].map (part H vul):=by simp[Cu,hk]
  have he:Cq H vul e=gj ([e.o1.whole].map (part H vul)):=by simp[Cq,hk]
  have hr:=yY hF (jJ hp o0) hv;have hr1:=yY hF (jJ hp1 o1) hv;rw[hn,he];refine⟨⟨hr,zP hr1⟩,fin _ _ (iv 0) (af hF E_ ?_)⟩
  conv=>enter [1,3];cbv
  have k1:=TR hF e.o0;have k1':=TR hF e.o1;have k2:=LZ hF [e.o0.whole] hv (fun o ho=>by simp at ho;subst ho;exact jJ hp o0) hr;have k2':=LZ hF [e.o1.whole] hv (fun o ho=>by simp at ho;subst ho;exact jJ hp1 o1) hr1;have k3:=TS hF _ hr1;generalize([e.o0.whole]:List Ou).map Ou.cells=fl at*;generalize([e.o1.whole]:List Ou).map Ou.cells=fl1 at*;generalize(([e.o0.whole]:List Ou).map (part H vul)).map Pt.cells=a at*;generalize(([e.o1.whole]:List Ou).map (part H vul)).map Pt.cells=a1 at*;generalize(gj (([e.o1.whole]:List Ou).map (part H vul))).map Pt.cells=b at*;simp[k0,v3,hk,k1,k1',k2,k2',k3,no3]
end Ty
end
section
namespace Ty
variable {H : FP}
def share(p all:Int):Fq:=red (p*(2*(all-1))) 100
theorem XV(hB:Fb H)(p all:Int)(hp:0≤p∧p≤100)(ha:1≤all∧all≤24):XK.run (GK H) (.call false 150) [iv p,iv all]=some (.tup [.agg (share p all).cells,iv 0]):=by
 have hF:=hB.fr;refine ag (af hF OM (d:= .tup [.agg (share p all).cells,iv 0]) ?_) rfl rfl
 conv=>enter [1,3];cbv
 have k1:=TQ hF all;rw[decide_eq_true ha.1,decide_eq_true ha.2]at k1;have k2:=X1 hF all ha.1 (by omega);have k3:=X0 hF (2*(all-1)) 100;have e1:red p 1=⟨p,1⟩:=GL (Jy p);have b1:0≤p*(2*(all-1))∧p*(2*(all-1))≤100*46:=Gx hp.1 hp.2 (by omega) (by omega)
 have t1:XK.run (GK H) (.ccall false) [.clo 243 [.lptr [iv (2*(all-1))], .lptr [iv 100]], .agg (red p 1).cells]=some (.tup [.agg (share p all).cells,iv 0]):=by
  have h:=X4 hF p 1 (2*(all-1)) 100 (by decide) (by decide) (by rw[←Int.natAbs_mul];omega) (by decide) (by omega) (by omega);rw[show(1:Int)*100=100 from rfl]at h;exact(fZ (by decide) (cs:= [.lptr [iv (2*(all-1))], .lptr [iv 100]]) rfl).trans (ag h rfl rfl)
 have k4:=XZ hF [.clo 243 [.lptr [iv (2*(all-1))], .lptr [iv 100]]] (fun i=>match i with|0=>red p 1|_=>share p all) (by simp) (by intro c hc;simp only[List.mem_cons,List.not_mem_nil,or_false]at hc;subst hc;rfl) (fun i c h=>by
  match i,h with
  |0,h=>cases h;exact t1)
 rw[show(match(0:Nat)with|0=>red p 1|_=>share p all)=red p 1 from rfl,e1]at k4;have k5:XK.run (GK H) (.call true 195) [.agg [iv p,iv 1], .list [[.clo 243 [.lptr [iv (2*(all-1))], .lptr [iv 100]]]]]=some (.tup [.agg (share p all).cells,iv 0]):=ag k4 rfl rfl;have k6:XK.run (GK H) (.lit 1 1 [.v .nilFunc] [(0,1)]) [.clo 243 [.lptr [iv (2*(all-1))], .lptr [iv 100]]]=some (.list [[.clo 243 [.lptr [iv (2*(all-1))], .lptr [iv 100]]]]):=rfl;have n1: ¬p<0:=by omega
 have n2: ¬100<p:=by omega
 simp[-bN,k1,k2,k3,k5,k6,n1,n2]
theorem Ec{a:Int}(h:wQ a=true):0≤a∧a≤100:=by simp[wQ]at h;omega
theorem l98(hB:Fb H)(e:En)(h:KB e)(hk:e.kd=4){all:Int}(ha:1≤all∧all≤24):XK.run (GK H) (.call false 98) [.agg e.cells,iv all]=some (.tup [.agg (share e.a0 all).cells, .agg (share e.a1 all).cells,iv 0]):=by
 have hF:=hB.fr;refine ag (af hF Z0 (d:= .tup [.agg (share e.a0 all).cells, .agg (share e.a1 all).cells,iv 0]) ?_) rfl rfl
 conv=>enter [1,3];cbv
 have k0:=TO hF e h;obtain⟨hr,_⟩:=tf h.b h.r
 have aw:wQ e.a0=true∧wQ e.a1=true:=by
  cases hr with
  |award _ _ _ h0 h1=>exact⟨h0,h1⟩
  |void h=>omega
  |aQ h=>omega
  |ay h=>omega
  |split h=>omega
 have k1:=XV hB e.a0 all (Ec aw.1) ha;have k2:=XV hB e.a1 all (Ec aw.2) ha;have n1: ¬all<1:=by omega
 have n2: ¬24<all:=by omega
 have no:(D.tup [.agg (share e.a0 all).cells, .agg (share e.a1 all).cells,iv 0]).aF=true:=rfl;have tg: ∀x,bY x (.tup [.agg (share e.a0 all).cells, .agg (share e.a1 all).cells,iv 0])= .tup [.agg (share e.a0 all).cells, .agg (share e.a1 all).cells,iv 0]:=fun x=>rfl;simp[-bN,k0,k1,k2,n1,n2,hk,no,tg]
theorem adr(hF:Fr H)(l:List En)(h: ∀e∈l,KB e)(hl:l.length≤24):XK.run (GK H) (.call false 136) [.list (l.map En.cells)]=some (iv 0):=by
 refine ag (af hF OH (d:=iv 0) ?_) rfl rfl
 conv=>enter [1,3];cbv
 have n1: ¬(24:Int)<(l.length:Int):=by omega
 simp;refine aI (n:=l.length) (fun i=> [iv (i:Int),iv 0]) (iv 0) (by omega) ?_;intro rec i hi ih;cases h3:l[i]? with
 |some e=>
  have l3:=(Gz.1 h3).1;have e3:l[i]=e:=(Gz.1 h3).2;have ih:=ih (by omega);have k:=TO hF e (h e (Lz h3));simp[l3,e3,k,wr (z:=(i:Int)+1) (by omega) (by omega)];exact ih
 |none=>
  have l3:=List.getElem?_eq_none_iff.1 h3;have e:l.length=i:=by omega
  subst e;simp[n1]
theorem LY(hF:Fr H)(e:En):XK.run (GK H) (.call false 181) [.agg e.cells]=some (bv e.gP):=by
 refine ag (af hF OR (d:=bv e.gP) ?_) rfl rfl
 conv=>enter [1,3];cbv
 unfold En.gP;by_cases h:e.kd=0<;>simp[h]
theorem XU(hF:Fr H)(l:List En)(f:Int):XK.run (GK H) (.call false 137) [.list (l.map En.cells),uv f]=some (.clo 180 [.lptr [.list (l.map En.cells)], .lptr [uv f]]):=by
 refine ag (af hF OI (d:= .clo 180 [.lptr [.list (l.map En.cells)], .lptr [uv f]]) ?_) rfl rfl
 conv=>enter [1,3];cbv
 rw[←oz];generalize l.map En.cells=es
 kernel_rfl
section
variable {G : FP}
theorem yH{a b:D}:XK.run G (.isc 180 2) [.clo 180 [a,b]]=some (.tup []):=rfl
theorem xY{es:List (List D)}{b:D}:XK.run G (.capc 180 0 2) [.clo 180 [.lptr [.list es],b]]=some (.lptr [.list es]):=rfl
theorem xZ{a:D}{f:Int}:XK.run G (.capc 180 1 2) [.clo 180 [a, .lptr [uv f]]]=some (.lptr [uv f]):=rfl
def C4(g:Nat→Int):List D:= [iv (g 0),iv (g 1),iv (g 2),iv (g 3)]
theorem C4.Mu{g:Nat→Int}:XK.run G .agg [iv (g 0),iv (g 1),iv (g 2),iv (g 3)]=some (.agg (C4 g)):=rfl
theorem C4.get{g:Nat→Int}{f:Nat}(hf:f<4):XK.run G (.geta 4 1 0 1 false) [.agg (C4 g),iv (f:Int)]=some (iv (g f)):=by
 have c:f=0∨f=1∨f=2∨f=3:=by omega
 rcases c with rfl|rfl|rfl|rfl<;>rfl
theorem C4.set{g:Nat→Int}{f:Nat}{v:Int}(hf:f<4):XK.run G (.seta 4 1 0 1) [.agg (C4 g),iv (f:Int),iv v]=some (.agg (C4 fun j=>if j=f then v else g j)):=by
 have c:f=0∨f=1∨f=2∨f=3:=by omega
 rcases c with rfl|rfl|rfl|rfl<;>rfl
@[simp] theorem C4.c0{g:Nat→Int}:XK.run G (.cell 0 4) [.agg (C4 g)]=some (iv (g 0)):=nr rfl
@[simp] theorem C4.c1{g:Nat→Int}:XK.run G (.cell 1 4) [.agg (C4 g)]=some (iv (g 1)):=nr rfl
@[simp] theorem C4.c2{g:Nat→Int}:XK.run G (.cell 2 4) [.agg (C4 g)]=some (iv (g 2)):=nr rfl
@[simp] theorem C4.c3{g:Nat→Int}:XK.run G (.cell 3 4) [.agg (C4 g)]=some (iv (g 3)):=nr rfl
theorem Δ{f:Nat}(hf:f<4):XK.run G (.rngi 4) [iv (f:Int)]=some (.tup []):=by
 show(if 0≤(f:Int)∧(f:Int)<(4:Nat)then some (D.tup [])else none)=_;rw[if_pos (by omega)]
end
def En.nv(e:En):Bool:= !decide (e.kd=0)
def En.ft(f:Int)(e:En):Bool:=e.gP&&decide (e.fl=f)
theorem gQ{p:En→Bool}{l:List En}{i:Nat}{e:En}(h:l[i]?=some e):(l.take (i+1)).countP p=(l.take i).countP p+(if p e=true then 1 else 0):=by
 rw[List.take_add_one,h,List.countP_append];simp[List.countP_cons]
def jn(l:List En)(f i j:Nat):Int:=if j<f then(l.countP (En.ft j):Int)else if j=f then((l.take i).countP (En.ft f):Int)else 0
theorem Wr(l:List En)(j:Nat):jn l 0 0 j=0:=by unfold jn;simp
theorem Lt(l:List En)(f j:Nat):jn l f l.length j=jn l (f+1) 0 j:=by
 unfold jn;rw[List.take_length];by_cases h:j<f
 ·rw[if_pos h,if_pos (by omega)]
 ·by_cases h2:j=f
  ·subst h2;simp
  ·rw[if_neg h,if_neg h2,if_neg (by omega)];split<;>simp
theorem Ws(l:List En){j:Nat}(h:j<4):jn l 4 0 j=(l.countP (En.ft j):Int):=by unfold jn;rw[if_pos h]
theorem SP{l:List En}{i:Nat}{e:En}(h:l[i]?=some e){f:Nat}(hi:e.ft f=false)(j:Nat):jn l f (i+1) j=jn l f i j:=by
 unfold jn;rw[gQ h,hi];simp
theorem Lv{l:List En}{i:Nat}{e:En}(h:l[i]?=some e){f:Nat}(hi:e.ft f=true)(j:Nat):jn l f (i+1) j=if j=f then jn l f i f+1 else jn l f i j:=by
 unfold jn;rw[gQ h,hi];by_cases h1:j=f
 ·subst h1;simp
 ·simp[h1]
theorem Lu(l:List En)(hl:l.length≤24)(f i j:Nat):0≤jn l f i j∧jn l f i j≤24:=by
 have c1: ∀p:En→Bool,l.countP p≤24:=fun p=>Nat.le_trans List.countP_le_length hl;have c2: ∀p:En→Bool,(l.take i).countP p≤24:=fun p=>Nat.le_trans List.countP_le_length (by rw[List.length_take];omega);unfold jn;have a:=c1 (En.ft j);have b:=c2 (En.ft f);split
 ·omega
 ·split<;>omega
theorem l88(hF:Fr H)(l:List En)(h: ∀e∈l,KB e)(hl:l.length≤24):
  XK.run (GK H) (.call false 88) [.list (l.map En.cells)]=some (.tup [iv (l.countP En.nv:Int), .agg (C4 fun f=>(l.countP (En.ft f):Int)),iv 0]):=by
 refine ag (af hF ZY (d:= .tup [iv (l.countP En.nv:Int), .agg (C4 fun f=>(l.countP (En.ft f):Int)),iv 0]) ?_) rfl rfl;unfold UY;generalize hz0:Eo=z0
 conv=>enter [1,3];cbv
 subst hz0;generalize hz1:Ep=z1
 conv in Eo=>unfold Eo;rw[hz1];cbv
 subst hz1;generalize hz2:Er=z2
 conv in Ep=>unfold Ep;rw[hz2];cbv
 subst hz2
 conv in Er=>unfold Er;cbv
 have k0:=adr hF l h hl;obtain⟨R,hR⟩: ∃R,R=D.tup [iv (l.countP En.nv:Int), .agg (C4 fun f=>(l.countP (En.ft f):Int)),iv 0]:=⟨_,rfl⟩;rw[←hR];have cl: ∀(p:En→Bool) (i:Nat),(l.take i).countP p≤24:=fun p i=>Nat.le_trans List.countP_le_length (by rw[List.length_take];omega);simp[k0];refine aI (n:=l.length) (fun i=> [iv (i:Int),iv ((l.take i).countP En.nv:Int)]) R (by omega) ?_;intro rec i hi ih;cases h3:l[i]? with
 |some e=>
  have l3:=(Gz.1 h3).1;have e3:l[i]=e:=(Gz.1 h3).2;have ih:=ih (by omega);rw[gQ h3]at ih;have hc:=cl En.nv i;generalize(l.take i).countP En.nv=c at*;by_cases hk:e.kd=0
  ·rw[show e.nv=false by simp[En.nv,hk]]at ih;simp at ih;simp[l3,e3,hk,wr (z:=(i:Int)+1) (by omega) (by omega)];exact ih
  ·rw[show e.nv=true by simp[En.nv,hk]]at ih;simp at ih;simp[l3,e3,hk,wr (z:=(i:Int)+1) (by omega) (by omega),wr (z:=(c:Int)+1) (by omega) (by omega)];exact ih
 |none=>
  have l3:=List.getElem?_eq_none_iff.1 h3;have e:l.length=i:=by omega
  have et:l.take i=l:=List.take_of_length_le (by omega);rw[et];clear ih h3 l3 hi et;subst e;simp;have hz: [D.v (.int .i64 0),D.v (.int .i64 0),D.v (.int .i64 0),D.v (.int .i64 0),D.v (.int .i64 0)]= [iv ((0:Nat):Int),iv (jn l 0 0 0),iv (jn l 0 0 1),iv (jn l 0 0 2),iv (jn l 0 0 3)]:=by simp[Wr]
  rw[hz];refine aI (n:=4) (fun f=> [iv (f:Int),iv (jn l f 0 0),iv (jn l f 0 1),iv (jn l f 0 2),iv (jn l f 0 3)]) R (by omega) ?_;intro rec f hf ih;by_cases h4:f=4
  ·subst h4
   have k4:XK.run (GK H) .agg [iv (jn l 4 0 0),iv (jn l 4 0 1),iv (jn l 4 0 2),iv (jn l 4 0 3)]=some (.agg (C4 fun f=>(l.countP (En.ft f):Int))):=by
    rw[C4.Mu (g:=fun j=>jn l 4 0 j)];simp[C4,Ws]
   have no:(D.tup [iv (l.countP En.nv:Int), .agg (C4 fun f=>(l.countP (En.ft f):Int)),iv 0]).aF=true:=rfl;have tg: ∀x,bY x (.tup [iv (l.countP En.nv:Int), .agg (C4 fun f=>(l.countP (En.ft f):Int)),iv 0])=R:=fun x=>by rw[hR];rfl
   generalize(C4 fun f=>(l.countP (En.ft f):Int))=c4 at*;simp[-fu,k4,no,tg]
  ·have hf4:f<4:=by omega
   have hfi:(f:Int)<4:=by omega
   have kc:=XU hF l (f:Int)
   have w8:IntKind.u8.wrap (f:Int)=(f:Int):=by
    have c:f=0∨f=1∨f=2∨f=3:=by omega
    rcases c with rfl|rfl|rfl|rfl<;>rfl
   have ih:=ih (by omega);simp[hfi,w8,kc,yH,xY,xZ];refine aI (n:=l.length) (fun i=> [iv (i:Int),iv (jn l f i 0),iv (jn l f i 1),iv (jn l f i 2),iv (jn l f i 3)]) R (by omega) ?_;intro Dx i hi ih2;cases h3:l[i]? with
   |some e=>
    have l3:=(Gz.1 h3).1;have e3:l[i]=e:=(Gz.1 h3).2;have ih2:=ih2 (by omega);have k1:=LY hF e;have kg:=C4.get (G:=GK H) (g:=fun j=>jn l f i j) hf4;have ks:=C4.set (G:=GK H) (g:=fun j=>jn l f i j) (v:=jn l f i f+1) hf4;have ko:=C4.Mu (G:=GK H) (g:=fun j=>jn l f i j);have kr:=Δ (G:=GK H) hf4;have rg:=Lu l hl f i f;cases hin:e.ft f with
    |true=>
     have hcm:e.gP=true∧e.fl=(f:Int):=by simpa[En.ft]using hin
     simp only[Lv h3 hin]at ih2;generalize hgg:(fun j=>jn l f i j)=gg at*;have e0: ∀j,jn l f i j=gg j:=fun j=>by rw[←hgg]
     simp only[e0]at*;simp[-fu,l3,e3,k1,hcm.1,hcm.2,kg,ks,ko,kr,wr (z:=gg f+1) (by omega) (by omega),wr (z:=(i:Int)+1) (by omega) (by omega)];exact ih2
    |false=>
     simp only[SP h3 hin]at ih2;generalize jn l f i 0=a0 at*;generalize jn l f i 1=a1 at*;generalize jn l f i 2=a2 at*;generalize jn l f i 3=a3 at*;cases hcm:e.gP with
     |true=>
      have hfl: ¬e.fl=(f:Int):=by simpa[En.ft,hcm]using hin
      simp[l3,e3,k1,hcm,hfl,wr (z:=(i:Int)+1) (by omega) (by omega)];exact ih2
     |false=>
      simp[l3,e3,k1,hcm,wr (z:=(i:Int)+1) (by omega) (by omega)];exact ih2
   |none=>
    have l3:=List.getElem?_eq_none_iff.1 h3;have e:l.length=i:=by omega
    clear ih2 h3 l3 hi;subst e;simp only[Lt];simp[wr (z:=(f:Int)+1) (by omega) (by omega)];exact ih
end Ty
end
section
namespace Ty
end Ty
end
noncomputable section
namespace Ty
variable {H : FP}
def P2(a b:Fq):List D:= [iv a.n,iv a.d,iv b.n,iv b.d]
section
variable {G : FP} {a b c f : Fq} {es : List (List D)} {i : Nat}
@[simp] theorem P2.len:(P2 a b).length=4:=nr rfl
@[simp] theorem P2.L5:XK.run G (.pk (.load 2 true)) [.lptr (P2 a b)]=some (.agg a.cells):=nr rfl
@[simp] theorem P2.TZ:XK.run G (.pk (.load 2 true)) [.lptr ((P2 a b).drop 2)]=some (.agg b.cells):=nr rfl
theorem aeL(h:es[i]?=some (P2 a b)):XK.run G (.setl 4 0 4) [.list es,iv (i:Int), .agg [iv 0,iv 1,iv 0,iv 1]]=some (.list (es.set i (P2 ⟨0,1⟩ ⟨0,1⟩))):=by
 show(if(i:Int)<0 then none else(es[(i:Int).toNat]?).bind fun c=>if(D.agg [iv 0,iv 1,iv 0,iv 1]).cells.length=4∧0+4≤4∧c.length=4∧(D.agg [iv 0,iv 1,iv 0,iv 1]).cells.all D.gK=true∧(D.agg [iv 0,iv 1,iv 0,iv 1]).cells.all D.nV=true then some (D.list (es.set (i:Int).toNat (putAt c 0 (D.agg [iv 0,iv 1,iv 0,iv 1]).cells)))else none)=_;rw[if_neg (by omega),Int.toNat_natCast,h,Oz,if_pos ⟨rfl,by omega,rfl,rfl,rfl⟩];rfl
theorem PJ(h:es[i]?=some (P2 a b)):XK.run G (.setl 4 0 2) [.list es,iv (i:Int), .agg f.cells]=some (.list (es.set i (P2 f b))):=by
 show(if(i:Int)<0 then none else(es[(i:Int).toNat]?).bind fun c=>if(D.agg f.cells).cells.length=2∧0+2≤4∧c.length=4∧(D.agg f.cells).cells.all D.gK=true∧(D.agg f.cells).cells.all D.nV=true then some (D.list (es.set (i:Int).toNat (putAt c 0 (D.agg f.cells).cells)))else none)=_;rw[if_neg (by omega),Int.toNat_natCast,h,Oz,if_pos ⟨rfl,by omega,rfl,rfl,rfl⟩];rfl
theorem PL(h:es[i]?=some (P2 a b)):XK.run G (.setl 4 2 2) [.list es,iv (i:Int), .agg f.cells]=some (.list (es.set i (P2 a f))):=by
 show(if(i:Int)<0 then none else(es[(i:Int).toNat]?).bind fun c=>if(D.agg f.cells).cells.length=2∧2+2≤4∧c.length=4∧(D.agg f.cells).cells.all D.gK=true∧(D.agg f.cells).cells.all D.nV=true then some (D.list (es.set (i:Int).toNat (putAt c 2 (D.agg f.cells).cells)))else none)=_;rw[if_neg (by omega),Int.toNat_natCast,h,Oz,if_pos ⟨rfl,by omega,rfl,rfl,rfl⟩];rfl
theorem Yd:XK.run G (.lit 1 1 [.nil] [(0,1)]) [.list es]=some (.list [[.list es]]):=rfl
theorem ad4{n:Int}(h0:0≤n)(h1:n≤1000):XK.run G (.mks 5 [iv 0,iv 0,iv 0,iv 0,bv false]) [iv 0,iv n]=some (.list []):=by
 show(if(0:Int)≤0∧0≤n∧n≤aC∧n.toNat*5≤16777216∧ [iv 0,iv 0,iv 0,iv 0,bv false].length=5∧([iv 0,iv 0,iv 0,iv 0,bv false]:List D).all D.nV=true then some (D.list (List.replicate (0:Int).toNat [iv 0,iv 0,iv 0,iv 0,bv false]))else none)=_;rw[if_pos ⟨by omega,h0,by simp[aC];omega,by omega,rfl,rfl⟩];rfl
theorem ad3{n:Nat}(h1:n≤1000):XK.run G (.mks 4 [iv 0,iv 0,iv 0,iv 0]) [iv (n:Int),iv (n:Int)]=some (.list (List.replicate n (P2 ⟨0,0⟩ ⟨0,0⟩))):=by
 show(if 0≤(n:Int)∧(n:Int)≤n∧(n:Int)≤aC∧(n:Int).toNat*4≤16777216∧ [iv 0,iv 0,iv 0,iv 0].length=4∧([iv 0,iv 0,iv 0,iv 0]:List D).all D.nV=true then some (D.list (List.replicate (n:Int).toNat [iv 0,iv 0,iv 0,iv 0]))else none)=_;rw[if_pos ⟨by omega,by omega,by simp[aC];omega,by omega,rfl,rfl⟩,Int.toNat_natCast];rfl
def Cw(a b:Fq)(c:Bool):List D:= [iv a.n,iv a.d,iv b.n,iv b.d,bv c]
theorem Cw.lit{c:Bool}:XK.run G (.lit 5 1 [iv 0,iv 0,iv 0,iv 0,bv false] [(0,5)]) [.agg [iv a.n,iv a.d,iv b.n,iv b.d,bv c]]=some (.list [Cw a b c]):=rfl
end
def ji(f g:En→List D)(l:List En)(i:Nat):List (List D):=(l.take i).map f++(l.drop i).map g
theorem uE{f g:En→List D}{l:List En}{i:Nat}{e:En}(h:l[i]?=some e):(ji f g l i)[i]?=some (g e):=by
 have hi:=(Gz.1 h).1;unfold ji;rw[Xz (by simp;omega),cF h];simp[Nat.min_eq_left (Nat.le_of_lt hi)]
theorem uF{f g:En→List D}{l:List En}{i:Nat}{e:En}(h:l[i]?=some e):(ji f g l i).set i (f e)=ji f g l (i+1):=by
 have hi:=(Gz.1 h).1;unfold ji;rw[List.set_append_right _ _ (by simp;omega),cF h,List.take_add_one,h];simp[Nat.min_eq_left (Nat.le_of_lt hi)]
theorem qL{f g:En→List D}{l:List En}{i:Nat}{e:En}(h:l[i]?=some e)(hs:f e=g e):ji f g l (i+1)=ji f g l i:=by
 unfold ji;rw[cF h,List.take_add_one,h];simp[hs]
theorem Dk(f g:En→List D)(l:List En):ji f g l 0=l.map g:=by simp[ji]
theorem Dl(f g:En→List D)(l:List En):ji f g l l.length=l.map f:=by simp[ji]
theorem tZ{p:En→Bool}{l:List En}{i:Nat}{e:En}(h:l[i]?=some e)(hp:p e=true):(l.filter p)[(l.take i).countP p]?=some e:=by
 have e1:l=l.take i++e::l.drop (i+1):=by rw[←cF h,List.take_append_drop]
 have e2:l.filter p=(l.take i).filter p++e::(l.drop (i+1)).filter p:=by
  conv=>lhs;rw[e1]
  rw[List.filter_append,List.filter_cons_of_pos hp]
 rw[e2,List.countP_eq_length_filter,Xz (Nat.le_refl _)];simp
def R0(all:Nat)(e:En):Fq×Fq:=if e.kd=0 then(⟨0,0⟩,⟨0,0⟩)else if all=1 then(⟨0,1⟩,⟨0,1⟩)else if e.kd=4 then(share e.a0 all,share e.a1 all)else(⟨0,0⟩,⟨0,0⟩)
def nG(H:FP)(vul:Int)(l:List En)(f:Int):List (List Pt):=(l.filter (En.ft f)).map (Cu H vul)
def nF(H:FP)(vul:Int)(l:List En)(f:Int):List (List Pt):=(l.filter (En.ft f)).map (Cq H vul)
def A7(H:FP)(vul:Int)(l:List En)(e:En):Fq:=Cv (nG H vul l e.fl) (l.countP En.nv) (Cu H vul e)
def CV(H:FP)(vul:Int)(l:List En)(e:En):Fq:=Cv (nF H vul l e.fl) (l.countP En.nv) (Cq H vul e)
def Rk(H:FP)(vul:Int)(l:List En)(k:Nat)(e:En):Fq×Fq:=if e.gP=true∧e.fl<k then(A7 H vul l e,CV H vul l e)else R0 (l.countP En.nv) e
def Ra(H:FP)(vul:Int)(l:List En)(k:Nat)(e:En):Fq×Fq:=if e.ft k=true then(A7 H vul l e,(Rk H vul l k e).2)else Rk H vul l k e
def fB(H:FP)(vul:Int)(l:List En)(e:En):Fq×Fq:=if l.countP En.nv<2 then R0 (l.countP En.nv) e else Rk H vul l 4 e
def aL(r:En→Fq×Fq)(e:En):List D:=P2 (r e).1 (r e).2
theorem rk0{vul:Int}{l:List En}{e:En}(h:0≤e.fl):Rk H vul l 0 e=R0 (l.countP En.nv) e:=by
 unfold Rk;rw[if_neg (by omega)]
theorem UC{vul:Int}{l:List En}{k:Nat}{e:En}(h:e.ft k=false):Rk H vul l (k+1) e=Ra H vul l k e:=by
 unfold Ra;rw[if_neg (by simp[h])];unfold Rk;cases hc:e.gP with
 |false=>simp
 |true=>
  have hf: ¬e.fl=(k:Int):=by simpa[En.ft,hc]using h
  by_cases h1:e.fl<k
  ·rw[if_pos ⟨rfl,by omega⟩,if_pos ⟨rfl,h1⟩]
  ·rw[if_neg (by omega),if_neg (by omega)]
theorem MN{vul:Int}{l:List En}{k:Nat}{e:En}(h:e.ft k=true):Rk H vul l (k+1) e=(A7 H vul l e,CV H vul l e):=by
 have:e.gP=true∧e.fl=(k:Int):=by simpa[En.ft]using h
 unfold Rk;rw[if_pos ⟨this.1,by omega⟩]
def dN(H:FP)(vul:Int)(l:List En)(e:En):List D:=Cw (fB H vul l e).1 (fB H vul l e).2 (e.nv&&decide (1<l.countP En.nv))
theorem tX{α:Type}{p:En→Bool}{l:List En}{i:Nat}{e:En}(h:l[i]?=some e)(f:En→α):((l.take (i+1)).filter p).map f=((l.take i).filter p).map f++(if p e=true then [f e]else []):=by
 rw[List.take_add_one,h,List.filter_append,List.map_append];cases hp:p e<;>simp[hp]
set_option maxHeartbeats 4000000 in
theorem l87(hB:Fb H)(l:List En)(h: ∀e∈l,KB e)(hl:l.length≤24){vul:Int}(hv:0≤vul∧vul≤3):
  XK.run (GK H) (.call false 87) [.list (l.map En.cells),uv vul]=some (.tup [.list (l.map (dN H vul l)),iv 0]):=by
 have hF:=hB.fr;refine eI (af hF ZX ?_) rfl;unfold UX;generalize hz0:Hp=z0
 conv=>enter [1,3];cbv
 subst hz0;obtain⟨R,hR⟩: ∃R,R=D.own (.tup [.list (l.map (dN H vul l)),iv 0]):=⟨_,rfl⟩;rw[←hR];have k0:=l88 hF l h hl;have v3: ¬3<vul:=by omega
 have e0: ∀(a:Int) (g:Nat→Int),XK.run (GK H) (.pk (.ext 0)) [.tup [iv a, .agg (C4 g),iv 0]]=some (iv a):=fun a g=>rfl;have e1: ∀(a:Int) (g:Nat→Int),XK.run (GK H) (.pk (.ext 1)) [.tup [iv a, .agg (C4 g),iv 0]]=some (.agg (C4 g)):=fun a g=>rfl;have e2: ∀(a:Int) (g:Nat→Int),XK.run (GK H) (.pk (.ext 2)) [.tup [iv a, .agg (C4 g),iv 0]]=some (iv 0):=fun a g=>rfl;have km:=ad3 (G:=GK H) (n:=l.length) (by omega);have hnv:l.countP En.nv≤24:=Nat.le_trans List.countP_le_length hl;have hfl: ∀e∈l,0≤e.fl∧e.fl≤3:=fun e he=>(tf (h e he).b (h e he).r).2;obtain⟨all,bQ⟩: ∃n,n=l.countP En.nv:=⟨_,rfl⟩;rw[←bQ]at k0 hnv;simp[-bN,k0,v3,e0,e1,e2,km];have z0:List.replicate l.length (P2 ⟨0,0⟩ ⟨0,0⟩)=ji (aL (R0 all)) (fun _=>P2 ⟨0,0⟩ ⟨0,0⟩) l 0:=by rw[Dk,List.map_const']
 rw[z0];refine aI (n:=l.length) (fun i=> [iv (i:Int),iv 0,iv 0, .list (ji (aL (R0 all)) (fun _=>P2 ⟨0,0⟩ ⟨0,0⟩) l i)]) R (by omega) ?_;intro rec i hi ih;unfold Hp;generalize hz0:sN=z0;generalize hz1:Ej=z1
 conv=>enter [1,3];cbv
 subst hz0;subst hz1
 conv in sN=>unfold sN;cbv
 cases h3:l[i]? with
 |some e=>
  have l3:=(Gz.1 h3).1;have e3:l[i]=e:=(Gz.1 h3).2;have he:=h e (Lz h3);have ih:=ih (by omega);have hg:=uE (f:=aL (R0 all)) (g:=fun _=>P2 ⟨0,0⟩ ⟨0,0⟩) h3;have jN:=uF (f:=aL (R0 all)) (g:=fun _=>P2 ⟨0,0⟩ ⟨0,0⟩) h3;have lV:=qL (f:=aL (R0 all)) (g:=fun _=>P2 ⟨0,0⟩ ⟨0,0⟩) h3;generalize ji (aL (R0 all)) (fun _=>P2 ⟨0,0⟩ ⟨0,0⟩) l i=es at*;generalize ji (aL (R0 all)) (fun _=>P2 ⟨0,0⟩ ⟨0,0⟩) l (i+1)=es' at*;have w:=wr (z:=(i:Int)+1) (by omega) (by omega);by_cases hk:e.kd=0
  ·have:=lV (by simp[aL,R0,hk]);subst this;simp[l3,e3,hk,w];exact ih
  ·have su:0<all:=by
    rw[bQ];exact List.countP_pos_iff.2 ⟨e,Lz h3,by simp[En.nv,hk]⟩
   by_cases ha1:all=1
   ·have hs:=aeL (G:=GK H) hg;have ex:aL (R0 all) e=P2 ⟨0,1⟩ ⟨0,1⟩:=by simp[aL,R0,hk,ha1]
    rw[ex]at jN;rw[jN]at hs;have Lx:(all:Int)=1:=by omega
    simp[l3,e3,hk,Lx,hg,hs,w];exact ih
   ·have Lx: ¬(all:Int)=1:=by omega
    by_cases hk4:e.kd=4
    ·have k98:=l98 hB e he hk4 (all:=(all:Int)) (by omega);have hs1:=PJ (G:=GK H) (f:=share e.a0 all) hg;have hlen:i<es.length:=(Gz.1 hg).1;have hg2:(es.set i (P2 (share e.a0 all) ⟨0,0⟩))[i]?=some (P2 (share e.a0 all) ⟨0,0⟩):=by rw[List.getElem?_set_self hlen]
     have hs2:=PL (G:=GK H) (f:=share e.a1 all) hg2;rw[List.set_set]at hs2;have ex:aL (R0 all) e=P2 (share e.a0 all) (share e.a1 all):=by simp[aL,R0,hk4,ha1]
     rw[ex]at jN;rw[jN]at hs2;have x0:XK.run (GK H) (.pk (.ext 0)) [.tup [.agg (share e.a0 all).cells, .agg (share e.a1 all).cells,iv 0]]=some (.agg (share e.a0 all).cells):=rfl;have x1:XK.run (GK H) (.pk (.ext 1)) [.tup [.agg (share e.a0 all).cells, .agg (share e.a1 all).cells,iv 0]]=some (.agg (share e.a1 all).cells):=rfl;have x2:XK.run (GK H) (.pk (.ext 2)) [.tup [.agg (share e.a0 all).cells, .agg (share e.a1 all).cells,iv 0]]=some (iv 0):=rfl;generalize es.set i (P2 (share e.a0 all) ⟨0,0⟩)=es1 at*;simp[-bN,l3,e3,hk,hk4,Lx,hg,k98,x0,x1,x2,hs1,hs2,w];exact ih
    ·have:=lV (by simp[aL,R0,hk,hk4,ha1]);subst this;simp[l3,e3,hk,hk4,Lx,w];exact ih
 |none=>
  have l3:=List.getElem?_eq_none_iff.1 h3;have e:l.length=i:=by omega
  clear ih h3 l3 hi;subst e;rw[Dl];simp
  have lines: ∀(row:En→Fq×Fq),(∀e∈l,fB H vul l e=row e)→ ∀(i:Nat) (e:En),l[i]?=some e→
    (l.map (aL row))[i]?=some (P2 (fB H vul l e).1 (fB H vul l e).2)∧
    XK.run (GK H) (.lit 5 1 [iv 0,iv 0,iv 0,iv 0,bv false] [(0,5)]) [.agg [iv (fB H vul l e).1.n,iv (fB H vul l e).1.d,iv (fB H vul l e).2.n,iv (fB H vul l e).2.d,bv (e.nv&&decide (1<all))]]=some (.list [dN H vul l e])∧
    XK.run (GK H) (.app 5) [.list ((l.take i).map (dN H vul l)), .list [dN H vul l e]]=some (.list ((l.take (i+1)).map (dN H vul l))):=fun row gi i e h3=>by
   refine⟨by rw[Dz,h3,gi e (Lz h3)];rfl,by rw[bQ];exact Cw.lit, ?_⟩;rw[List.take_add_one,h3,List.map_append];exact xU (by simp;omega) rfl
  have hd1:((1:Int)<(all:Int))↔1<all:=by omega
  have sw: ∀x y,bY (.mk .tup [.mk .own [x],y]) (.tup [.list (l.map (dN H vul l)),iv 0])=R:=fun x y=>by rw[hR];exact k_ (AY fun x=>rfl)
  have km5:=ad4 (G:=GK H) (n:=(l.length:Int)) (by omega) (by omega);by_cases ha2:all<2
  ·--no NI
   rw[lp0];unfold Ej;generalize hz0:Ek=z0;generalize hz1:El=z1;generalize hz2:Em=z2
   conv=>enter [1,3];cbv
   subst hz0;subst hz1;subst hz2;have SU:(all:Int)<2:=by omega
   simp[SU,km5];have gi: ∀e∈l,fB H vul l e=R0 all e:=fun e he=>by unfold fB;rw[←bQ,if_pos ha2]
   refine aI (n:=l.length) (fun i=> [iv (i:Int), .list ((l.take i).map (dN H vul l))]) R (by omega) ?_;intro rec i hi ih;unfold Ek
   conv=>enter [1,3];cbv
   cases h3:l[i]? with
   |some e=>
    have l3:=(Gz.1 h3).1;have e3:l[i]=e:=(Gz.1 h3).2;have ih:=ih (by omega);obtain⟨q1,q2,q3⟩:=lines (R0 all) gi i e h3;have w:=wr (z:=(i:Int)+1) (by omega) (by omega);generalize l.map (aL (R0 all))=es at*;generalize(l.take i).map (dN H vul l)=acc at*;generalize(l.take (i+1)).map (dN H vul l)=gL at*;have Tf:e.nv= !decide (e.kd=0):=rfl;rw[Tf]at q2;by_cases hk:e.kd=0
    ·simp[hk]at q2;simp[l3,e3,hk,q1,q2,q3,w,hd1];exact ih
    ·simp[hk]at q2;simp[l3,e3,hk,q1,q2,q3,w,hd1];exact ih
   |none=>
    have l3:=List.getElem?_eq_none_iff.1 h3;have e:l.length=i:=by omega
    clear ih h3 l3 hi;subst e;rw[List.take_length];generalize l.map (dN H vul l)=acc at*;have ko:XK.run (GK H) .own [.list acc]=some (.list acc):=rfl;simp[ko,sw]
  ·--field by field
   have SU: ¬(all:Int)<2:=by omega
   have hR0:l.map (aL (R0 all))=l.map (aL (Rk H vul l 0)):=List.map_congr_left fun e he=>by unfold aL;rw[rk0 (hfl e he).1,←bQ]
   rw[hR0];have gi: ∀e∈l,fB H vul l e=Rk H vul l 4 e:=fun e he=>by unfold fB;rw[←bQ,if_neg ha2]
   refine aI (n:=4) (fun k=> [iv (k:Int),iv 0, .list (l.map (aL (Rk H vul l k)))]) R (by omega) ?_;intro rec k hk4 ih;unfold Ej;generalize hz0:Ek=z0;generalize hz1:El=z1;generalize hz2:Em=z2
   conv=>enter [1,3];cbv
   subst hz0;subst hz1;subst hz2;by_cases h4:k=4
   ·subst h4;simp[km5];refine aI (n:=l.length) (fun i=> [iv (i:Int), .list ((l.take i).map (dN H vul l))]) R (by omega) ?_;intro rec i hi ih;unfold Em
    conv=>enter [1,3];cbv
    cases h3:l[i]? with
    |some e=>
     have l3:=(Gz.1 h3).1;have e3:l[i]=e:=(Gz.1 h3).2;have ih:=ih (by omega);obtain⟨q1,q2,q3⟩:=lines (Rk H vul l 4) gi i e h3;have w:=wr (z:=(i:Int)+1) (by omega) (by omega);generalize l.map (aL (Rk H vul l 4))=es at*;generalize(l.take i).map (dN H vul l)=acc at*;generalize(l.take (i+1)).map (dN H vul l)=gL at*;have Tf:e.nv= !decide (e.kd=0):=rfl;rw[Tf]at q2;by_cases hk:e.kd=0
     ·simp[hk]at q2;simp[l3,e3,hk,q1,q2,q3,w,hd1];exact ih
     ·simp[hk]at q2;simp[l3,e3,hk,q1,q2,q3,w,hd1];exact ih
    |none=>
     have l3:=List.getElem?_eq_none_iff.1 h3;have e:l.length=i:=by omega
     clear ih h3 l3 hi;subst e;rw[List.take_length];generalize l.map (dN H vul l)=acc at*;have ko:XK.run (GK H) .own [.list acc]=some (.list acc):=rfl;simp[ko,sw]
   ·have hkl:k<4:=by omega
    have hki:(k:Int)<4:=by omega
    have w8:IntKind.u8.wrap (k:Int)=(k:Int):=by
     have c:k=0∨k=1∨k=2∨k=3:=by omega
     rcases c with rfl|rfl|rfl|rfl<;>rfl
    have kc:=XU hF l (k:Int);have ih:=ih (by omega);have fbu:XK.run (GK H) (.pk (.fbox 1)) [uv vul]=some (.lptr [uv vul]):=rfl;simp[hki,SU,w8,kc,yH,xY,xZ,fbu];refine aI (n:=l.length) (fun i=> [iv (i:Int), .list (((l.take i).filter (En.ft k)).map fun e=> [D.list ((Cu H vul e).map Pt.cells)]), .list (((l.take i).filter (En.ft k)).map fun e=> [D.list ((Cq H vul e).map Pt.cells)])]) R (by omega) ?_;intro Dx i hi ih2;unfold El;generalize hz0:sO=z0;generalize hz1:Hq=z1
    conv=>enter [1,3];cbv
    subst hz0;subst hz1
    conv in sO=>unfold sO;cbv
    cases h3:l[i]? with
    |some e=>
     have l3:=(Gz.1 h3).1;have e3:l[i]=e:=(Gz.1 h3).2;have he:=h e (Lz h3);have ih2:=ih2 (by omega);rw[tX h3,tX h3]at ih2;have k1:=LY hF e;have w:=wr (z:=(i:Int)+1) (by omega) (by omega)
     have la: ∀(f:En→List D),(((l.take i).filter (En.ft k)).map f).length<65536:=fun f=>by
      rw[List.length_map];have:=List.length_filter_le (En.ft k) (l.take i);rw[List.length_take]at this;omega
     have a1:=xU (G:=GK H) (size:=1) (es:=((l.take i).filter (En.ft k)).map fun e=> [D.list ((Cu H vul e).map Pt.cells)]) (c:= [D.list ((Cu H vul e).map Pt.cells)]) (la _) rfl;have a2:=xU (G:=GK H) (size:=1) (es:=((l.take i).filter (En.ft k)).map fun e=> [D.list ((Cq H vul e).map Pt.cells)]) (c:= [D.list ((Cq H vul e).map Pt.cells)]) (la _) rfl;generalize(((l.take i).filter (En.ft k)).map fun e=> [D.list ((Cu H vul e).map Pt.cells)])=afX at*;generalize(((l.take i).filter (En.ft k)).map fun e=> [D.list ((Cq H vul e).map Pt.cells)])=afY at*;cases hin:e.ft k with
     |true=>
      have hcm:e.gP=true∧e.fl=(k:Int):=by simpa[En.ft]using hin
      rw[hin]at ih2;simp only[if_true]at ih2;have ks:=(TP hF e he hcm.1 hv).2;have x0: ∀a b:List (List D),XK.run (GK H) (.pk (.ext 0)) [.tup [.list a, .list b,iv 0]]=some (.list a):=fun a b=>rfl;have x1: ∀a b:List (List D),XK.run (GK H) (.pk (.ext 1)) [.tup [.list a, .list b,iv 0]]=some (.list b):=fun a b=>rfl;have x2: ∀a b:List (List D),XK.run (GK H) (.pk (.ext 2)) [.tup [.list a, .list b,iv 0]]=some (iv 0):=fun a b=>rfl;have lt:=fun es=>Yd (G:=GK H) (es:=es);generalize(Cu H vul e).map Pt.cells=n1 at*;generalize(Cq H vul e).map Pt.cells=n2 at*;simp[-bN,l3,e3,k1,hcm.1,hcm.2,ks,x0,x1,x2,lt,a1,a2,w];exact ih2
     |false=>
      rw[hin]at ih2;simp only[Bool.false_eq_true,if_false,List.append_nil]at ih2;cases hcm:e.gP with
      |true=>
       have hf: ¬e.fl=(k:Int):=by simpa[En.ft,hcm]using hin
       simp[l3,e3,k1,hcm,hf,w];exact ih2
      |false=>
       simp[l3,e3,k1,hcm,w];exact ih2
    |none=>
     have l3:=List.getElem?_eq_none_iff.1 h3;have e:l.length=i:=by omega
     clear ih2 h3 l3 hi;subst e;rw[List.take_length]
     have afu:l.countP (En.ft k)≤all:=by
      rw[bQ]
      exact List.countP_mono_left fun e _ he=>by
       have:e.gP=true∧e.fl=(k:Int):=by simpa[En.ft]using he
       have:=this.1;simp[En.gP]at this;simp[En.nv,this]
     have okN: ∀r∈nG H vul l k,rh r:=fun r hr=>by
      obtain⟨e,he,rfl⟩:=List.mem_map.1 hr;obtain⟨h1,h2⟩:=List.mem_filter.1 he;have:e.gP=true∧e.fl=(k:Int):=by simpa[En.ft]using h2
      exact(TP hF e (h e h1) this.1 hv).1.1
     have okE: ∀r∈nF H vul l k,rh r:=fun r hr=>by
      obtain⟨e,he,rfl⟩:=List.mem_map.1 hr;obtain⟨h1,h2⟩:=List.mem_filter.1 he;have:e.gP=true∧e.fl=(k:Int):=by simpa[En.ft]using h2
      exact(TP hF e (h e h1) this.1 hv).1.2
     have hlN:((nG H vul l k).length:Int)≤all:=by unfold nG;rw[List.length_map,←List.countP_eq_length_filter];omega
     have hlE:((nF H vul l k).length:Int)≤all:=by unfold nF;rw[List.length_map,←List.countP_eq_length_filter];omega
     have kN:=XY hB (nG H vul l k) all okN (by omega) hlN (by omega) (fl:=true);have kE:=XY hB (nF H vul l k) all okE (by omega) hlE (by omega) (fl:=true);have eN:(l.filter (En.ft k)).map (fun e=> [D.list ((Cu H vul e).map Pt.cells)])=(nG H vul l k).map fun r=> [.list (r.map Pt.cells)]:=by unfold nG;rw[List.map_map];rfl
     have eE:(l.filter (En.ft k)).map (fun e=> [D.list ((Cq H vul e).map Pt.cells)])=(nF H vul l k).map fun r=> [.list (r.map Pt.cells)]:=by unfold nF;rw[List.map_map];rfl
     rw[eN,eE]
     have ptN: ∀(i:Nat) (e:En),l[i]?=some e→e.ft k=true→((nG H vul l k).map fun r=>(Cv (nG H vul l k) all r).cells)[(l.take i).countP (En.ft k)]?=some (A7 H vul l e).cells:=fun i e h3 hin=>by
      have hcm:e.gP=true∧e.fl=(k:Int):=by simpa[En.ft]using hin
      rw[Dz];unfold nG A7;rw[Dz,tZ h3 hin,hcm.2,←bQ];rfl
     have ptE: ∀(i:Nat) (e:En),l[i]?=some e→e.ft k=true→((nF H vul l k).map fun r=>(Cv (nF H vul l k) all r).cells)[(l.take i).countP (En.ft k)]?=some (CV H vul l e).cells:=fun i e h3 hin=>by
      have hcm:e.gP=true∧e.fl=(k:Int):=by simpa[En.ft]using hin
      rw[Dz];unfold nF CV;rw[Dz,tZ h3 hin,hcm.2,←bQ];rfl
     have x0: ∀a:List (List D),XK.run (GK H) (.pk (.ext 0)) [.tup [.list a,iv 0]]=some (.list a):=fun a=>rfl;have x1: ∀a:List (List D),XK.run (GK H) (.pk (.ext 1)) [.tup [.list a,iv 0]]=some (iv 0):=fun a=>rfl;generalize((nG H vul l k).map fun r=> [D.list (r.map Pt.cells)])=rN at*;generalize((nF H vul l k).map fun r=> [D.list (r.map Pt.cells)])=rE at*;simp[-bN,-List.map_map,kN,x0,x1,yH,xY,xZ];rw[←Dk (aL (Ra H vul l k)) (aL (Rk H vul l k)) l];refine aI (n:=l.length) (fun i=> [iv (i:Int),iv ((l.take i).countP (En.ft k):Int), .list (ji (aL (Ra H vul l k)) (aL (Rk H vul l k)) l i)]) R (by omega) ?_;intro aeI i hi ih3;unfold Hq;generalize hz0:Hr=z0
     conv=>enter [1,3];cbv
     subst hz0;cases h3:l[i]? with
     |some e=>
      have l3:=(Gz.1 h3).1;have e3:l[i]=e:=(Gz.1 h3).2;have ih3:=ih3 (by omega);rw[gQ h3]at ih3;have k1:=LY hF e;have w:=wr (z:=(i:Int)+1) (by omega) (by omega);have hg:=uE (f:=aL (Ra H vul l k)) (g:=aL (Rk H vul l k)) h3;have jN:=uF (f:=aL (Ra H vul l k)) (g:=aL (Rk H vul l k)) h3;have lV:=qL (f:=aL (Ra H vul l k)) (g:=aL (Rk H vul l k)) h3;have hc:(l.take i).countP (En.ft k)≤24:=Nat.le_trans List.countP_le_length (by rw[List.length_take];omega);generalize ji (aL (Ra H vul l k)) (aL (Rk H vul l k)) l i=es at*;generalize ji (aL (Ra H vul l k)) (aL (Rk H vul l k)) l (i+1)=es' at*;cases hin:e.ft k with
      |true=>
       have hcm:e.gP=true∧e.fl=(k:Int):=by simpa[En.ft]using hin
       rw[hin]at ih3;simp only[if_true]at ih3;have hp:=ptN i e h3 hin;have hs:=PJ (G:=GK H) (f:=A7 H vul l e) (show es[i]?=some (P2 (Rk H vul l k e).1 (Rk H vul l k e).2)from hg);have ex:aL (Ra H vul l k) e=P2 (A7 H vul l e) (Rk H vul l k e).2:=by unfold aL Ra;rw[if_pos hin]
       rw[ex]at jN;rw[jN]at hs;generalize(l.take i).countP (En.ft k)=n at*;generalize(nG H vul l k).map (fun r=>(Cv ((nG H vul l k)) all r).cells)=ptl at*;simp[l3,e3,k1,hcm.1,hcm.2,hg,hp,aL,hs,w,wr (z:=(n:Int)+1) (by omega) (by omega)];exact ih3
      |false=>
       rw[hin]at ih3;simp only[Bool.false_eq_true,if_false,Nat.add_zero]at ih3;have:=lV (by unfold aL Ra;rw[if_neg (by simp[hin])]);subst this;cases hcm:e.gP with
       |true=>
        have hf: ¬e.fl=(k:Int):=by simpa[En.ft,hcm]using hin
        simp[l3,e3,k1,hcm,hf,w];exact ih3
       |false=>
        simp[l3,e3,k1,hcm,w];exact ih3
     |none=>
      have l3:=List.getElem?_eq_none_iff.1 h3;have e:l.length=i:=by omega
      clear ih3 h3 l3 hi;subst e;rw[Dl];simp[-bN,-List.map_map,kE,x0,x1,yH,xY,xZ];rw[←Dk (aL (Rk H vul l (k+1))) (aL (Ra H vul l k)) l];refine aI (n:=l.length) (fun i=> [iv (i:Int),iv ((l.take i).countP (En.ft k):Int), .list (ji (aL (Rk H vul l (k+1))) (aL (Ra H vul l k)) l i)]) R (by omega) ?_;intro aeJ i hi ih4;unfold Hr
      conv=>enter [1,3];cbv
      cases h3:l[i]? with
      |some e=>
       have l3:=(Gz.1 h3).1;have e3:l[i]=e:=(Gz.1 h3).2;have ih4:=ih4 (by omega);rw[gQ h3]at ih4;have k1:=LY hF e;have w:=wr (z:=(i:Int)+1) (by omega) (by omega);have hg:=uE (f:=aL (Rk H vul l (k+1))) (g:=aL (Ra H vul l k)) h3;have jN:=uF (f:=aL (Rk H vul l (k+1))) (g:=aL (Ra H vul l k)) h3;have lV:=qL (f:=aL (Rk H vul l (k+1))) (g:=aL (Ra H vul l k)) h3;have hc:(l.take i).countP (En.ft k)≤24:=Nat.le_trans List.countP_le_length (by rw[List.length_take];omega);generalize ji (aL (Rk H vul l (k+1))) (aL (Ra H vul l k)) l i=es at*;generalize ji (aL (Rk H vul l (k+1))) (aL (Ra H vul l k)) l (i+1)=es' at*;cases hin:e.ft k with
       |true=>
        have hcm:e.gP=true∧e.fl=(k:Int):=by simpa[En.ft]using hin
        rw[hin]at ih4;simp only[if_true]at ih4;have hp:=ptE i e h3 hin;have hs:=PL (G:=GK H) (f:=CV H vul l e) (show es[i]?=some (P2 (Ra H vul l k e).1 (Ra H vul l k e).2)from hg);have ex:aL (Rk H vul l (k+1)) e=P2 (Ra H vul l k e).1 (CV H vul l e):=by unfold aL;rw[MN hin];unfold Ra;rw[if_pos hin]
        rw[ex]at jN;rw[jN]at hs;generalize(l.take i).countP (En.ft k)=n at*;generalize(nF H vul l k).map (fun r=>(Cv ((nF H vul l k)) all r).cells)=ptl at*;simp[l3,e3,k1,hcm.1,hcm.2,hg,hp,aL,hs,w,wr (z:=(n:Int)+1) (by omega) (by omega)];exact ih4
       |false=>
        rw[hin]at ih4;simp only[Bool.false_eq_true,if_false,Nat.add_zero]at ih4;have:=lV (by unfold aL;rw[UC hin]);subst this;cases hcm:e.gP with
        |true=>
         have hf: ¬e.fl=(k:Int):=by simpa[En.ft,hcm]using hin
         simp[l3,e3,k1,hcm,hf,w];exact ih4
        |false=>
         simp[l3,e3,k1,hcm,w];exact ih4
      |none=>
       have l3:=List.getElem?_eq_none_iff.1 h3;have e:l.length=i:=by omega
       clear ih4 h3 l3 hi;subst e;rw[Dl];simp[wr (z:=(k:Int)+1) (by omega) (by omega)];exact ih
end Ty
end
section
namespace Ty
end Ty
end
noncomputable section
namespace Ty
variable {H : FP}
abbrev BM:=List (Int×List En)
def BO(p:Int×List En):D×D:=(iv p.1, .list (p.2.map En.cells))
def ki(k:Int)(e:En):BM→BM
 | []=> [(k,[e])]
 |p::r=>if p.1=k then(p.1,p.2++ [e])::r else p::ki k e r
def kJ(k:Int):BM→List En
 | []=> []
 |p::r=>if p.1=k then p.2 else kJ k r
def uf(k:Int):BM→Option Nat
 | []=>none
 |p::r=>if p.1=k then some 0 else(uf k r).map (· +1)
theorem A5{k n:Int}{e:En}: ∀(M:BM),kJ n (ki k e M)=if n=k then kJ n M++ [e]else kJ n M
 | []=>by
  by_cases h:n=k
  ·subst h;simp[ki,kJ]
  ·have h': ¬k=n:=fun e=>h e.symm;simp[ki,kJ,h,h']
 |p::r=>by
  unfold ki;by_cases hk:p.1=k
  ·rw[if_pos hk];simp only[kJ];by_cases h:n=k
   ·subst h;simp[hk]
   ·have h': ¬p.1=n:=fun e=>h (by rw[←e,hk]);simp[h,h']
  ·rw[if_neg hk];simp only[kJ];rw[A5 r];by_cases hp:p.1=n
   ·have h: ¬n=k:=fun e=>hk (by rw[hp,e]);simp[hp,h]
   ·simp[hp]
theorem Ah(k:Int)(e:En): ∀M:BM,(ki k e M).length≤M.length+1
 | []=>by simp[ki]
 |p::r=>by unfold ki;have:=Ah k e r;split<;>simp;omega
theorem yu{k:Int}: ∀(M:BM) (i:Nat),bu [3] (iv k) (M.map BO) i=some ((uf k M).map (· +i))
 | [],i=>rfl
 |p::r,i=>by
  rw[List.map_cons];unfold bu uf
  have h1:bR [3] (iv k) (BO p).1=some (decide (k=p.1)):=by
   show aa [3] [iv k] [iv p.1]=_;simp
  rw[h1,Oz];by_cases h:p.1=k
  ·rw[if_pos (by simpa using h.symm),if_pos h];simp
  ·rw[if_neg (by simpa using fun e=>h e.symm),if_neg h,yu r (i+1),Option.map_map];simp[Function.comp_def,Nat.add_assoc,Nat.add_comm 1]
theorem qC{k:Int}{e:En}: ∀{M:BM} {i:Nat},uf k M=some i→ ∃p,M[i]?=some p∧kJ k M=p.2∧ki k e M=M.set i (p.1,p.2++ [e])
 | [],_,h=>by cases h
 |p::r,i,h=>by
  unfold uf at h;by_cases hk:p.1=k
  ·rw[if_pos hk]at h;cases h;exact⟨p,rfl,by simp[kJ,hk],by simp[ki,hk]⟩
  ·rw[if_neg hk]at h;obtain⟨j,hj,rfl⟩:=Mz.1 h;obtain⟨q,h1,h2,h3⟩:=qC (e:=e) hj;exact⟨q,h1,by simp[kJ,hk,h2],by simp[ki,hk,h3]⟩
theorem qB{k:Int}{e:En}: ∀{M:BM},uf k M=none→kJ k M= []∧ki k e M=M++ [(k,[e])]
 | [],_=>⟨rfl,rfl⟩
 |p::r,h=>by
  unfold uf at h;by_cases hk:p.1=k
  ·rw[if_pos hk]at h;cases h
  ·rw[if_neg hk]at h
   have h:uf k r=none:=by cases hr:uf k r with
    |none=>rfl
    |some i=>rw[hr]at h;cases h
   obtain⟨h1,h2⟩:=qB (e:=e) h;exact⟨by simp[kJ,hk,h1],by simp[ki,hk,h2]⟩
section
variable {G : FP}
theorem Yk{M:BM}{k:Int}{e:En}(hl:M.length<65536)(hv: ∀n,(kJ n M).length<65536):XK.run G (.mapp [3] 33) [.list (ao (M.map BO)),iv k, .list [e.cells]]=some (.list (ao ((ki k e M).map BO))):=by
 show((ax (ao (M.map BO))).bind fun es=>(lW (.list [e.cells])).bind fun b=>(uA [3] 33 es (iv k) b).map fun es=>D.list (ao es))=_;rw[aH,Oz];show((uA [3] 33 (M.map BO) (iv k) [e.cells]).map fun es=>D.list (ao es))=_
 have h1:bR [3] (iv k) (iv k)=some true:=by
  show aa [3] [iv k] [iv k]=_;simp
 unfold uA;rw[if_pos ⟨⟨rfl,h1⟩,rfl,rfl⟩,yu];cases hi:uf k M with
 |some i=>
  obtain⟨p,hp1,hp2,hp3⟩:=qC (e:=e) hi;have hlen:=hv k;rw[hp2]at hlen;simp only[Pz,Oz,Nat.add_zero,Dz,hp1];show(if(p.2.map En.cells).length+1≤aC then some ((M.map BO).set i (iv p.1, .list (p.2.map En.cells++ [e.cells])))else none).map _=_;rw[if_pos (by simp[aC];omega),Pz,hp3,List.map_set];simp[BO]
 |none=>
  obtain⟨_,hp3⟩:=qB (e:=e) hi;simp only[Option.map_none,Oz];rw[if_pos ⟨by simp[aC];omega,by simp[aC]⟩,hp3,List.map_append];rfl
theorem Ym{M:BM}{n:Int}: ∃d,XK.run G (.mget [3] .nil false) [.list (ao (M.map BO)),iv n]=some d∧XK.run G .bq [d]=some (.list ((kJ n M).map En.cells)):=by
 have h1:bR [3] (iv n) (iv n)=some true:=by
  show aa [3] [iv n] [iv n]=_;simp
 have key:XK.run G (.mget [3] .nil false) [.list (ao (M.map BO)),iv n]=(jv [3] .nil false (M.map BO) (iv n)).bind fun d=>if d.aF then some d else none:=by
  show((ax (ao (M.map BO))).bind fun es=>(jv [3] .nil false es (iv n)).bind fun d=>if d.aF then some d else none)=_;rw[aH,Oz]
 rw[key];unfold jv;rw[if_pos ⟨rfl,h1⟩,yu];cases hi:uf n M with
 |some i=>
  obtain⟨p,hp1,hp2,_⟩:=qC (e:=zE) hi;refine⟨.list (p.2.map En.cells), ?_,by rw[hp2];exact Uu⟩;simp[hp1,BO]
 |none=>
  obtain⟨hp2,_⟩:=qB (e:=zE) hi;exact⟨.nil,rfl,by rw[hp2];exact Uv⟩
theorem ad1{l:List Rw}{a b:Int}:XK.run G (.pk (.lkp [99,3,3] (.agg [iv 0,iv 0,iv 0,iv 0,iv 0]) false)) [.fm (ao (l.map Rw.pr)), .agg [iv a,iv b]]=some (.agg (((cW a b l).bind fun i=>l[i]?).getD zR).cells):=by
 show(oF dO [99,3,3] (.agg [iv 0,iv 0,iv 0,iv 0,iv 0]) false [.fm (ao (l.map Rw.pr)), .agg [iv a,iv b]]).bind _=_
 have h1:bR [99,3,3] (.agg [iv a,iv b]) (.agg [iv a,iv b])=some true:=by
  show aa [3,3] [iv a,iv b] [iv a,iv b]=_;simp
 unfold oF;simp only[];rw[aH,Oz,if_pos ⟨rfl,h1⟩,pc];cases h:cW a b l with
 |none=>rfl
 |some i=>
  obtain⟨r,hr,_⟩:=gA h;simp[hr];exact⟨rfl,rfl⟩
end
theorem l48(hF:Fr H)(s:Ss)(hr:s.rows.length<9999)(ha:hD s.rows=true){fl:Bool}:XK.run (GK H) (.call false 48) [.agg s.cells]=some (.fm (ao (s.rows.map Rw.pr))):=by
 refine ag (af hF ZG (d:= .fm (ao (s.rows.map Rw.pr))) ?_) rfl rfl
 conv=>enter [1,3];cbv
 simp;refine aI (n:=s.rows.length) (fun j=> [iv (j:Int), .list (ao ((s.rows.take j).map Rw.pr))]) (.fm (ao (s.rows.map Rw.pr))) (by omega) ?_;intro rec j hj ih;cases h3:s.rows[j]? with
 |some r=>
  have l3:=(Gz.1 h3).1;have e3:s.rows[j]=r:=(Gz.1 h3).2;have ih:=ih (by omega);have k:=Ov (G:=GK H) (l:=s.rows.take j) (r:=r) (by rw[List.length_take];omega) (om ha h3);have et:s.rows.take (j+1)=s.rows.take j++ [r]:=by rw[List.take_add_one,h3];rfl
  rw[←et]at k;generalize ao ((s.rows.take j).map Rw.pr)=m at*;generalize ao ((s.rows.take (j+1)).map Rw.pr)=m' at*;simp[l3,e3,k,wr (z:=(j:Int)+1) (by omega) (by omega)];exact ih
 |none=>
  have l3:=List.getElem?_eq_none_iff.1 h3;have e:s.rows.length=j:=by omega
  have et:s.rows.take j=s.rows:=List.take_of_length_le (by omega);rw[et]
  have kf:XK.run (GK H) .fmk [.list (ao (s.rows.map Rw.pr))]=some (.fm (ao (s.rows.map Rw.pr))):=by
   show((ax (ao (s.rows.map Rw.pr))).bind fun es=>if es.all (fun p=>p.1.aF&&p.2.aF)then some (D.fm (ao (s.rows.map Rw.pr)))else none)=_;rw[aH,Oz,if_pos];rw[Tz];intro p hp;obtain⟨r,_,rfl⟩:=List.mem_map.1 hp;rfl
  generalize ao (s.rows.map Rw.pr)=m at*;simp[e,kf];exact⟨rfl,rfl⟩
def eC(n:Int):Int:=(n-1+(n-1)/4)%4
theorem vL(n:Int):0≤eC n∧eC n≤3:=by unfold eC;omega
theorem l86(hF:Fr H)(n:Int)(h:1≤n∧n≤128):XK.run (GK H) (.call false 86) [iv n]=some (.tup [uv (eC n),iv 0]):=by
 have k:XK.run (GK H) (.call false 134) [iv n]=some (bv true):=by
  refine ag (af hF OG (d:=bv true) ?_) rfl rfl
  conv=>enter [1,3];cbv
  simp[h.1,h.2]
 refine ag (af hF ZW (d:= .tup [uv (eC n),iv 0]) ?_) rfl rfl
 conv=>enter [1,3];cbv
 have e1:(n-1).tdiv 4=(n-1)/4:=Int.tdiv_eq_ediv_of_nonneg (by omega);have e2:(n-1+(n-1)/4).tmod 4=eC n:=by rw[Int.tmod_eq_emod_of_nonneg (by omega)];rfl
 have w8:IntKind.u8.wrap (eC n)=eC n:=iC .u8 _ (by have:=vL n;show-(0:Int)≤_;omega) (by have:=vL n;show _<(256:Int);omega);simp[k,e1,wr (z:=n-1) (by omega) (by omega),wr (z:=(n-1)/4) (by omega) (by omega),wr (z:=n-1+(n-1)/4) (by omega) (by omega),e2,w8]
theorem l59(hF:Fr H)(e:En):XK.run (GK H) (.call false 59) [.agg e.cells]=some (.agg [iv e.rd,iv e.tb,iv e.bd]):=by
 refine ag (af hF ZP (d:= .agg [iv e.rd,iv e.tb,iv e.bd]) ?_) rfl rfl
 conv=>enter [1,3];cbv
 simp;rfl
theorem l49(hF:Fr H)(s:Ss)(l:List En):XK.run (GK H) (.call false 49) [.agg s.cells, .list (l.map En.cells)]=some (.clo 85 [.lptr [.list (l.map En.cells)], .lptr s.cells]):=by
 refine ag (af hF ZH (d:= .clo 85 [.lptr [.list (l.map En.cells)], .lptr s.cells]) ?_) rfl rfl
 conv=>enter [1,3];cbv
 have kc:XK.run (GK H) (.clo 85) [.lptr [.list (l.map En.cells)], .lptr s.cells]=some (.clo 85 [.lptr [.list (l.map En.cells)], .lptr s.cells]):=rfl;simp[kc];exact⟨rfl,rfl⟩
def rowAt(s:Ss)(e:En):Rw:=((cW e.rd e.tb s.rows).bind fun i=>s.rows[i]?).getD zR
def gH(H:FP)(s:Ss)(vul:Int)(l:List En)(e:En):List D:=
 [iv e.rd,iv e.tb,iv e.bd,iv (if e.tu then(rowAt s e).ew else(rowAt s e).ns),iv (if e.tu then(rowAt s e).ns else(rowAt s e).ew),iv (fB H vul l e).1.n,iv (fB H vul l e).1.d,iv (fB H vul l e).2.n,iv (fB H vul l e).2.d,iv (2*((l.countP En.nv:Int)-1)),bv (e.nv&&decide (1<l.countP En.nv))]
def du(H:FP)(s:Ss)(n:Int)(l:List En):List (List D):=(l.filter En.nv).map (gH H s (eC n) l)
section
variable {G : FP} {a b : Fq} {c : Bool}
@[simp] theorem Cw.len:(Cw a b c).length=5:=nr rfl
@[simp] theorem Cw.L5:XK.run G (.pk (.load 2 true)) [.lptr (Cw a b c)]=some (.agg a.cells):=nr rfl
@[simp] theorem Cw.TZ:XK.run G (.pk (.load 2 true)) [.lptr ((Cw a b c).drop 2)]=some (.agg b.cells):=nr rfl
@[simp] theorem Cw.ld4:XK.run G (.pk (.load 1 false)) [.lptr ((Cw a b c).drop 4)]=some (bv c):=nr rfl
theorem Yb{x0 x1 x2 x3 x4 x5 x6 x7 x8 x9:Int}{c:Bool}:XK.run G (.lit 11 1 [iv 0,iv 0,iv 0,iv 0,iv 0,iv 0,iv 0,iv 0,iv 0,iv 0,bv false] [(0,11)]) [.agg [iv x0,iv x1,iv x2,iv x3,iv x4,iv x5,iv x6,iv x7,iv x8,iv x9,bv c]]=some (.list [[iv x0,iv x1,iv x2,iv x3,iv x4,iv x5,iv x6,iv x7,iv x8,iv x9,bv c]]):=rfl
end
set_option maxHeartbeats 2000000 in
theorem l50(hB:Fb H)(s:Ss)(n:Int)(hn:1≤n∧n≤128)(l:List En)(h: ∀e∈l,KB e)(hl:l.length≤24):
  XK.run (GK H) (.call false 50) [.fm (ao (s.rows.map Rw.pr)),iv n, .list (l.map En.cells)]=some (.tup [.list (du H s n l),iv 0]):=by
 have hF:=hB.fr;refine eI (af hF ZI ?_) rfl;rw[aeT];obtain⟨R,hR⟩: ∃R,R=D.own (.tup [.list (du H s n l),iv 0]):=⟨_,rfl⟩;rw[←hR];have k1:=l86 hF n hn;have k2:=l87 hB l h hl (vL n);have k3:=l88 hF l h hl;have x0: ∀a:List (List D),XK.run (GK H) (.pk (.ext 0)) [.tup [.list a,iv 0]]=some (.list a):=fun a=>rfl;have x1: ∀a:List (List D),XK.run (GK H) (.pk (.ext 1)) [.tup [.list a,iv 0]]=some (iv 0):=fun a=>rfl;have y0:XK.run (GK H) (.pk (.ext 0)) [.tup [uv (eC n),iv 0]]=some (uv (eC n)):=rfl;have y1:XK.run (GK H) (.pk (.ext 1)) [.tup [uv (eC n),iv 0]]=some (iv 0):=rfl;have e0: ∀(a:Int) (g:Nat→Int),XK.run (GK H) (.pk (.ext 0)) [.tup [iv a, .agg (C4 g),iv 0]]=some (iv a):=fun a g=>rfl;have e1: ∀(a:Int) (g:Nat→Int),XK.run (GK H) (.pk (.ext 1)) [.tup [iv a, .agg (C4 g),iv 0]]=some (.agg (C4 g)):=fun a g=>rfl;have e2: ∀(a:Int) (g:Nat→Int),XK.run (GK H) (.pk (.ext 2)) [.tup [iv a, .agg (C4 g),iv 0]]=some (iv 0):=fun a g=>rfl;have hnv:l.countP En.nv≤24:=Nat.le_trans List.countP_le_length hl;have hln: ∀(i:Nat) (e:En),l[i]?=some e→(l.map (dN H (eC n) l))[i]?=some (dN H (eC n) l e):=fun i e h3=>by rw[Dz,h3];rfl
 have hll:(l.map (dN H (eC n) l)).length=l.length:=List.length_map ..;generalize aga:l.map (dN H (eC n) l)=lns at*;simp[-bN,k1,k2,k3,x0,x1,y0,y1,e0,e1,e2];refine aI (n:=l.length) (fun i=> [iv (i:Int), .list (((l.take i).filter En.nv).map (gH H s (eC n) l))]) R (by omega) ?_;intro rec i hi ih;cases h3:l[i]? with
 |some e=>
  have l3:=(Gz.1 h3).1;have e3:l[i]=e:=(Gz.1 h3).2;have ih:=ih (by omega);rw[tX h3]at ih;have w:=wr (z:=(i:Int)+1) (by omega) (by omega);have kl:=hln i e h3;by_cases hk:e.kd=0
  ·have hv:e.nv=false:=by simp[En.nv,hk]
   rw[hv]at ih;simp only[Bool.false_eq_true,if_false,List.append_nil]at ih;generalize((l.take i).filter En.nv).map (gH H s (eC n) l)=acc at*;simp[l3,e3,hk,w];exact ih
  ·have hv:e.nv=true:=by simp[En.nv,hk]
   rw[hv]at ih;simp only[if_true]at ih;have kr:=ad1 (G:=GK H) (l:=s.rows) (a:=e.rd) (b:=e.tb);have kk:=l59 hF e;have li: ¬(l.length:Int)≤(i:Int):=by omega
   have la:(((l.take i).filter En.nv).map (gH H s (eC n) l)).length<65536:=by
    rw[List.length_map];have:=List.length_filter_le En.nv (l.take i);rw[List.length_take]at this;omega
   have ka:=xU (G:=GK H) (size:=11) (es:=((l.take i).filter En.nv).map (gH H s (eC n) l)) (c:=gH H s (eC n) l e) la rfl;have w2:=wr (z:=(l.countP En.nv:Int)-1) (by omega) (by omega);have w3:=wr (z:=2*((l.countP En.nv:Int)-1)) (by omega) (by omega);have kl2:dN H (eC n) l e=Cw (fB H (eC n) l e).1 (fB H (eC n) l e).2 (e.nv&&decide (1<l.countP En.nv)):=rfl;rw[kl2]at kl;obtain⟨hli,kl'⟩:=Gz.1 kl;have c30: ∀a b c:Int,XK.run (GK H) (.cell 0 3) [.agg [iv a,iv b,iv c]]=some (iv a):=fun a b c=>rfl;have c31: ∀a b c:Int,XK.run (GK H) (.cell 1 3) [.agg [iv a,iv b,iv c]]=some (iv b):=fun a b c=>rfl;have c32: ∀a b c:Int,XK.run (GK H) (.cell 2 3) [.agg [iv a,iv b,iv c]]=some (iv c):=fun a b c=>rfl;have hra:((cW e.rd e.tb s.rows).bind fun i=>s.rows[i]?).getD zR=rowAt s e:=rfl;rw[hra]at kr;have hsc:gH H s (eC n) l e= [iv e.rd,iv e.tb,iv e.bd,iv (if e.tu then(rowAt s e).ew else(rowAt s e).ns),iv (if e.tu then(rowAt s e).ns else(rowAt s e).ew),iv (fB H (eC n) l e).1.n,iv (fB H (eC n) l e).1.d,iv (fB H (eC n) l e).2.n,iv (fB H (eC n) l e).2.d,iv (2*((l.countP En.nv:Int)-1)),bv (e.nv&&decide (1<l.countP En.nv))]:=rfl;rw[hsc]at ka ih;generalize fB H (eC n) l e=re at*;generalize((l.take i).filter En.nv).map (gH H s (eC n) l)=acc at*;generalize(e.nv&&decide (1<l.countP En.nv))=cn at*;generalize hc:(l.countP En.nv:Int)=c at*;have lt:=fun x0 x1 x2 x3 x4 x5 x6 x7 x8 x9 c=>Yb (G:=GK H) (x0:=x0) (x1:=x1) (x2:=x2) (x3:=x3) (x4:=x4) (x5:=x5) (x6:=x6) (x7:=x7) (x8:=x8) (x9:=x9) (c:=c);cases htu:e.tu with
   |true=>
    rw[htu]at ka ih;simp only[if_true]at ka ih;simp[l3,e3,hk,hll,li,kr,kk,kl',c30,c31,c32,w2,w3,lt,ka,htu,w];exact ih
   |false=>
    rw[htu]at ka ih;simp only[Bool.false_eq_true,if_false]at ka ih;simp[l3,e3,hk,hll,li,kr,kk,kl',c30,c31,c32,w2,w3,lt,ka,htu,w];exact ih
 |none=>
  have l3:=List.getElem?_eq_none_iff.1 h3;have e:l.length=i:=by omega
  have et:l.take i=l:=List.take_of_length_le (by omega);rw[et];have sw: ∀x y,bY (.mk .tup [.mk .own [x],y]) (.tup [.list (du H s n l),iv 0])=R:=fun x y=>by rw[hR];exact k_ (AY fun x=>rfl)
  rw[show((l.filter En.nv).map (gH H s (eC n) l))=du H s n l from rfl];generalize du H s n l=acc at*;have ko:XK.run (GK H) .own [.list acc]=some (.list acc):=rfl;simp[e,ko,sw]
end Ty
end
section
namespace Ty
variable {H : FP}
def jZ(n:Int)(e:En):Bool:=decide (e.bd=n)
def Cp(M:BM)(l:List En):BM:=l.foldl (fun M e=>ki e.bd e M) M
theorem yB(n:Int): ∀(l:List En) (M:BM),kJ n (Cp M l)=kJ n M++l.filter (jZ n)
 | [],M=>by simp[Cp]
 |e::r,M=>by
  show kJ n (Cp (ki e.bd e M) r)=_;rw[yB n r,A5];by_cases h:e.bd=n
  ·rw[if_pos h.symm,List.filter_cons_of_pos (by simpa[jZ]using h),List.append_assoc];rfl
  ·rw[if_neg (fun e=>h e.symm),List.filter_cons_of_neg (by simpa[jZ]using h)]
theorem Hz: ∀(l:List En) (M:BM),(Cp M l).length≤M.length+l.length
 | [],M=>by simp[Cp]
 |e::r,M=>by
  show(Cp (ki e.bd e M) r).length≤_;have h1:=Hz r (ki e.bd e M);have h2:=Ah e.bd e M;simp only[List.length_cons];omega
theorem KY{l:List En}{i:Nat}{e:En}(h:l[i]?=some e):Cp [] (l.take (i+1))=ki e.bd e (Cp [] (l.take i)):=by
 unfold Cp;rw[List.take_add_one,h,List.foldl_append];rfl
noncomputable def jb(H:FP)(s:Ss)(N:Nat)(c:List En):List (List D):=(List.range N).flatMap fun i:Nat=>du H s ((i:Int)+1) (c.filter (jZ ((i:Int)+1)))
theorem vg{s:Ss}{n:Int}{l:List En}: ∀c∈du H s n l,c.length=11∧c.all D.aW=true:=fun c hc=>by
 obtain⟨e,_,rfl⟩:=List.mem_map.1 hc;exact⟨rfl,rfl⟩
theorem Hj{s:Ss}{N:Nat}{l:List En}: ∀c∈jb H s N l,c.length=11∧c.all D.aW=true:=fun c hc=>by
 obtain⟨i,_,h⟩:=List.mem_flatMap.1 hc;exact vg c h
theorem tw{s:Ss}{l:List En}(hb: ∀n,(l.filter (jZ n)).length≤24): ∀N,(jb H s N l).length≤N*24
 |0=>by simp[jb]
 |N+1=>by
  have h:=tw (s:=s) hb N
  have h2:(du H s ((N:Int)+1) (l.filter (jZ ((N:Int)+1)))).length≤24:=by
   unfold du;rw[List.length_map];exact Nat.le_trans (List.length_filter_le ..) (hb _)
  unfold jb at*;rw[List.range_succ,List.flatMap_append,List.length_append];simp only[List.flatMap_cons,List.flatMap_nil,List.append_nil];omega
section
variable {G : FP}
theorem Jp{c:List D}(h:c.all D.aW=true):c.all D.nV=true:=by
 rw[Tz]at*;intro x hx;have:=h x hx;cases x<;>first|rfl|(simp[D.aW]at this;done)
theorem VY{a b:List (List D)}(h:a.length+b.length<65536)(hb: ∀c∈b,c.length=11∧c.all D.aW=true):XK.run G (.app 11) [.list a, .list b]=some (.list (a++b)):=by
 show(if aO 11 b=true∧a.length+b.length≤aC then some (D.list (a++b))else none)=_
 have hr:aO 11 b=true:=by
  unfold aO;rw[Tz];intro c hc;have:=hb c hc;simp[this.1];exact Tz.1 (Jp this.2)
 rw[if_pos ⟨hr,by show a.length+b.length≤1048576;omega⟩]
theorem XG{a b:D}:XK.run G (.isc 85 2) [.clo 85 [a,b]]=some (.tup []):=rfl
theorem Sd{es:List (List D)}{b:D}:XK.run G (.capc 85 0 2) [.clo 85 [.lptr [.list es],b]]=some (.lptr [.list es]):=rfl
theorem Se{a:D}{xs:List D}:XK.run G (.capc 85 1 2) [.clo 85 [a, .lptr xs]]=some (.lptr xs):=rfl
end
set_option maxHeartbeats 2000000 in
theorem l16(hB:Fb H)(s:Ss)(l c:List En)(h47:XK.run (GK H) (.call false 47) [.agg s.cells, .list (l.map En.cells)]=some (.tup [.list (c.map En.cells),iv 0]))
  (hr:s.rows.length<9999) (ha:hD s.rows=true) (hc: ∀e∈c,KB e) (hcl:c.length<9999) (hb: ∀n,(c.filter (jZ n)).length≤24) {N:Nat} (hN:s.ss*s.bs=N) (hN2:N≤128) {fl:Bool}:
  XK.run (GK H) (.call fl 16) [.agg s.cells, .list (l.map En.cells)]=some (.tup [.list (jb H s N c),iv 0]):=by
 have hF:=hB.fr;refine eI (af hF YD ?_) rfl
 conv=>enter [1,3];cbv
 obtain⟨R,hR⟩: ∃R,R=D.own (.tup [.list (jb H s N c),iv 0]):=⟨_,rfl⟩;rw[←hR];have k2:=l48 hF s hr ha (fl:=false);have k3:=l49 hF s c;have x0: ∀a:List (List D),XK.run (GK H) (.pk (.ext 0)) [.tup [.list a,iv 0]]=some (.list a):=fun a=>rfl;have x1: ∀a:List (List D),XK.run (GK H) (.pk (.ext 1)) [.tup [.list a,iv 0]]=some (iv 0):=fun a=>rfl;have of: ∀a:List (List D),XK.run (GK H) .qa [.fm a]=some (.fm a):=fun a=>rfl;have nf: ∀a:List (List D),XK.run (GK H) .bq [.fm a]=some (.fm a):=fun a=>rfl;have k50:=fun(n:Int) (hn:1≤n∧n≤128) (l':List En) (h: ∀e∈l',KB e) (hl:l'.length≤24)=>l50 hB s n hn l' h hl;generalize ao (s.rows.map Rw.pr)=fm at*;simp[-bN,h47,x0,x1,k2,of,k3,XG,Sd,Se];refine aI (n:=c.length) (fun i=> [iv (i:Int), .list (ao ((Cp [] (c.take i)).map BO))]) R (by omega) ?_;intro rec i hi ih;cases h3:c[i]? with
 |some e=>
  have l3:=(Gz.1 h3).1;have e3:c[i]=e:=(Gz.1 h3).2;have ih:=ih (by omega);rw[KY h3]at ih;have hlen:=Hz (c.take i) []
  have km:=Yk (G:=GK H) (M:=Cp [] (c.take i)) (k:=e.bd) (e:=e) (by rw[List.length_take]at hlen;simp at hlen;omega) (fun n=>by
   rw[yB];have:=List.length_filter_le (jZ n) (c.take i);rw[List.length_take]at this;simp only[kJ,List.nil_append]
   omega)
  have w:=wr (z:=(i:Int)+1) (by omega) (by omega);generalize ao ((Cp [] (c.take i)).map BO)=m at*;generalize ao ((ki e.bd e (Cp [] (c.take i))).map BO)=m' at*;simp[l3,e3,km,w];exact ih
 |none=>
  have l3:=List.getElem?_eq_none_iff.1 h3;have e:c.length=i:=by omega
  have et:c.take i=c:=List.take_of_length_le (by omega);rw[et];clear ih h3 l3 hi et;subst e;simp;have hz: [D.v (.int .i64 1),D.list []]= [iv (((0:Nat):Int)+1), .list (jb H s 0 c)]:=by simp[jb]
  rw[hz];refine aI (n:=N) (fun j=> [iv ((j:Int)+1), .list (jb H s j c)]) R (by omega) ?_;intro rec j hj ih;have wN:IntKind.i64.wrap (s.ss*s.bs)=(N:Int):=by rw[hN];exact wr (by omega) (by omega)
  by_cases hjN:j=N
  ·subst hjN;have hle: ¬(j:Int)+1≤(j:Int):=by omega
   have sw: ∀x y,bY (.mk .tup [.mk .own [x],y]) (.tup [.list (jb H s j c),iv 0])=R:=fun x y=>by
    rw[hR];exact k_ (Tz.2 fun c hc=>(Hj c hc).2)
   generalize jb H s j c=acc at*;have ko:XK.run (GK H) .own [.list acc]=some (.list acc):=rfl;simp[wN,hle,ko,sw]
  ·have hle:(j:Int)+1≤(N:Int):=by omega
   have ih:=ih (by omega);obtain⟨d,kd1,kd2⟩:=Ym (G:=GK H) (M:=Cp [] c) (n:=(j:Int)+1);have hgb:kJ ((j:Int)+1) (Cp [] c)=c.filter (jZ ((j:Int)+1)):=by rw[yB];rfl
   rw[hgb]at kd2;have k5:=k50 ((j:Int)+1) (by omega) (c.filter (jZ ((j:Int)+1))) (fun e he=>hc e (List.mem_filter.1 he).1) (hb _);have hl1:=tw (H:=H) (s:=s) hb j
   have hl2:(du H s ((j:Int)+1) (c.filter (jZ ((j:Int)+1)))).length≤24:=by
    unfold du;rw[List.length_map];exact Nat.le_trans (List.length_filter_le ..) (hb _)
   have ka:=VY (G:=GK H) (a:=jb H s j c) (b:=du H s ((j:Int)+1) (c.filter (jZ ((j:Int)+1)))) (by omega) vg
   have hS:jb H s (j+1) c=jb H s j c++du H s ((j:Int)+1) (c.filter (jZ ((j:Int)+1))):=by
    unfold jb;rw[List.range_succ,List.flatMap_append];simp
   rw[hS]at ih;generalize ao ((Cp [] c).map BO)=m at*;generalize(c.filter (jZ ((j:Int)+1))).map En.cells=lc at*;generalize du H s ((j:Int)+1) (c.filter (jZ ((j:Int)+1)))=sc at*;generalize jb H s j c=acc at*;have w:=wr (z:=(j:Int)+1+1) (by omega) (by omega);simp[-bN,wN,hle,kd1,kd2,nf,k5,x0,x1,ka,w];exact ih
end Ty
end
section
open Go.RowKit Go.Sort
namespace Ty
theorem By: ∀(l:List En) (x:En),x∈tT l↔x∈l
 | [],x=>Iff.rfl
 | [a],x=>Iff.rfl
 |a::b::r,x=>by
  have ih:=By (b::r) x;unfold tT;split
  ·rename_i h;subst h;rw[ih];simp
  ·rw[List.mem_cons,ih,List.mem_cons (a:=x) (b:=a)]
theorem kQ(l:List En)(x:En):x∈setOf l↔x∈l:=by
 unfold setOf;rw[HX,By,(bW xm l).mem_iff]
theorem FA: ∀{l m:List En},l.Pairwise (fun a b=>a.cmp b<0)→m.Pairwise (fun a b=>a.cmp b<0)→(∀x,x∈l↔x∈m)→l=m
 | [],[],_,_,_=>rfl
 | [],b::s,_,_,h=>absurd ((h b).2 (List.mem_cons_self ..)) (by simp)
 |a::r,[],_,_,h=>absurd ((h a).1 (List.mem_cons_self ..)) (by simp)
 |a::r,b::s,hl,hm,h=>by
  have hl':=List.pairwise_cons.1 hl;have hm':=List.pairwise_cons.1 hm
  have hab:a=b:=by
   rcases List.mem_cons.1 ((h a).1 (List.mem_cons_self ..))with e|e
   ·exact e
   ·rcases List.mem_cons.1 ((h b).2 (List.mem_cons_self ..))with e2|e2
    ·exact e2.symm
    ·exact absurd (kH (hm'.1 a e) (hl'.1 b e2)) (fD b)
  subst hab;congr 1;refine FA hl'.2 hm'.2 fun x=>⟨fun hx=> ?_,fun hx=> ?_⟩
  ·rcases List.mem_cons.1 ((h x).1 (Cz _ hx))with e|e
   ·subst e;exact absurd (hl'.1 x hx) (fD x)
   ·exact e
  ·rcases List.mem_cons.1 ((h x).2 (Cz _ hx))with e|e
   ·subst e;exact absurd (hm'.1 x hx) (fD x)
   ·exact e
theorem pN{l:List En}(hok: ∀e∈l,e.okB=true):(setOf l).Pairwise (fun a b=>a.cmp b<0):=(kW _).1 (vh l hok)
theorem filter_all{α}{p:α→Bool}{l:List α}(h: ∀e∈l,p e=true):l.filter p=l:=List.filter_eq_self.2 h
theorem nk(b t:Int)(hb:u8 b=true)(ht:u8 t=true):(oc b t).aQ=true:=by
 have h1:=cP hb;have h2:=cP ht;unfold oc;split
 ·rfl
 ·unfold Ou.aQ;rw[if_neg (by show¬1+b%211/30=0;omega)];simp only[Az,decide_eq_true_eq];omega
theorem Jr(b t:Int):(oc b t).wt=0:=by
 unfold oc;split<;>rfl
theorem Hn(i:Int):wQ (KW i)=true:=by
 unfold KW wQ
 repeat' split
 all_goals rfl
theorem UA{e:En}(hk:e.kd=1)(hf:e.fl<4)(p0:e.o0.aQ=true)(w0:e.o0.wt=0)(z1:e.o1=zO)(z2:e.o2=zO)(z3:e.o3=zO)(za:e.a0=0)(zb:e.a1=0):e.right=true:=by
 have hu:e.used=(1,true):=by unfold En.used;rw[if_pos hk,if_pos ⟨p0,w0⟩]
 unfold En.right;rw[if_neg (by omega),hu];simp[En.ol,En.Ag,hk,z1,z2,z3,za,zb,zO,Ou.qH]
theorem UB{e:En}(hk:e.kd=3)(hf:e.fl<4)(p0:e.o0.aQ=true)(w0:e.o0.wt=0)(p1:e.o1.aQ=true)(w1:e.o1.wt=0)(z2:e.o2=zO)(z3:e.o3=zO)(za:e.a0=0)(zb:e.a1=0):e.right=true:=by
 have hu:e.used=(2,true):=by unfold En.used;rw[if_neg (by omega),if_pos hk,if_pos ⟨⟨p0,w0⟩,p1,w1⟩]
 unfold En.right;rw[if_neg (by omega),hu];simp[En.ol,En.Ag,hk,z2,z3,za,zb,zO,Ou.qH]
theorem JO{e:En}(hk:e.kd=0∨e.kd=4)(hf:e.fl=0)(ht:e.tu=false)(z0:e.o0=zO)(z1:e.o1=zO)(z2:e.o2=zO)(z3:e.o3=zO)(ha:e.Ag=true):e.right=true:=by
 have hu:e.used=(0,true):=by unfold En.used;rw[if_neg (by omega),if_neg (by omega),if_neg (by omega)]
 unfold En.right;rw[if_neg (by omega),hu];simp[En.ol,ha,hf,ht,z0,z1,z2,z3,zO,Ou.qH]
theorem Vj{o:Ou}(h1:1≤o.wt)(h2:o.wt≤99)(hp:o.aQ=true):o.Nr=true:=by
 unfold Ou.Nr;have a: ¬o.wt<1:=by omega
 have b: ¬99<o.wt:=by omega
 simp[a,b,hp]
theorem Nt{o:Ou}{r:List Ou}{s:Int}{n:Nat}(h1:1≤o.wt)(h2:o.wt≤99)(hp:o.aQ=true)(hs:0≤s∧s≤400):ay (o::r) s n=ay r (s+o.wt) (n+1):=by
 show(if o.wt=0 then _ else if o.Nr=true then ay r (IntKind.i64.wrap (s+o.wt)) (n+1)else _)=_;rw[if_neg (by omega),if_pos (Vj h1 h2 hp),wr (by omega) (by omega)]
theorem zX{p:Ou}{w:Int}{r:List Ou}{s:Int}{n:Nat}(h1:1≤w)(h2:w≤99)(hp:p.aQ=true)(hs:0≤s∧s≤400):ay (p.oS w::r) s n=ay r (s+w) (n+1):=Nt (o:=p.oS w) h1 h2 hp hs
theorem abc{r:List Ou}{s:Int}{n:Nat}:ay (zO::r) s n=((n:Int),decide (2≤n)&&decide (s=100)):=by
 show(if(0:Int)=0 then _ else _)=_;rw[if_pos rfl]
theorem DD{e:En}(hk:e.kd=2)(hf:e.fl<4){n:Nat}(hn:2≤n)(hu:ay [e.o0,e.o1,e.o2,e.o3] 0 0=((n:Int),true))(hz:(e.ol.drop n).all Ou.qH=true)(za:e.a0=0)(zb:e.a1=0):e.right=true:=by
 have hu:e.used=((n:Int),true):=by unfold En.used;rw[if_neg (by omega),if_neg (by omega),if_pos hk,hu]
 unfold En.right;rw[if_neg (by omega),hu,if_neg (by simp),if_neg (by simp;omega)];have h4: ¬e.kd=4:=by omega
 simp only[Int.toNat_natCast,hz,Bool.true_and];simp[En.Ag,h4,za,zb]
theorem Bl{i:It}{k:Ky}(h:i.ok=true):(i.en k).right=true:=by
 simp only[It.ok,Az]at h;have hx:=h.2;simp only[Sm.ok,Az]at hx;obtain⟨⟨⟨⟨⟨⟨⟨⟨⟨⟨⟨⟨⟨gk,gf⟩,ga⟩,g0⟩,g1⟩,g2⟩,g3⟩,q0⟩,q1⟩,q2⟩,q3⟩,v0⟩,v1⟩,v2⟩:=hx;have hk:=cP gk;have hf:i.x.f%4<4:=by have:=cP gf;omega
 have p0:=nk i.x.b0 i.x.t0 g0 q0;have p1:=nk i.x.b1 i.x.t1 g1 q1;have p2:=nk i.x.b2 i.x.t2 g2 q2;have p3:=nk i.x.b3 i.x.t3 g3 q3;have w0:=cP v0;have w1:=cP v1;have w2:=cP v2;by_cases c1:i.x.k%5=1
 ·have e:i.x.en={(⟨0,0,0,0,i.x.k%5,i.x.f%4,false,zO,zO,zO,zO,0,0⟩:En)with o0:=oc i.x.b0 i.x.t0}:=by unfold Sm.en;simp only;rw[if_pos c1]
  unfold It.en;rw[e];refine UA c1 ?_ p0 (Jr _ _) rfl rfl rfl rfl rfl;show(if i.x.k%5=0∨i.x.k%5=4 then(0:Int)else i.x.f%4)<4;split<;>omega
 ·by_cases c3:i.x.k%5=3
  ·have e:i.x.en={(⟨0,0,0,0,i.x.k%5,i.x.f%4,false,zO,zO,zO,zO,0,0⟩:En)with o0:=oc i.x.b0 i.x.t0,o1:=oc i.x.b1 i.x.t1}:=by unfold Sm.en;simp only;rw[if_neg c1,if_pos c3]
   unfold It.en;rw[e];refine UB c3 ?_ p0 (Jr _ _) p1 (Jr _ _) rfl rfl rfl rfl;show(if i.x.k%5=0∨i.x.k%5=4 then(0:Int)else i.x.f%4)<4;split<;>omega
  ·by_cases c2:i.x.k%5=2
   ·have hfl:(if i.x.k%5=0∨i.x.k%5=4 then(0:Int)else i.x.f%4)<4:=by split<;>omega
    by_cases n2:2+i.x.w0%3=2
    ·have e:i.x.en={(⟨0,0,0,0,i.x.k%5,i.x.f%4,false,zO,zO,zO,zO,0,0⟩:En)with o0:=(oc i.x.b0 i.x.t0).oS (1+i.x.w0%(100-(2+i.x.w0%3-1))),o1:=(oc i.x.b1 i.x.t1).oS (100-(1+i.x.w0%(100-(2+i.x.w0%3-1))))}:=by
      unfold Sm.en;simp only;rw[if_neg c1,if_neg c3,if_pos c2,if_pos n2]
     unfold It.en;rw[e]
     have hw:1≤1+i.x.w0%(100-(2+i.x.w0%3-1))∧1+i.x.w0%(100-(2+i.x.w0%3-1))≤99:=by
      rw[n2];omega
     generalize 1+i.x.w0%(100-(2+i.x.w0%3-1))=W0 at hw;refine DD (n:=2) c2 hfl (by omega) ?_ rfl rfl rfl;show ay [(oc i.x.b0 i.x.t0).oS W0,(oc i.x.b1 i.x.t1).oS (100-W0),zO,zO] 0 0=_;rw[zX (by omega) (by omega) p0 (by omega),zX (by omega) (by omega) p1 (by omega),abc];have:0+W0+(100-W0)=100:=by omega
     show _=((2:Int),true);show((2:Int),true&&decide (0+W0+(100-W0)=100))=_;rw[this];rfl
    ·have b0:1≤1+i.x.w0%(100-(2+i.x.w0%3-1))∧1+i.x.w0%(100-(2+i.x.w0%3-1))≤100-(2+i.x.w0%3-1):=by
      have:=Int.emod_nonneg i.x.w0 (b:=100-(2+i.x.w0%3-1)) (by omega);have:=Int.emod_lt_of_pos i.x.w0 (b:=100-(2+i.x.w0%3-1)) (by omega);omega
     by_cases n3:2+i.x.w0%3=3
     ·have e:i.x.en={(⟨0,0,0,0,i.x.k%5,i.x.f%4,false,zO,zO,zO,zO,0,0⟩:En)with o0:=(oc i.x.b0 i.x.t0).oS (1+i.x.w0%(100-(2+i.x.w0%3-1))),o1:=(oc i.x.b1 i.x.t1).oS (1+i.x.w1%(100-(1+i.x.w0%(100-(2+i.x.w0%3-1)))-(2+i.x.w0%3-2))),o2:=(oc i.x.b2 i.x.t2).oS (100-(1+i.x.w0%(100-(2+i.x.w0%3-1)))-(1+i.x.w1%(100-(1+i.x.w0%(100-(2+i.x.w0%3-1)))-(2+i.x.w0%3-2))))}:=by
       unfold Sm.en;simp only;rw[if_neg c1,if_neg c3,if_pos c2,if_neg n2,if_pos n3]
      unfold It.en;rw[e];generalize 1+i.x.w0%(100-(2+i.x.w0%3-1))=W0 at b0
      have b1:1≤1+i.x.w1%(100-W0-(2+i.x.w0%3-2))∧1+i.x.w1%(100-W0-(2+i.x.w0%3-2))≤100-W0-(2+i.x.w0%3-2):=by
       have:=Int.emod_nonneg i.x.w1 (b:=100-W0-(2+i.x.w0%3-2)) (by omega);have:=Int.emod_lt_of_pos i.x.w1 (b:=100-W0-(2+i.x.w0%3-2)) (by omega);omega
      generalize 1+i.x.w1%(100-W0-(2+i.x.w0%3-2))=W1 at b1;refine DD (n:=3) c2 hfl (by omega) ?_ rfl rfl rfl;show ay [(oc i.x.b0 i.x.t0).oS W0,(oc i.x.b1 i.x.t1).oS W1,(oc i.x.b2 i.x.t2).oS (100-W0-W1),zO] 0 0=_
      rw[zX (by omega) (by omega) p0 (by omega),zX (by omega) (by omega) p1 (by omega),
       zX (by omega) (by omega) p2 (by omega),abc]
      have:0+W0+W1+(100-W0-W1)=100:=by omega
      show((3:Int),true&&decide (0+W0+W1+(100-W0-W1)=100))=((3:Int),true);rw[this];rfl
     ·have e:i.x.en={(⟨0,0,0,0,i.x.k%5,i.x.f%4,false,zO,zO,zO,zO,0,0⟩:En)with o0:=(oc i.x.b0 i.x.t0).oS (1+i.x.w0%(100-(2+i.x.w0%3-1))),o1:=(oc i.x.b1 i.x.t1).oS (1+i.x.w1%(100-(1+i.x.w0%(100-(2+i.x.w0%3-1)))-(2+i.x.w0%3-2))),o2:=(oc i.x.b2 i.x.t2).oS (1+i.x.w2%(100-(1+i.x.w0%(100-(2+i.x.w0%3-1)))-(1+i.x.w1%(100-(1+i.x.w0%(100-(2+i.x.w0%3-1)))-(2+i.x.w0%3-2)))-1)),o3:=(oc i.x.b3 i.x.t3).oS (100-(1+i.x.w0%(100-(2+i.x.w0%3-1)))-(1+i.x.w1%(100-(1+i.x.w0%(100-(2+i.x.w0%3-1)))-(2+i.x.w0%3-2)))-(1+i.x.w2%(100-(1+i.x.w0%(100-(2+i.x.w0%3-1)))-(1+i.x.w1%(100-(1+i.x.w0%(100-(2+i.x.w0%3-1)))-(2+i.x.w0%3-2)))-1)))}:=by
       unfold Sm.en;simp only;rw[if_neg c1,if_neg c3,if_pos c2,if_neg n2,if_neg n3]
      unfold It.en;rw[e];have hn:2+i.x.w0%3=4:=by omega
      rw[hn]at b0;rw[hn];generalize 1+i.x.w0%(100-(4-1))=W0 at b0
      have b1:1≤1+i.x.w1%(100-W0-(4-2))∧1+i.x.w1%(100-W0-(4-2))≤100-W0-(4-2):=by
       have:=Int.emod_nonneg i.x.w1 (b:=100-W0-(4-2)) (by omega);have:=Int.emod_lt_of_pos i.x.w1 (b:=100-W0-(4-2)) (by omega);omega
      generalize 1+i.x.w1%(100-W0-(4-2))=W1 at b1
      have b2:1≤1+i.x.w2%(100-W0-W1-1)∧1+i.x.w2%(100-W0-W1-1)≤100-W0-W1-1:=by
       have:=Int.emod_nonneg i.x.w2 (b:=100-W0-W1-1) (by omega);have:=Int.emod_lt_of_pos i.x.w2 (b:=100-W0-W1-1) (by omega);omega
      generalize 1+i.x.w2%(100-W0-W1-1)=W2 at b2;refine DD (n:=4) c2 hfl (by omega) ?_ rfl rfl rfl;show ay [(oc i.x.b0 i.x.t0).oS W0,(oc i.x.b1 i.x.t1).oS W1,(oc i.x.b2 i.x.t2).oS W2,(oc i.x.b3 i.x.t3).oS (100-W0-W1-W2)] 0 0=_
      rw[zX (by omega) (by omega) p0 (by omega),zX (by omega) (by omega) p1 (by omega),
       zX (by omega) (by omega) p2 (by omega),
       zX (by omega) (by omega) p3 (by omega)]
      have:0+W0+W1+W2+(100-W0-W1-W2)=100:=by omega
      show((4:Int),true&&decide (0+W0+W1+W2+(100-W0-W1-W2)=100))=((4:Int),true);rw[this];rfl
   ·by_cases c4:i.x.k%5=4
    ·have e:i.x.en={(⟨0,0,0,0,i.x.k%5,i.x.f%4,false,zO,zO,zO,zO,0,0⟩:En)with a0:=KW (i.x.a%7),a1:=KW (i.x.a/7%7)}:=by unfold Sm.en;simp only;rw[if_neg c1,if_neg c3,if_neg c2,if_pos c4]
     unfold It.en;rw[e];refine JO (.inr c4) (if_pos (.inr c4)) (if_pos (.inr c4)) rfl rfl rfl rfl ?_;unfold En.Ag;rw[if_pos c4];show(wQ (KW _)&&wQ (KW _))=true;rw[Hn,Hn];rfl
    ·have c0:i.x.k%5=0:=by omega
     have e:i.x.en=(⟨0,0,0,0,i.x.k%5,i.x.f%4,false,zO,zO,zO,zO,0,0⟩:En):=by unfold Sm.en;simp only;rw[if_neg c1,if_neg c3,if_neg c2,if_neg c4]
     unfold It.en;rw[e];refine JO (.inl c0) (if_pos (.inl c0)) (if_pos (.inl c0)) rfl rfl rfl rfl ?_;unfold En.Ag;rw[if_neg c4];rfl
end Ty
end
section
open Go.RowKit Go.Sort
namespace Ty
theorem LV{s:Ss}{i:It}{k:Ky}(hk:IV s k=true)(hi:i.ok=true):s.fM (i.en k)=0:=by
 unfold IV at hk
 have hv: ¬((i.en k).vs<1∨99<(i.en k).vs):=by
  show¬(1+i.vs%9<1∨99<1+i.vs%9);omega
 show(match cW k.rd k.tb s.rows with|none=>_|some i=>_)=_;split at hk
 ·cases hk
 ·rename_i j hj;split at hk
  ·cases hk
  ·rename_i r hr;simp only[Az,decide_eq_true_eq]at hk;obtain⟨h1,h2,h3,h4,h5,h6⟩:=hk;simp only[hj,hr]
   rw[show(i.en k).bd=k.bd from rfl,if_neg (by omega),if_neg (show¬(s.bs<1∨k.bd<1∨128<k.bd∨IntKind.i64.wrap ((IntKind.i64.wrap (k.bd-1)).tdiv s.bs)≠r.st)from fun h=>by
    rcases h with h|h|h|h
    ·omega
    ·omega
    ·omega
    ·exact h h6),if_neg hv,Bl hi]
   rfl
theorem AS{s:Ss}{l:List It}(hs:rJ s=true)(hl: ∀i∈l,i.ok=true): ∀e∈fE s.cy l,s.proper e=true∧IV s ⟨e.rd,e.tb,e.bd⟩=true∧KB e:=fun e he=>by
 unfold fE at he;obtain⟨i,hi,h⟩:=List.mem_filterMap.1 he;obtain⟨k,hk,rfl⟩:=Mz.1 h;have hio:=hl i (List.mem_of_mem_take hi);have hkm:k∈s.keys:=(bW yN s.keys).mem_iff.1 (Lz hk);unfold rJ at hs;rw[Az]at hs;have hko:=Tz.1 hs.1 k hkm;exact⟨by unfold Ss.proper;rw[LV hko hio];rfl,hko,XI hio,Bl hio⟩
theorem oX{e x:En}:e.bP x<0↔e.rd<x.rd∨(e.rd=x.rd∧(e.tb<x.tb∨(e.tb=x.tb∧e.bd<x.bd))):=by
 unfold En.bP dJ c_
 grind
theorem K7{a b c:En}(h:a.bP b<0)(k:b.bP c≤0):a.bP c<0:=by
 rw[oX]at*;rcases Int.lt_or_eq_of_le k with k|k
 ·rw[oX]at k;omega
 ·rw[jI]at k;omega
theorem NH{a b:En}(h:a.cmp b<0):a.bP b≤0:=by
 unfold En.cmp at h;split at h<;>omega
theorem tM: ∀(l:List En),l.Pairwise (fun a b=>a.bP b≤0)→(bx l).Pairwise (fun a b=>a.bP b<0)
 | [],_=>List.Pairwise.nil
 | [a],_=>List.pairwise_singleton ..
 |a::b::r,h=>by
  have h':=List.pairwise_cons.1 h;have ih:=tM (b::r) h'.2;unfold bx;split
  ·exact ih
  ·rename_i hn;refine List.pairwise_cons.2 ⟨fun x hx=> ?_,ih⟩;have hab:a.bP b<0:=by have:=h'.1 b (List.mem_cons_self ..);omega
   rcases List.mem_cons.1 ((mZ (b::r)).subset hx)with e|e
   ·grind
   ·exact K7 hab ((List.pairwise_cons.1 h'.2).1 x e)
theorem yM{α:Type} [DecidableEq α]: ∀(l m:List α),l.Pairwise (· ≠ ·)→(∀x∈l,x∈m)→l.length≤m.length
 | [],m,_,_=>Nat.zero_le _
 |a::r,m,hp,h=>by
  have hp':=List.pairwise_cons.1 hp;have ha:=h a (List.mem_cons_self ..);have ih:=yM r (m.erase a) hp'.2 fun x hx=>(List.mem_erase_of_ne (fun e=>hp'.1 x hx e.symm)).2 (h x (Cz _ hx));rw[List.length_erase_of_mem ha]at ih;have:0<m.length:=List.length_pos_of_mem ha;simp only[List.length_cons];omega
theorem few{s:Ss}(hs:rJ s=true){c:List En}(hk: ∀e∈c,IV s ⟨e.rd,e.tb,e.bd⟩=true)(hc:c.Pairwise fun a b=>a.bP b<0)(n:Int):(c.filter (jZ n)).length≤24:=by
 unfold rJ at hs;simp only[Az]at hs
 have h24: ∀q:Int,(s.rows.filter fun r=>decide (r.st=q)).length≤24:=fun q=>by
  cases hf:s.rows.filter fun r=>decide (r.st=q)with
  |nil=>simp
  |cons r t=>
   have hm:r∈s.rows.filter fun r=>decide (r.st=q):=by rw[hf];exact List.mem_cons_self ..
   have hm:=List.mem_filter.1 hm;have h2:=Tz.1 hs.2.1 r hm.1;have hq:r.st=q:=by simpa using hm.2
   rw[hq]at h2;rw[←hf];exact Nat.le_of_ble_eq_true h2
 have hl:=yM ((c.filter (jZ n)).map fun e=>(e.rd,e.tb)) ((s.rows.filter fun r=>decide (r.st=IntKind.i64.wrap ((IntKind.i64.wrap (n-1)).tdiv s.bs))).map fun r=>(r.rd,r.tb)) ?_ ?_
 ·rw[List.length_map,List.length_map]at hl;exact Nat.le_trans hl (h24 _)
 ·rw[List.pairwise_map];refine((hc.sublist List.filter_sublist).imp_of_mem ?_);intro a b ha hb hab e;have h1:a.bd=n:=by simpa[jZ]using(List.mem_filter.1 ha).2
  have h2:b.bd=n:=by simpa[jZ]using(List.mem_filter.1 hb).2
  injection e with e1 e2
  rw[oX]at hab;omega
 ·intro x hx;obtain⟨e,he,rfl⟩:=List.mem_map.1 hx;have hm:=List.mem_filter.1 he;have hb:e.bd=n:=by simpa[jZ]using hm.2
  have hke:=hk e hm.1;unfold IV at hke;split at hke
  ·grind
  ·rename_i j hj;obtain⟨r,h1,h2,h3⟩:=gA hj
   grind
end Ty
end
section
namespace Ty
end Ty
end
section
namespace Ty
end Ty
end
section
open Go.RowKit Go.Sort
namespace Ty
variable {H : FP}
def qb(f:Nat→Int)(b:Bool):List D:= [iv (f 0),iv (f 1),iv (f 2),iv (f 3),iv (f 4),iv (f 5),iv (f 6),iv (f 7),iv (f 8),iv (f 9),bv b]
def Scr(c:List D):Prop:= ∃f b,c=qb f b
section
variable {G : FP} {f g : Nat → Int} {b : Bool}
theorem qU:(qb f b).length=11:=rfl
theorem nB:XK.run G (.pk (.load 11 true)) [.lptr (qb f b)]=some (.agg (qb f b)):=nr rfl
theorem Ξ:aa [3,3,3,3,3,3,3,3,3,3,8] (qb f b) (qb f b)=some true:=by
 unfold qb;simp
end
theorem l17(hF:Fr H)(l:List (List D))(hl:l.length<9999)(h: ∀c∈l,Scr c):XK.run (GK H) (.call false 17) [.list l, .list l]=some (bv true):=by
 refine ag (af hF YI (d:=bv true) ?_) rfl rfl;unfold UO;generalize hz0:Ho=z0
 conv=>enter [1,3];cbv
 subst hz0;simp;refine aI (n:=l.length) (fun j=> [iv (j:Int),bv false]) (bv true) (by omega) ?_;intro rec j hj ih;unfold Ho
 conv=>enter [1,3];cbv
 cases h3:l[j]? with
 |some c=>
  have l3:=(Gz.1 h3).1;have e3:l[j]=c:=(Gz.1 h3).2;have ih:=ih (by omega);obtain⟨f,b,rfl⟩:=h c (Lz h3);have w:=wr (z:=(j:Int)+1) (by omega) (by omega);simp[l3,e3,qU,nB,Ξ,w];exact ih
 |none=>
  have l3:=List.getElem?_eq_none_iff.1 h3;have e:j=l.length:=by omega
  subst e;simp
end Ty
end
section
namespace Ty
section
variable (R : En → List Pt) (aw : En → Int) (l : List En)
def A8(e:En):Fq:=if l.countP En.nv<2 then⟨0,1⟩else if e.gP=true then Cv ((l.filter (En.ft e.fl)).map R) (l.countP En.nv) (R e)else share (aw e) (l.countP En.nv)
end
section
variable {R : En → List Pt} {aw : En → Int} {l : List En}
end
end Ty
end
section
namespace Ty
structure Cnt(S L:List En):Prop where
 pw:L.Pairwise fun a b=>a.bP b<0
 sub: ∀m∈L,m∈S
 last: ∀e∈S,∃m∈L,e.bP m=0∧ ¬m.cmp e<0
theorem rp{a b:En}(h:a.bP b<0):a.cmp b<0:=by
 unfold En.cmp;rw[if_pos (by omega)];exact h
theorem HI{a b:En}(ha:a.okB=true)(hb:b.okB=true)(h1: ¬a.cmp b<0)(h2: ¬b.cmp a<0):a=b:=by
 rw[lk]at h1 h2;unfold En.lex at h1 h2;refine uK ha hb (kO.1 ?_);rw[mD]at h2;omega
theorem yJ{L:List En}(h:L.Pairwise fun a b=>a.bP b<0): ∀{a b:En},a∈L→b∈L→a.bP b=0→a=b:=by
 induction h with
 |nil=>intro a b ha;cases ha
 | @cons c r h1 _ ih=>
  intro a b ha hb h0;rcases List.mem_cons.1 ha with e|ha2
  ·grind
  ·rcases List.mem_cons.1 hb with e2|hb2
   ·have:=h1 a ha2;rw[←e2]at this;rw[jI]at h0;rw[oX]at this;omega
   ·grind
theorem Ay: ∀(S:List En),S.Pairwise (fun a b=>a.cmp b<0)→ ∀e∈S,∃m∈bx S,e.bP m=0∧ ¬m.cmp e<0
 | [],_,e,he=>by cases he
 | [a],_,e,he=>by
  rw[List.mem_singleton]at he;subst he;exact⟨e,List.mem_singleton.2 rfl,mY e,fD e⟩
 |a::b::r,h,e,he=>by
  have h':=List.pairwise_cons.1 h;have ih:=Ay (b::r) h'.2;unfold bx;split
  ·rename_i h0;rcases List.mem_cons.1 he with rfl|he
   ·obtain⟨m,hm,h1,h2⟩:=ih b (List.mem_cons_self ..);have hb:=h'.1 b (List.mem_cons_self ..);refine⟨m,hm,by rw[jI]at*;omega,fun hlt=>h2 (kH hlt hb)⟩
   ·grind
  ·rcases List.mem_cons.1 he with rfl|he
   ·exact⟨e,List.mem_cons_self ..,mY e,fD e⟩
   ·grind
theorem oY{S:List En}(h:S.Pairwise fun a b=>a.cmp b<0):Cnt S (bx S):=
 ⟨tM S (h.imp NH),fun _ hm=>(mZ S).subset hm,Ay S h⟩
theorem Kl{a b:En}(h:a.bP b=0)(hv:a.vs<b.vs):a.cmp b<0:=by
 rw[jI]at h;rw[lk];unfold En.lex En.bK;simp only[eO];rw[if_pos (dw.2 h.1),if_pos (dw.2 h.2.1),if_pos (dw.2 h.2.2),if_neg (fun e=>by have:=dw.1 e;omega),kG];exact hv
end Ty
end
noncomputable section
namespace Ty
section
variable {x y : En} {β : Type}
end
section
variable {H : FP} {s : Ss} {x e : En} {v : Int} {l : List En}
def cD(N:Nat)(c:List En):List (Nat×En):=(List.range N).flatMap fun i:Nat=>((c.filter (jZ ((i:Int)+1))).filter En.nv).map fun e=>(i,e)
def cm(H:FP)(s:Ss)(c:List En)(p:Nat×En):List D:=gH H s (eC ((p.1:Int)+1)) (c.filter (jZ ((p.1:Int)+1))) p.2
theorem oV{N:Nat}{c:List En}:jb H s N c=(cD N c).map (cm H s c):=by
 unfold jb cD;rw[List.map_flatMap];congr 1;funext i;rw[List.map_map];rfl
theorem My{N:Nat}{c:List En}{p:Nat×En}(h:p∈cD N c):p.2∈c∧p.2.nv=true∧p.2.bd=(p.1:Int)+1:=by
 obtain⟨i,_,h⟩:=List.mem_flatMap.1 h;obtain⟨e,he,rfl⟩:=List.mem_map.1 h;obtain⟨h1,h2⟩:=List.mem_filter.1 he;obtain⟨h3,h4⟩:=List.mem_filter.1 h1;exact⟨h3,h2,by simpa[jZ]using h4⟩
end
end Ty
end
section
namespace Ty
section
variable {κ ν : Type} [DecidableEq κ]
def iX(k:κ)(v:ν):List (κ×ν)→List (κ×ν)
 | []=> [(k,v)]
 |p::r=>if p.1=k then(p.1,v)::r else p::iX k v r
def getM(k:κ)(z:ν):List (κ×ν)→ν
 | []=>z
 |p::r=>if p.1=k then p.2 else getM k z r
def ug(k:κ):List (κ×ν)→Option Nat
 | []=>none
 |p::r=>if p.1=k then some 0 else(ug k r).map (· +1)
theorem uc{k n:κ}{v z:ν}: ∀(M:List (κ×ν)),getM n z (iX k v M)=if n=k then v else getM n z M
 | []=>by
  by_cases h:n=k
  ·subst h;simp[iX,getM]
  ·have h': ¬k=n:=fun e=>h e.symm;simp[iX,getM,h,h']
 |p::r=>by
  unfold iX;by_cases hk:p.1=k
  ·rw[if_pos hk];simp only[getM];by_cases h:n=k
   ·subst h;simp[hk]
   ·have h': ¬p.1=n:=fun e=>h (by rw[←e,hk]);simp[h,h']
  ·rw[if_neg hk];simp only[getM];rw[uc r];by_cases hp:p.1=n
   ·have h: ¬n=k:=fun e=>hk (by rw[hp,e]);simp[hp,h]
   ·simp[hp]
theorem vi(k:κ)(v:ν): ∀M:List (κ×ν),(iX k v M).length≤M.length+1
 | []=>by simp[iX]
 |p::r=>by unfold iX;have:=vi k v r;split<;>simp;omega
theorem qE{k:κ}{z v:ν}: ∀{M:List (κ×ν)} {i:Nat},ug k M=some i→ ∃p,M[i]?=some p∧getM k z M=p.2∧iX k v M=M.set i (p.1,v)
 | [],_,h=>by cases h
 |p::r,i,h=>by
  unfold ug at h;by_cases hk:p.1=k
  ·rw[if_pos hk]at h;cases h;exact⟨p,rfl,by simp[getM,hk],by simp[iX,hk]⟩
  ·rw[if_neg hk]at h;obtain⟨j,hj,rfl⟩:=Mz.1 h;obtain⟨q,h1,h2,h3⟩:=qE (z:=z) (v:=v) hj;exact⟨q,h1,by simp[getM,hk,h2],by simp[iX,hk,h3]⟩
theorem qD{k:κ}{z v:ν}: ∀{M:List (κ×ν)},ug k M=none→getM k z M=z∧iX k v M=M++ [(k,v)]
 | [],_=>⟨rfl,rfl⟩
 |p::r,h=>by
  unfold ug at h;by_cases hk:p.1=k
  ·rw[if_pos hk]at h;cases h
  ·rw[if_neg hk]at h
   have h:ug k r=none:=by cases hr:ug k r with
    |none=>rfl
    |some i=>rw[hr]at h;cases h
   obtain⟨h1,h2⟩:=qD (z:=z) (v:=v) h;exact⟨by simp[getM,hk,h1],by simp[iX,hk,h2]⟩
structure KJ(ks:List Nat)(ek:κ→D):Prop where
 ok: ∀k,(ek k).uL=true
 eq: ∀a b,bR ks (ek a) (ek b)=some (decide (a=b))
def pM(ek:κ→D)(ev:ν→D)(p:κ×ν):D×D:=(ek p.1,ev p.2)
theorem yw{ks:List Nat}{ek:κ→D}{ev:ν→D}(h:KJ ks ek){k:κ}: ∀(M:List (κ×ν)) (i:Nat),bu ks (ek k) (M.map (pM ek ev)) i=some ((ug k M).map (· +i))
 | [],i=>rfl
 |p::r,i=>by
  rw[List.map_cons];unfold bu ug;rw[show(pM ek ev p).1=ek p.1 from rfl,h.eq,Oz];by_cases hp:p.1=k
  ·rw[if_pos (by simpa using hp.symm),if_pos hp];simp
  ·rw[if_neg (by simpa using fun e=>hp e.symm),if_neg hp,yw h r (i+1),Option.map_map];simp[Function.comp_def,Nat.add_assoc,Nat.add_comm 1]
variable {G : FP} {ks : List Nat} {ek : κ → D} {ev : ν → D} {M : List (κ × ν)} {k : κ}
theorem Oo{z:ν}(h:KJ ks ek)(hv: ∀v,(ev v).aF=true):XK.run G (.mget ks (ev z) false) [.list (ao (M.map (pM ek ev))),ek k]=some (ev (getM k z M)):=by
 show((ax (ao (M.map (pM ek ev)))).bind fun es=>(jv ks (ev z) false es (ek k)).bind fun d=>if d.aF then some d else none)=_;rw[aH,Oz];unfold jv;rw[if_pos ⟨h.ok k,by rw[h.eq];simp⟩,yw h];cases hi:ug k M with
 |some i=>
  obtain⟨p,hp1,hp2,_⟩:=qE (z:=z) (v:=z) hi;rw[hp2];simp[hp1,pM,hv]
 |none=>
  obtain⟨hp2,_⟩:=qD (z:=z) (v:=z) hi;rw[hp2];simp[hv]
theorem Ot{v:ν}(h:KJ ks ek)(hv: ∀v,(ev v).uL=true)(hl:M.length<65536):XK.run G (.mset ks) [.list (ao (M.map (pM ek ev))),ek k,ev v]=some (.list (ao ((iX k v M).map (pM ek ev)))):=by
 show((ax (ao (M.map (pM ek ev)))).bind fun es=>(jw ks es (ek k) (ev v)).map fun es=>D.list (ao es))=_;rw[aH,Oz];unfold jw;rw[if_pos ⟨hv v,h.ok k,by rw[h.eq];simp⟩,yw h];cases hi:ug k M with
 |some i=>
  obtain⟨p,hp1,_,hp3⟩:=qE (z:=v) (v:=v) hi;rw[hp3,List.map_set];simp[hp1,pM]
 |none=>
  obtain⟨_,hp3⟩:=qD (z:=v) (v:=v) hi;rw[hp3,List.map_append];simp only[Option.map_none,Oz];rw[if_pos (by simp[aC];omega)];rfl
end
instance:DecidableEq Ky:=fun a b=>if h:a.rd=b.rd∧a.tb=b.tb∧a.bd=b.bd then isTrue (by cases a;cases b;simp at h;simp[h])else isFalse (fun e=>h (by subst e;exact⟨rfl,rfl,rfl⟩))
theorem Li:KJ [99,3,3,3] (fun k:Ky=> .agg k.cells):=⟨fun _=>rfl,fun a b=>by
 show aa [3,3,3] a.cells b.cells=_;obtain⟨a1,a2,a3⟩:=a;obtain⟨b1,b2,b3⟩:=b
 simp[Ky.cells]⟩
end Ty
end
section
open Go.RowKit Go.Sort
namespace Ty
variable {H : FP}
section
variable {G : FP}
theorem RZ{a b:List En}(h:a.length+b.length<65536):XK.run G (.app 33) [.list (a.map En.cells), .list (b.map En.cells)]=some (.list ((a++b).map En.cells)):=by
 show(if aO 33 (b.map En.cells)=true∧(a.map En.cells).length+(b.map En.cells).length≤aC then some (D.list (a.map En.cells++b.map En.cells))else none)=_;rw[if_pos ⟨by unfold aO;rw[Tz];intro x hx;obtain⟨e,_,rfl⟩:=List.mem_map.1 hx;rfl,by rw[List.length_map,List.length_map];show _≤1048576;omega⟩,List.map_append]
theorem abF{b:List En}(h:b.length<65536):XK.run G (.app 33) [.list [], .list (b.map En.cells)]=some (.list (b.map En.cells)):=RZ (a:= []) (by simpa using h)
theorem T0:XK.run G (.lit 33 0 [] []) []=some (.list []):=rfl
end
end Ty
end
section
open Go.RowKit Go.Sort
namespace Ty
section
variable {κ : Type} [DecidableEq κ]
def cH(M:List (κ×Int))(l:List κ):List (κ×Int):=l.foldl (fun M k=>iX k (getM k 0 M+1) M) M
theorem kL{k:κ}: ∀(l:List κ) (M:List (κ×Int)),getM k 0 (cH M l)=getM k 0 M+((l.countP fun x=>decide (x=k):Nat):Int)
 | [],M=>by simp[cH]
 |a::r,M=>by
  show getM k 0 (cH (iX a (getM a 0 M+1) M) r)=_;rw[kL r,uc,List.countP_cons];by_cases h:a=k
  ·subst h;simp;omega
  ·have h': ¬k=a:=fun e=>h e.symm;simp[h,h']
theorem pB: ∀(l:List κ) (M:List (κ×Int)),(cH M l).length≤M.length+l.length
 | [],M=>by simp[cH]
 |a::r,M=>by
  show(cH (iX a (getM a 0 M+1) M) r).length≤_;have h1:=pB r (iX a (getM a 0 M+1) M);have h2:=vi a (getM a 0 M+1) M;simp only[List.length_cons];omega
theorem Gw{M:List (κ×Int)}{l:List κ}{i:Nat}{a:κ}(h:l[i]?=some a):cH M (l.take (i+1))=iX a (getM a 0 (cH M (l.take i))+1) (cH M (l.take i)):=by
 unfold cH;rw[List.take_add_one,h,List.foldl_append];rfl
theorem iM{k:κ}: ∀{l:List κ},l.Pairwise (· ≠ ·)→(l.countP fun x=>decide (x=k))=if k∈l then 1 else 0
 | [],_=>by simp
 |a::r,h=>by
  have h':=List.pairwise_cons.1 h;rw[List.countP_cons,iM h'.2];by_cases e:a=k
  ·subst e;rw[if_neg fun hm=>h'.1 a hm rfl];simp
  ·have e': ¬k=a:=fun q=>e q.symm;simp[e,e']
end
def sC(e:En):Ky:=⟨e.rd,e.tb,e.bd⟩
theorem Dg{a b:Ky}:a=b↔a.rd=b.rd∧a.tb=b.tb∧a.bd=b.bd:=by
 cases a;cases b;simp
theorem gE{a b:En}:sC a=sC b↔a.bP b=0:=by
 rw[jI,Dg];exact Iff.rfl
theorem Kw{x:Int}{i j:Nat}(hi:i<9999)(hj:j<9999)(h:IntKind.i64.wrap (IntKind.i64.wrap (x+i)+1)=IntKind.i64.wrap (IntKind.i64.wrap (x+j)+1)):i=j:=by
 simp only[IntKind.wrap,IntKind.bits,IntKind.signed,Bool.true_and]at h
 grind
theorem Br{b:Nat}{r:Rw}{k:Ky}(h:k∈nU b r):k.rd=r.rd∧k.tb=r.tb:=by
 unfold nU at h;split at h
 ·cases h
 ·obtain⟨i,_,rfl⟩:=List.mem_map.1 h;exact⟨rfl,rfl⟩
theorem Bq{b:Nat}(hb:b<9999): ∀{l:List Rw},hD l=true→(l.flatMap (nU b)).Pairwise (· ≠ ·)
 | [],_=>List.Pairwise.nil
 |r::t,h=>by
  unfold hD at h;rw[Az,Tz]at h;rw[List.flatMap_cons,List.pairwise_append];refine⟨?_,Bq hb h.2,fun x hx y hy e=> ?_⟩
  ·unfold nU;split
   ·exact List.Pairwise.nil
   ·rw[List.pairwise_map];refine List.pairwise_lt_range.imp_of_mem fun{i j} hi hj hij e=> ?_;have:=Kw (Nat.lt_trans (List.mem_range.1 hi) hb) (Nat.lt_trans (List.mem_range.1 hj) hb) (Dg.1 e).2.2;omega
  ·obtain⟨q,hq,hy⟩:=List.mem_flatMap.1 hy;have h1:=Br hx;have h2:=Br hy;have h3:=h.1 q hq;subst e;simp at h3;omega
theorem JY{s:Ss}(ha:hD s.rows=true){b:Nat}(hb:s.bs=b)(hb2:b<9999):s.cy.Pairwise (· ≠ ·):=by
 have h:s.keys.Pairwise (· ≠ ·):=by
  unfold Ss.keys;rw[hb];exact Bq hb2 ha
 exact((bW yN s.keys).pairwise_iff (fun e=>Ne.symm e)).2 h
theorem H0{ks:List Ky}{l:List It}: ∀e∈fE ks l,sC e∈ks:=fun e he=>by
 unfold fE at he;obtain⟨i,_,h⟩:=List.mem_filterMap.1 he;obtain⟨k,hk,rfl⟩:=Mz.1 h;exact Lz hk
def jf(c:List En)(k:Ky):Bool:=c.any fun e=>e.nv&&decide (sC e=k)
def eH(K:List Ky)(c:List En):List Ky:=K.filter fun k=> !jf c k
def l7(N:Nat)(c:List En):List Ky:=(cD N c).map fun p=>sC p.2
theorem mz{c:List En}{k:Ky}:jf c k=true↔ ∃e∈c,e.nv=true∧sC e=k:=by
 unfold jf;simp[List.any_eq_true]
section
variable {c : List En} {K : List Ky} {N : Nat}
theorem pE(hN: ∀e∈c,1≤e.bd∧e.bd≤N){k:Ky}:k∈l7 N c↔jf c k=true:=by
 rw[mz];unfold l7;constructor
 ·intro h;obtain⟨p,hp,rfl⟩:=List.mem_map.1 h;have:=My hp;exact⟨p.2,this.1,this.2.1,rfl⟩
 ·rintro⟨e,he,hv,rfl⟩;have hb:=hN e he;refine List.mem_map.2 ⟨((e.bd-1).toNat,e), ?_,rfl⟩;unfold cD;refine List.mem_flatMap.2 ⟨(e.bd-1).toNat,List.mem_range.2 (by omega),List.mem_map.2 ⟨e,List.mem_filter.2 ⟨List.mem_filter.2 ⟨he, ?_⟩,hv⟩,rfl⟩⟩;unfold jZ;simp only[decide_eq_true_eq];omega
theorem Fc(hc:c.Pairwise fun a b=>a.bP b<0):(l7 N c).Pairwise (· ≠ ·):=by
 unfold l7 cD;rw[List.map_flatMap,List.pairwise_flatMap];refine⟨fun i _=> ?_,List.pairwise_lt_range.imp fun{i j} hij x hx y hy e=> ?_⟩
 ·rw[List.map_map,List.pairwise_map];refine((hc.filter _).filter _).imp fun{a b} h e=> ?_;have h2:a.bP b=0:=gE.1 e;omega
 ·obtain⟨p,hp,rfl⟩:=List.mem_map.1 hx;obtain⟨q,hq,rfl⟩:=List.mem_map.1 hy;obtain⟨a,ha,rfl⟩:=List.mem_map.1 hp;obtain⟨b,hb,rfl⟩:=List.mem_map.1 hq;have h1:a.bd=(i:Int)+1:=by simpa[jZ]using(List.mem_filter.1 (List.mem_filter.1 ha).1).2
  have h2:b.bd=(j:Int)+1:=by simpa[jZ]using(List.mem_filter.1 (List.mem_filter.1 hb).1).2
  have h3:a.bd=b.bd:=(Dg.1 e).2.2;omega
theorem yU(hK:K.Pairwise (· ≠ ·)):(eH K c).Pairwise (· ≠ ·):=hK.filter _
theorem BG(hK:K.Pairwise (· ≠ ·))(hc:c.Pairwise fun a b=>a.bP b<0)(hm: ∀e∈c,sC e∈K)(hN: ∀e∈c,1≤e.bd∧e.bd≤N):(eH K c).length+(cD N c).length=K.length:=by
 have hl:(l7 N c).length=(cD N c).length:=by unfold l7;rw[List.length_map]
 have hnd:(eH K c++l7 N c).Pairwise (· ≠ ·):=List.pairwise_append.2 ⟨yU hK,Fc hc,fun x hx y hy e=>by
  subst e;have h1:=(List.mem_filter.1 hx).2;rw[(pE hN).1 hy]at h1
  cases h1⟩
 have h1:=yM _ K hnd fun x hx=>by
  rcases List.mem_append.1 hx with h|h
  ·exact(List.mem_filter.1 h).1
  ·obtain⟨e,he,_,rfl⟩:=mz.1 ((pE hN).1 h);exact hm e he
 have h2:=yM K (eH K c++l7 N c) hK fun x hx=>by
  rw[List.mem_append];cases h:jf c x with
  |true=>exact .inr ((pE hN).2 h)
  |false=>exact .inl (List.mem_filter.2 ⟨hx,by rw[h];rfl⟩)
 rw[List.length_append,hl]at h1 h2;omega
theorem Md(hK:K.Pairwise (· ≠ ·))(hc:c.Pairwise fun a b=>a.bP b<0)(hN: ∀e∈c,1≤e.bd∧e.bd≤N){k:Ky}(hk:k∈K):getM k 0 (cH (cH (cH [] K) (eH K c)) (l7 N c))=2:=by
 rw[kL,kL,kL,iM hK,iM (yU hK),iM (Fc hc),if_pos hk];have h2:=pE hN (k:=k);cases h:jf c k with
 |true=>
  rw[if_pos (h2.2 h),if_neg fun hm=>by have:=(List.mem_filter.1 hm).2;rw[h]at this;cases this];rfl
 |false=>
  rw[if_pos (show k∈eH K c from List.mem_filter.2 ⟨hk,by rw[h];rfl⟩),if_neg fun hm=>by rw[h2.1 hm]at h;cases h];rfl
end
theorem AA{l:List En}{y:En}(hok: ∀e∈l,e.okB=true)(hy:y.okB=true)(hv: ∀e∈l,e.vs<y.vs)(e:En):e∈bx (setOf (l++ [y]))↔e=y∨(e∈bx (setOf l)∧sC e≠sC y):=by
 have IH: ∀e∈l++ [y],e.okB=true:=fun e he=>by
  rcases List.mem_append.1 he with h|h
  ·exact hok e h
  ·rw[List.mem_singleton.1 h];exact hy
 have hA:=oY (pN hok);have hB:=oY (pN IH)
 have mB: ∀e∈bx (setOf (l++ [y])),e∈l∨e=y:=fun e he=>by
  have:=(kQ _ e).1 (hB.sub e he)
  rwa[List.mem_append,List.mem_singleton]at this
 have mA: ∀e∈bx (setOf l),e∈l:=fun e he=>(kQ _ e).1 (hA.sub e he);have lB: ∀e,(e∈l∨e=y)→ ∃m∈bx (setOf (l++ [y])),e.bP m=0∧ ¬m.cmp e<0:=fun e he=>hB.last e ((kQ _ e).2 (by rwa[List.mem_append,List.mem_singleton]));have lA: ∀e∈l,∃m∈bx (setOf l),e.bP m=0∧ ¬m.cmp e<0:=fun e he=>hA.last e ((kQ _ e).2 he);constructor
 ·intro he;rcases mB e he with hl|h
  ·refine .inr ?_
   have hne:sC e≠sC y:=fun h0=>by
    obtain⟨m,hm,h1,h2⟩:=lB y (.inr rfl);have e1:e=m:=yJ hB.pw he hm (gE.1 (h0.trans (gE.2 h1)));subst e1;exact h2 (Kl (gE.1 h0) (hv e hl))
   refine⟨?_,hne⟩;obtain⟨m,hm,h1,h2⟩:=lA e hl;obtain⟨n,hn,h3,h4⟩:=lB m (.inl (mA m hm));have e1:e=n:=yJ hB.pw he hn (gE.1 ((gE.2 h1).trans (gE.2 h3)));subst e1;have:=HI (hok e hl) (hok m (mA m hm)) h4 h2;subst this;exact hm
  ·exact .inl h
 ·rintro(rfl|⟨he,hne⟩)
  ·obtain⟨m,hm,h1,h2⟩:=lB e (.inr rfl);rcases mB m hm with h|h
   ·exact absurd (Kl (gE.1 (gE.2 h1).symm) (hv m h)) h2
   ·subst h;exact hm
  ·obtain⟨m,hm,h1,h2⟩:=lB e (.inl (mA e he));rcases mB m hm with h|h
   ·obtain⟨n,hn,h3,h4⟩:=lA m h;have e1:e=n:=yJ hA.pw he hn (gE.1 ((gE.2 h1).trans (gE.2 h3)));subst e1;have:=HI (hok e (mA e he)) (hok m h) h4 h2;rw[this];exact hm
   ·subst h;exact absurd (gE.2 h1) hne
theorem tL{l m:List En}(hl: ∀e∈l,e.okB=true)(hm: ∀e∈m,e.okB=true){p:En→Bool}(h: ∀e,p e=true→(e∈bx (setOf l)↔e∈bx (setOf m))):(bx (setOf l)).filter p=(bx (setOf m)).filter p:=by
 refine FA (((oY (pN hl)).pw.imp rp).filter _) (((oY (pN hm)).pw.imp rp).filter _) fun x=> ?_;rw[List.mem_filter,List.mem_filter];exact⟨fun h1=>⟨(h x h1.2).1 h1.1,h1.2⟩,fun h1=>⟨(h x h1.2).2 h1.1,h1.2⟩⟩
section
variable {H : FP} {s : Ss} {n v : Int} {q : List En} {e : En} {N : Nat}
theorem To{f:Int}{e:En}(h:En.ft f e=true):e.nv=true:=by
 unfold En.ft En.gP at h;unfold En.nv
 grind
theorem H9{f:Int}:(q.filter En.nv).filter (En.ft f)=q.filter (En.ft f):=by
 rw[List.filter_filter];refine List.filter_congr fun e _=> ?_;cases h:En.ft f e with
 |true=>rw[To h];rfl
 |false=>rfl
theorem JT:gH H s v (q.filter En.nv) e=gH H s v q e:=by
 have c1:(q.filter En.nv).countP En.nv=q.countP En.nv:=by rw[List.countP_filter];simp
 have f1: ∀f,nG H v (q.filter En.nv) f=nG H v q f:=fun f=>by unfold nG;rw[H9]
 have f2: ∀f,nF H v (q.filter En.nv) f=nF H v q f:=fun f=>by unfold nF;rw[H9]
 have hr:fB H v (q.filter En.nv) e=fB H v q e:=by
  unfold fB Rk A7 CV;simp only[c1,f1,f2]
 unfold gH;rw[hr,c1]
theorem vf:du H s n (q.filter En.nv)=du H s n q:=by
 unfold du;rw[List.filter_filter];simp only[Bool.and_self];exact List.map_congr_left fun e _=>JT
theorem KU{c d:List En}(h: ∀n,(c.filter (jZ n)).filter En.nv=(d.filter (jZ n)).filter En.nv):jb H s N c=jb H s N d:=by
 unfold jb;congr 1;funext i;rw[←vf,h,vf]
theorem FQ{c d:List En}{b:Int}(h: ∀n,n≠b→c.filter (jZ n)=d.filter (jZ n)):((cD N c).filter fun p=>decide (p.2.bd≠b)).map (cm H s c)=((cD N d).filter fun p=>decide (p.2.bd≠b)).map (cm H s d):=by
 unfold cD;rw[List.filter_flatMap,List.filter_flatMap,List.map_flatMap,List.map_flatMap];congr 1;funext i;by_cases hb:(i:Int)+1=b
 ·have key: ∀c:List En,(((c.filter (jZ ((i:Int)+1))).filter En.nv).map fun e=>(i,e)).filter (fun p=>decide (p.2.bd≠b))= []:=fun c=>by
   rw[List.filter_eq_nil_iff];intro p hp;obtain⟨e,he,rfl⟩:=List.mem_map.1 hp;have:e.bd=(i:Int)+1:=by simpa[jZ]using(List.mem_filter.1 (List.mem_filter.1 he).1).2
   simp[this,hb]
  rw[key,key];rfl
 ·rw[h _ hb];refine List.map_congr_left fun p hp=> ?_;have hp:=List.mem_map.1 (List.mem_filter.1 hp).1;obtain⟨e,_,rfl⟩:=hp;unfold cm;simp only;rw[h _ hb]
end
end Ty
end
section
open Go.RowKit Go.Sort
namespace Ty
variable {H : FP}
theorem SK{β α:Type}{p:β→Bool}{l:List β}{i:Nat}{e:β}(h:l[i]?=some e)(f:β→α):((l.take (i+1)).filter p).map f=((l.take i).filter p).map f++(if p e=true then [f e]else []):=by
 rw[List.take_add_one,h,List.filter_append,List.map_append];cases hp:p e<;>simp[hp]
def wi(M:List (Ky×Bool))(e:En):List (Ky×Bool):=if e.nv=true then iX (sC e) true M else M
def pI(M:List (Ky×Bool))(l:List En):List (Ky×Bool):=l.foldl wi M
theorem A6{k:Ky}: ∀(l:List En) (M:List (Ky×Bool)),getM k false (pI M l)=(getM k false M||jf l k)
 | [],M=>by simp[pI,jf]
 |e::r,M=>by
  show getM k false (pI (wi M e) r)=_;rw[A6 r,show jf (e::r) k=((e.nv&&decide (sC e=k))||jf r k)from rfl];unfold wi;by_cases h:e.nv=true
  ·rw[if_pos h,uc,h];by_cases hk:k=sC e
   ·rw[if_pos hk];simp[hk.symm]
   ·have hk': ¬sC e=k:=fun q=>hk q.symm;rw[if_neg hk];simp[hk']
  ·rw[if_neg h];simp[h]
theorem uY: ∀(l:List En) (M:List (Ky×Bool)),(pI M l).length≤M.length+l.length
 | [],M=>by simp[pI]
 |e::r,M=>by
  show(pI (wi M e) r).length≤_;have h1:=uY r (wi M e)
  have h2:(wi M e).length≤M.length+1:=by
   unfold wi;have:=vi (sC e) true M;split<;>omega
  simp only[List.length_cons];omega
theorem GN{M:List (Ky×Bool)}{l:List En}{i:Nat}{e:En}(h:l[i]?=some e):pI M (l.take (i+1))=wi (pI M (l.take i)) e:=by
 unfold pI;rw[List.take_add_one,h,List.foldl_append];rfl
abbrev kD:Ky→D:=fun k=> .agg k.cells
abbrev bD:Bool→D:=fun b=>bv b
theorem l22(hF:Fr H)(s:Ss)(l c:List En){K:List Ky}(h21:XK.run (GK H) (.call false 21) [.agg s.cells]=some (.tup [.list (K.map Ky.cells),iv 0]))(h47:XK.run (GK H) (.call false 47) [.agg s.cells, .list (l.map En.cells)]=some (.tup [.list (c.map En.cells),iv 0]))(hK:K.length<9999)(hc:c.length<9999){fl:Bool}:
  XK.run (GK H) (.call fl 22) [.agg s.cells, .list (l.map En.cells)]=some (.tup [.list ((eH K c).map Ky.cells),iv 0]):=by
 refine eI (af hF Zb ?_) rfl;unfold UQ;generalize hz0:Eg=z0
 conv=>enter [1,3];cbv
 subst hz0;generalize hz1:Eh=z1
 conv in Eg=>unfold Eg;rw[hz1];cbv
 subst hz1
 conv in Eh=>unfold Eh;cbv
 have x0: ∀a:List (List D),XK.run (GK H) (.pk (.ext 0)) [.tup [.list a,iv 0]]=some (.list a):=fun a=>rfl;have x1: ∀a:List (List D),XK.run (GK H) (.pk (.ext 1)) [.tup [.list a,iv 0]]=some (iv 0):=fun a=>rfl;have k59:=fun e=>l59 hF (H:=H) e;simp[-bN,h21,h47,x0,x1];have hz: [D.v (.int .i64 0),D.list []]= [iv ((0:Nat):Int), .list (ao ((pI [] (c.take 0)).map (pM kD bD)))]:=rfl;rw[hz];clear hz;refine aI (n:=c.length) (fun i=> [iv (i:Int), .list (ao ((pI [] (c.take i)).map (pM kD bD)))]) (D.own (.tup [.list ((eH K c).map Ky.cells),iv 0])) (by omega) ?_;intro rec i hi ih;cases h3:c[i]? with
 |some e=>
  have l3:=(Gz.1 h3).1;have e3:c[i]=e:=(Gz.1 h3).2;have ih:=ih (by omega);rw[GN h3]at ih;have hlen:=uY (c.take i) [];rw[List.length_take]at hlen;generalize pI [] (c.take i)=M at*;have w:=wr (z:=(i:Int)+1) (by omega) (by omega);have k59:=k59 e;by_cases hk:e.kd=0
  ·have hv:e.nv=false:=by simp[En.nv,hk]
   unfold wi at ih;rw[hv]at ih;simp only[Bool.false_eq_true,if_false]at ih;generalize ao (M.map (pM kD bD))=mm at*;simp[l3,e3,hk,w];exact ih
  ·have hv:e.nv=true:=by simp[En.nv,hk]
   unfold wi at ih;rw[hv]at ih;simp only[if_true]at ih;have ks:=Ot (G:=GK H) (ks:= [99,3,3,3]) (ek:=kD) (ev:=bD) (M:=M) (k:=sC e) (v:=true) Li (fun _=>rfl) (by simp at hlen;omega);rw[show kD (sC e)= .agg [iv e.rd,iv e.tb,iv e.bd]from rfl]at ks;generalize ao (M.map (pM kD bD))=mm at*;generalize ao ((iX (sC e) true M).map (pM kD bD))=mm2 at*;simp[l3,e3,hk,w,k59,ks];exact ih
 |none=>
  have l3:=List.getElem?_eq_none_iff.1 h3;have l3': ¬(i:Int)<c.length:=by omega
  have et:c.take i=c:=List.take_of_length_le (by omega);rw[et];clear ih;have hlen:=uY c [];have gC: ∀k,getM k false (pI [] c)=jf c k:=fun k=>by rw[A6];rfl
  generalize pI [] c=M at*;have kg:=fun k:Ky=>Oo (G:=GK H) (ks:= [99,3,3,3]) (ek:=kD) (ev:=bD) (M:=M) (k:=k) (z:=false) Li fun _=>rfl;simp only[gC]at kg;generalize ao (M.map (pM kD bD))=mm at*;simp[l3'];have hz: [D.v (.int .i64 0),D.list []]= [iv ((0:Nat):Int), .list (((K.take 0).filter fun k=> !jf c k).map Ky.cells)]:=rfl;rw[hz];clear hz;refine aI (n:=K.length) (fun j=> [iv (j:Int), .list (((K.take j).filter fun k=> !jf c k).map Ky.cells)]) (D.own (.tup [.list ((eH K c).map Ky.cells),iv 0])) (by omega) ?_;intro Dx j hj ih;cases h5:K[j]? with
  |some k=>
   have l5:=(Gz.1 h5).1;have e5:K[j]=k:=(Gz.1 h5).2;have ih:=ih (by omega);rw[SK h5]at ih;have w:=wr (z:=(j:Int)+1) (by omega) (by omega)
   have hln:((K.take j).filter fun k=> !jf c k).length<65536:=by
    have:=List.length_filter_le (fun k=> !jf c k) (K.take j);rw[List.length_take]at this;omega
   have ka:=VZ (G:=GK H) (k:=k) hln;have kg:=kg k;generalize((K.take j).filter fun k=> !jf c k).map Ky.cells=acc at*;cases hh:jf c k with
   |true=>
    rw[hh]at ih kg;simp only[Bool.not_true,Bool.false_eq_true,if_false,List.append_nil]at ih;simp[l5,e5,kg,w];exact ih
   |false=>
    rw[hh]at ih kg;simp only[Bool.not_false,if_true]at ih;simp[l5,e5,kg,w,ka];exact ih
  |none=>
   have l5:=List.getElem?_eq_none_iff.1 h5;have l5': ¬(j:Int)<K.length:=by omega
   have et:K.take j=K:=List.take_of_length_le (by omega);rw[et];simp[l5'];rfl
end Ty
end
section
namespace Ty
end Ty
end
section
open Go.RowKit Go.Sort
namespace Ty
variable {H : FP}
section
variable {G : FP} {f g : Nat → Int} {b : Bool}
theorem scO{H:FP}{s:Ss}{c:List En}{p:Nat×En}: ∃f b,cm H s c p=qb f b∧f 0=p.2.rd∧f 1=p.2.tb∧f 2=p.2.bd:=
 ⟨fun
  |0=>p.2.rd|1=>p.2.tb|2=>p.2.bd
  |3=>if p.2.tu then(rowAt s p.2).ew else(rowAt s p.2).ns
  |4=>if p.2.tu then(rowAt s p.2).ns else(rowAt s p.2).ew
  |5=>(fB H (eC ((p.1:Int)+1)) (c.filter (jZ ((p.1:Int)+1))) p.2).1.n
  |6=>(fB H (eC ((p.1:Int)+1)) (c.filter (jZ ((p.1:Int)+1))) p.2).1.d
  |7=>(fB H (eC ((p.1:Int)+1)) (c.filter (jZ ((p.1:Int)+1))) p.2).2.n
  |8=>(fB H (eC ((p.1:Int)+1)) (c.filter (jZ ((p.1:Int)+1))) p.2).2.d
  |_=>2*(((c.filter (jZ ((p.1:Int)+1))).countP En.nv:Int)-1),_,rfl,rfl,rfl,rfl⟩
theorem Wo:XK.run G (.cell 0 11) [.agg (qb f b)]=some (iv (f 0)):=rfl
theorem Wp:XK.run G (.cell 1 11) [.agg (qb f b)]=some (iv (f 1)):=rfl
theorem Wq:XK.run G (.cell 2 11) [.agg (qb f b)]=some (iv (f 2)):=rfl
theorem fk3:XK.run G (.cell 3 11) [.agg (qb f b)]=some (iv (f 3)):=rfl
theorem fk5:XK.run G (.cell 5 11) [.agg (qb f b)]=some (iv (f 5)):=rfl
theorem fk6:XK.run G (.cell 6 11) [.agg (qb f b)]=some (iv (f 6)):=rfl
theorem fk7:XK.run G (.cell 7 11) [.agg (qb f b)]=some (iv (f 7)):=rfl
theorem fk8:XK.run G (.cell 8 11) [.agg (qb f b)]=some (iv (f 8)):=rfl
theorem fk9:XK.run G (.cell 9 11) [.agg (qb f b)]=some (iv (f 9)):=rfl
theorem fkA:XK.run G (.cell 10 11) [.agg (qb f b)]=some (bv b):=rfl
theorem fk4:XK.run G (.cell 4 11) [.agg (qb f b)]=some (iv (f 4)):=rfl
end
section
variable {G : FP} {E : List D}
end
end Ty
end
section
open Go.RowKit Go.Sort
namespace Ty
variable {H : FP}
def cX(k:Ky):En:=⟨k.rd,k.tb,k.bd,20,1,0,false,zO,zO,zO,zO,0,0⟩
def jG(k:Ky):En:=⟨k.rd,k.tb,k.bd,21,0,0,false,zO,zO,zO,zO,0,0⟩
structure Fit(s:Ss)(e:En):Prop where
 b:e.okB=true
 r:e.right=true
 v:1≤e.vs∧e.vs≤99
 k:sC e∈s.cy
theorem Ja{s:Ss}{e:En}(hk:IV s ⟨e.rd,e.tb,e.bd⟩=true)(hv:1≤e.vs∧e.vs≤99)(hr:e.right=true):s.proper e=true:=by
 unfold IV at hk;unfold Ss.proper;simp only[decide_eq_true_eq];unfold Ss.fM;split at hk
 ·cases hk
 ·rename_i j hj;split at hk
  ·cases hk
  ·rename_i r hr';simp only[Az,decide_eq_true_eq]at hk;obtain⟨h1,h2,h3,h4,h5,h6⟩:=hk;simp only at hj;simp only[hj,hr']
   rw[if_neg (by omega),if_neg (fun h=>by
    rcases h with h|h|h|h
    ·omega
    ·omega
    ·omega
    ·exact h h6),if_neg (by omega),hr]
   rfl
theorem JX{s:Ss}{k:Ky}(h:k∈s.cy):k∈s.keys:=(bW yN s.keys).mem_iff.1 h
theorem DH{s:Ss}:s.cy.length=s.keys.length:=(bW yN s.keys).length_eq
section
variable {s : Ss}
theorem ϐ(hs:jj H s){k:Ky}(h:k∈s.cy):IV s k=true∧1≤k.bd∧k.bd≤s.ss*s.bs:=by
 have ho:=hs.od;unfold rJ at ho;rw[Az]at ho;have hk:=Tz.1 ho.1 _ (JX h);refine⟨hk, ?_,hs.kb.2 _ (JX h)⟩;unfold IV at hk;split at hk
 ·cases hk
 ·split at hk
  ·cases hk
  ·simp only[Az,decide_eq_true_eq]at hk;exact hk.2.2.2.1
theorem CT(hs:jj H s){e:En}(h:Fit s e):IV s ⟨e.rd,e.tb,e.bd⟩=true∧s.proper e=true∧1≤e.bd∧e.bd≤s.ss*s.bs:=by
 obtain⟨h1,h2⟩:=ϐ hs h.k;exact⟨h1,Ja h1 h.v h.r,h2⟩
theorem Ia(hs:jj H s){l:List It}(hl: ∀i∈l,i.ok=true): ∀e∈fE s.cy l,Fit s e∧e.vs<20:=fun e he=>by
 have h:=AS hs.od hl e he
 have hv:1≤e.vs∧e.vs<20:=by
  unfold fE at he;obtain⟨i,hi,h⟩:=List.mem_filterMap.1 he;obtain⟨k,hk,rfl⟩:=Mz.1 h;show 1≤1+i.vs%9∧1+i.vs%9<20;omega
 exact⟨⟨h.2.2.b,h.2.2.r,⟨hv.1,by omega⟩,H0 e he⟩,hv.2⟩
theorem AX(hs:jj H s){k:Ky}(h:k∈s.cy):Fit s (cX k):=⟨rfl,rfl,(by omega:(1:Int)≤20∧(20:Int)≤99),h⟩
theorem Ib(hs:jj H s){k:Ky}(h:k∈s.cy):Fit s (jG k):=⟨rfl,rfl,(by omega:(1:Int)≤21∧(21:Int)≤99),h⟩
theorem qV(hs:jj H s)(hH:Hd H)(hB:Fb H){l:List En}(hl: ∀e∈l,Fit s e)(hn:l.length≤60){N:Nat}(hN:s.ss*s.bs=N)(hN2:N≤128):
  (∀fl,XK.run (GK H) (.call fl 15) [.list (l.map En.cells)]=some (.list ((setOf l).map En.cells)))∧
  XK.run (GK H) (.call false 22) [.agg s.cells, .list ((setOf l).map En.cells)]=some (.tup [.list ((eH s.cy (bx (setOf l))).map Ky.cells),iv 0])∧
  XK.run (GK H) (.call false 16) [.agg s.cells, .list ((setOf l).map En.cells)]=some (.tup [.list (jb H s N (bx (setOf l))),iv 0])∧
  ((bx (setOf l)).Pairwise fun a b=>a.bP b<0)∧(∀e∈bx (setOf l),sC e∈s.cy∧1≤e.bd∧e.bd≤N)∧(cD N (bx (setOf l))).length≤N*24:=by
 have heo: ∀e∈l,e.okB=true:=fun e he=>(hl e he).b;have jN:=vh l heo;have afv:=GW l;have hm:=kQ l;have hpA:(setOf l).filter s.proper=setOf l:=filter_all fun e he=>(CT hs (hl e ((hm e).1 he))).2.1;have h47:=l47 hH.fr s (setOf l) (by omega) hs.len hs.ap hs.ok jN;rw[hpA]at h47;have vZ: ∀e∈bx (setOf l),e∈l:=fun e he=>(hm e).1 ((mZ _).subset he);have hck:=tM (setOf l) (((kW _).1 jN).imp NH);have hcl:=(mZ (setOf l)).length_le;have Xn:=few hs.od (c:=bx (setOf l)) (fun e he=>(CT hs (hl e (vZ e he))).1) hck;obtain⟨b,hb1,hb2⟩:=hs.nat;have h21:XK.run (GK H) (.call false 21) [.agg s.cells]=some (.tup [.list (s.cy.map Ky.cells),iv 0]):=eI (l21 hH s hb1 hb2 hs.len hs.ne hs.ln hs.ok) rfl;refine⟨fun fl=>i15 hH l heo (by omega),l22 hH.fr s (setOf l) (bx (setOf l)) h21 h47 (by rw[DH];exact hs.kb.1) (by omega),l16 hB s (setOf l) (bx (setOf l)) h47 hs.len hs.ap (fun e he=>⟨(hl e (vZ e he)).b,(hl e (vZ e he)).r⟩) (by omega) Xn hN hN2,hck,fun e he=>⟨(hl e (vZ e he)).k, ?_⟩, ?_⟩
 ·have:=(CT hs (hl e (vZ e he))).2.2;omega
 ·have:=tw (H:=H) (s:=s) Xn N;rw[oV,List.length_map]at this;exact this
end
theorem Dn{l:List En}{K:List Ky}{k:Ky}(hok: ∀e∈l,e.okB=true)(hv: ∀e∈l,e.vs<20)(hK:K.Pairwise (· ≠ ·))(hk:k∈eH K (bx (setOf l))):
  (eH K (bx (setOf (l++ [cX k])))).length+1=(eH K (bx (setOf l))).length∧
  (∀n,n≠k.bd→(bx (setOf l)).filter (jZ n)=(bx (setOf (l++ [cX k]))).filter (jZ n))∧
  (∀n,((bx (setOf (l++ [cX k,jG k]))).filter (jZ n)).filter En.nv=((bx (setOf l)).filter (jZ n)).filter En.nv):=by
 have m1:=AA (y:=cX k) hok rfl hv
 have ok1: ∀e∈l++ [cX k],e.okB=true:=fun e he=>by
  rcases List.mem_append.1 he with h|h
  ·exact hok e h
  ·rw[List.mem_singleton.1 h];rfl
 have m2:=AA (l:=l++ [cX k]) (y:=jG k) ok1 rfl fun e he=>by
  rcases List.mem_append.1 he with h|h
  ·have:=hv e h;show e.vs<21;omega
  ·rw[List.mem_singleton.1 h];show(20:Int)<21;omega
 have hk2:=(List.mem_filter.1 hk).2
 have hkr: ∀e∈bx (setOf l),e.nv=true→sC e≠k:=fun e he hn h=>by
  rw[mz.2 ⟨e,he,hn,h⟩]at hk2;cases hk2
 refine⟨?_,fun n hn=> ?_,fun n=> ?_⟩
 ·have e1:eH K (bx (setOf (l++ [cX k])))=(eH K (bx (setOf l))).filter fun x=> !decide (x=k):=by
   unfold eH;rw[List.filter_filter];refine List.filter_congr fun x _=> ?_
   have h1:jf (bx (setOf (l++ [cX k]))) x=true↔(x=k∨jf (bx (setOf l)) x=true):=by
    rw[mz,mz];constructor
    ·rintro⟨e,he,hn,rfl⟩;rcases(m1 e).1 he with rfl|⟨h,_⟩
     ·exact .inl rfl
     ·exact .inr ⟨e,h,hn,rfl⟩
    ·rintro(rfl|⟨e,he,hn,rfl⟩)
     ·exact⟨cX x,(m1 _).2 (.inl rfl),rfl,rfl⟩
     ·exact⟨e,(m1 _).2 (.inr ⟨he,hkr e he hn⟩),hn,rfl⟩
   by_cases hx:x=k
   ·rw[h1.2 (.inl hx)];simp[hx]
   ·cases h2:jf (bx (setOf l)) x with
    |true=>rw[h1.2 (.inr h2)];simp
    |false=>
     have h3:jf (bx (setOf (l++ [cX k]))) x=false:=by
      cases h4:jf (bx (setOf (l++ [cX k]))) x with
      |false=>rfl
      |true=>
       rcases h1.1 h4 with h|h
       ·exact absurd h hx
       ·rw[h2]at h;cases h
     rw[h3];simp[hx]
  rw[e1]
  have h2: ∀{L:List Ky},L.Pairwise (· ≠ ·)→k∈L→(L.filter fun x=> !decide (x=k)).length+1=L.length:=fun{L} hL hm=>by
   have h3:=List.length_eq_countP_add_countP (p:=fun x:Ky=>decide (x=k)) (l:=L);rw[iM hL,if_pos hm]at h3;rw[←List.countP_eq_length_filter];have h4:L.countP (fun x=>decide ¬(decide (x=k))=true)=L.countP fun x=> !decide (x=k):=List.countP_congr fun x _=>by simp
   omega
  exact h2 (yU hK) hk
 ·refine tL hok ok1 fun e he=> ?_;have hb:e.bd=n:=by simpa[jZ]using he
  rw[m1];constructor
  ·intro h;exact .inr ⟨h,fun h2=>hn (by rw[←hb,show e.bd=(sC e).bd from rfl,h2];rfl)⟩
  ·rintro(rfl|h)
   ·exact absurd hb.symm hn
   ·exact h.1
 ·rw[List.filter_filter,List.filter_filter];refine tL (fun e he=> ?_) hok fun e he=> ?_
  ·rcases List.mem_append.1 he with h|h
   ·exact hok e h
   ·rcases List.mem_cons.1 h with rfl|h
    ·rfl
    ·rw[List.mem_singleton.1 h];rfl
  ·rw[Az]at he;rw[show l++ [cX k,jG k]=(l++ [cX k])++ [jG k] by simp,m2,m1];constructor
   ·rintro(rfl|⟨rfl|h,h2⟩)
    ·cases he.1
    ·exact absurd rfl h2
    ·exact h.1
   ·intro h;have:=hkr e h he.1;exact .inr ⟨.inr ⟨h,this⟩,this⟩
end Ty
end
section
open Go.RowKit Go.Sort
namespace Ty
variable {H : FP}
def MM(M:List (Ky×Int)):D:= .list (ao (M.map (pM kD fun z:Int=>iv z)))
section
variable {G : FP} {M : List (Ky × Int)} {k : Ky}
theorem Jk:XK.run G (.mget [99,3,3,3] (iv 0) false) [MM M, .agg k.cells]=some (iv (getM k 0 M)):=Oo (ev:=fun z:Int=>iv z) Li fun _=>rfl
theorem Jl{z:Int}(hl:M.length<65536):XK.run G (.mset [99,3,3,3]) [MM M, .agg k.cells,iv z]=some (MM (iX k z M)):=Ot (ev:=fun z:Int=>iv z) Li (fun _=>rfl) hl
theorem Oj{f:Nat→Int}{b:Bool}:XK.run G (.lit 11 1 [iv 0,iv 0,iv 0,iv 0,iv 0,iv 0,iv 0,iv 0,iv 0,iv 0,bv false] [(0,11)]) [.agg (qb f b)]=some (.list [qb f b]):=rfl
theorem abD:XK.run G .agg [iv k.rd,iv k.tb,iv k.bd,iv 20,uv 1,uv 0,bv false,uv 0,uv 0,uv 0,uv 0,iv 0,iv 0,uv 0,uv 0,uv 0,uv 0,iv 0,iv 0,uv 0,uv 0,uv 0,uv 0,iv 0,iv 0,uv 0,uv 0,uv 0,uv 0,iv 0,iv 0,iv 0,iv 0]=some (.agg (cX k).cells):=rfl
theorem abE:XK.run G .agg [iv k.rd,iv k.tb,iv k.bd,iv 21,uv 0,uv 0,bv false,uv 0,uv 0,uv 0,uv 0,iv 0,iv 0,uv 0,uv 0,uv 0,uv 0,iv 0,iv 0,uv 0,uv 0,uv 0,uv 0,iv 0,iv 0,uv 0,uv 0,uv 0,uv 0,iv 0,iv 0,iv 0,iv 0]=some (.agg (jG k).cells):=rfl
theorem Ye{e f:En}:XK.run G (.lit 33 2 [iv 0,iv 0,iv 0,iv 0,uv 0,uv 0,bv false,uv 0,uv 0,uv 0,uv 0,iv 0,iv 0,uv 0,uv 0,uv 0,uv 0,iv 0,iv 0,uv 0,uv 0,uv 0,uv 0,iv 0,iv 0,uv 0,uv 0,uv 0,uv 0,iv 0,iv 0,iv 0,iv 0,iv 0,iv 0,iv 0,iv 0,uv 0,uv 0,bv false,uv 0,uv 0,uv 0,uv 0,iv 0,iv 0,uv 0,uv 0,uv 0,uv 0,iv 0,iv 0,uv 0,uv 0,uv 0,uv 0,iv 0,iv 0,uv 0,uv 0,uv 0,uv 0,iv 0,iv 0,iv 0,iv 0] [(0,33),(33,33)]) [.agg e.cells, .agg f.cells]=some (.list [e.cells,f.cells]):=rfl
theorem Yc{e:En}:XK.run G (.lit 33 1 [iv 0,iv 0,iv 0,iv 0,uv 0,uv 0,bv false,uv 0,uv 0,uv 0,uv 0,iv 0,iv 0,uv 0,uv 0,uv 0,uv 0,iv 0,iv 0,uv 0,uv 0,uv 0,uv 0,iv 0,iv 0,uv 0,uv 0,uv 0,uv 0,iv 0,iv 0,iv 0,iv 0] [(0,33)]) [.agg e.cells]=some (.list [e.cells]):=rfl
theorem K0{f:Nat}{ds:List D}{b:Bool}(h:XK.run G (.call false f) ds=some (bv b)):XK.run G (.call true f) ds=some (bv b):=by
 change (G f ds).bind _=_ at h;obtain⟨d,hg,h⟩:=Bz.1 h;change (if d.bare.aF=true then some d.bare else none)=_ at h;split at h
 ·injection h with h
  show(G f ds).bind _=_;rw[hg,Oz];show(if(d.bare.flat||d.eD&&d.bare.aF)=true then some d.bare else none)=_;rw[h];rfl
 ·cases h
theorem yS{l:List Ky}{M0:List (Ky×Int)}{i:Nat}(h:l[i]?=some k){n m:Nat}(h0: ∀x,0≤getM x 0 M0∧getM x 0 M0≤n)(hn:n<20000)(hm:l.length<10000)(hl:M0.length≤m)(hm2:m<20000):
  XK.run G (.mget [99,3,3,3] (iv 0) false) [MM (cH M0 (l.take i)), .agg k.cells]=some (iv (getM k 0 (cH M0 (l.take i))))∧
  XK.run G (.mset [99,3,3,3]) [MM (cH M0 (l.take i)), .agg k.cells,iv (getM k 0 (cH M0 (l.take i)))]=some (MM (iX k (getM k 0 (cH M0 (l.take i))) (cH M0 (l.take i))))∧
  XK.run G (.mset [99,3,3,3]) [MM (cH M0 (l.take i)), .agg k.cells,iv (getM k 0 (cH M0 (l.take i))+1)]=some (MM (cH M0 (l.take (i+1))))∧
  IntKind.i64.wrap (getM k 0 (cH M0 (l.take i))+1)=getM k 0 (cH M0 (l.take i))+1:=by
 have h1:=pB (l.take i) M0;have h2:=kL (k:=k) (l.take i) M0;have h3:=List.countP_le_length (p:=fun x=>decide (x=k)) (l:=l.take i);rw[List.length_take]at h1 h3;have h4:=h0 k;exact⟨Jk,Jl (by omega),by rw[Gw h];exact Jl (by omega),wr (by omega) (by omega)⟩
theorem E5{l:List Ky}{M:List (Ky×Int)}{n:Nat}(h0: ∀x,0≤getM x 0 M∧getM x 0 M≤n): ∀x,0≤getM x 0 (cH M l)∧getM x 0 (cH M l)≤(n+l.length:Nat):=fun x=>by
 have h1:=h0 x;have h2:=kL (k:=x) l M;have h3:=List.countP_le_length (p:=fun y=>decide (y=x)) (l:=l);omega
end
set_option maxHeartbeats 8000000 in
theorem adY(hH:Hd H)(hB:Fb H)(h11:XK.run (GK H) (.call false 11) []=some (bv true))
  {n1 n2 n3 n4:Int} {s:Ss} (hs:jj H s) (h13:XK.run (GK H) (.call false 13) [.agg [uv n1,uv n2,uv n3,uv n4]]=some (.agg s.cells)) (l:List It) (hl: ∀i∈l,i.ok=true) (vM:Int) (hc:0≤vM∧vM<65536):
  GK H 6 [.agg [uv n1,uv n2,uv n3,uv n4], .list (l.map It.cells), .v (.int .u16 vM)]=some (bv true):=by
 have hF:=hB.fr;obtain⟨b,hb1,hb2⟩:=hs.nat;have h21:XK.run (GK H) (.call false 21) [.agg s.cells]=some (.tup [.list (s.cy.map Ky.cells),iv 0]):=eI (l21 hH s hb1 hb2 hs.len hs.ne hs.ln hs.ok) rfl;have hKl:s.cy.length<9999:=by rw[DH];exact hs.kb.1
 have hsk:s.cy≠ []:=fun e=>hs.ne (List.length_eq_zero_iff.1 (by rw[←DH,e];rfl));have h14:=l14 hH.fr s s.cy l hsk (by omega) hl h21;have hel:=H2 s.cy l;have hfe:=Ia hs hl;generalize afw:fE s.cy l=cY at*
 obtain⟨N,hN,hN2⟩: ∃N:Nat,s.ss*s.bs=N∧N≤128:=by
  have h1:=hs.mul;have h2:=hs.od;unfold rJ at h2;simp only[Az,decide_eq_true_eq]at h2;exact⟨(s.ss*s.bs).toNat,by omega,by omega⟩
 have hnd:=JY hs.ap hb1 hb2;have nI: ∀e∈cY,Fit s e:=fun e he=>(hfe e he).1;obtain⟨hA,h22,h16,hck,hcm,hol⟩:=qV hs hH hB nI (by omega) hN hN2;have hA:=hA false;have hlen:=BG (N:=N) hnd hck (fun e he=>(hcm e he).1) fun e he=>(hcm e he).2;have Gd:=fun{k} (hk:k∈s.cy)=>Md (N:=N) hnd hck (fun e he=>(hcm e he).2) hk
 have xf: ∀k∈eH s.cy (bx (setOf cY)),∃B1 B2 c1:List En,
   XK.run (GK H) (.call true 15) [.list ((cY++ [cX k]).map En.cells)]=some (.list (B1.map En.cells))∧
   XK.run (GK H) (.call false 22) [.agg s.cells, .list (B1.map En.cells)]=some (.tup [.list ((eH s.cy c1).map Ky.cells),iv 0])∧
   XK.run (GK H) (.call false 16) [.agg s.cells, .list (B1.map En.cells)]=some (.tup [.list ((cD N c1).map (cm H s c1)),iv 0])∧
   XK.run (GK H) (.call true 15) [.list ((cY++ [cX k,jG k]).map En.cells)]=some (.list (B2.map En.cells))∧
   XK.run (GK H) (.call false 16) [.agg s.cells, .list (B2.map En.cells)]=some (.tup [.list ((cD N (bx (setOf cY))).map (cm H s (bx (setOf cY)))),iv 0])∧
   (eH s.cy c1).length+1=(eH s.cy (bx (setOf cY))).length∧(cD N c1).length=(cD N (bx (setOf cY))).length+1∧(cD N c1).length≤N*24∧
   ((cD N (bx (setOf cY))).filter fun p=>decide (p.2.bd≠k.bd)).map (cm H s (bx (setOf cY)))=((cD N c1).filter fun p=>decide (p.2.bd≠k.bd)).map (cm H s c1):=fun k hk=>by
  have hkK:=(List.mem_filter.1 hk).1;obtain⟨f1,f2,f3⟩:=Dn (fun e he=>(nI e he).b) (fun e he=>(hfe e he).2) hnd hk
  obtain⟨g1,g2,g3,g4,g5,g6⟩:=qV hs hH hB (l:=cY++ [cX k]) (fun e he=>by
   rcases List.mem_append.1 he with h|h
   ·exact nI e h
   ·rw[List.mem_singleton.1 h];exact AX hs hkK) (by simp;omega) hN hN2
  obtain⟨k1,_,k3,_,_,_⟩:=qV hs hH hB (l:=cY++ [cX k,jG k]) (fun e he=>by
   rcases List.mem_append.1 he with h|h
   ·exact nI e h
   ·rcases List.mem_cons.1 h with rfl|h
    ·exact AX hs hkK
    ·rw[List.mem_singleton.1 h];exact Ib hs hkK) (by simp;omega) hN hN2
  rw[KU f3,oV]at k3;rw[oV]at g3;have hl1:=BG (N:=N) hnd g4 (fun e he=>(g5 e he).1) fun e he=>(g5 e he).2;exact⟨_,_,_,g1 true,g2,g3,k1 true,k3,f1,by omega,g6,FQ f2⟩
 rw[oV]at h16;generalize setOf cY=A at*;generalize bx A=c at*;clear hfe nI hck hcm
 have hS2: ∀(c:List En) (i:Nat) (p:Nat×En),(cD N c)[i]?=some p→ ∃f b,((cD N c).map (cm H s c))[i]?=some (qb f b)∧cm H s c p=qb f b∧f 0=p.2.rd∧f 1=p.2.tb∧f 2=p.2.bd:=fun c i p h=>by
  obtain⟨f,b,hf,f0⟩:=scO (H:=H) (s:=s) (c:=c) (p:=p);exact⟨f,b,by rw[Dz,h,←hf];rfl,hf,f0⟩
 have hK2: ∀(i:Nat) (p:Nat×En),(cD N c)[i]?=some p→(l7 N c)[i]?=some (sC p.2):=fun i p h=>by unfold l7;rw[Dz,h];rfl
 have Wu: ∀c'∈(cD N c).map (cm H s c),Scr c':=fun c' h=>by
  obtain⟨p,_,rfl⟩:=List.mem_map.1 h;obtain⟨f,b,hf,_⟩:=scO (H:=H) (s:=s) (c:=c) (p:=p);exact⟨f,b,hf⟩
 have hkl:(l7 N c).length=(cD N c).length:=by unfold l7;rw[List.length_map]
 have k17:=l17 hF _ (by rw[List.length_map];omega) Wu;have adk:=l17 hF (((cD N c).filter fun p=>decide (p.2.bd≠0)).map (cm H s c));have hSl:((cD N c).map (cm H s c)).length=(cD N c).length:=List.length_map ..
 have IC: ∀k:Ky,XK.run (GK H) (.call true 17) [.list (((cD N c).filter fun p=>decide (p.2.bd≠k.bd)).map (cm H s c)), .list (((cD N c).filter fun p=>decide (p.2.bd≠k.bd)).map (cm H s c))]=some (bv true):=fun k=>K0 (l17 hF _ (by
   rw[List.length_map];have:=List.length_filter_le (fun p:Nat×En=>decide (p.2.bd≠k.bd)) (cD N c)
   omega) fun c' h=>by
  obtain⟨p,hp,rfl⟩:=List.mem_map.1 h
  exact Wu _ (List.mem_map.2 ⟨p,(List.mem_filter.1 hp).1,rfl⟩))
 clear adk;have x0: ∀a:List (List D),XK.run (GK H) (.pk (.ext 0)) [.tup [.list a,iv 0]]=some (.list a):=fun a=>rfl;have x1: ∀a:List (List D),XK.run (GK H) (.pk (.ext 1)) [.tup [.list a,iv 0]]=some (iv 0):=fun a=>rfl;have kc:XK.run (GK H) (.cell 0 4) [.agg [uv n1,uv n2,uv n3,uv n4]]=some (uv n1):=rfl;have nn:XK.run (GK H) .bq [.agg [uv n1,uv n2,uv n3,uv n4]]=some (.agg [uv n1,uv n2,uv n3,uv n4]):=rfl;have hnm: ∀k∈eH s.cy c,k∈s.cy:=fun k hk=>(List.mem_filter.1 hk).1;generalize hS:(cD N c).map (cm H s c)=S at*;have hnl:(eH s.cy c).length≤s.cy.length:=by omega
 generalize eH s.cy c=NO at*
 have w0:IntKind.i64.wrap ((NO.length:Int)+(S.length:Int))=(s.cy.length:Int):=by
  rw[hSl,wr (by omega) (by omega)];omega
 generalize hK:s.cy=K at*;have r0: ∀x:Ky,0≤getM x 0 ([]:List (Ky×Int))∧getM x 0 ([]:List (Ky×Int))≤((0:Nat):Int):=fun x=>by simp[getM]
 have r1:=E5 (l:=K) r0;have r2:=E5 (l:=NO) r1;have q1:(cH ([]:List (Ky×Int)) K).length≤K.length:=by simpa using pB K ([]:List (Ky×Int))
 have q2:=pB NO (cH [] K);refine af hH.fr ok6 ?_;unfold tm6;generalize hz0:R5=z0
 conv=>enter [1,3];cbv
 subst hz0;simp[-bN,kc,nn,h13,h14,hA,h21,h22,h16,x0,x1,w0];have hz: [D.v (.int .i64 0),D.list []]= [iv ((0:Nat):Int),MM (cH [] (K.take 0))]:=rfl;rw[hz];clear hz;refine aI (n:=K.length) (fun i=> [iv (i:Int),MM (cH [] (K.take i))]) (bv true) (by omega) ?_;intro rec i hi ih;unfold R5;generalize hz0:R6=z0
 conv=>enter [1,3];cbv
 subst hz0;cases h3:K[i]? with
 |some k=>
  have l3:=(Gz.1 h3).1;have e3:K[i]=k:=(Gz.1 h3).2;have ih:=ih (by omega);obtain⟨t1,t2,t3,t4⟩:=yS (G:=GK H) h3 r0 (by omega) (by omega) (Nat.le_refl _) (by simp);have w:=wr (z:=(i:Int)+1) (by omega) (by omega);generalize cH [] (K.take i)=M at*;generalize cH [] (K.take (i+1))=M' at*;clear xf Gd;simp[l3,e3,w,t1,t2,t3,t4];exact ih
 |none=>
 have l3:=List.getElem?_eq_none_iff.1 h3;have l3': ¬(i:Int)<K.length:=by omega
 rw[List.take_of_length_le l3];clear ih h3 l3 hi;simp[l3'];clear l3';have hz: [D.v (.int .i64 0),MM (cH [] K)]= [iv ((0:Nat):Int),MM (cH (cH [] K) (NO.take 0))]:=rfl;rw[hz];clear hz;refine aI (n:=NO.length) (fun i=> [iv (i:Int),MM (cH (cH [] K) (NO.take i))]) (bv true) (by omega) ?_;intro Dx i2 hi ih;unfold R6;generalize hz0:R7=z0
 conv=>enter [1,3];cbv
 subst hz0;cases h3:NO[i2]? with
 |some k=>
  have l3:=(Gz.1 h3).1;have e3:NO[i2]=k:=(Gz.1 h3).2;have ih:=ih (by omega);obtain⟨t1,t2,t3,t4⟩:=yS (G:=GK H) h3 r1 (by omega) (by omega) q1 (by omega);have w:=wr (z:=(i2:Int)+1) (by omega) (by omega);generalize cH (cH [] K) (NO.take i2)=M at*;generalize cH (cH [] K) (NO.take (i2+1))=M' at*;generalize cH [] K=M0 at*;clear xf Gd;simp[l3,e3,w,t1,t2,t3,t4];exact ih
 |none=>
 have l3:=List.getElem?_eq_none_iff.1 h3;have l3': ¬(i2:Int)<NO.length:=by omega
 rw[List.take_of_length_le l3];clear ih h3 l3 hi;generalize hM1:cH [] K=M1 at*;simp[l3'];clear l3';generalize hM2:cH M1 NO=M2 at*;have hz: [D.v (.int .i64 0),MM M2]= [iv ((0:Nat):Int),MM (cH M2 ((l7 N c).take 0))]:=rfl;rw[hz];clear hz;refine aI (n:=(cD N c).length) (fun i=> [iv (i:Int),MM (cH M2 ((l7 N c).take i))]) (bv true) (by omega) ?_;intro aeI i3 hi ih;unfold R7;generalize hz0:R8=z0
 conv=>enter [1,3];cbv
 subst hz0;cases h3:(cD N c)[i3]? with
 |some p=>
  have l3:i3<S.length:=by rw[hSl];exact(Gz.1 h3).1
  have ih:=ih (by omega);obtain⟨f,b',g1,_,f0,f1,f2⟩:=hS2 c i3 p h3;rw[hS]at g1;have e3:S[i3]=qb f b':=(Gz.1 g1).2;obtain⟨t1,t2,t3,t4⟩:=yS (G:=GK H) (hK2 i3 p h3) r2 (by omega) (by omega) q2 (by omega);rw[show(sC p.2).cells= [iv p.2.rd,iv p.2.tb,iv p.2.bd]from rfl]at t1 t2 t3;have w:=wr (z:=(i3:Int)+1) (by omega) (by omega);generalize cH M2 ((l7 N c).take i3)=M at*;generalize cH M2 ((l7 N c).take (i3+1))=M' at*;clear xf Gd;simp[l3,e3,w,t1,t2,t3,t4,qU,nB,Wo,Wp,Wq,f0,f1,f2];exact ih
 |none=>
 have l3:=List.getElem?_eq_none_iff.1 h3;have l3': ¬(i3:Int)<S.length:=by omega
 rw[List.take_of_length_le (by omega)];clear ih h3 l3 hi;generalize cH M2 (l7 N c)=M3 at*;simp[l3'];clear l3';have hz: [D.v (.int .i64 0),D.v (.bool false)]= [iv ((0:Nat):Int),bv false]:=rfl;refine aI (n:=K.length) (fun i=> [iv (i:Int),bv false]) (bv true) (by omega) ?_;intro aeJ i4 hi ih;unfold R8;generalize hz0:R9=z0
 conv=>enter [1,3];cbv
 subst hz0;cases h3:K[i4]? with
 |some k=>
  have l3:=(Gz.1 h3).1;have e3:K[i4]=k:=(Gz.1 h3).2;have ih:=ih (by omega);have w:=wr (z:=(i4:Int)+1) (by omega) (by omega);have t1:=Jk (G:=GK H) (M:=M3) (k:=k);rw[Gd (Lz h3)]at t1;clear xf Gd;simp[l3,e3,w,t1];exact ih
 |none=>
 have l3:=List.getElem?_eq_none_iff.1 h3;have l3': ¬(i4:Int)<K.length:=by omega
 clear ih h3 l3 hi Gd;by_cases h0:NO.length=0
 ·have hn:NO= []:=List.length_eq_zero_iff.1 h0;subst hn;simp[l3',h11]
 obtain⟨a0,ha0,ht⟩: ∃a0:Nat,a0<NO.length∧vM.tmod NO.length=(a0:Int):=
  ⟨vM.toNat%NO.length,Nat.mod_lt _ (by omega),by rw[tm hc.1,Int.natCast_emod,Int.toNat_of_nonneg hc.1]⟩
 obtain⟨k,hk⟩: ∃k,NO[a0]=k:=⟨_,rfl⟩;obtain⟨B1,B2,c1,m1,m2,m3,m4,m5,m6,m7,m8,m9⟩:=xf k (by rw[←hk];exact List.getElem_mem ha0);have IC:=IC k;have wc:IntKind.i64.wrap vM=vM:=wr (by omega) (by omega);have kb1:=abF (G:=GK H) (b:=cY) (by omega);have kb2:XK.run (GK H) (.app 33) [.list (cY.map En.cells), .list [(cX k).cells]]=some (.list ((cY++ [cX k]).map En.cells)):=RZ (a:=cY) (b:= [cX k]) (by simp;omega);have kb3:XK.run (GK H) (.app 33) [.list (cY.map En.cells), .list [(cX k).cells,(jG k).cells]]=some (.list ((cY++ [cX k,jG k]).map En.cells)):=RZ (a:=cY) (b:= [cX k,jG k]) (by simp;omega);generalize(cY++ [cX k]).map En.cells=s1 at*;generalize(cY++ [cX k,jG k]).map En.cells=s2 at*;have hn0: ¬NO= []:=fun e=>h0 (by rw[e];rfl);generalize hS1:(cD N c1).map (cm H s c1)=S1 at*;have ach:S1.length=(cD N c1).length:=by rw[←hS1,List.length_map]
 generalize eH K c1=NO1 at*;have w1:IntKind.i64.wrap ((NO.length:Int)-1)=(NO1.length:Int):=by rw[wr (by omega) (by omega)];omega
 have w2:IntKind.i64.wrap ((S.length:Int)+1)=(S1.length:Int):=by rw[wr (by omega) (by omega)];omega
 have ahd: ∀z:Int,XK.run (GK H) .qa [iv z]=some (iv z):=fun z=>rfl;have u1:=abD (G:=GK H) (k:=k);have u2:=abE (G:=GK H) (k:=k);have u3:=Yc (G:=GK H) (e:=cX k);have u4:=Ye (G:=GK H) (e:=cX k) (f:=jG k);generalize(cX k).cells=e1 at*;generalize(jG k).cells=e2 at*;clear xf r0 r1 r2 q1 q2 hnm;simp[-bN,l3',hn0,wc,ht,ha0,hk,T0,u1,u3,kb1,kb2,m1,m2,m3,x0,x1,w1,w2];have hz: [D.v (.int .i64 0),D.list []]= [iv ((0:Nat):Int), .list ((((cD N c).take 0).filter fun p=>decide (p.2.bd≠k.bd)).map (cm H s c))]:=rfl;rw[hz];clear hz;refine aI (n:=(cD N c).length) (fun i=> [iv (i:Int), .list ((((cD N c).take i).filter fun p=>decide (p.2.bd≠k.bd)).map (cm H s c))]) (bv true) (by omega) ?_;intro ahj i5 hi ih;unfold R9;generalize hz0:R_=z0
 conv=>enter [1,3];cbv
 subst hz0;cases h3:(cD N c)[i5]? with
 |some p=>
  have l3:i5<S.length:=by rw[hSl];exact(Gz.1 h3).1
  have ih:=ih (by omega);obtain⟨f,b',g1,g2,f0,f1,f2⟩:=hS2 c i5 p h3;rw[hS]at g1;have e3:S[i5]=qb f b':=(Gz.1 g1).2;rw[SK h3,g2]at ih
  have hal:((((cD N c).take i5).filter fun p=>decide (p.2.bd≠k.bd)).map (cm H s c)).length<65536:=by
   rw[List.length_map];have:=List.length_filter_le (fun p:Nat×En=>decide (p.2.bd≠k.bd)) ((cD N c).take i5);rw[List.length_take]at this;omega
  have ka:=xU (G:=GK H) (size:=11) (c:=qb f b') hal rfl;have w:=wr (z:=(i5:Int)+1) (by omega) (by omega);clear IC m9;generalize(((cD N c).take i5).filter fun p=>decide (p.2.bd≠k.bd)).map (cm H s c)=acc at*;by_cases hb:p.2.bd=k.bd
  ·simp[hb]at ih;simp[l3,e3,w,qU,nB,Wo,Wp,Wq,fk3,fk4,fk5,fk6,fk7,fk8,fk9,fkA,f2,hb];exact ih
  ·simp[hb]at ih;simp[l3,e3,w,qU,nB,Wo,Wp,Wq,fk3,fk4,fk5,fk6,fk7,fk8,fk9,fkA,f2,hb,Oj,ka];exact ih
 |none=>
 have l3:=List.getElem?_eq_none_iff.1 h3;have l3': ¬(i5:Int)<S.length:=by omega
 rw[List.take_of_length_le l3];clear ih h3 l3 hi;generalize hbf:((cD N c).filter fun p=>decide (p.2.bd≠k.bd)).map (cm H s c)=bf at*;simp[l3'];clear l3';have hz: [D.v (.int .i64 0),D.list []]= [iv ((0:Nat):Int), .list ((((cD N c1).take 0).filter fun p=>decide (p.2.bd≠k.bd)).map (cm H s c1))]:=rfl;rw[hz];clear hz;refine aI (n:=(cD N c1).length) (fun i=> [iv (i:Int), .list ((((cD N c1).take i).filter fun p=>decide (p.2.bd≠k.bd)).map (cm H s c1))]) (bv true) (by omega) ?_;intro ahk i6 hi ih;unfold R_
 conv=>enter [1,3];cbv
 cases h3:(cD N c1)[i6]? with
 |some p=>
  have l3:i6<S1.length:=by rw[ach];exact(Gz.1 h3).1
  have ih:=ih (by omega);obtain⟨f,b',g1,g2,f0,f1,f2⟩:=hS2 c1 i6 p h3;rw[hS1]at g1;have e3:S1[i6]=qb f b':=(Gz.1 g1).2;rw[SK h3,g2]at ih
  have hal:((((cD N c1).take i6).filter fun p=>decide (p.2.bd≠k.bd)).map (cm H s c1)).length<65536:=by
   rw[List.length_map];have:=List.length_filter_le (fun p:Nat×En=>decide (p.2.bd≠k.bd)) ((cD N c1).take i6);rw[List.length_take]at this;omega
  have ka:=xU (G:=GK H) (size:=11) (c:=qb f b') hal rfl;have w:=wr (z:=(i6:Int)+1) (by omega) (by omega);clear IC m9 hbf;generalize(((cD N c1).take i6).filter fun p=>decide (p.2.bd≠k.bd)).map (cm H s c1)=acc at*;by_cases hb:p.2.bd=k.bd
  ·simp[hb]at ih;simp[l3,e3,w,qU,nB,Wo,Wp,Wq,fk3,fk4,fk5,fk6,fk7,fk8,fk9,fkA,f2,hb];exact ih
  ·simp[hb]at ih;simp[l3,e3,w,qU,nB,Wo,Wp,Wq,fk3,fk4,fk5,fk6,fk7,fk8,fk9,fkA,f2,hb,Oj,ka];exact ih
 |none=>
 have l3:=List.getElem?_eq_none_iff.1 h3;have l3': ¬(i6:Int)<S1.length:=by omega
 rw[List.take_of_length_le l3];clear ih h3 l3 hi;rw[←m9];simp[-bN,l3',u1,u2,u4,T0,kb1,kb3,m4,m5,x0,x1,IC,k17,h11]
end Ty
end
section
namespace Ty
variable {H : FP}
theorem Gh{b:D}(h2:bH PP 6 46 [b]): ∃l:List It,b= .list (l.map It.cells)∧ ∀i∈l,It.ok i=true:=by
 obtain⟨es,he0,hml,hes⟩:=aaY (n:=5) u46 h2;have he:b= .list es:=by simpa using he0
 subst he
 obtain⟨l,hl,hlo⟩: ∃l:List It,es=l.map It.cells∧ ∀i∈l,i.ok=true:=by
  clear h2 he0 hml
  induction es with
  |nil=>exact⟨[],rfl,fun i hi=>by cases hi⟩
  |cons e r ih=>
   obtain⟨l,h4,h5⟩:=ih fun c hc=>hes c (Cz _ hc);obtain⟨i,h6,h7⟩:=aaX (n:=1) (hes e (List.mem_cons_self ..))
   exact⟨i::l,by rw[List.map_cons,←h6,←h4],fun j hj=>by
    rcases List.mem_cons.1 hj with rfl|hj
    ·exact h7
    ·exact h5 j hj⟩
 exact⟨l,by rw[hl],hlo⟩
end Ty
end
section
namespace Ty
variable {H : FP}
theorem BC(hH:Hd H)(hB:Fb H)(hM:Mvs H)(h11:XK.run (GK H) (.call false 11) []=some (bv true))
  (hS:Sound PP (br H)) {Ds:List D} (h:n_ PP 6 [45,46,61] Ds):xR PP 6 Ds (bv true):=by
 obtain⟨a,b,c,rfl,h1,h2,h3⟩:=V0 h;unfold j0 at h1 h2 h3;rw[u45]at h1;rw[u46]at h2;rw[u61]at h3;obtain⟨ds,rfl,h1⟩:=h1;obtain⟨n1,n2,n3,n4,rfl,y1,y2,y3,y4⟩:=U1 (n:=4) h1;obtain⟨k,hk,hku⟩:=Kh (n:=5) h3;have hk:c=G4 k:=by simpa using hk
 subst hk;obtain⟨l,rfl,hl⟩:=Gh h2;obtain⟨s,hs,h13⟩:=Yt hH.fr hM y1 y2 y3 y4;exact((oT (C:=cx) (N:=10000) rfl hS qN).p 6 _ _ (by decide) (adY hH hB h11 hs h13 l hl k hku)).1
end Ty
end
end Go.Proofs.YtkcfpgaepmllhaaGreatDoor
