/- Part of the proof: symbolic execution of the program, its soundness, and the closing lemmas. No condition. -/
import Derived.Test.YtkcfpgaepmllhaaGreatDoorCaj
import Derived.Test.YtkcfpgaepmllhaaGreatDoorCal
import Derived.Test.YtkcfpgaepmllhaaGreatDoorCam
import Derived.Test.YtkcfpgaepmllhaaGreatDoorCan
import Derived.Test.YtkcfpgaepmllhaaGreatDoorCao
import Derived.Test.YtkcfpgaepmllhaaGreatDoorCap
import Init
import Derived.Test.YtkcfpgaepmllhaaGreatDoorEag
namespace Go.Proofs.YtkcfpgaepmllhaaGreatDoor
open Go.RowKit
set_option maxRecDepth 100000
set_option linter.all false
section
theorem cs {s : gW} (hs : jV cx.P s) {f lo n : Nat} {l : List cS} (h : chunk (iF tr.get (dZ (bh s) aT) 10000 60) f lo n l = true) : fg cx.P f ((l.drop lo).take n):=zN rfl gB qm Rh hs h
theorem z : jV cx.P []:=.nil
theorem o {f : Nat} {l : List cS} {gs : List Nat} {r : gW} (h : fg cx.P f l) (k : jV cx.P r) : jV cx.P ((f,l,gs) :: r):=.cons h k
theorem d166 : fg cx.P 166 ahx.S6:=(cs (s:=s0) z c0).fin (by kernel_rfl)
theorem me : fg cx.P 1000043000210 ahx.fV:=xA (e:=42) (f:=210) rfl gB qm Rh TT (by decide) z c1
theorem d168 : fg cx.P 168 ahx.S8:=(cs (s:=s2) (o me z) c2).fin (by kernel_rfl)
theorem d167 : fg cx.P 167 ahx.S7:=(cs (s:=s3) (o me z) c3).fin (by kernel_rfl)
theorem d171 : fg cx.P 171 ahx.S9:=(cs (s:=s4) z c4).fin (by kernel_rfl)
theorem d218 : fg cx.P 218 ahx.Tb:=(cs (s:=s5) z c5).fin (by kernel_rfl)
theorem d123 : fg cx.P 123 ahx.S5:=(cs (s:=s6) (o d171 (o d218 z)) c6).fin (by kernel_rfl)
theorem d91 : fg cx.P 91 ahx.pK:=(cs (s:=s7) z c7).fin (by kernel_rfl)
theorem d226 : fg cx.P 226 ahx.gN:=(cs (s:=s8) z c8).fin (by kernel_rfl)
theorem d90 : fg cx.P 90 ahx.pJ:=(cs (s:=s9) (o d91 (o d226 z)) c9).join ((cs (s:=s10) (o d91 (o d226 z)) c10).join ((cs (s:=s11) (o d91 (o d226 z)) c11).join ((cs (s:=s12) (o d91 (o d226 z)) c12).join ((cs (s:=s13) (o d91 (o d226 z)) c13).join ((cs (s:=s14) (o d91 (o d226 z)) c14).join ((cs (s:=s15) (o d91 (o d226 z)) c15).join ((cs (s:=s16) (o d91 (o d226 z)) c16).join ((cs (s:=s17) (o d91 (o d226 z)) c17).join ((cs (s:=s18) (o d91 (o d226 z)) c18).join ((cs (s:=s19) (o d91 (o d226 z)) c19).join ((cs (s:=s20) (o d91 (o d226 z)) c20).join ((cs (s:=s21) (o d91 (o d226 z)) c21).join ((cs (s:=s22) (o d91 (o d226 z)) c22).join ((cs (s:=s23) (o d91 (o d226 z)) c23).join ((cs (s:=s24) (o d91 (o d226 z)) c24).join ((cs (s:=s25) (o d91 (o d226 z)) c25).join ((cs (s:=s26) (o d91 (o d226 z)) c26).join ((cs (s:=s27) (o d91 (o d226 z)) c27).join ((cs (s:=s28) (o d91 (o d226 z)) c28).join ((cs (s:=s29) (o d91 (o d226 z)) c29).join ((cs (s:=s30) (o d91 (o d226 z)) c30).join ((cs (s:=s31) (o d91 (o d226 z)) c31).join ((cs (s:=s32) (o d91 (o d226 z)) c32).fin (by kernel_rfl))))))))))))))))))))))))
theorem d54 : fg cx.P 54 ahx.Xl:=(cs (s:=s33) (o d91 (o d90 z)) c33).join ((cs (s:=s34) (o d91 (o d90 z)) c34).fin (by kernel_rfl))
theorem d20 : fg cx.P 20 ahx.Ta:=(cs (s:=s35) z c35).fin (by kernel_rfl)
theorem d286 : fg cx.P 286 ahx.FE:=(cs (s:=s36) z c36).fin (by kernel_rfl)
theorem d149 : fg cx.P 149 ahx.K7:=(cs (s:=s37) (o d286 z) c37).fin (by kernel_rfl)
theorem d88 : fg cx.P 88 ahx.k88:=(cs (s:=s38) (o d286 (o d149 z)) c38).fin (by kernel_rfl)
theorem d225 : fg cx.P 225 ahx.K8:=(cs (s:=s39) z c39).fin (by kernel_rfl)
theorem d179 : fg cx.P 179 ahx.S_:=(cs (s:=s40) (o d225 z) c40).fin (by kernel_rfl)
theorem d222 : fg cx.P 222 ahx.Tc:=(cs (s:=s41) (o d286 z) c41).fin (by kernel_rfl)
theorem d11 : fg cx.P 11 ahx.Va:=(cs (s:=s42) (o d54 (o d20 (o d286 (o d149 (o d88 (o d225 (o d179 (o d222 z)))))))) c42).fin (by kernel_rfl)
noncomputable def KM : KT:=[(166,ahx.S6),(168,ahx.S8),(167,ahx.S7),(123,ahx.S5),(90,ahx.pJ),(54,ahx.Xl),(11,ahx.Va)]
theorem Xq : KM.BL cx.P:=(KT.BL.cons d166 (KT.BL.cons d168 (KT.BL.cons d167 (KT.BL.cons d123 (KT.BL.cons d90 (KT.BL.cons d54 (KT.BL.cons d11 KT.BL.nil)))))))
end
section
open Go.RowKit Go.Sort
namespace Ty
noncomputable abbrev HM:FP:=dZ KM dh
theorem aaA{p:Int→Prop}{k:Nat}(h: ∀i:Nat,i<k→p ((i:Int)+1))(n:Int)(h1:1≤n)(h2:n≤k):p n:=by
 have:=h (n-1).toNat (by omega);rw[show(((n-1).toNat:Nat):Int)+1=n by omega]at this;exact this
theorem Tj:ED KM=true:=by kernel_rfl
theorem mr{f k:Nat}{pre post:List D}(h:((List.range k).all fun i=>jn KM (f,pre++iv ((i:Int)+1)::post))=true)(n:Int)(h1:1≤n)(h2:n≤k):Mk HM f (pre++iv n::post):=
 aaA (p:=fun n=>Mk HM f (pre++iv n::post)) (k:=k) (fun i hi=>Si Tj (Tz.1 h i (List.mem_range.2 hi))) n h1 h2
theorem m22:((List.range 1).all fun i=>jn KM (168,[iv 2]++iv ((i:Int)+1):: [uv 2]))=true:=by kernel_rfl
theorem XU:((List.range 3).all fun i=>jn KM (168,[iv 4]++iv ((i:Int)+1):: [uv 2]))=true:=by kernel_rfl
theorem m23:((List.range 2).all fun i=>jn KM (168,[iv 2]++iv ((i:Int)+1):: [uv 3]))=true:=by kernel_rfl
theorem XV:((List.range 4).all fun i=>jn KM (168,[iv 4]++iv ((i:Int)+1):: [uv 3]))=true:=by kernel_rfl
theorem TC:((List.range 3).all fun i=>jn KM (168,[iv 3]++iv ((i:Int)+1):: [uv 1]))=true:=by kernel_rfl
theorem LG:((List.range 5).all fun i=>jn KM (168,[iv 5]++iv ((i:Int)+1):: [uv 1]))=true:=by kernel_rfl
theorem r5:((List.range 5).all fun i=>jn KM (167,[iv 5]++iv ((i:Int)+1):: []))=true:=by kernel_rfl
theorem h2:((List.range 3).all fun i=>jn KM (123,[iv 2]++iv ((i:Int)+1):: []))=true:=by kernel_rfl
theorem h3:((List.range 5).all fun i=>jn KM (123,[iv 3]++iv ((i:Int)+1):: []))=true:=by kernel_rfl
theorem h4:((List.range 7).all fun i=>jn KM (123,[iv 4]++iv ((i:Int)+1):: []))=true:=by kernel_rfl
theorem h5:((List.range 9).all fun i=>jn KM (123,[iv 5]++iv ((i:Int)+1):: []))=true:=by kernel_rfl
theorem mvs:xj HM where
 q22:=ah (du (show dZ KM dh 166 [iv 2,uv 2]=some (.tup [iv 1,iv 0]) by kernel_rfl)) rfl rfl
 m22:=mr m22
 q42:=ah (du (show dZ KM dh 166 [iv 4,uv 2]=some (.tup [iv 3,iv 0]) by kernel_rfl)) rfl rfl
 XU:=mr XU
 q23:=ah (du (show dZ KM dh 166 [iv 2,uv 3]=some (.tup [iv 2,iv 0]) by kernel_rfl)) rfl rfl
 m23:=mr m23
 q43:=ah (du (show dZ KM dh 166 [iv 4,uv 3]=some (.tup [iv 4,iv 0]) by kernel_rfl)) rfl rfl
 XV:=mr XV
 q31:=ah (du (show dZ KM dh 166 [iv 3,uv 1]=some (.tup [iv 3,iv 0]) by kernel_rfl)) rfl rfl
 TC:=mr TC
 q51:=ah (du (show dZ KM dh 166 [iv 5,uv 1]=some (.tup [iv 5,iv 0]) by kernel_rfl)) rfl rfl
 LG:=mr LG
 r5:=mr r5
 h2:=mr h2
 h3:=mr h3
 h4:=mr h4
 h5:=mr h5
theorem Nx:Hd HM:=WS (by kernel_rfl)
theorem HX:Sound PP (bw HM):=qi AB Xq
theorem W3:XK.run (GK HM) (.call false 11) []=some (bv true):=ah (du (show dZ KM dh 11 []=some (bv true) by kernel_rfl)) rfl rfl
end Ty
end
section
namespace Ty
theorem aew:Uo= .lets [.mk (.pk (.fbox 2)) [.t 1]] (.lets [.mk (.pk (.fbox 2)) [.t 0]] (.lets [.mk (.call false 101) [.mk .bt [.mk (.pk (.load 1 false)) [.mk (.pk (.fld 1)) [.t 3]]]]] (.lets [.mk (.call false 101) [.mk .bt [.mk (.pk (.load 1 false)) [.mk (.pk (.fld 1)) [.t 4]]]]] (.lets [.mk (.call false 100) [.mk .bt [.t 6], .mk .bt [.t 5]]] (.lets [.mk (.call false 101) [.mk .bt [.mk (.pk (.load 1 false)) [.mk (.pk (.fld 0)) [.t 4]]]]] (.lets [.mk (.call false 102) [.mk .bt [.t 8], .mk .bt [.mk (.pk (.ibin .quo)) [.t 5, .t 7]]]] (.fC [.mk (.cell 0 2) [.t 9]] (.lets [.mk (.call false 101) [.mk .bt [.mk (.pk (.load 1 false)) [.mk (.pk (.fld 0)) [.t 3]]]]] (.lets [.mk (.call false 102) [.mk .bt [.t 10], .mk .bt [.mk (.pk (.ibin .quo)) [.t 6, .t 7]]]] (.fC [.mk (.cell 0 2) [.t 11]] (.lets [.mk (.pk (.ibin .lss)) [.mk (.pk (.load 1 false)) [.mk (.pk (.fld 0)) [.t 4]], .q (iv 0)]] (.jp (.lets [.mk (.call false 106) [.mk .agg [.mk .eu [.t 14], .mk .eu [.t 15]], .mk .bt [.t 7]]] (.fC [.mk (.cell 0 2) [.mk (.pk (.ext 0)) [.t 16]]] (.lets [.mk (.pk (.ext 1)) [.t 16]] (.lets [.mk (.call false 100) [.mk .bt [.t 7], .mk .bt [.t 17]]] (.lets [.mk (.call false 106) [.mk .agg [.mk .eu [.t 14], .mk .eu [.t 15]], .mk .bt [.t 18]]] (.fC [.mk (.pk (.ext 1)) [.t 19], .mk (.cell 0 2) [.mk (.pk (.ext 0)) [.t 19]]] (.lets [.mk (.pk (.ext 0)) [.t 19]] (.lets [.mk (.call false 102) [.mk .bt [.mk (.pk (.ibin .quo)) [.t 6, .t 7]], .mk .bt [.mk (.pk (.ibin .quo)) [.t 5, .t 18]]]] (.lets [.mk (.call false 107) [.mk .bt [.t 13], .mk .bt [.t 20], .mk .bt [.t 21]]] (.fC [.mk (.cell 0 2) [.mk (.pk (.ext 0)) [.t 22]]] (.lets [.mk (.pk (.ext 1)) [.t 22]] (.lets [.mk (.pk (.ext 0)) [.t 22]] (.ret (.mk .tup [.mk .bt [.t 24], .mk .bt [.t 23]])))))))))))))) (.lets [.mk (.pk (.beq false)) [.t 12, .t 2]] (.ite (.t 13) (.lets [.mk (.call false 103) [.mk .bt [.t 9], .mk .bt [.t 11]]] (.fC [.mk (.cell 0 2) [.t 14]] (.next 0 [.t 12, .mk (.cell 0 2) [.t 14], .mk (.cell 1 2) [.t 14]]))) (.lets [.mk (.call false 104) [.mk .bt [.t 9], .mk .bt [.t 11]]] (.lets [.mk (.pk (.ibin .geq)) [.t 14, .q (iv 0)]] (.ite (.t 15) (.lets [.mk (.call false 105) [.mk .bt [.t 9], .mk .bt [.t 11]]] (.fC [.mk (.cell 0 2) [.t 16]] (.next 0 [.t 12, .mk (.cell 0 2) [.t 16], .mk (.cell 1 2) [.t 16]]))) (.lets [.mk (.call false 105) [.mk .bt [.t 11], .mk .bt [.t 9]]] (.fC [.mk (.cell 0 2) [.t 16]] (.next 0 [.t 2, .mk (.cell 0 2) [.t 16], .mk (.cell 1 2) [.t 16]])))))))))))))))))))):=by kernel_rfl
end Ty
end
section
namespace Ty
structure Fq where
 n:Int
 d:Int
def Fq.ok(f:Fq):Prop:=0<f.d∧Nat.gcd f.n.natAbs f.d.natAbs=1
def red(n d:Int):Fq:=⟨n/(Nat.gcd n.natAbs d.natAbs:Nat),d/(Nat.gcd n.natAbs d.natAbs:Nat)⟩
theorem HG(n d:Int):((Nat.gcd n.natAbs d.natAbs:Nat):Int)∣n:=Int.ofNat_dvd_left.2 (Nat.gcd_dvd_left ..)
theorem HI(n d:Int):((Nat.gcd n.natAbs d.natAbs:Nat):Int)∣d:=Int.ofNat_dvd_left.2 (Nat.gcd_dvd_right ..)
theorem su{n d:Int}(hd:0<d):0<Nat.gcd n.natAbs d.natAbs:=Nat.gcd_pos_of_pos_right _ (by omega)
theorem EG{n d:Int}:(red n d).n*(Nat.gcd n.natAbs d.natAbs:Nat)=n:=Int.ediv_mul_cancel (HG n d)
theorem EF{n d:Int}:(red n d).d*(Nat.gcd n.natAbs d.natAbs:Nat)=d:=Int.ediv_mul_cancel (HI n d)
theorem om{n d:Int}(hd:0<d):(red n d).ok:=by
 have hg:=su (n:=n) hd;have h1:= @EG n d;have h2:= @EF n d;generalize hgg:Nat.gcd n.natAbs d.natAbs=g at*;generalize red n d=f at*;refine⟨?_, ?_⟩
 ·refine Int.pos_of_mul_pos_left (b:=(g:Int)) (by rw[h2];exact hd) (by omega)
 ·have e1:n.natAbs=f.n.natAbs*g:=by rw[←h1,Int.natAbs_mul];rfl
  have e2:d.natAbs=f.d.natAbs*g:=by rw[←h2,Int.natAbs_mul];rfl
  rw[e1,e2,Nat.gcd_mul_right]at hgg;exact Nat.eq_of_mul_eq_mul_right hg (by rw[hgg,Nat.one_mul])
theorem HB{f g:Fq}(h1:f.n=g.n)(h2:f.d=g.d):f=g:=by cases f;cases g;cases h1;cases h2;rfl
theorem FX{f g:Fq}(hf:f.ok)(hg:g.ok)(e:f.n*g.d=g.n*f.d):f=g:=by
 obtain⟨f1,f2⟩:=hf;obtain⟨g1,g2⟩:=hg;have en:f.n.natAbs*g.d.natAbs=g.n.natAbs*f.d.natAbs:=by rw[←Int.natAbs_mul,e,Int.natAbs_mul]
 have d1:f.d.natAbs∣g.d.natAbs:=(Nat.Coprime.symm f2).dvd_of_dvd_mul_left (m:=f.n.natAbs) ⟨g.n.natAbs,by rw[en,Nat.mul_comm]⟩;have d2:g.d.natAbs∣f.d.natAbs:=(Nat.Coprime.symm g2).dvd_of_dvd_mul_left (m:=g.n.natAbs) ⟨f.n.natAbs,by rw[←en,Nat.mul_comm]⟩;have h:=Nat.dvd_antisymm d1 d2;have hd:f.d=g.d:=by omega
 refine HB ?_ hd;rw[hd]at e;exact Int.eq_of_mul_eq_mul_right (by omega) e
theorem kH{n d:Int}(hd:0<d):(red n d).n*d=n*(red n d).d:=by
 have h1:= @EG n d;have h2:= @EF n d;generalize Nat.gcd n.natAbs d.natAbs=g at*;generalize red n d=f at*;rw[←h1,←h2,Int.mul_comm f.d,←Int.mul_assoc]
theorem lB{f:Fq}(h:f.ok){n d:Int}(hd:0<d)(e:f.n*d=n*f.d):f=red n d:=by
 have hr:=om (n:=n) hd;refine FX h hr ?_;have h2:= @EF n d;have h1:= @EG n d;have hg:=su (n:=n) hd;generalize Nat.gcd n.natAbs d.natAbs=g at*;generalize red n d=r at*;refine Int.eq_of_mul_eq_mul_right (a:=(g:Int)) (by omega) ?_;rw[Int.mul_assoc,h2,e,Int.mul_right_comm,h1]
theorem I0{n d n' d':Int}(hd:0<d)(hd':0<d')(e:n*d'=n'*d):red n d=red n' d':=by
 refine lB (om hd) hd' ?_;have h:=kH (n:=n) hd;refine Int.eq_of_mul_eq_mul_right (a:=d) (by omega) ?_;rw[Int.mul_right_comm,h,Int.mul_right_comm,e,Int.mul_right_comm]
theorem F6{f:Fq}(h:f.ok):red f.n f.d=f:=(lB h h.1 rfl).symm
theorem Rt{a b c d k:Nat}(hb:0<b)(hd:0<d)(h1:Nat.gcd a b=1)(h2:Nat.gcd c d=1)(hk:k=Nat.gcd b d){t:Nat}(ht:(∃x y,t=x+y∧x=a*(d/k)∧y=c*(b/k))∨(∃x y,x=a*(d/k)∧y=c*(b/k)∧(t+y=x∨t+x=y))):
  Nat.gcd (t/Nat.gcd k t) ((b/k)*(d/Nat.gcd k t))=1:=by
 have hk0:0<k:=by rw[hk];exact Nat.gcd_pos_of_pos_left _ hb
 obtain⟨b',hb'⟩:k∣b:=hk▸Nat.gcd_dvd_left ..;obtain⟨d',hd'⟩:k∣d:=hk▸Nat.gcd_dvd_right ..;have eb:b/k=b':=by rw[hb',Nat.mul_div_cancel_left _ hk0]
 have ed:d/k=d':=by rw[hd',Nat.mul_div_cancel_left _ hk0]
 have hbd:Nat.Coprime b' d':=by
  have:Nat.gcd (k*b') (k*d')=k:=by rw[←hb',←hd',←hk]
  rw[Nat.gcd_mul_left]at this;exact Nat.eq_of_mul_eq_mul_left hk0 (by rw[this,Nat.mul_one])
 have hab:Nat.Coprime a b':=Nat.Coprime.coprime_dvd_right ⟨k,by rw[hb',Nat.mul_comm]⟩ h1;have hcd:Nat.Coprime c d':=Nat.Coprime.coprime_dvd_right ⟨k,by rw[hd',Nat.mul_comm]⟩ h2;rw[eb,ed]at ht;rw[eb];have q1:Nat.Coprime (a*d') b':=Nat.Coprime.mul_left hab hbd.symm;have q2:Nat.Coprime (c*b') d':=Nat.Coprime.mul_left hcd hbd
 have dx: ∀g,g∣t→g∣c*b'→g∣a*d':=fun g g1 g2=>by
  rcases ht with⟨x,y,rfl,rfl,rfl⟩|⟨x,y,rfl,rfl,h|h⟩
  ·exact(Nat.dvd_add_left g2).1 g1
  ·rw[←h];exact Nat.dvd_add g1 g2
  ·exact(Nat.dvd_add_right g1).1 (by rw[h];exact g2)
 have dy: ∀g,g∣t→g∣a*d'→g∣c*b':=fun g g1 g2=>by
  rcases ht with⟨x,y,rfl,rfl,rfl⟩|⟨x,y,rfl,rfl,h|h⟩
  ·exact(Nat.dvd_add_right g2).1 g1
  ·exact(Nat.dvd_add_right g1).1 (by rw[h];exact g2)
  ·rw[←h];exact Nat.dvd_add g1 g2
 have tb:Nat.Coprime t b':=by
  have g1:Nat.gcd t b'∣t:=Nat.gcd_dvd_left ..;have g2:Nat.gcd t b'∣b':=Nat.gcd_dvd_right ..;have g3:=dx _ g1 (Nat.dvd_trans g2 (Nat.dvd_mul_left ..));exact Nat.eq_one_of_dvd_one (by rw[←show Nat.gcd (a*d') b'=1 from q1];exact Nat.dvd_gcd g3 g2)
 have td:Nat.Coprime t d':=by
  have g1:Nat.gcd t d'∣t:=Nat.gcd_dvd_left ..;have g2:Nat.gcd t d'∣d':=Nat.gcd_dvd_right ..;have g3:=dy _ g1 (Nat.dvd_trans g2 (Nat.dvd_mul_left ..));exact Nat.eq_one_of_dvd_one (by rw[←show Nat.gcd (c*b') d'=1 from q2];exact Nat.dvd_gcd g3 g2)
 have hg0:0<Nat.gcd k t:=Nat.gcd_pos_of_pos_left _ hk0;obtain⟨k2,e1⟩:Nat.gcd k t∣k:=Nat.gcd_dvd_left ..;obtain⟨t2,e2⟩:Nat.gcd k t∣t:=Nat.gcd_dvd_right ..
 have hk2:Nat.Coprime t2 k2:=by
  have h:Nat.gcd (Nat.gcd k t*k2) (Nat.gcd k t*t2)=Nat.gcd k t:=by rw[←e1,←e2]
  rw[Nat.gcd_mul_left]at h;exact(show Nat.Coprime k2 t2 from Nat.eq_of_mul_eq_mul_left hg0 (by rw[h,Nat.mul_one])).symm
 have et:t/Nat.gcd k t=t2:=by
  generalize Nat.gcd k t=g at*;rw[e2,Nat.mul_div_cancel_left _ hg0]
 have edd:d/Nat.gcd k t=k2*d':=by
  generalize Nat.gcd k t=g at*;rw[hd',e1,Nat.mul_assoc,Nat.mul_div_cancel_left _ hg0]
 rw[et,edd];have t2d:t2∣t:=⟨Nat.gcd k t,by rw[Nat.mul_comm];exact e2⟩;exact Nat.Coprime.mul_right (Nat.Coprime.coprime_dvd_left t2d tb) (Nat.Coprime.mul_right hk2 (Nat.Coprime.coprime_dvd_left t2d td))
theorem TI{a b c d:Nat}(hb:0<b)(hd:0<d)(h1:Nat.gcd a b=1)(h2:Nat.gcd c d=1):
  Nat.gcd (a/Nat.gcd a d*(c/Nat.gcd c b)) (b/Nat.gcd c b*(d/Nat.gcd a d))=1:=by
 have hg:0<Nat.gcd a d:=Nat.gcd_pos_of_pos_right _ hd;have hh:0<Nat.gcd c b:=Nat.gcd_pos_of_pos_right _ hb;have cop: ∀{x y:Nat},0<Nat.gcd x y→Nat.Coprime (x/Nat.gcd x y) (y/Nat.gcd x y):=fun h=>Nat.coprime_div_gcd_div_gcd h
 have dv: ∀{x y:Nat},y∣x→x/y∣x:=fun{x y} ⟨k,hk⟩=>by
  subst hk;rcases Nat.eq_zero_or_pos y with rfl|hy
  ·simp
  ·rw[Nat.mul_div_cancel_left _ hy];exact Nat.dvd_mul_left ..
 have a1:a/Nat.gcd a d∣a:=dv (Nat.gcd_dvd_left ..);have c1:c/Nat.gcd c b∣c:=dv (Nat.gcd_dvd_left ..);have b1:b/Nat.gcd c b∣b:=dv (Nat.gcd_dvd_right ..);have d1:d/Nat.gcd a d∣d:=dv (Nat.gcd_dvd_right ..);have ab:Nat.Coprime (a/Nat.gcd a d) (b/Nat.gcd c b):=Nat.Coprime.coprime_dvd_left a1 (Nat.Coprime.coprime_dvd_right b1 h1);have cd:Nat.Coprime (c/Nat.gcd c b) (d/Nat.gcd a d):=Nat.Coprime.coprime_dvd_left c1 (Nat.Coprime.coprime_dvd_right d1 h2);exact Nat.Coprime.mul_left (Nat.Coprime.mul_right ab (cop hg)) (Nat.Coprime.mul_right (cop hh) cd)
theorem JW{f g:Fq}(hf:f.ok)(hg:g.ok){k t:Nat}(hk:k=Nat.gcd f.d.natAbs g.d.natAbs){s m:Int}(hs:s=f.n*((g.d.natAbs/k:Nat):Int)+g.n*((f.d.natAbs/k:Nat):Int))(ht:s.natAbs=t)(hm:m*(Nat.gcd k t:Nat)=s):
  (⟨m,((f.d.natAbs/k*(g.d.natAbs/Nat.gcd k t):Nat):Int)⟩:Fq)=red (f.n*g.d+g.n*f.d) (f.d*g.d):=by
 obtain⟨f1,f2⟩:=hf;obtain⟨g1,g2⟩:=hg;have hb:0<f.d.natAbs:=by omega
 have hd:0<g.d.natAbs:=by omega
 have hk0:0<k:=by rw[hk];exact Nat.gcd_pos_of_pos_left _ hb
 have hx:(f.n*((g.d.natAbs/k:Nat):Int)).natAbs=f.n.natAbs*(g.d.natAbs/k):=by rw[Int.natAbs_mul,Int.natAbs_natCast]
 have hy:(g.n*((f.d.natAbs/k:Nat):Int)).natAbs=g.n.natAbs*(f.d.natAbs/k):=by rw[Int.natAbs_mul,Int.natAbs_natCast]
 have hgt:0<Nat.gcd k t:=Nat.gcd_pos_of_pos_left _ hk0
 have hmt:m.natAbs=t/Nat.gcd k t:=by
  have h:=congrArg Int.natAbs hm;rw[Int.natAbs_mul,Int.natAbs_natCast,ht]at h;exact(Nat.div_eq_of_eq_mul_left hgt h.symm).symm
 have hco:=Rt hb hd f2 g2 hk (t:=t) (by
  rw[←hx,←hy];generalize f.n*((g.d.natAbs/k:Nat):Int)=x at*;generalize g.n*((f.d.natAbs/k:Nat):Int)=y at*;by_cases hxy:t=x.natAbs+y.natAbs
  ·exact .inl ⟨_,_,hxy,rfl,rfl⟩
  ·exact .inr ⟨_,_,rfl,rfl,by omega⟩)
 obtain⟨b',hb'⟩:k∣f.d.natAbs:=hk▸Nat.gcd_dvd_left ..;obtain⟨d',hd'⟩:k∣g.d.natAbs:=hk▸Nat.gcd_dvd_right ..;obtain⟨k2,e1⟩:Nat.gcd k t∣k:=Nat.gcd_dvd_left ..;have eb:f.d.natAbs/k=b':=by rw[hb',Nat.mul_div_cancel_left _ hk0]
 have ed:g.d.natAbs/k=d':=by rw[hd',Nat.mul_div_cancel_left _ hk0]
 have edd:g.d.natAbs/Nat.gcd k t=k2*d':=by
  rw[hd'];generalize Nat.gcd k t=q at*;rw[e1,Nat.mul_assoc,Nat.mul_div_cancel_left _ hgt]
 have b0:0<b':=Nat.pos_of_ne_zero fun h=>by subst h;omega
 have d0:0<d':=Nat.pos_of_ne_zero fun h=>by subst h;omega
 have k0:0<k2:=Nat.pos_of_ne_zero fun h=>by subst h;omega
 have hfd:f.d=(k:Int)*b':=by
  have:(f.d.natAbs:Int)=f.d:=by omega
  rw[←this,hb'];simp
 have hgd:g.d=(k:Int)*d':=by
  have:(g.d.natAbs:Int)=g.d:=by omega
  rw[←this,hd'];simp
 refine lB ⟨?_, ?_⟩ (Int.mul_pos f1 g1) ?_
 ·show(0:Int)<((_:Nat):Int);rw[eb,edd];exact Int.natCast_pos.2 (Nat.mul_pos b0 (Nat.mul_pos k0 d0))
 ·show Nat.gcd m.natAbs (((_:Nat):Int)).natAbs=1;rw[Int.natAbs_natCast,hmt];exact hco
 ·show m*(f.d*g.d)=(f.n*g.d+g.n*f.d)*((_:Nat):Int);rw[eb,edd];rw[eb,ed]at hs
  have hk':(k:Int)=(Nat.gcd k t:Nat)*(k2:Int):=by
   rw[←Int.natCast_mul,←e1]
  generalize((Nat.gcd k t:Nat):Int)=q at*;rw[hfd,hgd,Int.natCast_mul,Int.natCast_mul];clear eb ed edd hb' hd' hco hmt hx hy ht e1 hfd hgd;generalize(k:Int)=K at*;generalize(b':Int)=B at*;generalize(d':Int)=E at*;generalize(k2:Int)=L at*
  grind
theorem LU{f g:Fq}(hf:f.ok)(hg:g.ok){m:Int}(hm:m.natAbs=f.n.natAbs/Nat.gcd f.n.natAbs g.d.natAbs*(g.n.natAbs/Nat.gcd g.n.natAbs f.d.natAbs))(hs:m*((Nat.gcd f.n.natAbs g.d.natAbs:Nat):Int)*((Nat.gcd g.n.natAbs f.d.natAbs:Nat):Int)=f.n*g.n):
  (⟨m,((f.d.natAbs/Nat.gcd g.n.natAbs f.d.natAbs*(g.d.natAbs/Nat.gcd f.n.natAbs g.d.natAbs):Nat):Int)⟩:Fq)=red (f.n*g.n) (f.d*g.d):=by
 obtain⟨f1,f2⟩:=hf;obtain⟨g1,g2⟩:=hg;have hb:0<f.d.natAbs:=by omega
 have hd:0<g.d.natAbs:=by omega
 have hco:=TI hb hd f2 g2;have hfd:(f.d.natAbs:Int)=f.d:=by omega
 have hgd:(g.d.natAbs:Int)=g.d:=by omega
 obtain⟨d',hd'⟩:Nat.gcd f.n.natAbs g.d.natAbs∣g.d.natAbs:=Nat.gcd_dvd_right ..;obtain⟨b',hb'⟩:Nat.gcd g.n.natAbs f.d.natAbs∣f.d.natAbs:=Nat.gcd_dvd_right ..;have hp:0<Nat.gcd f.n.natAbs g.d.natAbs:=Nat.gcd_pos_of_pos_right _ hd;have hq:0<Nat.gcd g.n.natAbs f.d.natAbs:=Nat.gcd_pos_of_pos_right _ hb;generalize Nat.gcd f.n.natAbs g.d.natAbs=p at*;generalize Nat.gcd g.n.natAbs f.d.natAbs=q at*;have ed:g.d.natAbs/p=d':=by rw[hd',Nat.mul_div_cancel_left _ hp]
 have eb:f.d.natAbs/q=b':=by rw[hb',Nat.mul_div_cancel_left _ hq]
 have d0:0<d':=Nat.pos_of_ne_zero fun h=>by subst h;omega
 have b0:0<b':=Nat.pos_of_ne_zero fun h=>by subst h;omega
 refine lB ⟨?_, ?_⟩ (Int.mul_pos f1 g1) ?_
 ·show(0:Int)<((_:Nat):Int);rw[eb,ed];exact Int.natCast_pos.2 (Nat.mul_pos b0 d0)
 ·show Nat.gcd m.natAbs (((_:Nat):Int)).natAbs=1;rw[Int.natAbs_natCast,hm];exact hco
 ·show m*(f.d*g.d)=f.n*g.n*((_:Nat):Int);rw[eb,ed,←hfd,←hgd,hb',hd',←hs];simp only[Int.natCast_mul]
  grind
end Ty
end
section
namespace Ty
variable {H : FP}
structure Fb(H:FP):Prop where
 fr:Fr H
 a: ∀ds,H 152 ds=pN ds
 s: ∀ds,H 153 ds=qA ds
def uw(a:Nat):D:= .v (.int .u64 ((a:Nat):Int))
def gm(a b:Nat):Nat:=if b=0 then 0 else Nat.log2 (a*b)+1+(if a<b then 1 else 0)
theorem Sh{a b:Nat}(hb:b≠0):gm b (a%b)<gm a b:=by
 have hr:=Nat.mod_lt a (Nat.pos_of_ne_zero hb);unfold gm;rw[if_neg hb];by_cases h0:a%b=0
 ·rw[if_pos h0];omega
 ·rw[if_neg h0,if_neg (by omega)];by_cases h1:a<b
  ·rw[if_pos h1,Nat.mod_eq_of_lt h1,Nat.mul_comm];omega
  ·rw[if_neg h1]
   have h2:2*(a%b)≤a:=by
    have:=Nat.div_add_mod a b;have:1≤a/b:=(Nat.one_le_div_iff (Nat.pos_of_ne_zero hb)).2 (by omega);have:b*1≤b*(a/b):=Nat.mul_le_mul_left _ this;omega
   have h3:2*(b*(a%b))≤a*b:=by
    have:=Nat.mul_le_mul_left b h2;rw[Nat.mul_comm a b,Nat.mul_left_comm];exact this
   have h4:b*(a%b)≠0:=Nat.mul_ne_zero hb h0
   have h5:Nat.log2 (b*(a%b))+1≤Nat.log2 (a*b):=by
    rw[←Nat.log2_two_mul h4];exact(Nat.le_log2 (by omega)).2 (Nat.le_trans (Nat.log2_self_le (by omega)) h3)
   omega
theorem V0{a b:Nat}(ha:a<18446744073709551616)(hb:b<18446744073709551616):gm a b<200:=by
 unfold gm;split
 ·omega
 ·have:Nat.log2 (a*b)<128:=by
   by_cases h:a*b=0
   ·rw[h];decide
   ·refine(Nat.log2_lt h).2 ?_;have:=Nat.mul_lt_mul'' ha hb;exact Nat.lt_of_lt_of_le this (by decide)
  split<;>omega
theorem wu{z:Int}(h1:0≤z)(h2:z<18446744073709551616):IntKind.u64.wrap z=z:=iC .u64 z (by show-(0:Int)≤z;omega) h2
theorem wun{a:Nat}(h:a<18446744073709551616):IntKind.u64.wrap (a:Int)=(a:Int):=wu (by omega) (by omega)
section
variable {G : FP} {f : Fq} {a b c : Nat}
def Fq.cells(f:Fq):List D:= [iv f.n,iv f.d]
@[simp] theorem Fq.cell0:XK.run G (.cell 0 2) [.agg f.cells]=some (iv f.n):=nr rfl
@[simp] theorem Fq.fp:XK.run G (.cell 1 2) [.agg f.cells]=some (iv f.d):=nr rfl
@[simp] theorem Fq.fb:XK.run G (.pk (.fbox 2)) [.agg f.cells]=some (.lptr f.cells):=nr rfl
@[simp] theorem Fq.Lx:XK.run G (.pk (.load 2 true)) [.lptr f.cells]=some (.agg f.cells):=nr rfl
@[simp] theorem Fq.Ly:XK.run G (.pk (.load 1 false)) [.lptr f.cells]=some (iv f.n):=nr rfl
@[simp] theorem Fq.JN:XK.run G (.pk (.load 1 false)) [.lptr (f.cells.drop 0)]=some (iv f.n):=nr rfl
@[simp] theorem Fq.ld1:XK.run G (.pk (.load 1 false)) [.lptr (f.cells.drop 1)]=some (iv f.d):=nr rfl
@[simp] theorem Fq.NV:XK.run G (.pk (.load 1 false)) [.lptr f.cells.tail]=some (iv f.d):=nr rfl
@[simp] theorem Fq.bt:XK.run G .bt [.agg f.cells]=some (.agg f.cells):=nr rfl
@[simp] theorem Fq.aF:(D.agg f.cells).aF=true:=nr rfl
@[simp] theorem Fq.e0{v:Value}:XK.run G (.pk (.ext 0)) [.tup [.agg f.cells, .v v]]=some (.agg f.cells):=nr rfl
@[simp] theorem Fq.e1{v:Value}:XK.run G (.pk (.ext 1)) [.tup [.agg f.cells, .v v]]=some (.v v):=nr rfl
@[simp] theorem Fq.adM{v:Value}:(D.tup [.agg f.cells, .v v]).aF=true:=nr rfl
@[simp] theorem Fq.tag{x:X}{v:Value}:bU x (.tup [.agg f.cells, .v v])= .tup [.agg f.cells, .v v]:=nr rfl
theorem Fq.LW{n d:Int}:XK.run G .agg [iv n,iv d]=some (.agg (Fq.cells ⟨n,d⟩)):=nr rfl
def W(a b:Nat):List D:= [uw a,uw b]
@[simp] theorem W.cell0:XK.run G (.cell 0 2) [.agg (W a b)]=some (uw a):=nr rfl
@[simp] theorem W.fp:XK.run G (.cell 1 2) [.agg (W a b)]=some (uw b):=nr rfl
@[simp] theorem W.fb:XK.run G (.pk (.fbox 2)) [.agg (W a b)]=some (.lptr (W a b)):=nr rfl
@[simp] theorem W.Lx:XK.run G (.pk (.load 2 true)) [.lptr (W a b)]=some (.agg (W a b)):=nr rfl
@[simp] theorem W.bt:XK.run G .bt [.agg (W a b)]=some (.agg (W a b)):=nr rfl
@[simp] theorem W.aF:(D.agg (W a b)).aF=true:=nr rfl
@[simp] theorem W.ag6{x:X}:bU x (.agg (W a b))= .agg (W a b):=nr rfl
@[simp] theorem W.e0{v:Value}:XK.run G (.pk (.ext 0)) [.tup [.agg (W a b), .v v]]=some (.agg (W a b)):=nr rfl
@[simp] theorem W.e1{v:Value}:XK.run G (.pk (.ext 1)) [.tup [.agg (W a b), .v v]]=some (.v v):=nr rfl
@[simp] theorem W.adM{v:Value}:(D.tup [.agg (W a b), .v v]).aF=true:=nr rfl
@[simp] theorem W.tag{x:X}{v:Value}:bU x (.tup [.agg (W a b), .v v])= .tup [.agg (W a b), .v v]:=nr rfl
@[simp] theorem W.ai0:XK.run G (.pk (.aidx 2 1)) [.lptr (W a b),iv 0]=some (.lptr (W a b)):=nr rfl
@[simp] theorem W.ai1:XK.run G (.pk (.aidx 2 1)) [.lptr (W a b),iv 1]=some (.lptr ((W a b).drop 1)):=nr rfl
@[simp] theorem W.JN:XK.run G (.pk (.load 1 false)) [.lptr (W a b)]=some (uw a):=nr rfl
@[simp] theorem W.ldd:XK.run G (.pk (.load 1 false)) [.lptr ((W a b).drop 1)]=some (uw b):=nr rfl
@[simp] theorem W.NV:XK.run G (.pk (.load 1 false)) [.lptr (W a b).tail]=some (uw b):=nr rfl
@[simp] theorem W.ax0:XK.run G (.pk (.aix 2 1 false)) [.agg (W a b),iv 0]=some (uw a):=nr rfl
@[simp] theorem W.ax1:XK.run G (.pk (.aix 2 1 false)) [.agg (W a b),iv 1]=some (uw b):=nr rfl
@[simp] theorem W.mk:XK.run G .agg [uw a,uw b]=some (.agg (W a b)):=nr rfl
@[simp] theorem abf{v:Value}:XK.run G (.cell 0 1) [.v v]=some (.v v):=nr rfl
@[simp] theorem ZN{k:IntKind}{z:Int}:XK.run G (.pk .ineg) [.v (.int k z)]=some (.v (.int k (k.wrap (0-z)))):=nr rfl
@[simp] theorem uw.bt:XK.run G .bt [uw a]=some (uw a):=nr rfl
@[simp] theorem uw.eu:XK.run G .eu [uw a]=some (uw a):=nr rfl
@[simp] theorem uw.qo:XK.run G .qo [uw a]=some (uw a):=nr rfl
@[simp] theorem uw.cell:XK.run G (.cell 0 1) [uw a]=some (uw a):=nr rfl
@[simp] theorem uw.aF:(uw a).aF=true:=nr rfl
@[simp] theorem uw.aO:(uw a).aO=true:=nr rfl
@[simp] theorem uw.tag{x:X}:bU x (uw a)=uw a:=nr rfl
@[simp] theorem uw.LD:D.v (.int .u64 0)=uw 0:=nr rfl
@[simp] theorem uw.agj:D.v (.int .u64 1)=uw 1:=nr rfl
@[simp] theorem uw.agL{b:Nat}:(D.tup [uw a,uw b]).aF=true:=nr rfl
@[simp] theorem uw.ag7{x:X}{b:Nat}:bU x (.tup [uw a,uw b])= .tup [uw a,uw b]:=nr rfl
@[simp] theorem W.e1':XK.run G (.pk (.ext 1)) [.tup [.agg (W a b),uw c]]=some (uw c):=nr rfl
@[simp] theorem W.e0':XK.run G (.pk (.ext 0)) [.tup [.agg (W a b),uw c]]=some (.agg (W a b)):=nr rfl
@[simp] theorem W.agK:(D.tup [.agg (W a b),uw c]).aF=true:=nr rfl
@[simp] theorem W.ag5{x:X}:bU x (.tup [.agg (W a b),uw c])= .tup [.agg (W a b),uw c]:=nr rfl
@[simp] theorem afe:XK.run G (.pk (.ibin .and)) [uw a, .v (.int .u64 4294967295)]=some (uw (a%4294967296)):=by
 have e:bits .and .u64 (a:Int) 4294967295=((a%4294967296:Nat):Int):=by
  show IntKind.u64.wrap (((BitVec.ofInt 64 (a:Int))&&&(BitVec.ofInt 64 4294967295)).toNat:Int)=_;rw[BitVec.toNat_and,BitVec.ofInt_natCast,BitVec.toNat_ofNat,show(BitVec.ofInt 64 4294967295).toNat=2^32-1 from by decide,Nat.and_two_pow_sub_one_eq_mod,wun (by omega)];omega
 show(if true=true then some (D.v (.int .u64 (bits .and .u64 (a:Int) 4294967295)))else none).bind _=_;rw[e];rfl
@[simp] theorem afq:XK.run G (.pk (.ishift .shr)) [uw a, .v (.int .u64 32)]=some (uw (a/4294967296)):=by
 have e:(a:Int).fdiv (2^(min (32:Int).toNat IntKind.u64.bits))=((a/4294967296:Nat):Int):=by
  show(a:Int).fdiv 4294967296=_;rw[Int.fdiv_eq_ediv_of_nonneg _ (by omega)];omega
 show(if(32:Int)<0 then none else some (D.v (.int .u64 ((a:Int).fdiv (2^(min (32:Int).toNat IntKind.u64.bits)))))).bind _=_;rw[e];rfl
@[simp] theorem W.x0:XK.run G (.pk (.ext 0)) [.tup [.agg (W a b),uw c]]=some (.agg (W a b)):=nr rfl
@[simp] theorem W.x1:XK.run G (.pk (.ext 1)) [.tup [.agg (W a b),uw c]]=some (uw c):=nr rfl
theorem tdn:(a:Int).tdiv (b:Int)=((a/b:Nat):Int):=(Int.ofNat_tdiv a b).symm
theorem tmn:(a:Int).tmod (b:Int)=((a%b:Nat):Int):=(Int.ofNat_tmod a b).symm
theorem uw.quo(hb:b≠0)(ha:a<18446744073709551616):XK.run G (.pk (.ibin .quo)) [uw a,uw b]=some (uw (a/b)):=by
 unfold uw;rw[ZP,if_neg (by omega),tdn,wun (Nat.lt_of_le_of_lt (Nat.div_le_self ..) ha)]
theorem uw.rem(hb:b≠0):XK.run G (.pk (.ibin .rem)) [uw a,uw b]=some (uw (a%b)):=by
 unfold uw;rw[ZQ,if_neg (by omega),tmn]
theorem uw.mul(h:a*b<18446744073709551616):XK.run G (.pk (.ibin .mul)) [uw a,uw b]=some (uw (a*b)):=by
 unfold uw;rw[ZM,←Int.natCast_mul,wun h]
theorem uw.add(h:a+b<18446744073709551616):XK.run G (.pk (.ibin .add)) [uw a,uw b]=some (uw (a+b)):=by
 unfold uw;rw[ZH,←Int.natCast_add,wun h]
@[simp] theorem uw.eql:XK.run G (.pk (.ibin .eql)) [uw a,uw b]=some (bv (decide (a=b))):=by unfold uw;rw[ZI];congr 3;rw[Bool.eq_iff_iff];simp;omega
@[simp] theorem uw.neq:XK.run G (.pk (.ibin .neq)) [uw a,uw b]=some (bv (!decide (a=b))):=by unfold uw;rw[ZO];congr 4;rw[Bool.eq_iff_iff];simp;omega
@[simp] theorem uw.lss:XK.run G (.pk (.ibin .lss)) [uw a,uw b]=some (bv (decide (a<b))):=by unfold uw;rw[ZL];congr 3;rw[Bool.eq_iff_iff];simp
@[simp] theorem uw.gtr:XK.run G (.pk (.ibin .gtr)) [uw a,uw b]=some (bv (decide (b<a))):=by unfold uw;rw[ZJ];congr 3;rw[Bool.eq_iff_iff];simp
@[simp] theorem uw.leq:XK.run G (.pk (.ibin .leq)) [uw a,uw b]=some (bv (decide (a≤b))):=by unfold uw;rw[ZK];congr 3;rw[Bool.eq_iff_iff];simp
@[simp] theorem uw.gtm:XK.run G (.pk (.ibin .gtr)) [uw a, .v (.int .u64 9223372036854775807)]=some (bv (decide (9223372036854775807<a))):=uw.gtr (b:=9223372036854775807)
theorem W.all: ∀x,x∈W a b→x.aO=true:=fun x hx=>by
 simp[W]at hx;rcases hx with rfl|rfl<;>rfl
@[simp] theorem uw.afF:XK.run G (.pk (.ibin .gtr)) [uw a, .v (.int .u64 9223372036854775808)]=some (bv (decide (9223372036854775808<a))):=uw.gtr (b:=9223372036854775808)
theorem uw.int(h:a<9223372036854775808):XK.run G (.pk (.conv .i64)) [uw a]=some (iv a):=by
 unfold uw;rw[IZ,wr (by omega) (by omega)]
theorem uw.neg(h:a<18446744073709551616)(h0:0<a):XK.run G (.pk .ineg) [uw a]=some (uw (18446744073709551616-a)):=by
 unfold uw;rw[ZN]
 have e:IntKind.u64.wrap (0-(a:Int))=((18446744073709551616-a:Nat):Int):=by
  simp only[IntKind.wrap,IntKind.bits,IntKind.signed,Bool.false_and];simp;omega
 rw[e]
theorem uw.adH:XK.run G (.pk .ineg) [uw 0]=some (uw 0):=rfl
theorem uw.acT(h:a≤9223372036854775808)(h0:0<a):XK.run G (.pk (.conv .i64)) [uw (18446744073709551616-a)]=some (iv (-(a:Int))):=by
 unfold uw;rw[IZ]
 have e:IntKind.i64.wrap ((18446744073709551616-a:Nat):Int)= -(a:Int):=by
  simp only[IntKind.wrap,IntKind.bits,IntKind.signed,Bool.true_and,decide_eq_true_eq];split<;>rename_i h<;>simp at h⊢ <;>omega
 rw[e]
@[simp] theorem aff{p q:Bool}:XK.run G (.pk (.beq false)) [bv p,bv q]=some (bv (p==q)):=nr rfl
@[simp] theorem afg{p q:Bool}:XK.run G (.pk (.beq true)) [bv p,bv q]=some (bv (p !=q)):=nr rfl
end
theorem FM(hF:Fr H)(a b:Nat)(ha:a<18446744073709551616)(hb:b<18446744073709551616):GK H 100 [uw a,uw b]=some (uw (Nat.gcd a b)):=by
 refine af hF N2 ?_
 conv=>enter [1,3];cbv
 simp;refine cE (S:=Nat×Nat) (enc:=fun s=> [uw s.1,uw s.2]) (res:=fun s=>uw (Nat.gcd s.1 s.2)) (mes:=fun s=>gm s.1 s.2) (ok:=fun s=>s.1<18446744073709551616∧s.2<18446744073709551616) ?_ (a,b) ⟨ha,hb⟩ (by have:=V0 ha hb;show gm a b<10000;omega);rintro rec ⟨a,b⟩ ⟨ha,hb⟩ ih;simp only[]at ha hb;by_cases h:b=0
 ·subst h;simp
 ·have ih:=ih (b,a%b) ⟨hb,by have:=Nat.mod_lt a (Nat.pos_of_ne_zero h);show a%b<_;omega⟩ (Sh h);have k:=uw.rem (G:=GK H) (a:=a) h;have e:Nat.gcd b (a%b)=Nat.gcd a b:=by rw[Nat.gcd_comm a b,Nat.gcd_rec b a,Nat.gcd_comm]
  simp only[e]at ih;simp[h,k];exact ih
theorem rQ(hF:Fr H){z:Int}(h1: -9223372036854775808≤z)(h2:z<9223372036854775808):GK H 101 [iv z]=some (uw z.natAbs):=by
 refine af hF N3 ?_
 conv=>enter [1,3];cbv
 by_cases h:z<0
 ·have e:IntKind.u64.wrap (-IntKind.u64.wrap z)=(z.natAbs:Int):=by
   simp only[IntKind.wrap,IntKind.bits,IntKind.signed,Bool.false_and];simp;omega
  simp[h,e];rfl
 ·have e:IntKind.u64.wrap z=(z.natAbs:Int):=by rw[wu (by omega) (by omega)];omega
  simp[h];rw[e];rfl
theorem KP{a b:Nat}(h:a*b<18446744073709551616):(a/4294967296)*(b/4294967296)+((a/4294967296)*(b%4294967296)+(a%4294967296)*(b%4294967296)/4294967296)/4294967296+(((a/4294967296)*(b%4294967296)+(a%4294967296)*(b%4294967296)/4294967296)%4294967296+(a%4294967296)*(b/4294967296))/4294967296=0:=by
 have e:a*b=(a/4294967296)*(b/4294967296)*18446744073709551616+((a/4294967296)*(b%4294967296)+(a%4294967296)*(b/4294967296))*4294967296+(a%4294967296)*(b%4294967296):=by
  have ea:=Nat.div_add_mod a 4294967296;have eb:=Nat.div_add_mod b 4294967296;generalize a/4294967296=a1 at*;generalize a%4294967296=a0 at*;generalize b/4294967296=b1 at*;generalize b%4294967296=b0 at*;subst ea eb
  grind
 rw[e]at h;generalize(a/4294967296)*(b/4294967296)=p11 at*;generalize(a/4294967296)*(b%4294967296)=p10 at*;generalize(a%4294967296)*(b/4294967296)=p01 at*;generalize(a%4294967296)*(b%4294967296)=p00 at*;omega
theorem Es{a b:Nat}(ha:a<4294967296)(hb:b<4294967296):a*b≤18446744065119617025:=by
 have:a*b≤4294967295*4294967295:=Nat.mul_le_mul (by omega) (by omega);omega
theorem ac3(hF:Fr H)(a b:Nat)(h:a*b<18446744073709551616)(ha:a<18446744073709551616)(hb:b<18446744073709551616):GK H 151 [uw a,uw b]=some (.tup [uw 0,uw (a*b)]):=by
 refine af hF Of ?_
 conv=>enter [1,3];cbv
 have hz:=KP h;have q11:=Es (a:=a/4294967296) (b:=b/4294967296) (by omega) (by omega);have q10:=Es (a:=a/4294967296) (b:=b%4294967296) (by omega) (by omega);have q01:=Es (a:=a%4294967296) (b:=b/4294967296) (by omega) (by omega);have q00:=Es (a:=a%4294967296) (b:=b%4294967296) (by omega) (by omega);have k1:=uw.mul (G:=GK H) (a:=a%4294967296) (b:=b%4294967296) (by omega);have k2:=uw.mul (G:=GK H) (a:=a/4294967296) (b:=b%4294967296) (by omega);have k3:=uw.add (G:=GK H) (a:=a/4294967296*(b%4294967296)) (b:=a%4294967296*(b%4294967296)/4294967296) (by omega);have k4:=uw.mul (G:=GK H) (a:=a%4294967296) (b:=b/4294967296) (by omega);have k5:=uw.add (G:=GK H) (a:=(a/4294967296*(b%4294967296)+a%4294967296*(b%4294967296)/4294967296)%4294967296) (b:=a%4294967296*(b/4294967296)) (by omega);have k6:=uw.mul (G:=GK H) (a:=a/4294967296) (b:=b/4294967296) (by omega);have k7:=uw.add (G:=GK H) (a:=a/4294967296*(b/4294967296)) (b:=(a/4294967296*(b%4294967296)+a%4294967296*(b%4294967296)/4294967296)/4294967296) (by omega);have k8:=uw.add (G:=GK H) (a:=a/4294967296*(b/4294967296)+(a/4294967296*(b%4294967296)+a%4294967296*(b%4294967296)/4294967296)/4294967296) (b:=((a/4294967296*(b%4294967296)+a%4294967296*(b%4294967296)/4294967296)%4294967296+a%4294967296*(b/4294967296))/4294967296) (by omega);have k9:=uw.mul (G:=GK H) (a:=a) (b:=b) h;rw[hz]at k8;simp[k1,k2,k3,k4,k5,k6,k7,k8,k9]
@[simp] theorem uw.ae3{a b:Nat}:(D.tup [uw a,uw b]).flat=true:=nr rfl
theorem Ix(hF:Fr H)(a b:Nat)(h:a*b<18446744073709551616)(ha:a<18446744073709551616)(hb:b<18446744073709551616):GK H 102 [uw a,uw b]=some (.agg (W 0 (a*b))):=by
 refine af hF N4 ?_
 conv=>enter [1,3];cbv
 have k:XK.run (GK H) (.call false 151) [uw a,uw b]=some (.tup [uw 0,uw (a*b)]):=ah (ac3 hF a b h ha hb) rfl rfl;simp[-fu,k];exact W.all
theorem Xy(hB:Fb H)(a b:Nat)(h:a+b<18446744073709551616):XK.run (GK H) (.call false 152) [uw a,uw b,uw 0]=some (.tup [uw (a+b),uw 0]):=by
 refine ah (du ?_) rfl rfl;rw[hB.a];show(if 0≤(a:Int)∧0≤(b:Int)∧0≤((0:Nat):Int)∧((0:Nat):Int)≤1 then some (D.tup [.v (.int .u64 (((a:Int)+b+((0:Nat):Int))%fw)), .v (.int .u64 (((a:Int)+b+((0:Nat):Int))/fw))])else none)=_;rw[if_pos (by omega),show((a:Int)+b+((0:Nat):Int))%fw=((a+b:Nat):Int) by unfold fw;omega,show((a:Int)+b+((0:Nat):Int))/fw=((0:Nat):Int) by unfold fw;omega];rfl
theorem XA(hB:Fb H)(a b:Nat)(h:b≤a)(ha:a<18446744073709551616):XK.run (GK H) (.call false 153) [uw a,uw b,uw 0]=some (.tup [uw (a-b),uw 0]):=by
 refine ah (du ?_) rfl rfl;rw[hB.s];show(if(0≤(a:Int)∧0≤(b:Int)∧(b:Int)<fw)∧0≤((0:Nat):Int)∧((0:Nat):Int)≤1 then some (D.tup [.v (.int .u64 (((a:Int)+fw-b-((0:Nat):Int))%fw)), .v (.int .u64 (if(a:Int)<b+((0:Nat):Int)then 1 else 0))])else none)=_;rw[if_pos (by unfold fw;omega),if_neg (by omega),show((a:Int)+fw-b-((0:Nat):Int))%fw=((a-b:Nat):Int) by unfold fw;omega];rfl
theorem acY(hB:Fb H)(a b:Nat)(h:a+b<18446744073709551616):GK H 103 [.agg (W 0 a), .agg (W 0 b)]=some (.agg (W 0 (a+b))):=by
 refine af hB.fr N5 ?_
 conv=>enter [1,3];cbv
 have k1:=Xy hB a b h;have k2:=Xy hB 0 0 (by omega);simp[-fu,k1,k2];exact W.all
theorem ac0(hB:Fb H)(a b:Nat)(h:b≤a)(ha:a<18446744073709551616):GK H 105 [.agg (W 0 a), .agg (W 0 b)]=some (.agg (W 0 (a-b))):=by
 refine af hB.fr N7 ?_
 conv=>enter [1,3];cbv
 have k1:=XA hB a b h ha;have k2:=XA hB 0 0 (by omega) (by omega);simp[-fu,k1,k2];exact W.all
theorem acZ(hF:Fr H)(a b:Nat):GK H 104 [.agg (W 0 a), .agg (W 0 b)]=some (iv (if a<b then-1 else if b<a then 1 else 0)):=by
 refine af hF N6 ?_
 conv=>enter [1,3];cbv
 by_cases h1:a<b
 ·simp[h1]
 ·by_cases h2:b<a
  ·simp[h1,h2]
  ·simp[h1,h2]
theorem HD:ET= .lets [.mk (.pk (.ibin .eql)) [.t 2, .q (.v (.int .u64 0))]] (.ite (.t 3) (.bad 2 none) (.lets [.mk (.pk (.ibin .leq)) [.t 2, .t 0]] (.ite (.t 4) (.bad 4 none) (.lets [.mk (.pk (.ibin .eql)) [.t 0, .q (.v (.int .u64 0))]] (.ite (.t 5) (.lets [.mk (.pk (.ibin .rem)) [.t 1, .t 2]] (.lets [.mk (.pk (.ibin .quo)) [.t 1, .t 2]] (.ret (.mk .tup [.mk .bt [.t 7], .mk .bt [.t 6]])))) (sub [0,1,0,1,0,1] ET)))))):=by kernel_rfl
theorem ac4(hF:Fr H)(a d:Nat)(ha:a<18446744073709551616)(hd:d≠0):GK H 154 [uw 0,uw a,uw d]=some (.tup [uw (a/d),uw (a%d)]):=by
 refine af hF Og ?_;rw[HD];have k1:=uw.rem (G:=GK H) (a:=a) hd;have k2:=uw.quo (G:=GK H) (a:=a) hd ha;simp[hd,k1,k2]
theorem Xv(hF:Fr H)(a d:Nat)(ha:a<18446744073709551616)(hd:d≠0):GK H 106 [.agg (W 0 a),uw d]=some (.tup [.agg (W 0 (a/d)),uw (a%d)]):=by
 refine af hF N8 ?_
 conv=>enter [1,3];cbv
 have k:XK.run (GK H) (.call false 154) [uw 0,uw a,uw d]=some (.tup [uw (a/d),uw (a%d)]):=ah (ac4 hF a d ha hd) rfl rfl;have k1:=uw.rem (G:=GK H) (a:=0) hd;have k2:=uw.quo (G:=GK H) (a:=0) hd (by omega);rw[Nat.zero_mod]at k1;rw[Nat.zero_div]at k2;simp[-fu,k,k1,k2]
theorem Tk(hF:Fr H)(m:Bool)(n d:Nat)(hn:n<9223372036854775808)(hd:d<9223372036854775808):GK H 107 [bv m, .agg (W 0 n), .agg (W 0 d)]=some (.tup [.agg (Fq.cells ⟨if m then-(n:Int)else n,d⟩),iv 0]):=by
 refine af hF N9 ?_
 conv=>enter [1,3];cbv
 have k1:=uw.int (G:=GK H) (a:=d) hd;have k2:=uw.int (G:=GK H) (a:=n) hn;have hn1: ¬9223372036854775807<n:=by omega
 have hn2: ¬9223372036854775808<n:=by omega
 have hd1: ¬9223372036854775807<d:=by omega
 cases m with
 |true=>
  by_cases h0:n=0
  ·subst h0;have k3:=uw.adH (G:=GK H);have k4:=uw.int (G:=GK H) (a:=0) (by omega);simp[k1,k3,k4,hd1];exact⟨rfl,rfl⟩
  ·have k3:=uw.neg (G:=GK H) (a:=n) (by omega) (by omega);have k4:=uw.acT (G:=GK H) (a:=n) (by omega) (by omega);simp[k1,k3,k4,hn2,hd1];exact⟨rfl,rfl⟩
 |false=>
  simp[k1,k2,hn1,hd1];exact⟨rfl,rfl⟩
def Fq.rg(f:Fq):Prop:=(-9223372036854775808≤f.n∧f.n<9223372036854775808)∧(-9223372036854775808≤f.d∧f.d<9223372036854775808)
theorem l62(hF:Fr H)(f:Fq)(hr:f.rg):GK H 62 [.agg f.cells]=some (bv (decide (0<f.d)&&decide (Nat.gcd f.n.natAbs f.d.natAbs=1))):=by
 refine af hF Zs ?_
 conv=>enter [1,3];cbv
 obtain⟨⟨a1,a2⟩,a3,a4⟩:=hr;have k1:XK.run (GK H) (.call false 101) [iv f.n]=some (uw f.n.natAbs):=ah (rQ hF a1 a2) rfl rfl;have k2:XK.run (GK H) (.call false 101) [iv f.d]=some (uw f.d.natAbs):=ah (rQ hF a3 a4) rfl rfl;have k3:XK.run (GK H) (.call false 100) [uw f.n.natAbs,uw f.d.natAbs]=some (uw (Nat.gcd f.n.natAbs f.d.natAbs)):=ah (FM hF _ _ (by omega) (by omega)) rfl rfl;by_cases h:0<f.d
 ·simp[h,k1,k2,k3]
 ·simp[h]
theorem AP(hF:Fr H)(f:Fq)(hr:f.rg)(hf:f.ok):XK.run (GK H) (.call false 62) [.agg f.cells]=some (bv true):=by
 have h:=l62 hF f hr;rw[decide_eq_true hf.1,decide_eq_true hf.2]at h;exact ah h rfl rfl
theorem cJ{a b N:Nat}(h:a*b<N)(hb:0<b):a<N:=Nat.lt_of_le_of_lt (Nat.le_mul_of_pos_right _ hb) h
theorem l63(hB:Fb H)(f g:Fq)(hf:f.ok)(hg:g.ok)(h1:f.n.natAbs*g.d.natAbs+g.n.natAbs*f.d.natAbs<9223372036854775808)(h2:f.d.natAbs*g.d.natAbs<9223372036854775808):
  GK H 63 [.agg f.cells, .agg g.cells,bv (decide (g.n<0))]=some (.tup [.agg (red (f.n*g.d+g.n*f.d) (f.d*g.d)).cells,iv 0]):=by
 have hF:=hB.fr;refine af hF Zt ?_;rw[aew];have f1:=hf.1;have g1:=hg.1;have fd0:0<f.d.natAbs:=by omega
 have gd0:0<g.d.natAbs:=by omega
 have b1:f.n.natAbs<9223372036854775808:=cJ (b:=g.d.natAbs) (by omega) gd0;have b2:g.n.natAbs<9223372036854775808:=cJ (b:=f.d.natAbs) (by omega) fd0;have b3:f.d.natAbs<9223372036854775808:=cJ h2 gd0;have b4:g.d.natAbs<9223372036854775808:=cJ (b:=f.d.natAbs) (by rw[Nat.mul_comm];exact h2) fd0;have k1:XK.run (GK H) (.call false 101) [iv f.n]=some (uw f.n.natAbs):=ah (rQ hF (by omega) (by omega)) rfl rfl;have k2:XK.run (GK H) (.call false 101) [iv f.d]=some (uw f.d.natAbs):=ah (rQ hF (by omega) (by omega)) rfl rfl;have k3:XK.run (GK H) (.call false 101) [iv g.n]=some (uw g.n.natAbs):=ah (rQ hF (by omega) (by omega)) rfl rfl;have k4:XK.run (GK H) (.call false 101) [iv g.d]=some (uw g.d.natAbs):=ah (rQ hF (by omega) (by omega)) rfl rfl;have k5:XK.run (GK H) (.call false 100) [uw f.d.natAbs,uw g.d.natAbs]=some (uw (Nat.gcd f.d.natAbs g.d.natAbs)):=ah (FM hF _ _ (by omega) (by omega)) rfl rfl;generalize hk:Nat.gcd f.d.natAbs g.d.natAbs=k at k5;have hk0:0<k:=by rw[←hk];exact Nat.gcd_pos_of_pos_left _ fd0
 have hk1:k≤f.d.natAbs:=by rw[←hk];exact Nat.gcd_le_left _ fd0
 have k6:=uw.quo (G:=GK H) (a:=g.d.natAbs) (b:=k) (by omega) (by omega);have k7:=uw.quo (G:=GK H) (a:=f.d.natAbs) (b:=k) (by omega) (by omega);have c1:f.n.natAbs*(g.d.natAbs/k)≤f.n.natAbs*g.d.natAbs:=Nat.mul_le_mul_left _ (Nat.div_le_self ..);have c2:g.n.natAbs*(f.d.natAbs/k)≤g.n.natAbs*f.d.natAbs:=Nat.mul_le_mul_left _ (Nat.div_le_self ..);have k8:XK.run (GK H) (.call false 102) [uw f.n.natAbs,uw (g.d.natAbs/k)]=some (.agg (W 0 (f.n.natAbs*(g.d.natAbs/k)))):=ah (Ix hF _ _ (by omega) (by omega) (by have:=Nat.div_le_self g.d.natAbs k;omega)) rfl rfl;have k9:XK.run (GK H) (.call false 102) [uw g.n.natAbs,uw (f.d.natAbs/k)]=some (.agg (W 0 (g.n.natAbs*(f.d.natAbs/k)))):=ah (Ix hF _ _ (by omega) (by omega) (by have:=Nat.div_le_self f.d.natAbs k;omega)) rfl rfl
 have fin: ∀(m:Bool) (t:Nat) (s:Int),s=f.n*((g.d.natAbs/k:Nat):Int)+g.n*((f.d.natAbs/k:Nat):Int)→s.natAbs=t→s=(if m then-(t:Int)else t)→t<9223372036854775808→
   XK.run (GK H) (.call false 106) [.agg (W 0 t),uw k]=some (.tup [.agg (W 0 (t/k)),uw (t%k)])∧XK.run (GK H) (.call false 100) [uw k,uw (t%k)]=some (uw (Nat.gcd k t))∧
   XK.run (GK H) (.call false 106) [.agg (W 0 t),uw (Nat.gcd k t)]=some (.tup [.agg (W 0 (t/Nat.gcd k t)),uw (t%Nat.gcd k t)])∧XK.run (GK H) (.pk (.ibin .quo)) [uw g.d.natAbs,uw (Nat.gcd k t)]=some (uw (g.d.natAbs/Nat.gcd k t))∧
   XK.run (GK H) (.call false 102) [uw (f.d.natAbs/k),uw (g.d.natAbs/Nat.gcd k t)]=some (.agg (W 0 (f.d.natAbs/k*(g.d.natAbs/Nat.gcd k t))))∧
   XK.run (GK H) (.call false 107) [bv m, .agg (W 0 (t/Nat.gcd k t)), .agg (W 0 (f.d.natAbs/k*(g.d.natAbs/Nat.gcd k t)))]=some (.tup [.agg (red (f.n*g.d+g.n*f.d) (f.d*g.d)).cells,iv 0]):=fun m t s hs ht hm htl=>by
  have hg0:0<Nat.gcd k t:=Nat.gcd_pos_of_pos_left _ hk0;have hgk:Nat.gcd k t≤k:=Nat.gcd_le_left _ hk0;have d1:f.d.natAbs/k*(g.d.natAbs/Nat.gcd k t)≤f.d.natAbs*g.d.natAbs:=Nat.mul_le_mul (Nat.div_le_self ..) (Nat.div_le_self ..);have d2:=Nat.div_le_self f.d.natAbs k;have d3:=Nat.div_le_self g.d.natAbs (Nat.gcd k t);have d4:=Nat.mod_lt t hk0;have d5:=Nat.div_le_self t (Nat.gcd k t);have e1:Nat.gcd k (t%k)=Nat.gcd k t:=by rw[Nat.gcd_comm k (t%k),←Nat.gcd_rec]
  refine⟨ah (Xv hF t k (by omega) (by omega)) rfl rfl, ?_,ah (Xv hF t _ (by omega) (by omega)) rfl rfl,uw.quo (by omega) (by omega),ah (Ix hF _ _ (by omega) (by omega) (by omega)) rfl rfl, ?_⟩
  ·rw[←e1];exact ah (FM hF _ _ (by omega) (by omega)) rfl rfl
  ·have e2:=JW hf hg hk.symm hs ht (m:=if m then-((t/Nat.gcd k t:Nat):Int)else((t/Nat.gcd k t:Nat):Int)) (by
    have h3:t/Nat.gcd k t*Nat.gcd k t=t:=Nat.div_mul_cancel (Nat.gcd_dvd_right ..);have h4:((t/Nat.gcd k t:Nat):Int)*((Nat.gcd k t:Nat):Int)=(t:Int):=by rw[←Int.natCast_mul,h3]
    rw[hm];split
    ·rw[Int.neg_mul,h4]
    ·exact h4)
   rw[←e2];exact ah (Tk hF m _ _ (by omega) (by omega)) rfl rfl
 have sgn: ∀(z:Int) (p:Nat),z*(p:Int)=if z<0 then-((z.natAbs*p:Nat):Int)else((z.natAbs*p:Nat):Int):=fun z p=>by
  rw[Int.natCast_mul];split
  ·rw[show((z.natAbs:Nat):Int)= -z by omega,Int.neg_mul,Int.neg_neg]
  ·rw[show((z.natAbs:Nat):Int)=z by omega]
 have sx:=sgn f.n (g.d.natAbs/k);have sy:=sgn g.n (f.d.natAbs/k);have k10: ∀a b:Nat,a+b<9223372036854775808→XK.run (GK H) (.call false 103) [.agg (W 0 a), .agg (W 0 b)]=some (.agg (W 0 (a+b))):=fun a b h=>ah (acY hB a b (by omega)) rfl rfl;have Va: ∀a b:Nat,XK.run (GK H) (.call false 104) [.agg (W 0 a), .agg (W 0 b)]=some (iv (if a<b then-1 else if b<a then 1 else 0)):=fun a b=>ah (acZ hF a b) rfl rfl;have k12: ∀a b:Nat,b≤a→a<9223372036854775808→XK.run (GK H) (.call false 105) [.agg (W 0 a), .agg (W 0 b)]=some (.agg (W 0 (a-b))):=fun a b h h'=>ah (ac0 hB a b h (by omega)) rfl rfl;generalize f.n.natAbs*(g.d.natAbs/k)=x at*;generalize g.n.natAbs*(f.d.natAbs/k)=y at*;generalize f.n*((g.d.natAbs/k:Nat):Int)=X at*;generalize g.n*((f.d.natAbs/k:Nat):Int)=Y at*;by_cases hs:decide (f.n<0)=decide (g.n<0)
 ·obtain⟨q1,q2,q3,q4,q5,q6⟩:=fin (decide (g.n<0)) (x+y) (X+Y) rfl (by
   rw[sx,sy];by_cases h:g.n<0<;>simp only[h,decide_true,decide_false,decide_eq_true_eq,decide_eq_false_iff_not]at hs<;>simp only[hs,h,if_true,if_false]<;>omega) (by
   rw[sx,sy];by_cases h:g.n<0<;>simp only[h,decide_true,decide_false,decide_eq_true_eq,decide_eq_false_iff_not]at hs<;>simp[hs,h]<;>omega) (by omega)
  have q:=k10 x y (by omega);simp[-fu,-aZ,k1,k2,k3,k4,k5,k6,k7,k8,k9,hs,q,q1,q2,q3,q4,q5,q6]
 ·by_cases hxy:x<y
  ·obtain⟨q1,q2,q3,q4,q5,q6⟩:=fin (decide (g.n<0)) (y-x) (X+Y) rfl (by
    rw[sx,sy];by_cases h:g.n<0<;>simp only[h,decide_true,decide_false,decide_eq_true_eq,decide_eq_false_iff_not]at hs<;>simp only[h,if_true,if_false]<;>split<;>first|omega|contradiction) (by
    rw[sx,sy];by_cases h:g.n<0<;>simp[h]at hs⊢ <;>split<;>omega) (by omega)
   have q:=k12 y x (by omega) (by omega);have q0:=Va x y;rw[if_pos hxy]at q0;simp[-fu,-aZ,k1,k2,k3,k4,k5,k6,k7,k8,k9,hs,q,q0,q1,q2,q3,q4,q5,q6]
  ·obtain⟨q1,q2,q3,q4,q5,q6⟩:=fin (decide (f.n<0)) (x-y) (X+Y) rfl (by
    rw[sx,sy];by_cases h:g.n<0<;>simp only[h,decide_true,decide_false,decide_eq_true_eq,decide_eq_false_iff_not]at hs<;>simp only[h,if_true,if_false]<;>split<;>first|omega|contradiction) (by
    rw[sx,sy];by_cases h:g.n<0<;>simp[h]at hs⊢ <;>split<;>omega) (by omega)
   have q:=k12 x y (by omega) (by omega);have q0:=Va x y;rw[if_neg hxy]at q0;by_cases hyx:y<x
   ·rw[if_pos hyx]at q0;simp[-fu,-aZ,k1,k2,k3,k4,k5,k6,k7,k8,k9,hs,q,q0,q1,q2,q3,q4,q5,q6]
   ·rw[if_neg hyx]at q0;simp[-fu,-aZ,k1,k2,k3,k4,k5,k6,k7,k8,k9,hs,q,q0,q1,q2,q3,q4,q5,q6]
theorem Ao{f:Fq}(hf:f.ok)(h1:f.n.natAbs<9223372036854775808)(h2:f.d.natAbs<9223372036854775808):f.rg:=⟨by omega,by have:=hf.1;omega⟩
theorem l25(hB:Fb H)(f g:Fq)(hf:f.ok)(hg:g.ok)(h1:f.n.natAbs*g.d.natAbs+g.n.natAbs*f.d.natAbs<9223372036854775808)(h2:f.d.natAbs*g.d.natAbs<9223372036854775808):
  GK H 25 [.agg f.cells, .agg g.cells]=some (.tup [.agg (red (f.n*g.d+g.n*f.d) (f.d*g.d)).cells,iv 0]):=by
 refine af hB.fr YW ?_
 conv=>enter [1,3];cbv
 have f1:=hf.1;have g1:=hg.1;have fd0:0<f.d.natAbs:=by omega
 have gd0:0<g.d.natAbs:=by omega
 have b1:f.n.natAbs<9223372036854775808:=cJ (b:=g.d.natAbs) (by omega) gd0;have b2:g.n.natAbs<9223372036854775808:=cJ (b:=f.d.natAbs) (by omega) fd0;have b3:f.d.natAbs<9223372036854775808:=cJ h2 gd0;have b4:g.d.natAbs<9223372036854775808:=cJ (b:=f.d.natAbs) (by rw[Nat.mul_comm];exact h2) fd0;have k1:=AP hB.fr f (Ao hf b1 b3) hf;have k2:=AP hB.fr g (Ao hg b2 b4) hg;have k3:XK.run (GK H) (.call false 63) [.agg f.cells, .agg g.cells,bv (decide (g.n<0))]=some (.tup [.agg (red (f.n*g.d+g.n*f.d) (f.d*g.d)).cells,iv 0]):=ah (l63 hB f g hf hg h1 h2) rfl rfl;simp[-aZ,k1,k2,k3]
theorem XI(hF:Fr H)(n d:Int)(hn:n.natAbs<9223372036854775808)(hd0:0<d)(hd:d<9223372036854775808):GK H 244 [iv n,iv d]=some (.tup [.agg (red n d).cells,iv 0]):=by
 refine af hF OJ ?_
 conv=>enter [1,3];cbv
 have hz: ¬d=0:=by omega
 have hz2: ¬d<0:=by omega
 have k1:XK.run (GK H) (.call false 101) [iv n]=some (uw n.natAbs):=ah (rQ hF (by omega) (by omega)) rfl rfl;have k2:XK.run (GK H) (.call false 101) [iv d]=some (uw d.natAbs):=ah (rQ hF (by omega) (by omega)) rfl rfl;have k3:XK.run (GK H) (.call false 100) [uw n.natAbs,uw d.natAbs]=some (uw (Nat.gcd n.natAbs d.natAbs)):=ah (FM hF _ _ (by omega) (by omega)) rfl rfl;have hg:=su (n:=n) hd0;have q1:=Nat.div_le_self n.natAbs (Nat.gcd n.natAbs d.natAbs);have q2:=Nat.div_le_self d.natAbs (Nat.gcd n.natAbs d.natAbs);have k4:=uw.quo (G:=GK H) (a:=n.natAbs) (b:=Nat.gcd n.natAbs d.natAbs) (by omega) (by omega);have k5:=uw.quo (G:=GK H) (a:=d.natAbs) (b:=Nat.gcd n.natAbs d.natAbs) (by omega) (by omega)
 have e:(⟨if decide (n<0)=true then-((n.natAbs/Nat.gcd n.natAbs d.natAbs:Nat):Int)else((n.natAbs/Nat.gcd n.natAbs d.natAbs:Nat):Int),((d.natAbs/Nat.gcd n.natAbs d.natAbs:Nat):Int)⟩:Fq)=red n d:=by
  refine HB ?_ ?_
  ·show _=n/(Nat.gcd n.natAbs d.natAbs:Nat);have hdv:((Nat.gcd n.natAbs d.natAbs:Nat):Int)∣(n.natAbs:Int):=Int.natCast_dvd_natCast.2 (Nat.gcd_dvd_left ..);by_cases h:n<0
   ·rw[if_pos (by simpa using h),Int.natCast_ediv,←Int.neg_ediv_of_dvd hdv,show-(n.natAbs:Int)=n by omega]
   ·rw[if_neg (by simpa using h),Int.natCast_ediv,show(n.natAbs:Int)=n by omega]
  ·show((d.natAbs/Nat.gcd n.natAbs d.natAbs:Nat):Int)=d/(Nat.gcd n.natAbs d.natAbs:Nat);rw[Int.natCast_ediv];generalize((Nat.gcd n.natAbs d.natAbs:Nat):Int)=q;rw[show(d.natAbs:Int)=d by omega]
 have k6:XK.run (GK H) (.call false 107) [bv (decide (n<0)), .agg (W 0 (n.natAbs/Nat.gcd n.natAbs d.natAbs)), .agg (W 0 (d.natAbs/Nat.gcd n.natAbs d.natAbs))]=some (.tup [.agg (red n d).cells,iv 0]):=by
  rw[←e];exact ah (Tk hF _ _ _ (by omega) (by omega)) rfl rfl
 simp[-aZ,-fu,hz,hz2,k1,k2,k3,k4,k5,k6]
theorem adh(hF:Fr H)(m:Bool)(a b c d:Nat)(hb:0<b)(hd:0<d)(h1:a*c<9223372036854775808)(h2:b*d<9223372036854775808)(ha:a<9223372036854775808)(hc:c<9223372036854775808):
  GK H 265 [bv m,uw a,uw b,uw c,uw d]=some (.tup [.agg (Fq.cells ⟨if m then-((a/Nat.gcd a d*(c/Nat.gcd c b):Nat):Int)else((a/Nat.gcd a d*(c/Nat.gcd c b):Nat):Int),((b/Nat.gcd c b*(d/Nat.gcd a d):Nat):Int)⟩),iv 0]):=by
 refine af hF OS ?_
 conv=>enter [1,3];cbv
 have b3:b<9223372036854775808:=cJ h2 hd;have b4:d<9223372036854775808:=cJ (b:=b) (by rw[Nat.mul_comm];exact h2) hb;have hg:0<Nat.gcd a d:=Nat.gcd_pos_of_pos_right _ hd;have hh:0<Nat.gcd c b:=Nat.gcd_pos_of_pos_right _ hb;have k1:XK.run (GK H) (.call false 100) [uw c,uw b]=some (uw (Nat.gcd c b)):=ah (FM hF _ _ (by omega) (by omega)) rfl rfl;have k2:XK.run (GK H) (.call false 100) [uw a,uw d]=some (uw (Nat.gcd a d)):=ah (FM hF _ _ (by omega) (by omega)) rfl rfl;generalize Nat.gcd a d=g at*;generalize Nat.gcd c b=h at*;have q1:=uw.quo (G:=GK H) (a:=a) (b:=g) (by omega) (by omega);have q2:=uw.quo (G:=GK H) (a:=c) (b:=h) (by omega) (by omega);have q3:=uw.quo (G:=GK H) (a:=b) (b:=h) (by omega) (by omega);have q4:=uw.quo (G:=GK H) (a:=d) (b:=g) (by omega) (by omega);have p1:a/g*(c/h)≤a*c:=Nat.mul_le_mul (Nat.div_le_self ..) (Nat.div_le_self ..);have p2:b/h*(d/g)≤b*d:=Nat.mul_le_mul (Nat.div_le_self ..) (Nat.div_le_self ..);have s1:=Nat.div_le_self a g;have s2:=Nat.div_le_self c h;have s3:=Nat.div_le_self b h;have s4:=Nat.div_le_self d g;have k3:XK.run (GK H) (.call false 102) [uw (a/g),uw (c/h)]=some (.agg (W 0 (a/g*(c/h)))):=ah (Ix hF _ _ (by omega) (by omega) (by omega)) rfl rfl;have k4:XK.run (GK H) (.call false 102) [uw (b/h),uw (d/g)]=some (.agg (W 0 (b/h*(d/g)))):=ah (Ix hF _ _ (by omega) (by omega) (by omega)) rfl rfl;have k5:XK.run (GK H) (.call false 107) [bv m, .agg (W 0 (a/g*(c/h))), .agg (W 0 (b/h*(d/g)))]=some (.tup [.agg (Fq.cells ⟨if m then-((a/g*(c/h):Nat):Int)else((a/g*(c/h):Nat):Int),((b/h*(d/g):Nat):Int)⟩),iv 0]):=ah (Tk hF m _ _ (by omega) (by omega)) rfl rfl;simp[-aZ,-Int.natCast_mul,k1,k2,q1,q2,q3,q4,k3,k4,k5]
theorem adb(hF:Fr H)(f g:Fq)(hf:f.ok)(hg:g.ok)(h1:f.n.natAbs*g.n.natAbs<9223372036854775808)(h2:f.d.natAbs*g.d.natAbs<9223372036854775808)(b1:f.n.natAbs<9223372036854775808)(b2:g.n.natAbs<9223372036854775808):
  GK H 245 [.agg f.cells, .agg g.cells]=some (.tup [.agg (red (f.n*g.n) (f.d*g.d)).cells,iv 0]):=by
 refine af hF OL ?_
 conv=>enter [1,3];cbv
 have f1:=hf.1;have g1:=hg.1;have fd0:0<f.d.natAbs:=by omega
 have gd0:0<g.d.natAbs:=by omega
 have b3:f.d.natAbs<9223372036854775808:=cJ h2 gd0;have b4:g.d.natAbs<9223372036854775808:=cJ (b:=f.d.natAbs) (by rw[Nat.mul_comm];exact h2) fd0;have k1:=AP hF f (Ao hf b1 b3) hf;have k2:=AP hF g (Ao hg b2 b4) hg;have k3:XK.run (GK H) (.call false 101) [iv f.n]=some (uw f.n.natAbs):=ah (rQ hF (by omega) (by omega)) rfl rfl;have k4:XK.run (GK H) (.call false 101) [iv f.d]=some (uw f.d.natAbs):=ah (rQ hF (by omega) (by omega)) rfl rfl;have k5:XK.run (GK H) (.call false 101) [iv g.n]=some (uw g.n.natAbs):=ah (rQ hF (by omega) (by omega)) rfl rfl;have k6:XK.run (GK H) (.call false 101) [iv g.d]=some (uw g.d.natAbs):=ah (rQ hF (by omega) (by omega)) rfl rfl;have k7:=adh hF (decide (f.n<0) !=decide (g.n<0)) f.n.natAbs f.d.natAbs g.n.natAbs g.d.natAbs fd0 gd0 h1 h2 b1 b2
 have e:=LU hf hg (m:=if(decide (f.n<0) !=decide (g.n<0))=true then-((f.n.natAbs/Nat.gcd f.n.natAbs g.d.natAbs*(g.n.natAbs/Nat.gcd g.n.natAbs f.d.natAbs):Nat):Int)else((f.n.natAbs/Nat.gcd f.n.natAbs g.d.natAbs*(g.n.natAbs/Nat.gcd g.n.natAbs f.d.natAbs):Nat):Int)) (by split<;>omega) (by
  have d1:f.n.natAbs/Nat.gcd f.n.natAbs g.d.natAbs*Nat.gcd f.n.natAbs g.d.natAbs=f.n.natAbs:=Nat.div_mul_cancel (Nat.gcd_dvd_left ..);have d2:g.n.natAbs/Nat.gcd g.n.natAbs f.d.natAbs*Nat.gcd g.n.natAbs f.d.natAbs=g.n.natAbs:=Nat.div_mul_cancel (Nat.gcd_dvd_left ..);generalize f.n.natAbs/Nat.gcd f.n.natAbs g.d.natAbs=x at*;generalize g.n.natAbs/Nat.gcd g.n.natAbs f.d.natAbs=y at*;generalize Nat.gcd f.n.natAbs g.d.natAbs=p at*;generalize Nat.gcd g.n.natAbs f.d.natAbs=q at*;have e1:(x:Int)*p=f.n.natAbs:=by rw[←Int.natCast_mul,d1]
  have e2:(y:Int)*q=g.n.natAbs:=by rw[←Int.natCast_mul,d2]
  have e3:((x*y:Nat):Int)*p*q=(f.n.natAbs:Int)*g.n.natAbs:=by rw[←e1,←e2,Int.natCast_mul];grind
  by_cases s1:f.n<0<;>by_cases s2:g.n<0<;>simp only[s1,s2,decide_true,decide_false,bne_self_eq_false,Bool.false_eq_true,if_false,if_true,show(true !=false)=true from rfl,show(false !=true)=true from rfl]
  ·rw[e3,show(f.n.natAbs:Int)= -f.n by omega,show(g.n.natAbs:Int)= -g.n by omega,Int.neg_mul_neg]
  ·rw[Int.neg_mul,Int.neg_mul,e3,show(f.n.natAbs:Int)= -f.n by omega,show(g.n.natAbs:Int)=g.n by omega,Int.neg_mul,Int.neg_neg]
  ·rw[Int.neg_mul,Int.neg_mul,e3,show(f.n.natAbs:Int)=f.n by omega,show(g.n.natAbs:Int)= -g.n by omega,Int.mul_neg,Int.neg_neg]
  ·rw[e3,show(f.n.natAbs:Int)=f.n by omega,show(g.n.natAbs:Int)=g.n by omega])
 rw[e]at k7;have k8:XK.run (GK H) (.call false 265) [bv (decide (f.n<0) !=decide (g.n<0)),uw f.n.natAbs,uw f.d.natAbs,uw g.n.natAbs,uw g.d.natAbs]=some (.tup [.agg (red (f.n*g.n) (f.d*g.d)).cells,iv 0]):=ah k7 rfl rfl;simp[-aZ,k1,k2,k3,k4,k5,k6,k8]
end Ty
end
section
open Go.RowKit Go.Sort
namespace Ty
theorem NT(f:Nat)(h: [54,90,166,167,168,123,11].contains f=false): ∀p∈KM,p.1≠f:=fun p hp e=>by
 have hk:KM.all (fun p=> [54,90,166,167,168,123,11].contains p.1)=true:=by kernel_rfl
 have:=Tz.1 hk p hp;rw[e,h]at this;cases this
theorem W4:Fb HM where
 fr:=Nx.fr
 a ds:=by
  show dZ KM dh 152 ds=_;rw[gP (NT 152 (by decide))];rfl
 s ds:=by
  show dZ KM dh 153 ds=_;rw[gP (NT 153 (by decide))];rfl
end Ty
end
section
namespace Ty
end Ty
end
section
namespace Ty
variable {H : FP}
theorem yr{a b:Int}(hb:0<b):(red a b).n.natAbs≤a.natAbs∧(red a b).d.natAbs≤b.natAbs:=by
 have h1:= @EG a b;have h2:= @EF a b;have hg:=su (n:=a) hb;generalize Nat.gcd a.natAbs b.natAbs=g at*;generalize red a b=f at*;have e1:a.natAbs=f.n.natAbs*g:=by rw[←h1,Int.natAbs_mul];rfl
 have e2:b.natAbs=f.d.natAbs*g:=by rw[←h2,Int.natAbs_mul];rfl
 exact⟨by rw[e1];exact Nat.le_mul_of_pos_right _ hg,by rw[e2];exact Nat.le_mul_of_pos_right _ hg⟩
theorem uq{a b:Int}(hb:0<b):0<(red a b).d:=(om hb).1
theorem L7{a b c d:Int}(hb:0<b)(hd:0<d):red ((red a b).n*d+c*(red a b).d) ((red a b).d*d)=red (a*d+c*b) (b*d):=by
 have h:=kH (n:=a) hb;refine I0 (Int.mul_pos (uq hb) hd) (Int.mul_pos hb hd) ?_
 grind
theorem L8{a b c d:Int}(hb:0<b)(hd:0<d):red ((red a b).n*(red c d).n) ((red a b).d*(red c d).d)=red (a*c) (b*d):=by
 have h:=kH (n:=a) hb;have h':=kH (n:=c) hd;refine I0 (Int.mul_pos (uq hb) (uq hd)) (Int.mul_pos hb hd) ?_
 grind
theorem IS(n:Int):(⟨n,1⟩:Fq).ok:=⟨show(0:Int)<1 by decide,by simp⟩
theorem XM(hB:Fb H)(a b n:Int)(hb:0<b)(h1:a.natAbs+n.natAbs*b.natAbs<9223372036854775808)(h2:b.natAbs<9223372036854775808):GK H 279 [.agg (red a b).cells, .lptr [iv n]]=some (.tup [.agg (red (a+n*b) b).cells,iv 0]):=by
 refine af hB.fr OY ?_
 conv=>enter [1,3];cbv
 have q:=yr (a:=a) hb;have q1:n.natAbs*(red a b).d.natAbs≤n.natAbs*b.natAbs:=Nat.mul_le_mul_left _ q.2;have h:=l25 hB (red a b) ⟨n,1⟩ (om hb) (IS n) (by show(red a b).n.natAbs*1+n.natAbs*(red a b).d.natAbs<_;omega) (by show(red a b).d.natAbs*1<_;omega);have e:red ((red a b).n*1+n*(red a b).d) ((red a b).d*1)=red (a+n*b) b:=by rw[L7 hb (by decide),Int.mul_one,Int.mul_one]
 rw[show(⟨n,1⟩:Fq).n=n from rfl,show(⟨n,1⟩:Fq).d=1 from rfl,e]at h;have k:XK.run (GK H) (.call false 25) [.agg (red a b).cells, .agg [iv n,iv 1]]=some (.tup [.agg (red (a+n*b) b).cells,iv 0]):=ah h rfl rfl;simp[-aZ,k]
theorem XH(hF:Fr H)(a b n d:Int)(hb:0<b)(hd:0<d)(h1:a.natAbs*n.natAbs<9223372036854775808)(h2:b.natAbs*d.natAbs<9223372036854775808)(ha:a.natAbs<9223372036854775808)(hn:n.natAbs<9223372036854775808):
  GK H 243 [.agg (red a b).cells, .lptr [iv n], .lptr [iv d]]=some (.tup [.agg (red (a*n) (b*d)).cells,iv 0]):=by
 refine af hF OI ?_
 conv=>enter [1,3];cbv
 have hdd:d.natAbs<9223372036854775808:=cJ (b:=b.natAbs) (by rw[Nat.mul_comm];exact h2) (by omega);have k1:XK.run (GK H) (.call false 244) [iv n,iv d]=some (.tup [.agg (red n d).cells,iv 0]):=ah (XI hF n d hn hd (by omega)) rfl rfl;have q:=yr (a:=a) hb;have q':=yr (a:=n) hd;have h:=adb hF (red a b) (red n d) (om hb) (om hd) (Nat.lt_of_le_of_lt (Nat.mul_le_mul q.1 q'.1) h1) (Nat.lt_of_le_of_lt (Nat.mul_le_mul q.2 q'.2) h2) (by omega) (by omega);rw[L8 hb hd]at h;have k2:XK.run (GK H) (.call false 245) [.agg (red a b).cells, .agg (red n d).cells]=some (.tup [.agg (red (a*n) (b*d)).cells,iv 0]):=ah h rfl rfl;simp[-aZ,k1,k2]
theorem XD(hF:Fr H)(a b:Int):XK.run (GK H) (.call false 196) [iv a,iv b]=some (.clo 243 [.lptr [iv a], .lptr [iv b]]):=by
 refine ah (af hF Ov (d:= .clo 243 [.lptr [iv a], .lptr [iv b]]) ?_) rfl rfl
 kernel_rfl
theorem XJ(hF:Fr H)(a:Int):XK.run (GK H) (.call false 263) [iv a]=some (.clo 279 [.lptr [iv a]]):=by
 refine ah (af hF OR (d:= .clo 279 [.lptr [iv a]]) ?_) rfl rfl
 kernel_rfl
theorem XC(hF:Fr H)(cs:List D)(ff:Nat→Fq)(hl:cs.length<9999)(hT: ∀c∈cs,c.aF=true)(hs: ∀(i:Nat) (c:D),cs[i]?=some c→XK.run (GK H) (.ccall false) [c, .agg (ff i).cells]=some (.tup [.agg (ff (i+1)).cells,iv 0])):
  GK H 195 [.agg (ff 0).cells, .list (cs.map fun c=> [c])]=some (.tup [.agg (ff cs.length).cells,iv 0]):=by
 refine af hF Ot ?_
 conv=>enter [1,3];cbv
 have kk: ∀i,XK.run (GK H) .agg [iv (ff i).n,iv (ff i).d]=some (.agg (ff i).cells):=fun i=>Fq.LW;simp[-aZ,-fu];refine aV (n:=cs.length) (fun i=> [iv (i:Int),iv 0,iv (ff i).n,iv (ff i).d]) (.tup [.agg (ff cs.length).cells,iv 0]) (by omega) ?_;intro rec i hi ih;cases h3:cs[i]? with
 |some c=>
  have l3:=(Gz.1 h3).1;have e3:cs[i]=c:=(Gz.1 h3).2;have ih:=ih (by omega);have k1:=hs i c h3;have k2:=hT c (Lz h3);have k3:=kk i;simp[-aZ,-fu,l3,e3,k1,k2,k3,wr (z:=(i:Int)+1) (by omega) (by omega)];exact ih
 |none=>
  have l3:=List.getElem?_eq_none_iff.1 h3;have e:cs.length=i:=by omega
  have k3:=kk i;simp[-aZ,-fu,e,k3]
theorem Tn(hF:Fr H)(a:Int):XK.run (GK H) (.call false 194) [iv a]=some (bv (decide (1≤a)&&decide (a≤24))):=by
 refine ah (af hF Oq (d:=bv (decide (1≤a)&&decide (a≤24))) ?_) rfl rfl
 conv=>enter [1,3];cbv
 by_cases h:1≤a<;>simp[h]
theorem XE(hF:Fr H)(a:Int)(h1:1≤a)(h2:a≤1000):XK.run (GK H) (.call false 197) [iv a]=some (iv (2*(a-1))):=by
 refine ah (af hF Ow (d:=iv (2*(a-1))) ?_) rfl rfl
 conv=>enter [1,3];cbv
 have h: ¬a<1:=by omega
 simp[h,wr (z:=a-1) (by omega) (by omega),wr (z:=2*(a-1)) (by omega) (by omega)]
theorem ada(hB:Fb H)(s n all:Int)(hn:1≤n)(hna:n≤all)(ha:all≤24)(hs1:10000≤s)(hs2:s≤10000+(n-1)*20000):
  GK H 225 [.agg (red (s-10000) 10000).cells,iv n,iv all]=some (.tup [.agg (red (s*all-10000*n) (10000*n)).cells,iv 0]):=by
 have hF:=hB.fr;refine af hF OC ?_
 conv=>enter [1,3];cbv
 have hb:(0:Int)<10000:=by decide
 have q:=yr (a:=s-10000) hb;have hok:=om (n:=s-10000) hb;have hc:=kH (n:=s-10000) hb;have hd:=hok.1;have k1:=Tn hF all;rw[decide_eq_true (show(1:Int)≤all by omega),decide_eq_true ha]at k1;have k2:=AP hF (red (s-10000) 10000) (Ao hok (by omega) (by omega)) hok;have k3:=XE hF n hn (by omega);have k4:=XJ hF 1;have k5:=XD hF all n;have k6:=XJ hF (-1)
 have g1: ¬(red (s-10000) 10000).n<0:=fun h=>by
  have:=Int.mul_neg_of_neg_of_pos h hb;have:=Int.mul_nonneg (show 0≤s-10000 by omega) (show 0≤(red (s-10000) 10000).d by omega);omega
 have g2: ¬2*(n-1)*(red (s-10000) 10000).d<(red (s-10000) 10000).n:=fun h=>by
  have a1:2*(n-1)*(red (s-10000) 10000).d*10000<(red (s-10000) 10000).n*10000:=Int.mul_lt_mul_of_pos_right h hb;have a2:(s-10000)*(red (s-10000) 10000).d≤(n-1)*20000*(red (s-10000) 10000).d:=Int.mul_le_mul_of_nonneg_right (by omega) (by omega);have a3:2*(n-1)*(red (s-10000) 10000).d*10000=(n-1)*20000*(red (s-10000) 10000).d:=by grind
  omega
 have g3: ¬10000<(red (s-10000) 10000).d:=by omega
 have w1:IntKind.i64.wrap (2*(n-1)*(red (s-10000) 10000).d)=2*(n-1)*(red (s-10000) 10000).d:=by
  have b1:2*(n-1)*(red (s-10000) 10000).d≤2*(n-1)*10000:=Int.mul_le_mul_of_nonneg_left (by omega) (by omega);have b2:0≤2*(n-1)*(red (s-10000) 10000).d:=Int.mul_nonneg (by omega) (by omega);exact wr (by omega) (by omega)
 have sa:s*all≤s*24:=Int.mul_le_mul_of_nonneg_left (by omega) (by omega);have sa0:0≤s*all:=Int.mul_nonneg (by omega) (by omega);have hs3:s≤480000:=by omega
 have t1:XK.run (GK H) (.ccall false) [.clo 279 [.lptr [iv 1]], .agg (red (s-10000) 10000).cells]=some (.tup [.agg (red s 10000).cells,iv 0]):=by
  have h:=XM hB (s-10000) 10000 1 hb (by rw[show Int.natAbs 1*Int.natAbs 10000=10000 from rfl];omega) (by decide);rw[show s-10000+1*10000=s by omega]at h;exact(fX (by decide) (cs:= [.lptr [iv 1]]) rfl).trans (ah h rfl rfl)
 have t2:XK.run (GK H) (.ccall false) [.clo 243 [.lptr [iv all], .lptr [iv n]], .agg (red s 10000).cells]=some (.tup [.agg (red (s*all) (10000*n)).cells,iv 0]):=by
  have h:=XH hF s 10000 all n hb (by omega) (by rw[←Int.natAbs_mul];omega) (by rw[←Int.natAbs_mul];omega) (by omega) (by omega);exact(fX (by decide) (cs:= [.lptr [iv all], .lptr [iv n]]) rfl).trans (ah h rfl rfl)
 have t3:XK.run (GK H) (.ccall false) [.clo 279 [.lptr [iv (-1)]], .agg (red (s*all) (10000*n)).cells]=some (.tup [.agg (red (s*all-10000*n) (10000*n)).cells,iv 0]):=by
  have h:=XM hB (s*all) (10000*n) (-1) (by omega) (by rw[show Int.natAbs (-1)=1 from rfl];omega) (by omega);rw[show s*all+ -1*(10000*n)=s*all-10000*n by omega]at h;exact(fX (by decide) (cs:= [.lptr [iv (-1)]]) rfl).trans (ah h rfl rfl)
 have k7:=XC hF [.clo 279 [.lptr [iv 1]], .clo 243 [.lptr [iv all], .lptr [iv n]], .clo 279 [.lptr [iv (-1)]]] (fun i=>match i with|0=>red (s-10000) 10000|1=>red s 10000|2=>red (s*all) (10000*n)|_=>red (s*all-10000*n) (10000*n)) (by simp) (by intro c hc;simp only[List.mem_cons,List.not_mem_nil,or_false]at hc;rcases hc with rfl|rfl|rfl<;>rfl) (fun i c h=>by
  match i,h with
  |0,h=>cases h;exact t1
  |1,h=>cases h;exact t2
  |2,h=>cases h;exact t3)
 have k8:XK.run (GK H) (.call true 195) [.agg (red (s-10000) 10000).cells, .list [[.clo 279 [.lptr [iv 1]]],[.clo 243 [.lptr [iv all], .lptr [iv n]]],[.clo 279 [.lptr [iv (-1)]]]]]=some (.tup [.agg (red (s*all-10000*n) (10000*n)).cells,iv 0]):=ah k7 rfl rfl;have k9:XK.run (GK H) (.lit 1 3 [.v .nilFunc, .v .nilFunc, .v .nilFunc] [(0,1),(1,1),(2,1)]) [.clo 279 [.lptr [iv 1]], .clo 243 [.lptr [iv all], .lptr [iv n]], .clo 279 [.lptr [iv (-1)]]]=some (.list [[.clo 279 [.lptr [iv 1]]],[.clo 243 [.lptr [iv all], .lptr [iv n]]],[.clo 279 [.lptr [iv (-1)]]]]):=rfl;have n1: ¬n<1:=by omega
 have n2: ¬all<n:=by omega
 simp[-aZ,k1,k2,k3,k4,k5,k6,k8,k9,g1,g2,g3,n1,n2,w1]
end Ty
end
section
namespace Ty
variable {H : FP}
structure Pt where
 p:Int
 w:Int
def Pt.cells(x:Pt):List D:= [iv x.p,iv x.w]
section
variable {G : FP} {x : Pt}
@[simp] theorem Pt.cell0:XK.run G (.cell 0 2) [.agg x.cells]=some (iv x.p):=nr rfl
@[simp] theorem Pt.fp:XK.run G (.cell 1 2) [.agg x.cells]=some (iv x.w):=nr rfl
@[simp] theorem Pt.fb:XK.run G (.pk (.fbox 2)) [.agg x.cells]=some (.lptr x.cells):=nr rfl
@[simp] theorem Pt.Lx:XK.run G (.pk (.load 2 true)) [.lptr x.cells]=some (.agg x.cells):=nr rfl
@[simp] theorem Pt.Ly:XK.run G (.pk (.load 1 false)) [.lptr x.cells]=some (iv x.p):=nr rfl
@[simp] theorem Pt.JN:XK.run G (.pk (.load 1 false)) [.lptr (x.cells.drop 0)]=some (iv x.p):=nr rfl
@[simp] theorem Pt.ld1:XK.run G (.pk (.load 1 false)) [.lptr (x.cells.drop 1)]=some (iv x.w):=nr rfl
@[simp] theorem Pt.NV:XK.run G (.pk (.load 1 false)) [.lptr x.cells.tail]=some (iv x.w):=nr rfl
@[simp] theorem Pt.bt:XK.run G .bt [.agg x.cells]=some (.agg x.cells):=nr rfl
@[simp] theorem Pt.aF:(D.agg x.cells).aF=true:=nr rfl
@[simp] theorem Pt.len:x.cells.length=2:=nr rfl
theorem Pt.LW{a b:Int}:XK.run G .agg [iv a,iv b]=some (.agg (Pt.cells ⟨a,b⟩)):=nr rfl
@[simp] theorem afE{es:List (List D)}:XK.run G (.pk (.fbox 1)) [.list es]=some (.lptr [.list es]):=nr rfl
@[simp] theorem agb{es:List (List D)}:XK.run G (.pk (.load 1 false)) [.lptr [.list es]]=some (.list es):=nr rfl
end
def aS:List Int→Int
 | []=>0
 |a::r=>a+aS r
theorem jz: ∀{l:List Int},(∀x∈l,0≤x)→0≤aS l
 | [],_=>by simp[aS]
 |a::r,h=>by
  have:=h a (List.mem_cons_self ..);have:=jz (l:=r) fun x hx=>h x (Cz _ hx);simp only[aS];omega
theorem sL{B:Int}: ∀{l:List Int},(∀x∈l,x≤B)→aS l≤l.length*B
 | [],_=>by simp[aS]
 |a::r,h=>by
  have h1:=h a (List.mem_cons_self ..);have h2:=sL (l:=r) fun x hx=>h x (Cz _ hx);have e:((a::r).length:Int)*B=r.length*B+B:=by simp only[List.length_cons];rw[Int.natCast_add,Int.add_mul];simp
  rw[e];simp only[aS];omega
theorem px: ∀(l m:List Int),aS (l++m)=aS l+aS m
 | [],m=>by simp[aS]
 |a::r,m=>by simp only[List.cons_append,aS,px r m];omega
theorem Tu(hF:Fr H)(l:List Pt)(c:D)(hc:c.aF=true)(φ:Pt→Int)(B:Int)(hφ: ∀x∈l,XK.run (GK H) (.ccall false) [c, .agg x.cells]=some (iv (φ x)))(h0: ∀x∈l,0≤φ x∧φ x≤B)(hl:l.length≤4)(hB:B≤1000000000000):
  GK H 275 [.list (l.map Pt.cells),c]=some (iv (aS (l.map φ))):=by
 refine af hF OU (hn:=by simp[hc]) ?_
 conv=>enter [1,3];cbv
 simp;refine aV (n:=l.length) (fun i=> [iv (i:Int),iv (aS ((l.take i).map φ))]) (iv (aS (l.map φ))) (by omega) ?_;intro rec i hi ih;cases h3:l[i]? with
 |some x=>
  have l3:=(Gz.1 h3).1;have e3:l[i]=x:=(Gz.1 h3).2;have ih:=ih (by omega);have k:=hφ x (Lz h3);have b1:=h0 x (Lz h3);have et:l.take (i+1)=l.take i++ [x]:=by rw[List.take_add_one,h3];rfl
  have es:aS ((l.take (i+1)).map φ)=aS ((l.take i).map φ)+φ x:=by rw[et,List.map_append,px];simp[aS]
  have s0:0≤aS ((l.take i).map φ):=jz fun z hz=>by
   obtain⟨y,hy,rfl⟩:=List.mem_map.1 hz;exact(h0 y (List.mem_of_mem_take hy)).1
  have s1:aS ((l.take i).map φ)≤((l.take i).map φ).length*B:=sL fun z hz=>by
   obtain⟨y,hy,rfl⟩:=List.mem_map.1 hz;exact(h0 y (List.mem_of_mem_take hy)).2
  have s2:(((l.take i).map φ).length:Int)*B≤4*B:=Int.mul_le_mul_of_nonneg_right (by simp;omega) (by omega);rw[es]at ih;have w:=wr (z:=aS ((l.take i).map φ)+φ x) (by omega) (by omega);generalize aS ((l.take i).map φ)=acc at*;simp[l3,e3,k,w,wr (z:=(i:Int)+1) (by omega) (by omega)];exact ih
 |none=>
  have l3:=List.getElem?_eq_none_iff.1 h3;have e:l.length=i:=by omega
  have et:l.take i=l:=List.take_of_length_le (by omega);rw[et];simp[e]
theorem ade(hF:Fr H)(l:List (List Pt))(c:D)(hc:c.aF=true)(φ:List Pt→Int)(B:Int)(hφ: ∀x∈l,XK.run (GK H) (.ccall false) [c, .list (x.map Pt.cells)]=some (iv (φ x)))(h0: ∀x∈l,0≤φ x∧φ x≤B)(hl:l.length≤24)(hB:B≤1000000000000):
  GK H 260 [.list (l.map fun r=> [.list (r.map Pt.cells)]),c]=some (iv (aS (l.map φ))):=by
 refine af hF ON (hn:=by simp[hc]) ?_
 conv=>enter [1,3];cbv
 simp;refine aV (n:=l.length) (fun i=> [iv (i:Int),iv (aS ((l.take i).map φ))]) (iv (aS (l.map φ))) (by omega) ?_;intro rec i hi ih;cases h3:l[i]? with
 |some x=>
  have l3:=(Gz.1 h3).1;have e3:l[i]=x:=(Gz.1 h3).2;have ih:=ih (by omega);have k:=hφ x (Lz h3);have b1:=h0 x (Lz h3);have et:l.take (i+1)=l.take i++ [x]:=by rw[List.take_add_one,h3];rfl
  have es:aS ((l.take (i+1)).map φ)=aS ((l.take i).map φ)+φ x:=by rw[et,List.map_append,px];simp[aS]
  have s0:0≤aS ((l.take i).map φ):=jz fun z hz=>by
   obtain⟨y,hy,rfl⟩:=List.mem_map.1 hz;exact(h0 y (List.mem_of_mem_take hy)).1
  have s1:aS ((l.take i).map φ)≤((l.take i).map φ).length*B:=sL fun z hz=>by
   obtain⟨y,hy,rfl⟩:=List.mem_map.1 hz;exact(h0 y (List.mem_of_mem_take hy)).2
  have s2:(((l.take i).map φ).length:Int)*B≤24*B:=Int.mul_le_mul_of_nonneg_right (by simp;omega) (by omega);rw[es]at ih;have w:=wr (z:=aS ((l.take i).map φ)+φ x) (by omega) (by omega);generalize aS ((l.take i).map φ)=acc at*;simp[l3,e3,k,w,wr (z:=(i:Int)+1) (by omega) (by omega)];exact ih
 |none=>
  have l3:=List.getElem?_eq_none_iff.1 h3;have e:l.length=i:=by omega
  have et:l.take i=l:=List.take_of_length_le (by omega);rw[et];simp[e]
def Pt.ok(x:Pt):Prop:=(1≤x.w∧x.w≤100)∧(-10000≤x.p∧x.p≤10000)
structure qE(r:List Pt):Prop where
 ne:1≤r.length
 le:r.length≤4
 pt: ∀x∈r,x.ok
 sum:aS (r.map Pt.w)=100
theorem adj(hF:Fr H)(x:Pt):XK.run (GK H) (.ccall false) [.clo 276 [], .agg x.cells]=some (iv x.w):=by
 refine(fX (by decide) (cs:= []) rfl).trans (ah (af hF OV (d:=iv x.w) ?_) rfl rfl)
 conv=>enter [1,3];cbv
 simp
theorem Tt(hF:Fr H)(r:List Pt)(hr:qE r){fl:Bool}:XK.run (GK H) (.call fl 259) [.list (r.map Pt.cells)]=some (bv true):=by
 refine ah (af hF OM (d:=bv true) ?_) rfl (by cases fl<;>rfl)
 conv=>enter [1,3];cbv
 have h1:=hr.ne;have h2:=hr.le;have n1: ¬(r.length:Int)<1:=by omega
 have n2: ¬(4:Int)<r.length:=by omega
 have k:XK.run (GK H) (.call false 275) [.list (r.map Pt.cells), .clo 276 []]=some (iv (aS (r.map Pt.w))):=ah (Tu hF r (.clo 276 []) rfl Pt.w 100 (fun x _=>adj hF x) (fun x hx=>by have:=hr.pt x hx;unfold Pt.ok at this;omega) hr.le (by decide)) rfl rfl;rw[hr.sum]at k;simp[n1,n2];refine aV (n:=r.length) (fun i=> [iv (i:Int),bv false]) (bv true) (by omega) ?_;intro rec i hi ih;cases h3:r[i]? with
 |some x=>
  have l3:=(Gz.1 h3).1;have e3:r[i]=x:=(Gz.1 h3).2;have ih:=ih (by omega);obtain⟨⟨c1,c2⟩,c3,c4⟩:=hr.pt x (Lz h3);have d1: ¬x.w<1:=by omega
  have d2: ¬100<x.w:=by omega
  have d3: ¬x.p< -10000:=by omega
  have d4: ¬10000<x.p:=by omega
  simp[l3,e3,d1,d2,d3,d4,wr (z:=(i:Int)+1) (by omega) (by omega)];exact ih
 |none=>
  have l3:=List.getElem?_eq_none_iff.1 h3;have e:r.length=i:=by omega
  have kn:XK.run (GK H) .bt [.clo 276 []]=some (.clo 276 []):=rfl;simp[e,k,kn]
def fS(a b:Int):Int:=if a<b then 0 else if a=b then 1 else 2
theorem adl(hF:Fr H)(x q:Pt)(hq:q.ok):XK.run (GK H) (.ccall false) [.clo 278 [.lptr x.cells], .agg q.cells]=some (iv (q.w*fS x.p q.p)):=by
 refine(fX (by decide) (cs:= [.lptr x.cells]) rfl).trans (ah (af hF OX (d:=iv (q.w*fS x.p q.p)) ?_) rfl rfl)
 conv=>enter [1,3];cbv
 obtain⟨⟨c1,c2⟩,c3,c4⟩:=hq;have k:XK.run (GK H) (.call false 96) [iv x.p,iv q.p]=some (iv (cW x.p q.p)):=ah (l96 hF x.p q.p) rfl rfl;have a0:XK.run (GK H) (.pk (.aidx 3 1)) [.lptr [iv 0,iv 1,iv 2],iv 0]=some (.lptr [iv 0,iv 1,iv 2]):=rfl;have a1:XK.run (GK H) (.pk (.aidx 3 1)) [.lptr [iv 0,iv 1,iv 2],iv 1]=some (.lptr [iv 1,iv 2]):=rfl;have a2:XK.run (GK H) (.pk (.aidx 3 1)) [.lptr [iv 0,iv 1,iv 2],iv 2]=some (.lptr [iv 2]):=rfl;have w0:IntKind.i64.wrap 0=0:=rfl;unfold cW at k;unfold fS;by_cases h1:x.p<q.p
 ·simp[h1]at k⊢;simp[k,a0,w0]
 ·by_cases h2:x.p=q.p
  ·have h3: ¬q.p<q.p:=by omega
   simp[h2]at k⊢;simp[k,a1,wr (z:=q.w) (by omega) (by omega)]
  ·simp[h1,h2]at k⊢;have h3:q.p<x.p:=by omega
   simp[h3]at k;simp[k,a2,wr (z:=q.w*2) (by omega) (by omega)]
theorem Ax(a b:Int):0≤fS a b∧fS a b≤2:=by unfold fS;repeat' split<;>omega
theorem FQ{a b A B:Int}(h0:0≤a)(h1:a≤A)(h2:0≤b)(h3:b≤B):0≤a*b∧a*b≤A*B:=⟨Int.mul_nonneg h0 h2,Int.mul_le_mul h1 h3 h2 (by omega)⟩
def inner(x:Pt)(b:List Pt):Int:=aS (b.map fun q=>q.w*fS x.p q.p)
theorem aaM{b:List Pt}(φ:Pt→Int)(h: ∀q∈b,0≤φ q∧φ q≤2*q.w):0≤aS (b.map φ)∧aS (b.map φ)≤2*aS (b.map Pt.w):=by
 induction b with
 |nil=>simp[aS]
 |cons q r ih=>
  have h1:=h q (List.mem_cons_self ..);have h2:=ih fun x hx=>h x (Cz _ hx);simp only[List.map_cons,aS];omega
theorem qf{x:Pt}{b:List Pt}(hb:qE b):0≤inner x b∧inner x b≤200:=by
 have h:=aaM (b:=b) (fun q=>q.w*fS x.p q.p) fun q hq=>by
  have h1:=hb.pt q hq;have h2:=Ax x.p q.p;have:=FQ (a:=q.w) (b:=fS x.p q.p) (A:=q.w) (B:=2) (by have:=h1.1;omega) (by omega) h2.1 h2.2;show 0≤q.w*fS x.p q.p∧_;omega
 rw[hb.sum]at h;exact h
theorem adk(hF:Fr H)(x:Pt)(b:List Pt)(hx:x.ok)(hb:qE b):XK.run (GK H) (.ccall false) [.clo 277 [.lptr [.list (b.map Pt.cells)]], .agg x.cells]=some (iv (x.w*inner x b)):=by
 refine(fX (by decide) (cs:= [.lptr [.list (b.map Pt.cells)]]) rfl).trans (ah (af hF OW (d:=iv (x.w*inner x b)) ?_) rfl rfl)
 conv=>enter [1,3];cbv
 have k:XK.run (GK H) (.call false 275) [.list (b.map Pt.cells), .clo 278 [.lptr x.cells]]=some (iv (inner x b)):=ah (Tu hF b (.clo 278 [.lptr x.cells]) rfl (fun q=>q.w*fS x.p q.p) 200 (fun q hq=>adl hF x q (hb.pt q hq)) (fun q hq=>by
  have h1:=(hb.pt q hq).1;have h2:=Ax x.p q.p;have:=FQ (a:=q.w) (b:=fS x.p q.p) (A:=100) (B:=2) (by omega) (by omega) h2.1 h2.2;show 0≤q.w*fS x.p q.p∧q.w*fS x.p q.p≤200
  omega) hb.le (by decide)) rfl rfl
 have hi:=qf (x:=x) hb;have hw:=FQ (a:=x.w) (b:=inner x b) (A:=100) (B:=200) (by have:=hx.1;omega) (by have:=hx.1;omega) hi.1 hi.2;have kc:XK.run (GK H) (.clo 278) [.lptr x.cells]=some (.clo 278 [.lptr x.cells]):=rfl;simp[k,kc,wr (z:=x.w*inner x b) (by omega) (by omega)]
def dz(a b:List Pt):Int:=aS (a.map fun x=>x.w*inner x b)
theorem lW{a b:List Pt}(ha:qE a)(hb:qE b):0≤dz a b∧dz a b≤20000:=by
 have key: ∀l:List Pt,(∀x∈l,x.ok)→0≤aS (l.map fun x=>x.w*inner x b)∧aS (l.map fun x=>x.w*inner x b)≤200*aS (l.map Pt.w):=fun l=>by
  induction l with
  |nil=>intro _;simp[aS]
  |cons q r ih=>
   intro h;have h1:=(h q (List.mem_cons_self ..)).1;have h2:=ih fun x hx=>h x (Cz _ hx);have h3:=qf (x:=q) hb;have:=FQ (a:=q.w) (b:=inner q b) (A:=q.w) (B:=200) (by omega) (by omega) h3.1 h3.2;simp only[List.map_cons,aS];omega
 have h:=key a ha.pt;rw[ha.sum]at h;exact h
theorem adg(hF:Fr H)(a b:List Pt)(ha:qE a)(hb:qE b):GK H 262 [.list (a.map Pt.cells), .list (b.map Pt.cells)]=some (iv (dz a b)):=by
 refine af hF OQ ?_
 conv=>enter [1,3];cbv
 have k:XK.run (GK H) (.call false 275) [.list (a.map Pt.cells), .clo 277 [.lptr [.list (b.map Pt.cells)]]]=some (iv (dz a b)):=ah (Tu hF a (.clo 277 [.lptr [.list (b.map Pt.cells)]]) rfl (fun x=>x.w*inner x b) 20000 (fun x hx=>adk hF x b (ha.pt x hx) hb) (fun x hx=>by
  have h1:=(ha.pt x hx).1;have h3:=qf (x:=x) hb;have:=FQ (a:=x.w) (b:=inner x b) (A:=100) (B:=200) (by omega) (by omega) h3.1 h3.2;show 0≤x.w*inner x b∧x.w*inner x b≤20000
  omega) ha.le (by decide)) rfl rfl
 have kc:XK.run (GK H) (.clo 277) [.lptr [.list (b.map Pt.cells)]]=some (.clo 277 [.lptr [.list (b.map Pt.cells)]]):=rfl;simp[k,kc]
theorem adf(hF:Fr H)(a b:List Pt)(ha:qE a)(hb:qE b):XK.run (GK H) (.ccall false) [.clo 261 [.lptr [.list (a.map Pt.cells)]], .list (b.map Pt.cells)]=some (iv (dz a b)):=by
 refine(fX (by decide) (cs:= [.lptr [.list (a.map Pt.cells)]]) rfl).trans (ah (af hF OP (d:=iv (dz a b)) ?_) rfl rfl)
 conv=>enter [1,3];cbv
 have k:XK.run (GK H) (.call false 262) [.list (a.map Pt.cells), .list (b.map Pt.cells)]=some (iv (dz a b)):=ah (adg hF a b ha hb) rfl rfl;simp[k]
theorem HJ(a b:Int):fS a b+fS b a=2:=by unfold fS;repeat' split<;>omega
theorem py(c:Int): ∀(l:List Pt) (φ:Pt→Int),aS (l.map fun x=>c*φ x)=c*aS (l.map φ)
 | [],_=>by simp[aS]
 |a::r,φ=>by simp only[List.map_cons,aS,py c r φ];rw[Int.mul_add]
theorem pq: ∀(l:List Pt) (φ ψ:Pt→Int),aS (l.map fun x=>φ x+ψ x)=aS (l.map φ)+aS (l.map ψ)
 | [],_,_=>by simp[aS]
 |a::r,φ,ψ=>by simp only[List.map_cons,aS,pq r φ ψ];omega
theorem wW: ∀(a b:List Pt) (f:Pt→Pt→Int),aS (a.map fun x=>aS (b.map fun y=>f x y))=aS (b.map fun y=>aS (a.map fun x=>f x y))
 | [],b,f=>by
  simp only[List.map_nil,aS]
  induction b with
  |nil=>rfl
  |cons y r ih=>simp only[List.map_cons,aS];omega
 |x::r,b,f=>by
  simp only[List.map_cons,aS];rw[wW r b f,←pq b (fun y=>f x y) fun y=>aS (r.map fun x=>f x y)]
theorem sR(a b:List Pt):dz a b=aS (a.map fun x=>aS (b.map fun q=>x.w*(q.w*fS x.p q.p))):=by
 unfold dz inner;congr 1;refine List.map_congr_left fun x _=> ?_;rw[py x.w b fun q=>q.w*fS x.p q.p]
theorem zA{a b:List Pt}(ha:qE a)(hb:qE b):dz a b+dz b a=20000:=by
 rw[sR a b,sR b a,wW b a];rw[←pq a (fun x:Pt=>aS (b.map fun q:Pt=>x.w*(q.w*fS x.p q.p))) fun x:Pt=>aS (b.map fun q:Pt=>q.w*(x.w*fS q.p x.p))]
 have e: ∀x:Pt,aS (b.map fun q:Pt=>x.w*(q.w*fS x.p q.p))+aS (b.map fun q:Pt=>q.w*(x.w*fS q.p x.p))=200*x.w:=fun x=>by
  rw[←pq b (fun q:Pt=>x.w*(q.w*fS x.p q.p)) fun q:Pt=>q.w*(x.w*fS q.p x.p)]
  have e2:(b.map fun q:Pt=>x.w*(q.w*fS x.p q.p)+q.w*(x.w*fS q.p x.p))=b.map fun q:Pt=>(2*x.w)*q.w:=List.map_congr_left fun q _=>by
   have:=HJ x.p q.p;have h:fS q.p x.p=2-fS x.p q.p:=by omega
   rw[h];grind
  rw[e2,py (2*x.w) b Pt.w,hb.sum];omega
 rw[List.map_congr_left (g:=fun x:Pt=>200*x.w) fun x _=>e x,py 200 a Pt.w,ha.sum];rfl
theorem xm{a:List Pt}(ha:qE a):dz a a=10000:=by have:=zA ha ha;omega
def total(l:List (List Pt))(r:List Pt):Int:=aS (l.map fun o=>dz r o)
theorem w_: ∀{l:List (List Pt)} {r:List Pt},(∀x∈l,qE x)→qE r→0≤total l r∧total l r≤l.length*20000
 | [],r,_,_=>by simp[total,aS]
 |a::s,r,h,hr=>by
  have h1:=lW hr (h a (List.mem_cons_self ..));have h2:=w_ (l:=s) (fun x hx=>h x (Cz _ hx)) hr;have e:total (a::s) r=dz r a+total s r:=rfl;rw[e,List.length_cons,Int.natCast_add,Int.add_mul];omega
theorem qC: ∀{l:List (List Pt)} {r:List Pt},(∀x∈l,qE x)→r∈l→10000≤total l r∧total l r≤10000+(l.length-1)*20000
 | [],r,_,hr=>by cases hr
 |a::s,r,h,hr=>by
  have ha:=h a (List.mem_cons_self ..);have hs:=fun x hx=>h x (Cz a hx);have e:total (a::s) r=dz r a+total s r:=rfl;rw[e,List.length_cons,Int.natCast_add];rcases List.mem_cons.1 hr with rfl|hr
  ·have h2:=w_ hs ha;rw[xm ha];omega
  ·have h1:=lW (hs r hr) ha;have h2:=qC hs hr;omega
def gj(r:List Pt):List Pt:=r.map fun x=>⟨-x.p,x.w⟩
theorem yW{r:List Pt}(h:qE r):qE (gj r) where
 ne:=by unfold gj;rw[List.length_map];exact h.ne
 le:=by unfold gj;rw[List.length_map];exact h.le
 pt x hx:=by
  obtain⟨y,hy,rfl⟩:=List.mem_map.1 hx;have:=h.pt y hy;unfold Pt.ok at*;exact⟨this.1,by show-10000≤ -y.p∧ -y.p≤10000;omega⟩
 sum:=by
  have e:(gj r).map Pt.w=r.map Pt.w:=by unfold gj;rw[List.map_map];rfl
  rw[e];exact h.sum
section
variable {G : FP}
theorem kP{x y:X}{es:List (List D)}{v:Value}(h:(es.all fun c=>c.all D.aY)=true):bU (.mk .tup [.mk .own [x],y]) (.tup [.list es, .v v])=D.own (.tup [.list es, .v v]):=by
 have h:lS (.mk .tup [.mk .own [x],y]) (.tup [.list es, .v v])=true:=by
  have h1:iy (.mk .own [x]) (.list es)=true:=by
   cases es with
   |nil=>rfl
   |cons a r=>exact h
  show(iy _ _&&(iy _ _&&true))=true;rw[h1];cases y<;>rfl
 show(if _ then _ else if lS (.mk .tup [.mk .own [x],y]) (.tup [.list es, .v v])=true then _ else _)=_;rw[h];rfl
theorem BZ{size:Nat}{es:List (List D)}{c:List D}(h:es.length<65536)(hc:aQ size [c]=true):XK.run G (.app size) [.list es, .list [c]]=some (.list (es++ [c])):=by
 show(if aQ size [c]=true∧es.length+1≤aD then some (D.list (es++ [c]))else none)=_;rw[if_pos ⟨hc,by simp[aD];omega⟩]
theorem X1{n:Int}(h0:0≤n)(h1:n≤1000):XK.run G (.mks 2 [iv 0,iv 0]) [iv 0,iv n]=some (.list []):=by
 show(if(0:Int)≤0∧0≤n∧n≤aD∧n.toNat*2≤16777216∧ [iv 0,iv 0].length=2∧([iv 0,iv 0]:List D).all D.nG=true then some (D.list (List.replicate (0:Int).toNat [iv 0,iv 0]))else none)=_;rw[if_pos ⟨by omega,h0,by simp[aD];omega,by omega,rfl,rfl⟩];rfl
@[simp] theorem Fq.len{f:Fq}:f.cells.length=2:=nr rfl
theorem NW{x:Pt}:XK.run G (.lit 2 1 [iv 0,iv 0] [(0,2)]) [.agg x.cells]=some (.list [x.cells]):=rfl
theorem XR{f:Fq}:XK.run G (.lit 2 1 [iv 0,iv 0] [(0,2)]) [.agg f.cells]=some (.list [f.cells]):=rfl
theorem ZY{es:List (List D)}{i:Nat}{f g:Fq}(h:es[i]?=some g.cells):XK.run G (.setl 2 0 2) [.list es,iv (i:Int), .agg f.cells]=some (.list (es.set i f.cells)):=by
 show(if(i:Int)<0 then none else(es[(i:Int).toNat]?).bind fun c=>if(D.agg f.cells).cells.length=2∧0+2≤2∧c.length=2∧(D.agg f.cells).cells.all D.gH=true∧(D.agg f.cells).cells.all D.nG=true then some (D.list (es.set (i:Int).toNat (putAt c 0 (D.agg f.cells).cells)))else none)=_;rw[if_neg (by omega),Int.toNat_natCast,h,Oz,if_pos ⟨rfl,by omega,rfl,rfl,rfl⟩];rfl
end
theorem An{α:Type}{l:List α}{f:α→List D}(h: ∀x,(f x).all D.aY=true):((l.map f).all fun c=>c.all D.aY)=true:=by
 rw[Tz];intro c hc;obtain⟨e,_,rfl⟩:=List.mem_map.1 hc;exact h e
theorem Tp(hF:Fr H)(r:List Pt)(hr:qE r):XK.run (GK H) (.call false 223) [.list (r.map Pt.cells)]=some (.tup [.list ((gj r).map Pt.cells),iv 0]):=by
 refine ahz (af hF OB ?_) rfl
 conv=>enter [1,3];cbv
 have k:=Tt hF r hr (fl:=false);have km:=X1 (G:=GK H) (n:=r.length) (by omega) (by have:=hr.le;omega);simp[k,km];refine cE (S:=Nat) (enc:=fun i=> [iv (i:Int), .list (((gj r).take i).map Pt.cells)]) (res:=fun _=>D.own (.tup [.list ((gj r).map Pt.cells),iv 0])) (mes:=fun i=>r.length-i) (ok:=fun i=>i≤r.length) ?_ 0 (by omega) (by have:=hr.le;omega);intro rec i hi ih;have hlt:(gj r).length=r.length:=by unfold gj;rw[List.length_map]
 have hle:=hr.le;cases h3:r[i]? with
 |some x=>
  have l3:=(Gz.1 h3).1;have e3:r[i]=x:=(Gz.1 h3).2;have ih:=ih (i+1) (by omega) (by omega);obtain⟨⟨c1,c2⟩,c3,c4⟩:=hr.pt x (Lz h3);have ht:(gj r)[i]?=some ⟨-x.p,x.w⟩:=by unfold gj;rw[Dz,h3];rfl
  have et:((gj r).take (i+1)).map Pt.cells=((gj r).take i).map Pt.cells++ [Pt.cells ⟨-x.p,x.w⟩]:=by rw[List.take_add_one,ht];simp
  rw[et]at ih;have w1:IntKind.i64.wrap (-x.p)= -x.p:=wr (by omega) (by omega);have ka:XK.run (GK H) .agg [iv (-x.p),iv x.w]=some (.agg (Pt.cells ⟨-x.p,x.w⟩)):=Pt.LW;have kp:=BZ (G:=GK H) (size:=2) (es:=((gj r).take i).map Pt.cells) (c:=Pt.cells ⟨-x.p,x.w⟩) (by simp;omega) rfl;generalize((gj r).take i).map Pt.cells=acc at*;simp[-fu,l3,e3,w1,ka,NW,kp,wr (z:=(i:Int)+1) (by omega) (by omega)];exact ih
 |none=>
  have l3:=List.getElem?_eq_none_iff.1 h3;have e:r.length=i:=by omega
  have et:(gj r).take i=gj r:=List.take_of_length_le (by omega);have rO: ∀x y,bU (.mk .tup [.mk .own [x],y]) (.tup [.list ((gj r).map Pt.cells),iv 0])=D.own (.tup [.list ((gj r).map Pt.cells),iv 0]):=fun x y=>kP (An fun x=>rfl);rw[et];generalize(gj r).map Pt.cells=acc at*;have ko:XK.run (GK H) .own [.list acc]=some (.list acc):=rfl;simp[e,ko,rO]<;>rfl
def pre(l:List (List Pt))(r:List Pt):Fq:=red (total l r-10000) 10000
def BU(l:List (List Pt))(all:Int)(r:List Pt):Fq:=red (total l r*all-10000*l.length) (10000*l.length)
def BR(l:List (List Pt))(all:Int)(i:Nat):List (List D):=(l.take i).map (fun r=>(BU l all r).cells)++(l.drop i).map fun r=>(pre l r).cells
theorem LK(l:List (List Pt))(all:Int)(i:Nat):(BR l all i).length=l.length:=by simp[BR];omega
theorem LJ{l:List (List Pt)}{all:Int}{i:Nat}{r:List Pt}(h:l[i]?=some r):(BR l all i)[i]?=some (pre l r).cells:=by
 have hi:=(Gz.1 h).1;unfold BR;rw[Xz (by simp;omega),cD h];simp[Nat.min_eq_left (Nat.le_of_lt hi)]
theorem LL{l:List (List Pt)}{all:Int}{i:Nat}{r:List Pt}(h:l[i]?=some r):(BR l all i).set i (BU l all r).cells=BR l all (i+1):=by
 have hi:=(Gz.1 h).1;unfold BR;rw[List.set_append_right _ _ (by simp;omega),cD h,List.take_add_one,h];simp[Nat.min_eq_left (Nat.le_of_lt hi)]
theorem XB(hB:Fb H)(l:List (List Pt))(all:Int)(hl: ∀r∈l,qE r)(h1:1≤all)(h2:(l.length:Int)≤all)(h3:all≤24){fl:Bool}:
  XK.run (GK H) (.call fl 179) [.list (l.map fun r=> [.list (r.map Pt.cells)]),iv all]=some (.tup [.list (l.map fun r=>(BU l all r).cells),iv 0]):=by
 have hF:=hB.fr;refine ahz (af hF Oh ?_) rfl
 conv=>enter [1,3];cbv
 have k1:=Tn hF all;rw[decide_eq_true h1,decide_eq_true h3]at k1;have n1: ¬all<(l.length:Int):=by omega
 have n2: ¬(24:Int)<(l.length:Int):=by omega
 have km:=X1 (G:=GK H) (n:=l.length) (by omega) (by omega);obtain⟨R,hR⟩: ∃R,R=D.own (.tup [.list (l.map fun r=>(BU l all r).cells),iv 0]):=⟨_,rfl⟩;rw[←hR];simp[k1,n1];refine aV (n:=l.length) (fun i=> [iv (i:Int),iv 0]) R (by omega) ?_;intro rec i hi ih;cases g3:l[i]? with
 |some r=>
  have l3:=(Gz.1 g3).1;have e3:l[i]=r:=(Gz.1 g3).2;have ih:=ih (by omega);have k:=Tt hF r (hl r (Lz g3)) (fl:=false);simp[l3,e3,k,wr (z:=(i:Int)+1) (by omega) (by omega)];exact ih
 |none=>
  have l3:=List.getElem?_eq_none_iff.1 g3;have e:l.length=i:=by omega
  clear ih g3 l3 hi;subst e;simp[n2,km];refine aV (n:=l.length) (fun i=> [iv (i:Int), .list ((l.take i).map fun r=>(pre l r).cells),iv 0]) R (by omega) ?_;intro rec i hi ih;cases g3:l[i]? with
  |some r=>
   have l3:=(Gz.1 g3).1;have e3:l[i]=r:=(Gz.1 g3).2;have ih:=ih (by omega);have hr:=hl r (Lz g3);have k:XK.run (GK H) (.call true 260) [.list (l.map fun r=> [.list (r.map Pt.cells)]), .clo 261 [.lptr [.list (r.map Pt.cells)]]]=some (iv (total l r)):=ah (ade hF l (.clo 261 [.lptr [.list (r.map Pt.cells)]]) rfl (fun o=>dz r o) 20000 (fun o ho=>adf hF r o hr (hl o ho)) (fun o ho=>lW hr (hl o ho)) (by omega) (by decide)) rfl rfl;have kc:XK.run (GK H) (.clo 261) [.lptr [.list (r.map Pt.cells)]]=some (.clo 261 [.lptr [.list (r.map Pt.cells)]]):=rfl;have hm:=qC hl (Lz g3);have k2:XK.run (GK H) (.call false 244) [iv (total l r-10000),iv 10000]=some (.tup [.agg (pre l r).cells,iv 0]):=ah (XI hF (total l r-10000) 10000 (by omega) (by decide) (by decide)) rfl rfl;have w1:IntKind.i64.wrap (total l r-10000)=total l r-10000:=wr (by omega) (by omega);have et:((l.take (i+1)).map fun r=>(pre l r).cells)=((l.take i).map fun r=>(pre l r).cells)++ [(pre l r).cells]:=by rw[List.take_add_one,g3];simp
   rw[et]at ih;have kp:=BZ (G:=GK H) (size:=2) (es:=(l.take i).map fun r=>(pre l r).cells) (c:=(pre l r).cells) (by simp;omega) rfl;generalize((l.take i).map fun r=>(pre l r).cells)=acc at*;simp[-aZ,l3,e3,k,kc,w1,k2,XR,kp,wr (z:=(i:Int)+1) (by omega) (by omega)];exact ih
  |none=>
   have l3:=List.getElem?_eq_none_iff.1 g3;have e:l.length=i:=by omega
   clear ih g3 l3 hi;subst e;have e0:(l.take l.length).map (fun r=>(pre l r).cells)=BR l all 0:=by simp[BR]
   rw[e0];have hm0:=LK l all 0;obtain⟨es0,hes⟩: ∃x,x=BR l all 0:=⟨_,rfl⟩;rw[←hes]at hm0⊢;simp[hm0];have hz: [D.v (.int .i64 0),D.v (.int .i64 0),D.v (.int .i64 0),D.list es0]= [iv ((0:Nat):Int),iv 0,iv 0, .list (BR l all 0)]:=by rw[←hes];rfl
   rw[hz];refine aV (n:=l.length) (fun i=> [iv (i:Int),iv 0,iv 0, .list (BR l all i)]) R (by omega) ?_;intro rec i hi ih;cases g3:l[i]? with
   |some r=>
    have l3:=(Gz.1 g3).1;have ih:=ih (by omega);have hr:=hl r (Lz g3);have hm:=qC hl (Lz g3);have hg:=LJ (all:=all) g3;have hs:=LL (all:=all) g3;have kq:XK.run (GK H) (.call false 225) [.agg (pre l r).cells,iv (l.length:Int),iv all]=some (.tup [.agg (BU l all r).cells,iv 0]):=ah (ada hB (total l r) l.length all (by omega) h2 h3 hm.1 hm.2) rfl rfl;have Xt:=ZY (G:=GK H) (f:=BU l all r) hg;rw[hs]at Xt;generalize BR l all i=es at*;generalize BR l all (i+1)=es' at*;simp[-aZ,l3,hg,kq,Xt,wr (z:=(i:Int)+1) (by omega) (by omega)];exact ih
   |none=>
    have l3:=List.getElem?_eq_none_iff.1 g3;have e:l.length=i:=by omega
    clear ih g3 l3 hi;subst e;have em:BR l all l.length=l.map fun r=>(BU l all r).cells:=by simp[BR]
    have rO: ∀x y,bU (.mk .tup [.mk .own [x],y]) (.tup [.list (l.map fun r=>(BU l all r).cells),iv 0])=R:=fun x y=>by rw[hR];exact kP (An fun x=>rfl)
    rw[em];generalize(l.map fun r=>(BU l all r).cells)=acc at*;have ko:XK.run (GK H) .own [.list acc]=some (.list acc):=rfl;simp[ko,rO]<;>rfl
end Ty
end
section
namespace Ty
theorem aev:Um= .lets [.mk (.call false 86) [.mk .bt [.t 1]]] (.lets [.mk (.pk (.ext 1)) [.t 3]] (.lets [.mk (.pk (.ext 0)) [.t 3]] (.lets [.mk (.pk (.ibin .neq)) [.t 4, .q (iv 0)]] (.ite (.t 6) (.ret (.mk .tup [.mk .bt [.q .nil], .mk .bt [.t 4]])) (.lets [.mk (.call false 87) [.mk .bt [.t 2], .mk .bt [.t 5]]] (.lets [.mk (.pk (.ext 1)) [.t 7]] (.lets [.mk (.pk (.ext 0)) [.t 7]] (.lets [.mk (.pk (.ibin .neq)) [.t 8, .q (iv 0)]] (.ite (.t 10) (.ret (.mk .tup [.mk .bt [.q .nil], .mk .bt [.t 8]])) (.lets [.mk (.call false 88) [.mk .bt [.t 2]]] (.fC [.mk (.cell 0 4) [.mk (.pk (.ext 1)) [.t 11]]] (.lets [.mk (.pk (.ext 2)) [.t 11]] (.lets [.mk (.pk (.ext 0)) [.t 11]] (.lets [.mk (.pk (.ibin .neq)) [.t 12, .q (iv 0)]] (.ite (.t 14) (.ret (.mk .tup [.mk .bt [.q .nil], .mk .bt [.t 12]])) (.lets [.mk (.pk .llen) [.t 2]] (.loop [.q (iv 0), .q (.list [])] (.lets [.mk (.pk (.ibin .lss)) [.t 16, .t 15]] (.ite (.t 18) (.jp (.lets [.mk (.pk (.ibin .add)) [.t 16, .q (iv 1)]] (.next 0 [.t 54, .t 20])) (.fC [.mk (.cell 0 33) [.mk (.pk (.load 33 true)) [.mk (.pk (.idx 40 33)) [.t 2, .t 16]]]] (.lets [.mk (.pk (.load 33 true)) [.mk (.pk (.idx 40 33)) [.t 2, .t 16]]] (.lets [.ite (.mk (.pk (.ibin .eql)) [.mk (.cell 4 33) [.t 19], .q (uv 0)]) (.q (bv true)) (.mk (.pk (.ibin .geq)) [.t 16, .mk (.pk .llen) [.t 9]])] (.ite (.t 20) (.next 0 ([.t 20, .t 17]++cs 19 33 0 33)) (.fC [.mk .qo [.mk (.cell 0 33) [.t 19]], .mk .qo [.mk (.cell 1 33) [.t 19]], .mk (.cell 0 5) [.mk (.pk (.lkp [99,3,3] (.agg [iv 0,iv 0,iv 0,iv 0,iv 0]) false)) [.t 0, .mk .agg [.mk (.cell 0 33) [.t 19], .mk (.cell 1 33) [.t 19]]]]] (.lets [.mk (.pk (.lkp [99,3,3] (.agg [iv 0,iv 0,iv 0,iv 0,iv 0]) false)) [.t 0, .mk .agg [.mk (.cell 0 33) [.t 19], .mk (.cell 1 33) [.t 19]]]] (.lets [.mk (.call false 59) [.mk .bt [.t 19]]] (.fC [.mk (.cell 0 2) [.mk (.pk (.load 2 true)) [.mk (.pk (.fld 0)) [.mk (.pk (.idx 181 5)) [.t 9, .t 16]]]], .mk (.cell 0 2) [.mk (.pk (.load 2 true)) [.mk (.pk (.fld 2)) [.mk (.pk (.idx 181 5)) [.t 9, .t 16]]]], .mk (.cell 0 3) [.t 22], .mk .qo [.mk (.cell 2 5) [.t 21]], .mk .qo [.mk (.cell 3 5) [.t 21]], .mk (.cell 0 1) [.mk (.pk (.load 1 false)) [.mk (.pk (.fld 4)) [.mk (.pk (.idx 181 5)) [.t 9, .t 16]]]], .mk .qo [.mk (.pk (.ibin .mul)) [.q (iv 2), .mk (.pk (.ibin .sub)) [.t 13, .q (iv 1)]]]] (.lets [.mk (.pk (.load 2 true)) [.mk (.pk (.fld 0)) [.mk (.pk (.idx 181 5)) [.t 9, .t 16]]]] (.lets [.mk (.pk (.load 2 true)) [.mk (.pk (.fld 2)) [.mk (.pk (.idx 181 5)) [.t 9, .t 16]]]] (.lets [.mk (.pk (.ibin .mul)) [.q (iv 2), .mk (.pk (.ibin .sub)) [.t 13, .q (iv 1)]]] (.lets [.mk (.pk (.load 1 false)) [.mk (.pk (.fld 4)) [.mk (.pk (.idx 181 5)) [.t 9, .t 16]]]] (.jp (.lets [.mk (.app 11) [.t 17, .mk (.lit 11 1 [iv 0,iv 0,iv 0,iv 0,iv 0,iv 0,iv 0,iv 0,iv 0,iv 0,bv false] [(0,11)]) [.mk .agg [.mk (.cell 0 3) [.t 22], .mk (.cell 1 3) [.t 22], .mk (.cell 2 3) [.t 22], .t 27, .t 28, .mk (.cell 0 2) [.t 23], .mk (.cell 1 2) [.t 23], .mk (.cell 0 2) [.t 24], .mk (.cell 1 2) [.t 24], .t 25, .mk (.cell 0 1) [.t 26]]]]] (.next 0 ([.t 20, .t 29]++cs 19 33 0 33))) (.ite (.mk (.cell 6 33) [.t 19]) (.fC [.mk .qo [.mk (.cell 3 5) [.t 21]], .mk .qo [.mk (.cell 2 5) [.t 21]]] (.next 0 [.mk (.cell 3 5) [.t 21], .mk (.cell 2 5) [.t 21]])) (.next 0 [.mk (.cell 2 5) [.t 21], .mk (.cell 3 5) [.t 21]])))))))))))))))) (.ret (.mk .tup [.mk .own [.t 17], .mk .bt [.q (iv 0)]]))))))))))))))))))))):=by kernel_rfl
end Ty
end
noncomputable section
namespace Ty
variable {H : FP}
theorem Ea{G1 G:FP}(h: ∀f ds d,G1 f ds=some d→G f ds=some d){N:Nat}{t:FT}{ds:List D}{d:D}(he:ae G1 N t [] ds=some d):ae G N t [] ds=some d:=by
 obtain⟨k0,hk⟩:=fR (G:=G1) (Gk:=fun _=>G) (fun f ds d h'=>⟨0,fun _ _=>h f ds d h'⟩) (Lk:=fun _=> []) t (fun j f hf=>by simp at hf) he;exact hk k0 (Nat.le_refl _)
def Ct(lv dn rk dc:Int):List D:= [uv lv,uv dn,uv rk,uv dc]
section
variable {G : FP} {lv dn rk dc : Int}
@[simp] theorem Ct.fb:XK.run G (.pk (.fbox 4)) [.agg (Ct lv dn rk dc)]=some (.lptr (Ct lv dn rk dc)):=nr rfl
@[simp] theorem Ct.Lx:XK.run G (.pk (.load 4 true)) [.lptr (Ct lv dn rk dc)]=some (.agg (Ct lv dn rk dc)):=nr rfl
@[simp] theorem Ct.bt:XK.run G .bt [.agg (Ct lv dn rk dc)]=some (.agg (Ct lv dn rk dc)):=nr rfl
@[simp] theorem Ct.agM:XK.run G .bt [.lptr (Ct lv dn rk dc)]=some (.lptr (Ct lv dn rk dc)):=nr rfl
@[simp] theorem Ct.Ly:XK.run G (.pk (.load 1 false)) [.lptr (Ct lv dn rk dc)]=some (uv lv):=nr rfl
@[simp] theorem Ct.JN:XK.run G (.pk (.load 1 false)) [.lptr ((Ct lv dn rk dc).drop 0)]=some (uv lv):=nr rfl
@[simp] theorem Ct.ld1:XK.run G (.pk (.load 1 false)) [.lptr ((Ct lv dn rk dc).drop 1)]=some (uv dn):=nr rfl
@[simp] theorem Ct.NV:XK.run G (.pk (.load 1 false)) [.lptr (Ct lv dn rk dc).tail]=some (uv dn):=nr rfl
@[simp] theorem Ct.Tx:XK.run G (.pk (.load 1 false)) [.lptr ((Ct lv dn rk dc).drop 2)]=some (uv rk):=nr rfl
@[simp] theorem Ct.ld3:XK.run G (.pk (.load 1 false)) [.lptr ((Ct lv dn rk dc).drop 3)]=some (uv dc):=nr rfl
@[simp] theorem Ct.VT{ks:List Nat}{ys:List D}:aa ks (Ct lv dn rk dc) ys=aa ks [uv lv,uv dn,uv rk,uv dc] ys:=nr rfl
@[simp] theorem Ct.aF:(D.agg (Ct lv dn rk dc)).aF=true:=nr rfl
end
def zU(lv dn rk dc:Int):Bool:=(decide (lv=0)&&(decide (dn=0)&&(decide (rk=0)&&decide (dc=0))))||(decide (1≤lv)&&decide (lv≤7)&&decide (dn≤4)&&decide (rk≤2)&&decide (dc≤3))
theorem XN(hF:Fr H)(lv dn rk dc:Int):XK.run (GK H) (.call false 286) [.agg (Ct lv dn rk dc)]=some (bv (zU lv dn rk dc)):=by
 refine ah (af hF O8 (d:=bv (zU lv dn rk dc)) ?_) rfl rfl
 conv=>enter [1,3];cbv
 unfold zU;by_cases h0:lv=0∧dn=0∧rk=0∧dc=0
 ·obtain⟨rfl,rfl,rfl,rfl⟩:=h0;simp
 ·have e:(decide (lv=0)&&(decide (dn=0)&&(decide (rk=0)&&decide (dc=0))))=false:=by
   rw[Bool.eq_false_iff];intro h;simp at h;exact h0 h
  rw[e];by_cases h1:1≤lv<;>by_cases h2:lv≤7<;>by_cases h3:dn≤4<;>by_cases h4:rk≤2<;>simp[h1,h2,h3,h4,e]
def uS(rk i:Int)(v:Bool):Int:=if rk=0 then(if v then 100 else 50)else if i=0 then(if v then 200 else 100)else if i<3 then(if v then 300 else 200)else 300
theorem abO(hF:Fr H)(lv dn rk dc i:Int)(v:Bool):GK H 288 [iv i, .lptr (Ct lv dn rk dc), .lptr [iv (if v then 1 else 0)]]=some (iv (uS rk i v)):=by
 refine af hF O_ ?_
 conv=>enter [1,3];cbv
 unfold uS;have a: ∀x y:Int,XK.run (GK H) (.pk (.aix 2 1 false)) [.agg [iv x,iv y],iv 1]=some (iv y):=fun x y=>rfl;have b: ∀x y:Int,XK.run (GK H) (.pk (.aix 2 1 false)) [.agg [iv x,iv y],iv 0]=some (iv x):=fun x y=>rfl;by_cases h:rk=0
 ·cases v<;>simp[h,a,b]
 ·by_cases h1:i=0
  ·cases v<;>simp[h,h1,a,b]
  ·by_cases h2:i<3
   ·cases v<;>simp[h,h1,h2,a,b]
   ·cases v<;>simp[h,h1,h2]
def G3:FP:=fun f ds=>if f=287 then(match ds with
  | [.v (.bool v)]=>some (iv (if v then 1 else 0))
  |_=>none)
 else if f=288 then(match ds with
  | [.v (.int .i64 i), .lptr [.v (.int .u8 _), .v (.int .u8 _), .v (.int .u8 rk), .v (.int .u8 _)], .lptr [.v (.int .i64 w)]]=>if w=1 then some (iv (uS rk i true))else if w=0 then some (iv (uS rk i false))else none
  |_=>none)
 else none
theorem Np(hF:Fr H): ∀f ds d,G3 f ds=some d→GK H f ds=some d:=fun f ds d h=>by
 unfold G3 at h;split at h
 ·rename_i hf;subst hf;split at h
  ·cases h;rename_i v;exact af hF O9 (by(conv=>enter [1,3];cbv);cases v<;>simp)
  ·cases h
 ·split at h
  ·rename_i hf;subst hf;split at h
   ·rename_i i lv dn rk dc w
    have key: ∀v:Bool,GK H 288 [iv i, .lptr (Ct lv dn rk dc), .lptr [iv (if v then 1 else 0)]]=some (iv (uS rk i v)):=fun v=>by
     exact abO hF lv dn rk dc i v
    split at h
    ·rename_i hw;cases h;subst hw;exact key true
    ·split at h
     ·rename_i hw;cases h;subst hw;exact key false
     ·cases h
   ·cases h
  ·cases h
def inB:Option D→Bool
 |some (.v (.int .i64 z))=>decide (-10000≤z)&&decide (z≤10000)
 |_=>false
theorem H6{o:Option D}(h:inB o=true): ∃z,o=some (iv z)∧ -10000≤z∧z≤10000:=by
 unfold inB at h;split at h
 ·rename_i z;simp at h;exact⟨z,rfl,h.1,h.2⟩
 ·cases h
def Ng(dc:Int):Bool:= [1,2,3,4,5,6,7].all fun lv=> [0,1,2,3,4].all fun dn=> [0,1,2].all fun rk=> [0,1,2,3,4,5,6].all fun ov=> [false,true].all fun v=>
 inB (kf G3 10000 Br [] 3 [bv v,iv ov, .agg (Ct lv dn rk dc)])
def Nf(lv dn dc:Int):Bool:= [0,1,2].all fun rk=> [1,2,3,4,5,6,7,8,9,10,11,12,13].all fun un=> [false,true].all fun v=>
 inB (kf G3 10000 Bq [] 3 [bv v,iv un, .agg (Ct lv dn rk dc)])
theorem G7(dc:Int):Ng dc=true:=by kernel_rfl
theorem G6(lv dn dc:Int):Nf lv dn dc=true:=by kernel_rfl
theorem adq(hF:Fr H){lv dn rk:Int}(dc:Int){ov:Int}(v:Bool)(h1:1≤lv∧lv≤7)(h2:0≤dn∧dn≤4)(h3:0≤rk∧rk≤2)(h4:0≤ov∧ov≤6): ∃z,XK.run (GK H) (.call false 283) [.agg (Ct lv dn rk dc),iv ov,bv v]=some (iv z)∧ -10000≤z∧z≤10000:=by
 have h:=G7 dc;unfold Ng at h;rw[Tz]at h;have h:=h lv (by simp;omega);rw[Tz]at h;have h:=h dn (by simp;omega);rw[Tz]at h;have h:=h rk (by simp;omega);rw[Tz]at h;have h:=h ov (by simp;omega);rw[Tz]at h;have h:=h v (by cases v<;>simp);obtain⟨z,h5,h6⟩:=H6 h;refine⟨z, ?_,h6⟩;have e:=Eo G3 10000 Br [] [.agg (Ct lv dn rk dc),iv ov,bv v];rw[show kf G3 10000 Br [] [D.agg (Ct lv dn rk dc),iv ov,bv v].length [D.agg (Ct lv dn rk dc),iv ov,bv v].reverse=some (iv z)from h5,n5]at e;exact ah (af hF O7 (Ea (Np hF) e.symm)) rfl rfl
theorem adp(hF:Fr H)(lv dn:Int){rk:Int}(dc:Int){un:Int}(v:Bool)(h3:0≤rk∧rk≤2)(h4:1≤un∧un≤13): ∃z,XK.run (GK H) (.call false 282) [.agg (Ct lv dn rk dc),iv un,bv v]=some (iv z)∧ -10000≤z∧z≤10000:=by
 have h:=G6 lv dn dc;unfold Nf at h;rw[Tz]at h;have h:=h rk (by simp;omega);rw[Tz]at h;have h:=h un (by simp;omega);rw[Tz]at h;have h:=h v (by cases v<;>simp);obtain⟨z,h5,h6⟩:=H6 h;refine⟨z, ?_,h6⟩;have e:=Eo G3 10000 Bq [] [.agg (Ct lv dn rk dc),iv un,bv v];rw[show kf G3 10000 Bq [] [D.agg (Ct lv dn rk dc),iv un,bv v].length [D.agg (Ct lv dn rk dc),iv un,bv v].reverse=some (iv z)from h5,n5]at e;exact ah (af hF O6 (Ea (Np hF) e.symm)) rfl rfl
structure Rs(lv dn rk dc tr:Int):Prop where
 ok:zU lv dn rk dc=true
 l0:0≤lv
 d0:0≤dn
 r0:0≤rk
 c0:0≤dc
 t0:0≤tr
 t1:tr≤13
 z:lv=0→tr=0
theorem Rs.Vd{lv dn rk dc tr:Int}(h:Rs lv dn rk dc tr)(hl:lv≠0):(1≤lv∧lv≤7)∧(0≤dn∧dn≤4)∧(0≤rk∧rk≤2)∧0≤dc∧dc≤3:=by
 have h1:=h.ok;simp[zU,hl]at h1;have:=h.d0;have:=h.r0;have:=h.c0;omega
theorem ado(hF:Fr H){lv dn rk dc tr:Int}(h:Rs lv dn rk dc tr)(hl:lv≠0):XK.run (GK H) (.call false 281) [.agg (Ct lv dn rk dc)]=some (iv (6+lv)):=by
 refine ah (af hF O0 (d:=iv (6+lv)) ?_) rfl rfl
 conv=>enter [1,3];cbv
 have k:=XN hF lv dn rk dc;rw[h.ok]at k;have h2:=h.Vd hl;simp[k,hl,wr (z:=lv) (by omega) (by omega),wr (z:=6+lv) (by omega) (by omega)]
theorem adm(hF:Fr H){lv dn rk dc tr:Int}(h:Rs lv dn rk dc tr):XK.run (GK H) (.call false 280) [.agg (Ct lv dn rk dc),iv tr]=some (bv true):=by
 refine ah (af hF OZ (d:=bv true) ?_) rfl rfl
 conv=>enter [1,3];cbv
 have k:=XN hF lv dn rk dc;rw[h.ok]at k;have a1: ¬tr<0:=by have:=h.t0;omega
 have a2: ¬13<tr:=by have:=h.t1;omega
 by_cases hl:lv=0
 ·subst hl;simp[k,a1,a2,h.z rfl]
 ·have a3:0<lv:=by have:=h.l0;omega
  simp[k,a1,a2,a3]
theorem XL(hF:Fr H){lv dn rk dc tr:Int}(h:Rs lv dn rk dc tr)(v:Bool): ∃z,XK.run (GK H) (.call false 264) [.agg (Ct lv dn rk dc),iv tr,bv v]=some (.tup [iv z,iv 0])∧ -10000≤z∧z≤10000:=by
 have k1:=adm hF h;by_cases hl:lv=0
 ·refine⟨0,ah (af hF Ew (d:= .tup [iv 0,iv 0]) ?_) rfl rfl,by omega,by omega⟩
  conv=>enter [1,3];cbv
  subst hl;simp[k1]
 ·have k2:=ado hF h hl;obtain⟨b1,b2,b3,b4,b5⟩:=h.Vd hl;have t0:=h.t0;have t1:=h.t1;by_cases hm:tr<6+lv
  ·obtain⟨z,k3,z1,z2⟩:=adp hF lv dn dc (un:=6+lv-tr) v b3 (by omega);refine⟨-z,ah (af hF Ew (d:= .tup [iv (-z),iv 0]) ?_) rfl rfl,by omega,by omega⟩
   conv=>enter [1,3];cbv
   simp[k1,k2,hl,hm,k3,wr (z:=6+lv-tr) (by omega) (by omega),wr (z:= -z) (by omega) (by omega)]
  ·obtain⟨z,k3,z1,z2⟩:=adq hF (lv:=lv) (dn:=dn) (rk:=rk) dc (ov:=tr-(6+lv)) v b1 b2 b3 (by omega);refine⟨z,ah (af hF Ew (d:= .tup [iv z,iv 0]) ?_) rfl rfl,by omega,by omega⟩
   conv=>enter [1,3];cbv
   simp[k1,k2,hl,hm,k3,wr (z:=tr-(6+lv)) (by omega) (by omega)]
def aaB(vul dc:Int):Bool:=if dc%2=0 then decide (vul%2=1)else decide (vul/2%2=1)
theorem adi(hF:Fr H){vul dc:Int}(h1:0≤vul∧vul≤3)(h2:0≤dc∧dc≤3): ∃b,XK.run (GK H) (.call false 274) [uv vul,uv dc]=some (bv b):=by
 have c1:vul=0∨vul=1∨vul=2∨vul=3:=by omega
 have c2:dc=0∨dc=1∨dc=2∨dc=3:=by omega
 have hb:sn (GK H) 10000 Jn [] [uv vul,uv dc]=some (bv (aaB vul dc)):=by
  rcases c1 with rfl|rfl|rfl|rfl<;>rcases c2 with rfl|rfl|rfl|rfl<;>kernel_rfl
 rw[n5]at hb;exact⟨aaB vul dc,ah (af hF OT hb) rfl rfl⟩
def ow(H:FP)(o:Ou)(vul:Int):Int:=match GK H 258 [.agg (Ct o.lv o.dn o.rk o.dc),iv o.tr,uv vul]with
 |some (.tup [.v (.int .i64 z),_])=>z
 |_=>0
theorem Ts(hF:Fr H){o:Ou}(h:Rs o.lv o.dn o.rk o.dc o.tr){vul:Int}(hv:0≤vul∧vul≤3):XK.run (GK H) (.call false 258) [.agg (Ct o.lv o.dn o.rk o.dc),iv o.tr,uv vul]=some (.tup [iv (ow H o vul),iv 0])∧ -10000≤ow H o vul∧ow H o vul≤10000:=by
 have key: ∃z,GK H 258 [.agg (Ct o.lv o.dn o.rk o.dc),iv o.tr,uv vul]=some (.tup [iv z,iv 0])∧ -10000≤z∧z≤10000:=by
  have hd:0≤o.dc∧o.dc≤3:=by
   refine⟨h.c0, ?_⟩;by_cases hl:o.lv=0
   ·have:=h.ok;simp[zU,hl]at this;omega
   ·exact(h.Vd hl).2.2.2.2
  obtain⟨b,kb⟩:=adi hF hv hd;obtain⟨z,k,z1,z2⟩:=XL hF h b;have n1: ¬3<vul:=by omega
  by_cases hs:o.dc.tmod 2=1
  ·refine⟨-z,af hF IL (d:= .tup [iv (-z),iv 0]) ?_,by omega,by omega⟩
   conv=>enter [1,3];cbv
   simp[n1,kb,k,hs,wr (z:= -z) (by omega) (by omega)]
  ·refine⟨z,af hF IL (d:= .tup [iv z,iv 0]) ?_,by omega,by omega⟩
   conv=>enter [1,3];cbv
   simp[n1,kb,k,hs]
 obtain⟨z,hz,z1,z2⟩:=key;have e:ow H o vul=z:=by unfold ow;rw[hz]
 rw[e];exact⟨ah hz rfl rfl,z1,z2⟩
end Ty
end
section
namespace Ty
variable {H : FP}
def Ou.G'(o:Ou):Prop:=Rs o.lv o.dn o.rk o.dc o.tr
theorem jC{o:Ou}(h:o.aP=true)(hb:o.okB=true):o.G':=by
 simp[Ou.okB,u8]at hb;unfold Ou.aP at h;by_cases h0:o.lv=0
 ·rw[if_pos h0]at h;simp at h;obtain⟨⟨a,b,c,d⟩,e⟩:=h;exact⟨by simp[zU,a,b,c,d],by omega,by omega,by omega,by omega,by omega,by omega,fun _=>e⟩
 ·rw[if_neg h0]at h;simp at h;refine⟨?_,by omega,by omega,by omega,by omega,by omega,by omega,fun h=>absurd h h0⟩;have:1≤o.lv:=by omega
  simp[zU,h0,this,h]
noncomputable def part(H:FP)(vul:Int)(o:Ou):Pt:=⟨ow H o vul,o.wt⟩
section
variable {G : FP}
theorem Ct.LW{a b c d:Int}:XK.run G .agg [uv a,uv b,uv c,uv d]=some (.agg (Ct a b c d)):=rfl
@[simp] theorem afb{v:Value}{es:List (List D)}:XK.run G .eu [.list es]=some (.list es):=nr rfl
end
theorem Lv(hF:Fr H)(l:List Ou){vul:Int}(hv:0≤vul∧vul≤3)(hc: ∀o∈l,o.G')(hr:qE (l.map (part H vul))):
  XK.run (GK H) (.call false 222) [.list (l.map Ou.cells),uv vul]=some (.tup [.list ((l.map (part H vul)).map Pt.cells),iv 0]):=by
 refine ahz (af hF OA ?_) rfl
 conv=>enter [1,3];cbv
 have hle:=hr.le;rw[List.length_map]at hle;have n1: ¬(4:Int)<(l.length:Int):=by omega
 obtain⟨R,hR⟩: ∃R,R=D.own (.tup [.list ((l.map (part H vul)).map Pt.cells),iv 0]):=⟨_,rfl⟩;rw[←hR];simp[n1];refine aV (n:=l.length) (fun i=> [iv (i:Int), .list (((l.take i).map (part H vul)).map Pt.cells),iv 0]) R (by omega) ?_;intro rec i hi ih;cases h3:l[i]? with
 |some o=>
  have l3:=(Gz.1 h3).1;have e3:l[i]=o:=(Gz.1 h3).2;have ih:=ih (by omega);have hs:=Ts hF (hc o (Lz h3)) hv;have k1:=hs.1;have kc:XK.run (GK H) .agg [uv o.lv,uv o.dn,uv o.rk,uv o.dc]=some (.agg (Ct o.lv o.dn o.rk o.dc)):=Ct.LW;have kp:XK.run (GK H) .agg [iv (ow H o vul),iv o.wt]=some (.agg (part H vul o).cells):=Pt.LW;have et:((l.take (i+1)).map (part H vul)).map Pt.cells=((l.take i).map (part H vul)).map Pt.cells++ [(part H vul o).cells]:=by rw[List.take_add_one,h3];simp
  rw[et]at ih;have ka:=BZ (G:=GK H) (size:=2) (es:=((l.take i).map (part H vul)).map Pt.cells) (c:=(part H vul o).cells) (by simp;omega) rfl;generalize((l.take i).map (part H vul)).map Pt.cells=acc at*;simp[-fu,l3,e3,k1,kc,kp,NW,ka,wr (z:=(i:Int)+1) (by omega) (by omega)];exact ih
 |none=>
  have l3:=List.getElem?_eq_none_iff.1 h3;have e:l.length=i:=by omega
  have et:l.take i=l:=List.take_of_length_le (by omega);have n2: ¬3<vul:=by omega
  have k1:=Tt hF (l.map (part H vul)) hr (fl:=true);have rO: ∀x y,bU (.mk .tup [.mk .own [x],y]) (.tup [.list ((l.map (part H vul)).map Pt.cells),iv 0])=R:=fun x y=>by rw[hR];exact kP (An fun x=>rfl)
  rw[et];generalize(l.map (part H vul)).map Pt.cells=acc at*;have ko:XK.run (GK H) .own [.list acc]=some (.list acc):=rfl;simp[e,n2,k1,ko,rO]
def Ou.whole(o:Ou):Ou:={o with wt:=100}
theorem To(hF:Fr H)(o:Ou):XK.run (GK H) (.call false 220) [.agg o.cells]=some (.list (([o.whole]:List Ou).map Ou.cells)):=by
 have key: ∃x,GK H 220 [.agg o.cells]=some (bU x (.list (([o.whole]:List Ou).map Ou.cells))):=by
  refine⟨.mk .own [.t 1],af hF Ox ?_⟩
  conv=>enter [1,3];cbv
  have k:XK.run (GK H) (.lit 6 1 [uv 0,uv 0,uv 0,uv 0,iv 0,iv 0] [(0,6)]) [.agg [uv o.lv,uv o.dn,uv o.rk,uv o.dc,iv o.tr,iv 100]]=some (.list [o.whole.cells]):=rfl;have ko:XK.run (GK H) .own [.list [o.whole.cells]]=some (.list [o.whole.cells]):=rfl;simp[k,ko]
 obtain⟨x,hx⟩:=key;refine jw hx ?_ rfl;unfold bU;split
 ·rfl
 ·split<;>rfl
def bq:List Ou→Nat
 | []=>0
 |o::r=>if o.wt=0 then 0 else bq r+1
theorem sE: ∀l:List Ou,bq l≤l.length
 | []=>Nat.le_refl _
 |o::r=>by unfold bq;have:=sE r;split<;>simp;omega
theorem XF(hF:Fr H)(e:En):XK.run (GK H) (.call false 221) [.agg e.cells]=some (iv (bq e.ol:Int)):=by
 refine ah (af hF Oy (d:=iv (bq e.ol:Int)) ?_) rfl rfl
 conv=>enter [1,3];cbv
 simp;refine cE (S:=Nat) (enc:=fun i=> [iv (i:Int)]) (res:=fun _=>iv (bq e.ol:Int)) (mes:=fun i=>4-i) (ok:=fun i=>i≤4∧bq e.ol=i+bq (e.ol.drop i)) ?_ 0 ⟨by omega,by simp⟩ (by omega);rintro rec (_|_|_|_|_|j) ⟨hj,hn⟩ ih
 ·by_cases hw:e.o0.wt=0
  ·have h:bq e.ol=0:=by rw[hn];simp[En.ol,bq,hw]
   simp[hw,h]
  ·have h:bq e.ol=1+bq (e.ol.drop 1):=by rw[hn];simp[En.ol,bq,hw];omega
   have ih:=ih 1 ⟨by omega,h⟩ (by omega);simp[hw];exact ih
 ·by_cases hw:e.o1.wt=0
  ·have h:bq e.ol=1:=by rw[hn];simp[En.ol,bq,hw]
   simp[hw,h]
  ·have h:bq e.ol=2+bq (e.ol.drop 2):=by rw[hn];simp[En.ol,bq,hw];omega
   have ih:=ih 2 ⟨by omega,h⟩ (by omega);simp[hw];exact ih
 ·by_cases hw:e.o2.wt=0
  ·have h:bq e.ol=2:=by rw[hn];simp[En.ol,bq,hw]
   simp[hw,h]
  ·have h:bq e.ol=3+bq (e.ol.drop 3):=by rw[hn];simp[En.ol,bq,hw];omega
   have ih:=ih 3 ⟨by omega,h⟩ (by omega);simp[hw];exact ih
 ·by_cases hw:e.o3.wt=0
  ·have h:bq e.ol=3:=by rw[hn];simp[En.ol,bq,hw]
   simp[hw,h]
  ·have h:bq e.ol=4+bq (e.ol.drop 4):=by rw[hn];simp[En.ol,bq,hw]
   have ih:=ih 4 ⟨by omega,h⟩ (by omega);simp[hw];exact ih
 ·have h:bq e.ol=4:=by rw[hn];simp[En.ol,bq]
  simp[h]
 ·exact absurd hj (by omega)
theorem Lw(hF:Fr H)(e:En)(h0:e.a0=0)(h1:e.a1=0):XK.run (GK H) (.call false 240) [.agg e.cells]=some (bv true):=by
 refine ah (af hF OF (d:=bv true) ?_) rfl rfl
 conv=>enter [1,3];cbv
 simp[h0,h1]
theorem S4{o:Ou}(h:o.qh=true):o=⟨0,0,0,0,0,0⟩:=by
 obtain⟨a,b,c,d,e,f⟩:=o;simp[Ou.qh]at h;obtain⟨rfl,rfl,rfl,rfl,rfl,rfl⟩:=h;rfl
theorem Iy(hF:Fr H)(e:En){n:Nat}(hn:n≤4)(hz:(e.ol.drop n).all Ou.qh=true):XK.run (GK H) (.call false 239) [.agg e.cells,iv (n:Int)]=some (bv true):=by
 refine ah (af hF OD (d:=bv true) ?_) rfl rfl
 conv=>enter [1,3];cbv
 have k:=sll (G:=GK H) (x:=e) hn;generalize hl:e.ol.drop n=l at*;have hlen:l.length≤4:=by rw[←hl];simp[En.ol]
 simp[k];refine aV (n:=l.length) (fun i=> [iv (i:Int),bv false]) (bv true) (by omega) ?_;intro rec i hi ih;cases h3:l[i]? with
 |some o=>
  have l3:=(Gz.1 h3).1;have e3:l[i]=o:=(Gz.1 h3).2;have ih:=ih (by omega);have ho:=S4 (Tz.1 hz o (Lz h3));subst ho;simp[l3,e3,wr (z:=(i:Int)+1) (by omega) (by omega)];exact ih
 |none=>
  have l3:=List.getElem?_eq_none_iff.1 h3;have e:l.length=i:=by omega
  simp[e]
theorem XG(hF:Fr H)(o:Ou)(h:o.G'):XK.run (GK H) (.call false 242) [.agg o.cells]=some (bv true):=by
 refine ah (af hF OH (d:=bv true) ?_) rfl rfl
 conv=>enter [1,3];cbv
 obtain⟨z,k,_⟩:=XL hF h false;have kc:XK.run (GK H) (.pk (.load 4 true)) [.lptr o.cells]=some (.agg (Ct o.lv o.dn o.rk o.dc)):=rfl;have kc':XK.run (GK H) (.pk (.load 4 true)) [.lptr (o.cells.drop 0)]=some (.agg (Ct o.lv o.dn o.rk o.dc)):=rfl;simp[kc,kc',k]
theorem Tq(hF:Fr H)(o:Ou)(h:o.G')(hw:o.wt=0):XK.run (GK H) (.call false 241) [.agg o.cells]=some (bv true):=by
 refine ah (af hF OG (d:=bv true) ?_) rfl rfl
 conv=>enter [1,3];cbv
 simp[XG hF o h,hw]
end Ty
end
section
namespace Ty
variable {H : FP}
theorem jS: ∀{l:List Ou} {s:Int} {n:Nat} {m:Int},ax l s n=(m,true)→0≤s→s≤99*n→n+l.length≤4→m=((n+bq l:Nat):Int)∧s+aS ((l.take (bq l)).map Ou.wt)=100∧2≤n+bq l∧ ∀o∈l.take (bq l),(1≤o.wt∧o.wt≤99)∧o.aP=true
 | [],s,n,m,h,_,_,_=>by
  simp[ax]at h;simp[bq,aS];omega
 |o::r,s,n,m,h,h0,h1,h2=>by
  unfold ax at h;by_cases hw:o.wt=0
  ·rw[if_pos hw]at h;simp at h;simp[bq,hw,aS];omega
  ·rw[if_neg hw]at h;split at h
   rotate_left
   ·simp at h
   rename_i hok;simp[Ou.MT]at hok;simp only[List.length_cons]at h2;rw[wr (by omega) (by omega)]at h;obtain⟨k1,k2,k3,k4⟩:=jS h (by omega) (by omega) (by omega);have e:bq (o::r)=bq r+1:=by simp[bq,hw]
   rw[e,List.take_succ_cons,List.map_cons];simp only[aS];refine⟨by rw[k1];omega,by omega,by omega,fun x hx=> ?_⟩;rcases List.mem_cons.1 hx with rfl|hx
   ·exact⟨by omega,hok.2⟩
   ·exact k4 x hx
inductive RK(e:En):Prop
 |void (hk:e.kd=0) (hf:e.fl=0) (hz:e.ol.all Ou.qh=true) (h0:e.a0=0) (h1:e.a1=0)
 |aP (hk:e.kd=1) (hp:e.o0.aP=true) (hw:e.o0.wt=0) (hz:(e.ol.drop 1).all Ou.qh=true) (h0:e.a0=0) (h1:e.a1=0)
 |ax (hk:e.kd=2) (h2:2≤bq e.ol) (hs:aS ((e.ol.take (bq e.ol)).map Ou.wt)=100) (hp: ∀o∈e.ol.take (bq e.ol),(1≤o.wt∧o.wt≤99)∧o.aP=true) (hz:(e.ol.drop (bq e.ol)).all Ou.qh=true) (h0:e.a0=0) (h1:e.a1=0)
 |split(hk:e.kd=3) (hp:e.o0.aP=true) (hw:e.o0.wt=0) (hp1:e.o1.aP=true) (hw1:e.o1.wt=0) (hz:(e.ol.drop 2).all Ou.qh=true) (h0:e.a0=0) (h1:e.a1=0)
 |award (hk:e.kd=4) (hf:e.fl=0) (hz:e.ol.all Ou.qh=true) (h0:vU e.a0=true) (h1:vU e.a1=true)
theorem ph{e:En}(hb:e.okB=true)(h:e.right=true):RK e∧(0≤e.fl∧e.fl≤3):=by
 have hkd:0≤e.kd∧0≤e.fl:=by
  simp[En.okB,u8]at hb;omega
 unfold En.right at h;split at h
 ·cases h
 rename_i c1;split at h
 ·cases h
 rename_i c2;split at h
 ·cases h
 rename_i c3;simp only[Az]at h;obtain⟨h1,h2⟩:=h;refine⟨?_,by omega⟩;have c2:e.used.2=true:=by simpa using c2
 have hk:e.kd=0∨e.kd=1∨e.kd=2∨e.kd=3∨e.kd=4:=by omega
 rcases hk with hk|hk|hk|hk|hk
 ·have e1:e.used=(0,true):=by unfold En.used;simp[hk]
  rw[e1]at h1 c3;have ha:e.a0=0∧e.a1=0:=by simpa[En.xl,hk]using h2
  have hf:e.fl=0:=by
   by_cases hf:e.fl=0
   ·exact hf
   ·exact absurd ⟨rfl, .inl hf⟩ c3
  exact .void hk hf (by simpa using h1) ha.1 ha.2
 ·have ha:e.a0=0∧e.a1=0:=by simpa[En.xl,hk]using h2
  unfold En.used at c2 h1;rw[if_pos hk]at c2 h1;split at c2
  ·rename_i hp;rw[if_pos hp]at h1;exact .aP hk hp.1 hp.2 h1 ha.1 ha.2
  ·cases c2
 ·have ha:e.a0=0∧e.a1=0:=by simpa[En.xl,hk]using h2
  unfold En.used at c2 h1;rw[if_neg (by omega),if_neg (by omega),if_pos hk]at c2 h1;obtain⟨k1,k2,k3,k4⟩:=jS (l:= [e.o0,e.o1,e.o2,e.o3]) (s:=0) (n:=0) (m:=(Ty.ax [e.o0,e.o1,e.o2,e.o3] 0 0).1) (by rw[←c2]) (by omega) (by omega) (by simp);rw[k1,Int.toNat_natCast,Nat.zero_add]at h1;exact .ax hk (by have:=k3;show 2≤bq [e.o0,e.o1,e.o2,e.o3];omega) (by have:=k2;show aS (([e.o0,e.o1,e.o2,e.o3].take (bq [e.o0,e.o1,e.o2,e.o3])).map Ou.wt)=100;omega) k4 h1 ha.1 ha.2
 ·have ha:e.a0=0∧e.a1=0:=by simpa[En.xl,hk]using h2
  unfold En.used at c2 h1;rw[if_neg (by omega),if_pos hk]at c2 h1;split at c2
  ·rename_i hp;rw[if_pos hp]at h1;exact .split hk hp.1.1 hp.1.2 hp.2.1 hp.2.2 h1 ha.1 ha.2
  ·cases c2
 ·have e1:e.used=(0,true):=by unfold En.used;simp[hk]
  rw[e1]at h1 c3;have ha:vU e.a0=true∧vU e.a1=true:=by simpa[En.xl,hk]using h2
  have hf:e.fl=0:=by
   by_cases hf:e.fl=0
   ·exact hf
   ·exact absurd ⟨rfl, .inl hf⟩ c3
  exact .award hk hf (by simpa using h1) ha.1 ha.2
theorem A3{e:En}(hb:e.okB=true): ∀o∈e.ol,o.okB=true:=fun o ho=>by
 simp only[En.okB,Az]at hb;simp[En.ol]at ho;rcases ho with rfl|rfl|rfl|rfl
 ·exact hb.1.1.1.2
 ·exact hb.1.1.2
 ·exact hb.1.2
 ·exact hb.2
theorem ac5(hF:Fr H)(e:En)(hz:e.ol.all Ou.qh=true)(h0:e.a0=0)(h1:e.a1=0):GK H 189 [.agg e.cells]=some (bv true):=by
 refine af hF Oj ?_
 conv=>enter [1,3];cbv
 have k:=Iy hF e (n:=0) (by omega) hz;have k:XK.run (GK H) (.call false 239) [.agg e.cells,iv 0]=some (bv true):=k;simp[k,Lw hF e h0 h1]
theorem ac8(hF:Fr H)(e:En)(hp:e.o0.G')(hw:e.o0.wt=0)(hz:(e.ol.drop 1).all Ou.qh=true)(h0:e.a0=0)(h1:e.a1=0):GK H 190 [.agg e.cells]=some (bv true):=by
 refine af hF Ol ?_
 conv=>enter [1,3];cbv
 have k:XK.run (GK H) (.call false 239) [.agg e.cells,iv 1]=some (bv true):=Iy hF e (n:=1) (by omega) hz;simp[k,Lw hF e h0 h1,Tq hF e.o0 hp hw]
theorem ac'(hF:Fr H)(e:En)(hp:e.o0.G')(hw:e.o0.wt=0)(hp1:e.o1.G')(hw1:e.o1.wt=0)(hz:(e.ol.drop 2).all Ou.qh=true)(h0:e.a0=0)(h1:e.a1=0):GK H 192 [.agg e.cells]=some (bv true):=by
 refine af hF On ?_
 conv=>enter [1,3];cbv
 have k:XK.run (GK H) (.call false 239) [.agg e.cells,iv 2]=some (bv true):=Iy hF e (n:=2) (by omega) hz;simp[k,Lw hF e h0 h1,Tq hF e.o0 hp hw,Tq hF e.o1 hp1 hw1]
theorem slh{G:FP}{x:En}{n:Nat}(h:n≤4):XK.run G (.pk (.sla 4 6 false true)) [.lptr (x.cells.drop 7),iv (n:Int)]=some (.list ((x.ol.take n).map Ou.cells)):=by
 rcases n with _|_|_|_|_|n
 ·rfl
 ·rfl
 ·rfl
 ·rfl
 ·rfl
 ·omega
theorem ac9(hF:Fr H)(e:En)(h2:2≤bq e.ol)(hs:aS ((e.ol.take (bq e.ol)).map Ou.wt)=100)(hp: ∀o∈e.ol.take (bq e.ol),(1≤o.wt∧o.wt≤99)∧o.G')(hz:(e.ol.drop (bq e.ol)).all Ou.qh=true)(h0:e.a0=0)(h1:e.a1=0):GK H 191 [.agg e.cells]=some (bv true):=by
 refine af hF Om ?_
 conv=>enter [1,3];cbv
 have k1:=XF hF e;have hn:bq e.ol≤4:=sE e.ol;have k2:=slh (G:=GK H) (x:=e) hn;have k3:=Iy hF e hn hz;have k4:=Lw hF e h0 h1;have h2':(2:Int)≤(bq e.ol:Int):=by omega
 generalize hl:e.ol.take (bq e.ol)=l at*;have hlen:l.length≤4:=by rw[←hl,List.length_take];omega
 generalize bq e.ol=n at*;simp[k1,k2];refine aV (n:=l.length) (fun i=> [iv (i:Int),iv (aS ((l.take i).map Ou.wt)),bv false]) (bv true) (by omega) ?_;intro rec i hi ih;cases h3:l[i]? with
 |some o=>
  have l3:=(Gz.1 h3).1;have e3:l[i]=o:=(Gz.1 h3).2;have ih:=ih (by omega);obtain⟨⟨w1,w2⟩,hc⟩:=hp o (Lz h3);have k:=XG hF o hc;have es:aS ((l.take (i+1)).map Ou.wt)=aS ((l.take i).map Ou.wt)+o.wt:=by rw[List.take_add_one,h3,List.map_append,px];simp[aS]
  have s0:0≤aS ((l.take i).map Ou.wt):=jz fun z hz=>by
   obtain⟨y,hy,rfl⟩:=List.mem_map.1 hz;have:=(hp y (List.mem_of_mem_take hy)).1;omega
  have s1:aS ((l.take i).map Ou.wt)≤((l.take i).map Ou.wt).length*99:=sL fun z hz=>by
   obtain⟨y,hy,rfl⟩:=List.mem_map.1 hz;have:=(hp y (List.mem_of_mem_take hy)).1;omega
  have s2:((l.take i).map Ou.wt).length≤4:=by simp;omega
  rw[es]at ih;have w:=wr (z:=aS ((l.take i).map Ou.wt)+o.wt) (by omega) (by omega);generalize aS ((l.take i).map Ou.wt)=acc at*;have d1: ¬o.wt<1:=by omega
  have d2: ¬100<o.wt:=by omega
  simp[l3,e3,k,d1,d2,w,wr (z:=(i:Int)+1) (by omega) (by omega)];exact ih
 |none=>
  have l3:=List.getElem?_eq_none_iff.1 h3;have e:l.length=i:=by omega
  have et:l.take i=l:=List.take_of_length_le (by omega);rw[et,hs];simp[e,h2',k3,k4]
set_option maxHeartbeats 4000000 in
theorem ac_(hF:Fr H)(e:En)(hz:e.ol.all Ou.qh=true)(h0:vU e.a0=true)(h1:vU e.a1=true):GK H 193 [.agg e.cells]=some (bv true):=by
 refine af hF Oo ?_
 conv=>enter [1,3];cbv
 have k:XK.run (GK H) (.call false 239) [.agg e.cells,iv 0]=some (bv true):=Iy hF e (n:=0) (by omega) hz;have c0:e.a0=0∨e.a0=30∨e.a0=40∨e.a0=50∨e.a0=60∨e.a0=70∨e.a0=100:=by simp[vU]at h0;omega
 have c1:e.a1=0∨e.a1=30∨e.a1=40∨e.a1=50∨e.a1=60∨e.a1=70∨e.a1=100:=by simp[vU]at h1;omega
 rcases c0 with c0|c0|c0|c0|c0|c0|c0<;>rcases c1 with c1|c1|c1|c1|c1|c1|c1<;>simp[k,c0,c1]
end Ty
end
noncomputable section
namespace Ty
variable {H : FP}
structure EX(e:En):Prop where
 b:e.okB=true
 r:e.right=true
theorem Du{e:En}(hb:e.okB=true)(hp: ∀o∈e.ol.take (bq e.ol),(1≤o.wt∧o.wt≤99)∧o.aP=true): ∀o∈e.ol.take (bq e.ol),(1≤o.wt∧o.wt≤99)∧o.G':=
 fun o ho=>⟨(hp o ho).1,jC (hp o ho).2 (A3 hb o (List.mem_of_mem_take ho))⟩
theorem Tl(hF:Fr H)(e:En)(h:EX e):XK.run (GK H) (.call false 149) [.agg e.cells]=some (bv true):=by
 refine ah (af hF Od (d:=bv true) ?_) rfl rfl
 conv=>enter [1,3];cbv
 obtain⟨hk,hf⟩:=ph h.b h.r;have o0:e.o0.okB=true:=A3 h.b _ (by simp[En.ol]);have o1:e.o1.okB=true:=A3 h.b _ (by simp[En.ol]);have c: ∀n,XK.run (GK H) .qo [.clo n []]=some (.clo n []):=fun n=>rfl
 have rg: ∀k:Int,0≤k∧k<5→XK.run (GK H) (.rngi 5) [uv k]=some (.tup []):=fun k hk=>by
  show(if 0≤k∧k<(5:Nat)then some (D.tup [])else none)=_;rw[if_pos (by omega)]
 have f3:e.fl≤3:=hf.2;have cc: ∀f,f<1000000→GK H f [.agg e.cells]=some (bv true)→XK.run (GK H) (.ccall false) [.clo f [], .agg e.cells]=some (bv true):=fun f hlt h=>(fX hlt (cs:= []) rfl).trans (ah h rfl rfl);have ka:XK.run (GK H) .agg [.clo 189 [], .clo 190 [], .clo 191 [], .clo 192 [], .clo 193 []]=some (.agg [.clo 189 [], .clo 190 [], .clo 191 [], .clo 192 [], .clo 193 []]):=rfl;cases hk with
 |void hk hf hz h0 h1=>
  have k1:=cc 189 (by decide) (ac5 hF e hz h0 h1);have g:XK.run (GK H) (.geta 5 1 0 1 false) [.agg [.clo 189 [], .clo 190 [], .clo 191 [], .clo 192 [], .clo 193 []],uv 0]=some (.clo 189 []):=rfl;simp[-fu,c,rg 0 (by omega),f3,hk,ka,g,k1,wr (z:=0) (by omega) (by omega)]
 |aP hk hp hw hz h0 h1=>
  have k1:=cc 190 (by decide) (ac8 hF e (jC hp o0) hw hz h0 h1);have g:XK.run (GK H) (.geta 5 1 0 1 false) [.agg [.clo 189 [], .clo 190 [], .clo 191 [], .clo 192 [], .clo 193 []],uv 1]=some (.clo 190 []):=rfl;simp[-fu,c,rg 1 (by omega),f3,hk,ka,g,k1,wr (z:=1) (by omega) (by omega)]
 |ax hk h2 hs hp hz h0 h1=>
  have k1:=cc 191 (by decide) (ac9 hF e h2 hs (Du h.b hp) hz h0 h1);have g:XK.run (GK H) (.geta 5 1 0 1 false) [.agg [.clo 189 [], .clo 190 [], .clo 191 [], .clo 192 [], .clo 193 []],uv 2]=some (.clo 191 []):=rfl;simp[-fu,c,rg 2 (by omega),f3,hk,ka,g,k1,wr (z:=2) (by omega) (by omega)]
 |split hk hp hw hp1 hw1 hz h0 h1=>
  have k1:=cc 192 (by decide) (ac' hF e (jC hp o0) hw (jC hp1 o1) hw1 hz h0 h1);have g:XK.run (GK H) (.geta 5 1 0 1 false) [.agg [.clo 189 [], .clo 190 [], .clo 191 [], .clo 192 [], .clo 193 []],uv 3]=some (.clo 192 []):=rfl;simp[-fu,c,rg 3 (by omega),f3,hk,ka,g,k1,wr (z:=3) (by omega) (by omega)]
 |award hk hf hz h0 h1=>
  have k1:=cc 193 (by decide) (ac_ hF e hz h0 h1);have g:XK.run (GK H) (.geta 5 1 0 1 false) [.agg [.clo 189 [], .clo 190 [], .clo 191 [], .clo 192 [], .clo 193 []],uv 4]=some (.clo 193 []):=rfl;simp[-fu,c,rg 4 (by omega),f3,hk,ka,g,k1,wr (z:=4) (by omega) (by omega)]
def wM(H:FP)(vul:Int)(e:En):List Pt:=if e.kd=2 then(e.ol.take (bq e.ol)).map (part H vul)else [part H vul e.o0.whole]
def wb(H:FP)(vul:Int)(e:En):List Pt:=gj (if e.kd=2 then(e.ol.take (bq e.ol)).map (part H vul)else if e.kd=3 then [part H vul e.o1.whole]else [part H vul e.o0.whole])
theorem yn(hF:Fr H){o:Ou}(h:o.G'){vul:Int}(hv:0≤vul∧vul≤3):qE ([o.whole].map (part H vul)) where
 ne:=by simp
 le:=by simp
 pt x hx:=by
  simp at hx;subst hx;have:=Ts hF (o:=o.whole) h hv;exact⟨by show 1≤(100:Int)∧(100:Int)≤100;omega,this.2⟩
 sum:=by rfl
theorem aaL(hF:Fr H){e:En}{vul:Int}(hv:0≤vul∧vul≤3)(h2:2≤bq e.ol)(hs:aS ((e.ol.take (bq e.ol)).map Ou.wt)=100)(hp: ∀o∈e.ol.take (bq e.ol),(1≤o.wt∧o.wt≤99)∧o.G'):qE ((e.ol.take (bq e.ol)).map (part H vul)) where
 ne:=by simp;have:=sE e.ol;omega
 le:=by simp[En.ol];omega
 pt x hx:=by
  obtain⟨o,ho,rfl⟩:=List.mem_map.1 hx;obtain⟨h1,h2⟩:=hp o ho;have:=Ts hF h2 hv;exact⟨by show 1≤o.wt∧o.wt≤100;omega,this.2⟩
 sum:=by
  have e1:((e.ol.take (bq e.ol)).map (part H vul)).map Pt.w=(e.ol.take (bq e.ol)).map Ou.wt:=by rw[List.map_map];rfl
  rw[e1];exact hs
theorem E9{x:X}{a b:List (List D)}{v:Value}:(bU x (.tup [.list a, .list b, .v v])).bare= .tup [.list a, .list b, .v v]:=by
 unfold bU;split
 ·rfl
 ·split<;>rfl
def En.cB(e:En):Bool:= !decide (e.kd=0)&& !decide (e.kd=4)
theorem Tm(hF:Fr H)(e:En)(h:EX e)(hc:e.cB=true){vul:Int}(hv:0≤vul∧vul≤3):
  (qE (wM H vul e)∧qE (wb H vul e))∧XK.run (GK H) (.call false 178) [.agg e.cells,uv vul]=some (.tup [.list ((wM H vul e).map Pt.cells), .list ((wb H vul e).map Pt.cells),iv 0]):=by
 obtain⟨hk,hf⟩:=ph h.b h.r;have o0:e.o0.okB=true:=A3 h.b _ (by simp[En.ol]);have o1:e.o1.okB=true:=A3 h.b _ (by simp[En.ol]);have k0:=Tl hF e h;have v3: ¬3<vul:=by omega
 have fin: ∀(n s:List Pt) (r:D),GK H 178 [.agg e.cells,uv vul]=some (bU (.mk .tup [.mk .bt [.t 9], .mk .bt [.t 17], .mk .bt [.q (iv 0)]]) (.tup [.list (n.map Pt.cells), .list (s.map Pt.cells),iv 0]))→XK.run (GK H) (.call false 178) [.agg e.cells,uv vul]=some (.tup [.list (n.map Pt.cells), .list (s.map Pt.cells),iv 0]):=fun n s r h=>jw h E9 rfl;have no3: ∀(a b:List (List D)),(D.tup [.list a, .list b,iv 0]).aF=true:=fun a b=>rfl;cases hk with
 |void hk=>simp[En.cB,hk]at hc
 |award hk=>simp[En.cB,hk]at hc
 |aP hk hp hw hz h0 h1=>
  have hn:wM H vul e= [e.o0.whole].map (part H vul):=by simp[wM,hk]
  have he:wb H vul e=gj ([e.o0.whole].map (part H vul)):=by simp[wb,hk]
  have hr:=yn hF (jC hp o0) hv;rw[hn,he];refine⟨⟨hr,yW hr⟩,fin _ _ (iv 0) (af hF Ev ?_)⟩
  conv=>enter [1,3];cbv
  have k1:=To hF e.o0;have k2:=Lv hF [e.o0.whole] hv (fun o ho=>by simp at ho;subst ho;exact jC hp o0) hr;have k3:=Tp hF _ hr;generalize([e.o0.whole]:List Ou).map Ou.cells=fl at*;generalize(([e.o0.whole]:List Ou).map (part H vul)).map Pt.cells=a at*;generalize(gj (([e.o0.whole]:List Ou).map (part H vul))).map Pt.cells=b at*;simp[k0,v3,hk,k1,k2,k3,no3]
 |ax hk h2 hs hp hz h0 h1=>
  have hn:wM H vul e=(e.ol.take (bq e.ol)).map (part H vul):=by simp[wM,hk]
  have he:wb H vul e=gj ((e.ol.take (bq e.ol)).map (part H vul)):=by simp[wb,hk]
  have hr:=aaL hF hv h2 hs (Du h.b hp);rw[hn,he];refine⟨⟨hr,yW hr⟩,fin _ _ (iv 0) (af hF Ev ?_)⟩
  conv=>enter [1,3];cbv
  have k1:=XF hF e;have k4:=slh (G:=GK H) (x:=e) (n:=bq e.ol) (sE e.ol);have k2:=Lv hF (e.ol.take (bq e.ol)) hv (fun o ho=>(Du h.b hp o ho).2) hr;have k3:=Tp hF _ hr;generalize(e.ol.take (bq e.ol)).map Ou.cells=fl at*;generalize((e.ol.take (bq e.ol)).map (part H vul)).map Pt.cells=a at*;generalize(gj ((e.ol.take (bq e.ol)).map (part H vul))).map Pt.cells=b at*;simp[k0,v3,hk,k1,k2,k3,k4,no3]
 |split hk hp hw hp1 hw1 hz h0 h1=>
  have hn:wM H vul e= [e.o0.whole].map (part H vul):=by simp[wM,hk]
  have he:wb H vul e=gj ([e.o1.whole].map (part H vul)):=by simp[wb,hk]
  have hr:=yn hF (jC hp o0) hv;have hr1:=yn hF (jC hp1 o1) hv;rw[hn,he];refine⟨⟨hr,yW hr1⟩,fin _ _ (iv 0) (af hF Ev ?_)⟩
  conv=>enter [1,3];cbv
  have k1:=To hF e.o0;have k1':=To hF e.o1;have k2:=Lv hF [e.o0.whole] hv (fun o ho=>by simp at ho;subst ho;exact jC hp o0) hr;have k2':=Lv hF [e.o1.whole] hv (fun o ho=>by simp at ho;subst ho;exact jC hp1 o1) hr1;have k3:=Tp hF _ hr1;generalize([e.o0.whole]:List Ou).map Ou.cells=fl at*;generalize([e.o1.whole]:List Ou).map Ou.cells=fl1 at*;generalize(([e.o0.whole]:List Ou).map (part H vul)).map Pt.cells=a at*;generalize(([e.o1.whole]:List Ou).map (part H vul)).map Pt.cells=a1 at*;generalize(gj (([e.o1.whole]:List Ou).map (part H vul))).map Pt.cells=b at*;simp[k0,v3,hk,k1,k1',k2,k2',k3,no3]
end Ty
end
section
namespace Ty
variable {H : FP}
def share(p all:Int):Fq:=red (p*(2*(all-1))) 100
theorem Xx(hB:Fb H)(p all:Int)(hp:0≤p∧p≤100)(ha:1≤all∧all≤24):XK.run (GK H) (.call false 150) [iv p,iv all]=some (.tup [.agg (share p all).cells,iv 0]):=by
 have hF:=hB.fr;refine ah (af hF Oe (d:= .tup [.agg (share p all).cells,iv 0]) ?_) rfl rfl
 conv=>enter [1,3];cbv
 have k1:=Tn hF all;rw[decide_eq_true ha.1,decide_eq_true ha.2]at k1;have k2:=XE hF all ha.1 (by omega);have k3:=XD hF (2*(all-1)) 100;have e1:red p 1=⟨p,1⟩:=F6 (IS p);have b1:0≤p*(2*(all-1))∧p*(2*(all-1))≤100*46:=FQ hp.1 hp.2 (by omega) (by omega)
 have t1:XK.run (GK H) (.ccall false) [.clo 243 [.lptr [iv (2*(all-1))], .lptr [iv 100]], .agg (red p 1).cells]=some (.tup [.agg (share p all).cells,iv 0]):=by
  have h:=XH hF p 1 (2*(all-1)) 100 (by decide) (by decide) (by rw[←Int.natAbs_mul];omega) (by decide) (by omega) (by omega);rw[show(1:Int)*100=100 from rfl]at h;exact(fX (by decide) (cs:= [.lptr [iv (2*(all-1))], .lptr [iv 100]]) rfl).trans (ah h rfl rfl)
 have k4:=XC hF [.clo 243 [.lptr [iv (2*(all-1))], .lptr [iv 100]]] (fun i=>match i with|0=>red p 1|_=>share p all) (by simp) (by intro c hc;simp only[List.mem_cons,List.not_mem_nil,or_false]at hc;subst hc;rfl) (fun i c h=>by
  match i,h with
  |0,h=>cases h;exact t1)
 rw[show(match(0:Nat)with|0=>red p 1|_=>share p all)=red p 1 from rfl,e1]at k4;have k5:XK.run (GK H) (.call true 195) [.agg [iv p,iv 1], .list [[.clo 243 [.lptr [iv (2*(all-1))], .lptr [iv 100]]]]]=some (.tup [.agg (share p all).cells,iv 0]):=ah k4 rfl rfl;have k6:XK.run (GK H) (.lit 1 1 [.v .nilFunc] [(0,1)]) [.clo 243 [.lptr [iv (2*(all-1))], .lptr [iv 100]]]=some (.list [[.clo 243 [.lptr [iv (2*(all-1))], .lptr [iv 100]]]]):=rfl;have n1: ¬p<0:=by omega
 have n2: ¬100<p:=by omega
 simp[-aZ,k1,k2,k3,k5,k6,n1,n2]
theorem DD{a:Int}(h:vU a=true):0≤a∧a≤100:=by simp[vU]at h;omega
theorem l98(hB:Fb H)(e:En)(h:EX e)(hk:e.kd=4){all:Int}(ha:1≤all∧all≤24):XK.run (GK H) (.call false 98) [.agg e.cells,iv all]=some (.tup [.agg (share e.a0 all).cells, .agg (share e.a1 all).cells,iv 0]):=by
 have hF:=hB.fr;refine ah (af hF ZC (d:= .tup [.agg (share e.a0 all).cells, .agg (share e.a1 all).cells,iv 0]) ?_) rfl rfl
 conv=>enter [1,3];cbv
 have k0:=Tl hF e h;obtain⟨hr,_⟩:=ph h.b h.r
 have aw:vU e.a0=true∧vU e.a1=true:=by
  cases hr with
  |award _ _ _ h0 h1=>exact⟨h0,h1⟩
  |void h=>omega
  |aP h=>omega
  |ax h=>omega
  |split h=>omega
 have k1:=Xx hB e.a0 all (DD aw.1) ha;have k2:=Xx hB e.a1 all (DD aw.2) ha;have n1: ¬all<1:=by omega
 have n2: ¬24<all:=by omega
 have no:(D.tup [.agg (share e.a0 all).cells, .agg (share e.a1 all).cells,iv 0]).aF=true:=rfl;have tg: ∀x,bU x (.tup [.agg (share e.a0 all).cells, .agg (share e.a1 all).cells,iv 0])= .tup [.agg (share e.a0 all).cells, .agg (share e.a1 all).cells,iv 0]:=fun x=>rfl;simp[-aZ,k0,k1,k2,n1,n2,hk,no,tg]
theorem ac1(hF:Fr H)(l:List En)(h: ∀e∈l,EX e)(hl:l.length≤24):XK.run (GK H) (.call false 136) [.list (l.map En.cells)]=some (iv 0):=by
 refine ah (af hF N_ (d:=iv 0) ?_) rfl rfl
 conv=>enter [1,3];cbv
 have n1: ¬(24:Int)<(l.length:Int):=by omega
 simp;refine aV (n:=l.length) (fun i=> [iv (i:Int),iv 0]) (iv 0) (by omega) ?_;intro rec i hi ih;cases h3:l[i]? with
 |some e=>
  have l3:=(Gz.1 h3).1;have e3:l[i]=e:=(Gz.1 h3).2;have ih:=ih (by omega);have k:=Tl hF e (h e (Lz h3));simp[l3,e3,k,wr (z:=(i:Int)+1) (by omega) (by omega)];exact ih
 |none=>
  have l3:=List.getElem?_eq_none_iff.1 h3;have e:l.length=i:=by omega
  subst e;simp[n1]
theorem Lu(hF:Fr H)(e:En):XK.run (GK H) (.call false 181) [.agg e.cells]=some (bv e.cB):=by
 refine ah (af hF Oi (d:=bv e.cB) ?_) rfl rfl
 conv=>enter [1,3];cbv
 unfold En.cB;by_cases h:e.kd=0<;>simp[h]
theorem Xw(hF:Fr H)(l:List En)(f:Int):XK.run (GK H) (.call false 137) [.list (l.map En.cells),uv f]=some (.clo 180 [.lptr [.list (l.map En.cells)], .lptr [uv f]]):=by
 refine ah (af hF Oa (d:= .clo 180 [.lptr [.list (l.map En.cells)], .lptr [uv f]]) ?_) rfl rfl
 conv=>enter [1,3];cbv
 rw[←n5];generalize l.map En.cells=es
 kernel_rfl
section
variable {G : FP}
theorem yd{a b:D}:XK.run G (.isc 180 2) [.clo 180 [a,b]]=some (.tup []):=rfl
theorem xt{es:List (List D)}{b:D}:XK.run G (.capc 180 0 2) [.clo 180 [.lptr [.list es],b]]=some (.lptr [.list es]):=rfl
theorem xu{a:D}{f:Int}:XK.run G (.capc 180 1 2) [.clo 180 [a, .lptr [uv f]]]=some (.lptr [uv f]):=rfl
def C4(g:Nat→Int):List D:= [iv (g 0),iv (g 1),iv (g 2),iv (g 3)]
theorem C4.LW{g:Nat→Int}:XK.run G .agg [iv (g 0),iv (g 1),iv (g 2),iv (g 3)]=some (.agg (C4 g)):=rfl
theorem C4.get{g:Nat→Int}{f:Nat}(hf:f<4):XK.run G (.geta 4 1 0 1 false) [.agg (C4 g),iv (f:Int)]=some (iv (g f)):=by
 have c:f=0∨f=1∨f=2∨f=3:=by omega
 rcases c with rfl|rfl|rfl|rfl<;>rfl
theorem C4.set{g:Nat→Int}{f:Nat}{v:Int}(hf:f<4):XK.run G (.seta 4 1 0 1) [.agg (C4 g),iv (f:Int),iv v]=some (.agg (C4 fun j=>if j=f then v else g j)):=by
 have c:f=0∨f=1∨f=2∨f=3:=by omega
 rcases c with rfl|rfl|rfl|rfl<;>rfl
@[simp] theorem C4.c0{g:Nat→Int}:XK.run G (.cell 0 4) [.agg (C4 g)]=some (iv (g 0)):=nr rfl
@[simp] theorem C4.c1{g:Nat→Int}:XK.run G (.cell 1 4) [.agg (C4 g)]=some (iv (g 1)):=nr rfl
@[simp] theorem C4.c2{g:Nat→Int}:XK.run G (.cell 2 4) [.agg (C4 g)]=some (iv (g 2)):=nr rfl
@[simp] theorem C4.c3{g:Nat→Int}:XK.run G (.cell 3 4) [.agg (C4 g)]=some (iv (g 3)):=nr rfl
theorem ZV{f:Nat}(hf:f<4):XK.run G (.rngi 4) [iv (f:Int)]=some (.tup []):=by
 show(if 0≤(f:Int)∧(f:Int)<(4:Nat)then some (D.tup [])else none)=_;rw[if_pos (by omega)]
end
def En.nv(e:En):Bool:= !decide (e.kd=0)
def En.fH(f:Int)(e:En):Bool:=e.cB&&decide (e.fl=f)
theorem gL{p:En→Bool}{l:List En}{i:Nat}{e:En}(h:l[i]?=some e):(l.take (i+1)).countP p=(l.take i).countP p+(if p e=true then 1 else 0):=by
 rw[List.take_add_one,h,List.countP_append];simp[List.countP_cons]
def jm(l:List En)(f i j:Nat):Int:=if j<f then(l.countP (En.fH j):Int)else if j=f then((l.take i).countP (En.fH f):Int)else 0
theorem VY(l:List En)(j:Nat):jm l 0 0 j=0:=by unfold jm;simp
theorem KG(l:List En)(f j:Nat):jm l f l.length j=jm l (f+1) 0 j:=by
 unfold jm;rw[List.take_length];by_cases h:j<f
 ·rw[if_pos h,if_pos (by omega)]
 ·by_cases h2:j=f
  ·subst h2;simp
  ·rw[if_neg h,if_neg h2,if_neg (by omega)];split<;>simp
theorem VZ(l:List En){j:Nat}(h:j<4):jm l 4 0 j=(l.countP (En.fH j):Int):=by unfold jm;rw[if_pos h]
theorem Sg{l:List En}{i:Nat}{e:En}(h:l[i]?=some e){f:Nat}(hi:e.fH f=false)(j:Nat):jm l f (i+1) j=jm l f i j:=by
 unfold jm;rw[gL h,hi];simp
theorem KI{l:List En}{i:Nat}{e:En}(h:l[i]?=some e){f:Nat}(hi:e.fH f=true)(j:Nat):jm l f (i+1) j=if j=f then jm l f i f+1 else jm l f i j:=by
 unfold jm;rw[gL h,hi];by_cases h1:j=f
 ·subst h1;simp
 ·simp[h1]
theorem KH(l:List En)(hl:l.length≤24)(f i j:Nat):0≤jm l f i j∧jm l f i j≤24:=by
 have c1: ∀p:En→Bool,l.countP p≤24:=fun p=>Nat.le_trans List.countP_le_length hl;have c2: ∀p:En→Bool,(l.take i).countP p≤24:=fun p=>Nat.le_trans List.countP_le_length (by rw[List.length_take];omega);unfold jm;have a:=c1 (En.fH j);have b:=c2 (En.fH f);split
 ·omega
 ·split<;>omega
theorem l88(hF:Fr H)(l:List En)(h: ∀e∈l,EX e)(hl:l.length≤24):
  XK.run (GK H) (.call false 88) [.list (l.map En.cells)]=some (.tup [iv (l.countP En.nv:Int), .agg (C4 fun f=>(l.countP (En.fH f):Int)),iv 0]):=by
 refine ah (af hF ZA (d:= .tup [iv (l.countP En.nv:Int), .agg (C4 fun f=>(l.countP (En.fH f):Int)),iv 0]) ?_) rfl rfl;unfold Ut;generalize hz0:DN=z0
 conv=>enter [1,3];cbv
 subst hz0;generalize hz1:DO=z1
 conv in DN=>unfold DN;rw[hz1];cbv
 subst hz1;generalize hz2:DP=z2
 conv in DO=>unfold DO;rw[hz2];cbv
 subst hz2
 conv in DP=>unfold DP;cbv
 have k0:=ac1 hF l h hl;obtain⟨R,hR⟩: ∃R,R=D.tup [iv (l.countP En.nv:Int), .agg (C4 fun f=>(l.countP (En.fH f):Int)),iv 0]:=⟨_,rfl⟩;rw[←hR];have cl: ∀(p:En→Bool) (i:Nat),(l.take i).countP p≤24:=fun p i=>Nat.le_trans List.countP_le_length (by rw[List.length_take];omega);simp[k0];refine aV (n:=l.length) (fun i=> [iv (i:Int),iv ((l.take i).countP En.nv:Int)]) R (by omega) ?_;intro rec i hi ih;cases h3:l[i]? with
 |some e=>
  have l3:=(Gz.1 h3).1;have e3:l[i]=e:=(Gz.1 h3).2;have ih:=ih (by omega);rw[gL h3]at ih;have hc:=cl En.nv i;generalize(l.take i).countP En.nv=c at*;by_cases hk:e.kd=0
  ·rw[show e.nv=false by simp[En.nv,hk]]at ih;simp at ih;simp[l3,e3,hk,wr (z:=(i:Int)+1) (by omega) (by omega)];exact ih
  ·rw[show e.nv=true by simp[En.nv,hk]]at ih;simp at ih;simp[l3,e3,hk,wr (z:=(i:Int)+1) (by omega) (by omega),wr (z:=(c:Int)+1) (by omega) (by omega)];exact ih
 |none=>
  have l3:=List.getElem?_eq_none_iff.1 h3;have e:l.length=i:=by omega
  have et:l.take i=l:=List.take_of_length_le (by omega);rw[et];clear ih h3 l3 hi et;subst e;simp;have hz: [D.v (.int .i64 0),D.v (.int .i64 0),D.v (.int .i64 0),D.v (.int .i64 0),D.v (.int .i64 0)]= [iv ((0:Nat):Int),iv (jm l 0 0 0),iv (jm l 0 0 1),iv (jm l 0 0 2),iv (jm l 0 0 3)]:=by simp[VY]
  rw[hz];refine aV (n:=4) (fun f=> [iv (f:Int),iv (jm l f 0 0),iv (jm l f 0 1),iv (jm l f 0 2),iv (jm l f 0 3)]) R (by omega) ?_;intro rec f hf ih;by_cases h4:f=4
  ·subst h4
   have k4:XK.run (GK H) .agg [iv (jm l 4 0 0),iv (jm l 4 0 1),iv (jm l 4 0 2),iv (jm l 4 0 3)]=some (.agg (C4 fun f=>(l.countP (En.fH f):Int))):=by
    rw[C4.LW (g:=fun j=>jm l 4 0 j)];simp[C4,VZ]
   have no:(D.tup [iv (l.countP En.nv:Int), .agg (C4 fun f=>(l.countP (En.fH f):Int)),iv 0]).aF=true:=rfl;have tg: ∀x,bU x (.tup [iv (l.countP En.nv:Int), .agg (C4 fun f=>(l.countP (En.fH f):Int)),iv 0])=R:=fun x=>by rw[hR];rfl
   generalize(C4 fun f=>(l.countP (En.fH f):Int))=c4 at*;simp[-fu,k4,no,tg]
  ·have hf4:f<4:=by omega
   have hfi:(f:Int)<4:=by omega
   have kc:=Xw hF l (f:Int)
   have w8:IntKind.u8.wrap (f:Int)=(f:Int):=by
    have c:f=0∨f=1∨f=2∨f=3:=by omega
    rcases c with rfl|rfl|rfl|rfl<;>rfl
   have ih:=ih (by omega);simp[hfi,w8,kc,yd,xt,xu];refine aV (n:=l.length) (fun i=> [iv (i:Int),iv (jm l f i 0),iv (jm l f i 1),iv (jm l f i 2),iv (jm l f i 3)]) R (by omega) ?_;intro F5 i hi ih2;cases h3:l[i]? with
   |some e=>
    have l3:=(Gz.1 h3).1;have e3:l[i]=e:=(Gz.1 h3).2;have ih2:=ih2 (by omega);have k1:=Lu hF e;have kg:=C4.get (G:=GK H) (g:=fun j=>jm l f i j) hf4;have ks:=C4.set (G:=GK H) (g:=fun j=>jm l f i j) (v:=jm l f i f+1) hf4;have ko:=C4.LW (G:=GK H) (g:=fun j=>jm l f i j);have kr:=ZV (G:=GK H) hf4;have rg:=KH l hl f i f;cases hin:e.fH f with
    |true=>
     have hcm:e.cB=true∧e.fl=(f:Int):=by simpa[En.fH]using hin
     simp only[KI h3 hin]at ih2;generalize hgg:(fun j=>jm l f i j)=gg at*;have e0: ∀j,jm l f i j=gg j:=fun j=>by rw[←hgg]
     simp only[e0]at*;simp[-fu,l3,e3,k1,hcm.1,hcm.2,kg,ks,ko,kr,wr (z:=gg f+1) (by omega) (by omega),wr (z:=(i:Int)+1) (by omega) (by omega)];exact ih2
    |false=>
     simp only[Sg h3 hin]at ih2;generalize jm l f i 0=a0 at*;generalize jm l f i 1=a1 at*;generalize jm l f i 2=a2 at*;generalize jm l f i 3=a3 at*;cases hcm:e.cB with
     |true=>
      have hfl: ¬e.fl=(f:Int):=by simpa[En.fH,hcm]using hin
      simp[l3,e3,k1,hcm,hfl,wr (z:=(i:Int)+1) (by omega) (by omega)];exact ih2
     |false=>
      simp[l3,e3,k1,hcm,wr (z:=(i:Int)+1) (by omega) (by omega)];exact ih2
   |none=>
    have l3:=List.getElem?_eq_none_iff.1 h3;have e:l.length=i:=by omega
    clear ih2 h3 l3 hi;subst e;simp only[KG];simp[wr (z:=(f:Int)+1) (by omega) (by omega)];exact ih
end Ty
end
section
namespace Ty
end Ty
end
noncomputable section
namespace Ty
variable {H : FP}
def P2(a b:Fq):List D:= [iv a.n,iv a.d,iv b.n,iv b.d]
section
variable {G : FP} {a b c f : Fq} {es : List (List D)} {i : Nat}
@[simp] theorem P2.len:(P2 a b).length=4:=nr rfl
@[simp] theorem P2.JN:XK.run G (.pk (.load 2 true)) [.lptr ((P2 a b).drop 0)]=some (.agg a.cells):=nr rfl
@[simp] theorem P2.Ly:XK.run G (.pk (.load 2 true)) [.lptr (P2 a b)]=some (.agg a.cells):=nr rfl
@[simp] theorem P2.Tx:XK.run G (.pk (.load 2 true)) [.lptr ((P2 a b).drop 2)]=some (.agg b.cells):=nr rfl
theorem ael(h:es[i]?=some (P2 a b)):XK.run G (.setl 4 0 4) [.list es,iv (i:Int), .agg [iv 0,iv 1,iv 0,iv 1]]=some (.list (es.set i (P2 ⟨0,1⟩ ⟨0,1⟩))):=by
 show(if(i:Int)<0 then none else(es[(i:Int).toNat]?).bind fun c=>if(D.agg [iv 0,iv 1,iv 0,iv 1]).cells.length=4∧0+4≤4∧c.length=4∧(D.agg [iv 0,iv 1,iv 0,iv 1]).cells.all D.gH=true∧(D.agg [iv 0,iv 1,iv 0,iv 1]).cells.all D.nG=true then some (D.list (es.set (i:Int).toNat (putAt c 0 (D.agg [iv 0,iv 1,iv 0,iv 1]).cells)))else none)=_;rw[if_neg (by omega),Int.toNat_natCast,h,Oz,if_pos ⟨rfl,by omega,rfl,rfl,rfl⟩];rfl
theorem Pg(h:es[i]?=some (P2 a b)):XK.run G (.setl 4 0 2) [.list es,iv (i:Int), .agg f.cells]=some (.list (es.set i (P2 f b))):=by
 show(if(i:Int)<0 then none else(es[(i:Int).toNat]?).bind fun c=>if(D.agg f.cells).cells.length=2∧0+2≤4∧c.length=4∧(D.agg f.cells).cells.all D.gH=true∧(D.agg f.cells).cells.all D.nG=true then some (D.list (es.set (i:Int).toNat (putAt c 0 (D.agg f.cells).cells)))else none)=_;rw[if_neg (by omega),Int.toNat_natCast,h,Oz,if_pos ⟨rfl,by omega,rfl,rfl,rfl⟩];rfl
theorem Ph(h:es[i]?=some (P2 a b)):XK.run G (.setl 4 2 2) [.list es,iv (i:Int), .agg f.cells]=some (.list (es.set i (P2 a f))):=by
 show(if(i:Int)<0 then none else(es[(i:Int).toNat]?).bind fun c=>if(D.agg f.cells).cells.length=2∧2+2≤4∧c.length=4∧(D.agg f.cells).cells.all D.gH=true∧(D.agg f.cells).cells.all D.nG=true then some (D.list (es.set (i:Int).toNat (putAt c 2 (D.agg f.cells).cells)))else none)=_;rw[if_neg (by omega),Int.toNat_natCast,h,Oz,if_pos ⟨rfl,by omega,rfl,rfl,rfl⟩];rfl
theorem XQ:XK.run G (.lit 1 1 [.nil] [(0,1)]) [.list es]=some (.list [[.list es]]):=rfl
theorem adG{n:Int}(h0:0≤n)(h1:n≤1000):XK.run G (.mks 5 [iv 0,iv 0,iv 0,iv 0,bv false]) [iv 0,iv n]=some (.list []):=by
 show(if(0:Int)≤0∧0≤n∧n≤aD∧n.toNat*5≤16777216∧ [iv 0,iv 0,iv 0,iv 0,bv false].length=5∧([iv 0,iv 0,iv 0,iv 0,bv false]:List D).all D.nG=true then some (D.list (List.replicate (0:Int).toNat [iv 0,iv 0,iv 0,iv 0,bv false]))else none)=_;rw[if_pos ⟨by omega,h0,by simp[aD];omega,by omega,rfl,rfl⟩];rfl
theorem adF{n:Nat}(h1:n≤1000):XK.run G (.mks 4 [iv 0,iv 0,iv 0,iv 0]) [iv (n:Int),iv (n:Int)]=some (.list (List.replicate n (P2 ⟨0,0⟩ ⟨0,0⟩))):=by
 show(if 0≤(n:Int)∧(n:Int)≤n∧(n:Int)≤aD∧(n:Int).toNat*4≤16777216∧ [iv 0,iv 0,iv 0,iv 0].length=4∧([iv 0,iv 0,iv 0,iv 0]:List D).all D.nG=true then some (D.list (List.replicate (n:Int).toNat [iv 0,iv 0,iv 0,iv 0]))else none)=_;rw[if_pos ⟨by omega,by omega,by simp[aD];omega,by omega,rfl,rfl⟩,Int.toNat_natCast];rfl
def BV(a b:Fq)(c:Bool):List D:= [iv a.n,iv a.d,iv b.n,iv b.d,bv c]
theorem BV.lit{c:Bool}:XK.run G (.lit 5 1 [iv 0,iv 0,iv 0,iv 0,bv false] [(0,5)]) [.agg [iv a.n,iv a.d,iv b.n,iv b.d,bv c]]=some (.list [BV a b c]):=rfl
end
def ji(f g:En→List D)(l:List En)(i:Nat):List (List D):=(l.take i).map f++(l.drop i).map g
theorem tZ{f g:En→List D}{l:List En}{i:Nat}{e:En}(h:l[i]?=some e):(ji f g l i)[i]?=some (g e):=by
 have hi:=(Gz.1 h).1;unfold ji;rw[Xz (by simp;omega),cD h];simp[Nat.min_eq_left (Nat.le_of_lt hi)]
theorem t_{f g:En→List D}{l:List En}{i:Nat}{e:En}(h:l[i]?=some e):(ji f g l i).set i (f e)=ji f g l (i+1):=by
 have hi:=(Gz.1 h).1;unfold ji;rw[List.set_append_right _ _ (by simp;omega),cD h,List.take_add_one,h];simp[Nat.min_eq_left (Nat.le_of_lt hi)]
theorem ql{f g:En→List D}{l:List En}{i:Nat}{e:En}(h:l[i]?=some e)(hs:f e=g e):ji f g l (i+1)=ji f g l i:=by
 unfold ji;rw[cD h,List.take_add_one,h];simp[hs]
theorem CH(f g:En→List D)(l:List En):ji f g l 0=l.map g:=by simp[ji]
theorem CI(f g:En→List D)(l:List En):ji f g l l.length=l.map f:=by simp[ji]
theorem tz{p:En→Bool}{l:List En}{i:Nat}{e:En}(h:l[i]?=some e)(hp:p e=true):(l.filter p)[(l.take i).countP p]?=some e:=by
 have e1:l=l.take i++e::l.drop (i+1):=by rw[←cD h,List.take_append_drop]
 have e2:l.filter p=(l.take i).filter p++e::(l.drop (i+1)).filter p:=by
  conv=>lhs;rw[e1]
  rw[List.filter_append,List.filter_cons_of_pos hp]
 rw[e2,List.countP_eq_length_filter,Xz (Nat.le_refl _)];simp
def R0(all:Nat)(e:En):Fq×Fq:=if e.kd=0 then(⟨0,0⟩,⟨0,0⟩)else if all=1 then(⟨0,1⟩,⟨0,1⟩)else if e.kd=4 then(share e.a0 all,share e.a1 all)else(⟨0,0⟩,⟨0,0⟩)
def ni(H:FP)(vul:Int)(l:List En)(f:Int):List (List Pt):=(l.filter (En.fH f)).map (wM H vul)
def nh(H:FP)(vul:Int)(l:List En)(f:Int):List (List Pt):=(l.filter (En.fH f)).map (wb H vul)
def Av(H:FP)(vul:Int)(l:List En)(e:En):Fq:=BU (ni H vul l e.fl) (l.countP En.nv) (wM H vul e)
def Ch(H:FP)(vul:Int)(l:List En)(e:En):Fq:=BU (nh H vul l e.fl) (l.countP En.nv) (wb H vul e)
def Rk(H:FP)(vul:Int)(l:List En)(k:Nat)(e:En):Fq×Fq:=if e.cB=true∧e.fl<k then(Av H vul l e,Ch H vul l e)else R0 (l.countP En.nv) e
def Ra(H:FP)(vul:Int)(l:List En)(k:Nat)(e:En):Fq×Fq:=if e.fH k=true then(Av H vul l e,(Rk H vul l k e).2)else Rk H vul l k e
def eM(H:FP)(vul:Int)(l:List En)(e:En):Fq×Fq:=if l.countP En.nv<2 then R0 (l.countP En.nv) e else Rk H vul l 4 e
def aN(r:En→Fq×Fq)(e:En):List D:=P2 (r e).1 (r e).2
theorem rk0{vul:Int}{l:List En}{e:En}(h:0≤e.fl):Rk H vul l 0 e=R0 (l.countP En.nv) e:=by
 unfold Rk;rw[if_neg (by omega)]
theorem T9{vul:Int}{l:List En}{k:Nat}{e:En}(h:e.fH k=false):Rk H vul l (k+1) e=Ra H vul l k e:=by
 unfold Ra;rw[if_neg (by simp[h])];unfold Rk;cases hc:e.cB with
 |false=>simp
 |true=>
  have hf: ¬e.fl=(k:Int):=by simpa[En.fH,hc]using h
  by_cases h1:e.fl<k
  ·rw[if_pos ⟨rfl,by omega⟩,if_pos ⟨rfl,h1⟩]
  ·rw[if_neg (by omega),if_neg (by omega)]
theorem Mh{vul:Int}{l:List En}{k:Nat}{e:En}(h:e.fH k=true):Rk H vul l (k+1) e=(Av H vul l e,Ch H vul l e):=by
 have:e.cB=true∧e.fl=(k:Int):=by simpa[En.fH]using h
 unfold Rk;rw[if_pos ⟨this.1,by omega⟩]
def dH(H:FP)(vul:Int)(l:List En)(e:En):List D:=BV (eM H vul l e).1 (eM H vul l e).2 (e.nv&&decide (1<l.countP En.nv))
theorem oO{α:Type}{p:En→Bool}{l:List En}{i:Nat}{e:En}(h:l[i]?=some e)(f:En→α):((l.take (i+1)).filter p).map f=((l.take i).filter p).map f++(if p e=true then [f e]else []):=by
 rw[List.take_add_one,h,List.filter_append,List.map_append];cases hp:p e<;>simp[hp]
set_option maxHeartbeats 4000000 in
theorem l87(hB:Fb H)(l:List En)(h: ∀e∈l,EX e)(hl:l.length≤24){vul:Int}(hv:0≤vul∧vul≤3):
  XK.run (GK H) (.call false 87) [.list (l.map En.cells),uv vul]=some (.tup [.list (l.map (dH H vul l)),iv 0]):=by
 have hF:=hB.fr;refine ahz (af hF Zz ?_) rfl;unfold Us;generalize hz0:GN=z0
 conv=>enter [1,3];cbv
 subst hz0;obtain⟨R,hR⟩: ∃R,R=D.own (.tup [.list (l.map (dH H vul l)),iv 0]):=⟨_,rfl⟩;rw[←hR];have k0:=l88 hF l h hl;have v3: ¬3<vul:=by omega
 have e0: ∀(a:Int) (g:Nat→Int),XK.run (GK H) (.pk (.ext 0)) [.tup [iv a, .agg (C4 g),iv 0]]=some (iv a):=fun a g=>rfl;have e1: ∀(a:Int) (g:Nat→Int),XK.run (GK H) (.pk (.ext 1)) [.tup [iv a, .agg (C4 g),iv 0]]=some (.agg (C4 g)):=fun a g=>rfl;have e2: ∀(a:Int) (g:Nat→Int),XK.run (GK H) (.pk (.ext 2)) [.tup [iv a, .agg (C4 g),iv 0]]=some (iv 0):=fun a g=>rfl;have km:=adF (G:=GK H) (n:=l.length) (by omega);have hnv:l.countP En.nv≤24:=Nat.le_trans List.countP_le_length hl;have hfl: ∀e∈l,0≤e.fl∧e.fl≤3:=fun e he=>(ph (h e he).b (h e he).r).2;obtain⟨all,bN⟩: ∃n,n=l.countP En.nv:=⟨_,rfl⟩;rw[←bN]at k0 hnv;simp[-aZ,k0,v3,e0,e1,e2,km];have z0:List.replicate l.length (P2 ⟨0,0⟩ ⟨0,0⟩)=ji (aN (R0 all)) (fun _=>P2 ⟨0,0⟩ ⟨0,0⟩) l 0:=by rw[CH,List.map_const']
 rw[z0];refine aV (n:=l.length) (fun i=> [iv (i:Int),iv 0,iv 0, .list (ji (aN (R0 all)) (fun _=>P2 ⟨0,0⟩ ⟨0,0⟩) l i)]) R (by omega) ?_;intro rec i hi ih;unfold GN;generalize hz0:sf=z0;generalize hz1:DI=z1
 conv=>enter [1,3];cbv
 subst hz0;subst hz1
 conv in sf=>unfold sf;cbv
 cases h3:l[i]? with
 |some e=>
  have l3:=(Gz.1 h3).1;have e3:l[i]=e:=(Gz.1 h3).2;have he:=h e (Lz h3);have ih:=ih (by omega);have hg:=tZ (f:=aN (R0 all)) (g:=fun _=>P2 ⟨0,0⟩ ⟨0,0⟩) h3;have fK:=t_ (f:=aN (R0 all)) (g:=fun _=>P2 ⟨0,0⟩ ⟨0,0⟩) h3;have lM:=ql (f:=aN (R0 all)) (g:=fun _=>P2 ⟨0,0⟩ ⟨0,0⟩) h3;generalize ji (aN (R0 all)) (fun _=>P2 ⟨0,0⟩ ⟨0,0⟩) l i=es at*;generalize ji (aN (R0 all)) (fun _=>P2 ⟨0,0⟩ ⟨0,0⟩) l (i+1)=es' at*;have w:=wr (z:=(i:Int)+1) (by omega) (by omega);by_cases hk:e.kd=0
  ·have:=lM (by simp[aN,R0,hk]);subst this;simp[l3,e3,hk,w];exact ih
  ·have rM:0<all:=by
    rw[bN];exact List.countP_pos_iff.2 ⟨e,Lz h3,by simp[En.nv,hk]⟩
   by_cases ha1:all=1
   ·have hs:=ael (G:=GK H) hg;have ex:aN (R0 all) e=P2 ⟨0,1⟩ ⟨0,1⟩:=by simp[aN,R0,hk,ha1]
    rw[ex]at fK;rw[fK]at hs;have KL:(all:Int)=1:=by omega
    simp[l3,e3,hk,KL,hg,hs,w];exact ih
   ·have KL: ¬(all:Int)=1:=by omega
    by_cases hk4:e.kd=4
    ·have k98:=l98 hB e he hk4 (all:=(all:Int)) (by omega);have hs1:=Pg (G:=GK H) (f:=share e.a0 all) hg;have hlen:i<es.length:=(Gz.1 hg).1;have hg2:(es.set i (P2 (share e.a0 all) ⟨0,0⟩))[i]?=some (P2 (share e.a0 all) ⟨0,0⟩):=by rw[List.getElem?_set_self hlen]
     have hs2:=Ph (G:=GK H) (f:=share e.a1 all) hg2;rw[List.set_set]at hs2;have ex:aN (R0 all) e=P2 (share e.a0 all) (share e.a1 all):=by simp[aN,R0,hk4,ha1]
     rw[ex]at fK;rw[fK]at hs2;have x0:XK.run (GK H) (.pk (.ext 0)) [.tup [.agg (share e.a0 all).cells, .agg (share e.a1 all).cells,iv 0]]=some (.agg (share e.a0 all).cells):=rfl;have x1:XK.run (GK H) (.pk (.ext 1)) [.tup [.agg (share e.a0 all).cells, .agg (share e.a1 all).cells,iv 0]]=some (.agg (share e.a1 all).cells):=rfl;have x2:XK.run (GK H) (.pk (.ext 2)) [.tup [.agg (share e.a0 all).cells, .agg (share e.a1 all).cells,iv 0]]=some (iv 0):=rfl;generalize es.set i (P2 (share e.a0 all) ⟨0,0⟩)=es1 at*;simp[-aZ,l3,e3,hk,hk4,KL,hg,k98,x0,x1,x2,hs1,hs2,w];exact ih
    ·have:=lM (by simp[aN,R0,hk,hk4,ha1]);subst this;simp[l3,e3,hk,hk4,KL,w];exact ih
 |none=>
  have l3:=List.getElem?_eq_none_iff.1 h3;have e:l.length=i:=by omega
  clear ih h3 l3 hi;subst e;rw[CI];simp
  have lines: ∀(row:En→Fq×Fq),(∀e∈l,eM H vul l e=row e)→ ∀(i:Nat) (e:En),l[i]?=some e→
    (l.map (aN row))[i]?=some (P2 (eM H vul l e).1 (eM H vul l e).2)∧
    XK.run (GK H) (.lit 5 1 [iv 0,iv 0,iv 0,iv 0,bv false] [(0,5)]) [.agg [iv (eM H vul l e).1.n,iv (eM H vul l e).1.d,iv (eM H vul l e).2.n,iv (eM H vul l e).2.d,bv (e.nv&&decide (1<all))]]=some (.list [dH H vul l e])∧
    XK.run (GK H) (.app 5) [.list ((l.take i).map (dH H vul l)), .list [dH H vul l e]]=some (.list ((l.take (i+1)).map (dH H vul l))):=fun row gi i e h3=>by
   refine⟨by rw[Dz,h3,gi e (Lz h3)];rfl,by rw[bN];exact BV.lit, ?_⟩;rw[List.take_add_one,h3,List.map_append];exact BZ (by simp;omega) rfl
  have hd1:((1:Int)<(all:Int))↔1<all:=by omega
  have rO: ∀x y,bU (.mk .tup [.mk .own [x],y]) (.tup [.list (l.map (dH H vul l)),iv 0])=R:=fun x y=>by rw[hR];exact kP (An fun x=>rfl)
  have km5:=adG (G:=GK H) (n:=(l.length:Int)) (by omega) (by omega);by_cases ha2:all<2
  ·--no Nh
   rw[lp0];unfold DI;generalize hz0:DJ=z0;generalize hz1:DK=z1;generalize hz2:DL=z2
   conv=>enter [1,3];cbv
   subst hz0;subst hz1;subst hz2;have Sn:(all:Int)<2:=by omega
   simp[Sn,km5];have gi: ∀e∈l,eM H vul l e=R0 all e:=fun e he=>by unfold eM;rw[←bN,if_pos ha2]
   refine aV (n:=l.length) (fun i=> [iv (i:Int), .list ((l.take i).map (dH H vul l))]) R (by omega) ?_;intro rec i hi ih;unfold DJ
   conv=>enter [1,3];cbv
   cases h3:l[i]? with
   |some e=>
    have l3:=(Gz.1 h3).1;have e3:l[i]=e:=(Gz.1 h3).2;have ih:=ih (by omega);obtain⟨q1,q2,q3⟩:=lines (R0 all) gi i e h3;have w:=wr (z:=(i:Int)+1) (by omega) (by omega);generalize l.map (aN (R0 all))=es at*;generalize(l.take i).map (dH H vul l)=acc at*;generalize(l.take (i+1)).map (dH H vul l)=gI at*;have SI:e.nv= !decide (e.kd=0):=rfl;rw[SI]at q2;by_cases hk:e.kd=0
    ·simp[hk]at q2;simp[l3,e3,hk,q1,q2,q3,w,hd1];exact ih
    ·simp[hk]at q2;simp[l3,e3,hk,q1,q2,q3,w,hd1];exact ih
   |none=>
    have l3:=List.getElem?_eq_none_iff.1 h3;have e:l.length=i:=by omega
    clear ih h3 l3 hi;subst e;rw[List.take_length];generalize l.map (dH H vul l)=acc at*;have ko:XK.run (GK H) .own [.list acc]=some (.list acc):=rfl;simp[ko,rO]
  ·--field by field
   have Sn: ¬(all:Int)<2:=by omega
   have hR0:l.map (aN (R0 all))=l.map (aN (Rk H vul l 0)):=List.map_congr_left fun e he=>by unfold aN;rw[rk0 (hfl e he).1,←bN]
   rw[hR0];have gi: ∀e∈l,eM H vul l e=Rk H vul l 4 e:=fun e he=>by unfold eM;rw[←bN,if_neg ha2]
   refine aV (n:=4) (fun k=> [iv (k:Int),iv 0, .list (l.map (aN (Rk H vul l k)))]) R (by omega) ?_;intro rec k hk4 ih;unfold DI;generalize hz0:DJ=z0;generalize hz1:DK=z1;generalize hz2:DL=z2
   conv=>enter [1,3];cbv
   subst hz0;subst hz1;subst hz2;by_cases h4:k=4
   ·subst h4;simp[km5];refine aV (n:=l.length) (fun i=> [iv (i:Int), .list ((l.take i).map (dH H vul l))]) R (by omega) ?_;intro rec i hi ih;unfold DL
    conv=>enter [1,3];cbv
    cases h3:l[i]? with
    |some e=>
     have l3:=(Gz.1 h3).1;have e3:l[i]=e:=(Gz.1 h3).2;have ih:=ih (by omega);obtain⟨q1,q2,q3⟩:=lines (Rk H vul l 4) gi i e h3;have w:=wr (z:=(i:Int)+1) (by omega) (by omega);generalize l.map (aN (Rk H vul l 4))=es at*;generalize(l.take i).map (dH H vul l)=acc at*;generalize(l.take (i+1)).map (dH H vul l)=gI at*;have SI:e.nv= !decide (e.kd=0):=rfl;rw[SI]at q2;by_cases hk:e.kd=0
     ·simp[hk]at q2;simp[l3,e3,hk,q1,q2,q3,w,hd1];exact ih
     ·simp[hk]at q2;simp[l3,e3,hk,q1,q2,q3,w,hd1];exact ih
    |none=>
     have l3:=List.getElem?_eq_none_iff.1 h3;have e:l.length=i:=by omega
     clear ih h3 l3 hi;subst e;rw[List.take_length];generalize l.map (dH H vul l)=acc at*;have ko:XK.run (GK H) .own [.list acc]=some (.list acc):=rfl;simp[ko,rO]
   ·have hkl:k<4:=by omega
    have hki:(k:Int)<4:=by omega
    have w8:IntKind.u8.wrap (k:Int)=(k:Int):=by
     have c:k=0∨k=1∨k=2∨k=3:=by omega
     rcases c with rfl|rfl|rfl|rfl<;>rfl
    have kc:=Xw hF l (k:Int);have ih:=ih (by omega);have fbu:XK.run (GK H) (.pk (.fbox 1)) [uv vul]=some (.lptr [uv vul]):=rfl;simp[hki,Sn,w8,kc,yd,xt,xu,fbu];refine aV (n:=l.length) (fun i=> [iv (i:Int), .list (((l.take i).filter (En.fH k)).map fun e=> [D.list ((wM H vul e).map Pt.cells)]), .list (((l.take i).filter (En.fH k)).map fun e=> [D.list ((wb H vul e).map Pt.cells)])]) R (by omega) ?_;intro F5 i hi ih2;unfold DK;generalize hz0:sg=z0;generalize hz1:GO=z1
    conv=>enter [1,3];cbv
    subst hz0;subst hz1
    conv in sg=>unfold sg;cbv
    cases h3:l[i]? with
    |some e=>
     have l3:=(Gz.1 h3).1;have e3:l[i]=e:=(Gz.1 h3).2;have he:=h e (Lz h3);have ih2:=ih2 (by omega);rw[oO h3,oO h3]at ih2;have k1:=Lu hF e;have w:=wr (z:=(i:Int)+1) (by omega) (by omega)
     have la: ∀(f:En→List D),(((l.take i).filter (En.fH k)).map f).length<65536:=fun f=>by
      rw[List.length_map];have:=List.length_filter_le (En.fH k) (l.take i);rw[List.length_take]at this;omega
     have a1:=BZ (G:=GK H) (size:=1) (es:=((l.take i).filter (En.fH k)).map fun e=> [D.list ((wM H vul e).map Pt.cells)]) (c:= [D.list ((wM H vul e).map Pt.cells)]) (la _) rfl;have a2:=BZ (G:=GK H) (size:=1) (es:=((l.take i).filter (En.fH k)).map fun e=> [D.list ((wb H vul e).map Pt.cells)]) (c:= [D.list ((wb H vul e).map Pt.cells)]) (la _) rfl;generalize(((l.take i).filter (En.fH k)).map fun e=> [D.list ((wM H vul e).map Pt.cells)])=afw at*;generalize(((l.take i).filter (En.fH k)).map fun e=> [D.list ((wb H vul e).map Pt.cells)])=afx at*;cases hin:e.fH k with
     |true=>
      have hcm:e.cB=true∧e.fl=(k:Int):=by simpa[En.fH]using hin
      rw[hin]at ih2;simp only[if_true]at ih2;have ks:=(Tm hF e he hcm.1 hv).2;have x0: ∀a b:List (List D),XK.run (GK H) (.pk (.ext 0)) [.tup [.list a, .list b,iv 0]]=some (.list a):=fun a b=>rfl;have x1: ∀a b:List (List D),XK.run (GK H) (.pk (.ext 1)) [.tup [.list a, .list b,iv 0]]=some (.list b):=fun a b=>rfl;have x2: ∀a b:List (List D),XK.run (GK H) (.pk (.ext 2)) [.tup [.list a, .list b,iv 0]]=some (iv 0):=fun a b=>rfl;have lt:=fun es=>XQ (G:=GK H) (es:=es);generalize(wM H vul e).map Pt.cells=n1 at*;generalize(wb H vul e).map Pt.cells=n2 at*;simp[-aZ,l3,e3,k1,hcm.1,hcm.2,ks,x0,x1,x2,lt,a1,a2,w];exact ih2
     |false=>
      rw[hin]at ih2;simp only[Bool.false_eq_true,if_false,List.append_nil]at ih2;cases hcm:e.cB with
      |true=>
       have hf: ¬e.fl=(k:Int):=by simpa[En.fH,hcm]using hin
       simp[l3,e3,k1,hcm,hf,w];exact ih2
      |false=>
       simp[l3,e3,k1,hcm,w];exact ih2
    |none=>
     have l3:=List.getElem?_eq_none_iff.1 h3;have e:l.length=i:=by omega
     clear ih2 h3 l3 hi;subst e;rw[List.take_length]
     have ae8:l.countP (En.fH k)≤all:=by
      rw[bN]
      exact List.countP_mono_left fun e _ he=>by
       have:e.cB=true∧e.fl=(k:Int):=by simpa[En.fH]using he
       have:=this.1;simp[En.cB]at this;simp[En.nv,this]
     have okN: ∀r∈ni H vul l k,qE r:=fun r hr=>by
      obtain⟨e,he,rfl⟩:=List.mem_map.1 hr;obtain⟨h1,h2⟩:=List.mem_filter.1 he;have:e.cB=true∧e.fl=(k:Int):=by simpa[En.fH]using h2
      exact(Tm hF e (h e h1) this.1 hv).1.1
     have okE: ∀r∈nh H vul l k,qE r:=fun r hr=>by
      obtain⟨e,he,rfl⟩:=List.mem_map.1 hr;obtain⟨h1,h2⟩:=List.mem_filter.1 he;have:e.cB=true∧e.fl=(k:Int):=by simpa[En.fH]using h2
      exact(Tm hF e (h e h1) this.1 hv).1.2
     have hlN:((ni H vul l k).length:Int)≤all:=by unfold ni;rw[List.length_map,←List.countP_eq_length_filter];omega
     have hlE:((nh H vul l k).length:Int)≤all:=by unfold nh;rw[List.length_map,←List.countP_eq_length_filter];omega
     have kN:=XB hB (ni H vul l k) all okN (by omega) hlN (by omega) (fl:=true);have kE:=XB hB (nh H vul l k) all okE (by omega) hlE (by omega) (fl:=true);have eN:(l.filter (En.fH k)).map (fun e=> [D.list ((wM H vul e).map Pt.cells)])=(ni H vul l k).map fun r=> [.list (r.map Pt.cells)]:=by unfold ni;rw[List.map_map];rfl
     have eE:(l.filter (En.fH k)).map (fun e=> [D.list ((wb H vul e).map Pt.cells)])=(nh H vul l k).map fun r=> [.list (r.map Pt.cells)]:=by unfold nh;rw[List.map_map];rfl
     rw[eN,eE]
     have ptN: ∀(i:Nat) (e:En),l[i]?=some e→e.fH k=true→((ni H vul l k).map fun r=>(BU (ni H vul l k) all r).cells)[(l.take i).countP (En.fH k)]?=some (Av H vul l e).cells:=fun i e h3 hin=>by
      have hcm:e.cB=true∧e.fl=(k:Int):=by simpa[En.fH]using hin
      rw[Dz];unfold ni Av;rw[Dz,tz h3 hin,hcm.2,←bN];rfl
     have ptE: ∀(i:Nat) (e:En),l[i]?=some e→e.fH k=true→((nh H vul l k).map fun r=>(BU (nh H vul l k) all r).cells)[(l.take i).countP (En.fH k)]?=some (Ch H vul l e).cells:=fun i e h3 hin=>by
      have hcm:e.cB=true∧e.fl=(k:Int):=by simpa[En.fH]using hin
      rw[Dz];unfold nh Ch;rw[Dz,tz h3 hin,hcm.2,←bN];rfl
     have x0: ∀a:List (List D),XK.run (GK H) (.pk (.ext 0)) [.tup [.list a,iv 0]]=some (.list a):=fun a=>rfl;have x1: ∀a:List (List D),XK.run (GK H) (.pk (.ext 1)) [.tup [.list a,iv 0]]=some (iv 0):=fun a=>rfl;generalize((ni H vul l k).map fun r=> [D.list (r.map Pt.cells)])=rN at*;generalize((nh H vul l k).map fun r=> [D.list (r.map Pt.cells)])=rE at*;simp[-aZ,-List.map_map,kN,x0,x1,yd,xt,xu];rw[←CH (aN (Ra H vul l k)) (aN (Rk H vul l k)) l];refine aV (n:=l.length) (fun i=> [iv (i:Int),iv ((l.take i).countP (En.fH k):Int), .list (ji (aN (Ra H vul l k)) (aN (Rk H vul l k)) l i)]) R (by omega) ?_;intro agW i hi ih3;unfold GO;generalize hz0:GP=z0
     conv=>enter [1,3];cbv
     subst hz0;cases h3:l[i]? with
     |some e=>
      have l3:=(Gz.1 h3).1;have e3:l[i]=e:=(Gz.1 h3).2;have ih3:=ih3 (by omega);rw[gL h3]at ih3;have k1:=Lu hF e;have w:=wr (z:=(i:Int)+1) (by omega) (by omega);have hg:=tZ (f:=aN (Ra H vul l k)) (g:=aN (Rk H vul l k)) h3;have fK:=t_ (f:=aN (Ra H vul l k)) (g:=aN (Rk H vul l k)) h3;have lM:=ql (f:=aN (Ra H vul l k)) (g:=aN (Rk H vul l k)) h3;have hc:(l.take i).countP (En.fH k)≤24:=Nat.le_trans List.countP_le_length (by rw[List.length_take];omega);generalize ji (aN (Ra H vul l k)) (aN (Rk H vul l k)) l i=es at*;generalize ji (aN (Ra H vul l k)) (aN (Rk H vul l k)) l (i+1)=es' at*;cases hin:e.fH k with
      |true=>
       have hcm:e.cB=true∧e.fl=(k:Int):=by simpa[En.fH]using hin
       rw[hin]at ih3;simp only[if_true]at ih3;have hp:=ptN i e h3 hin;have hs:=Pg (G:=GK H) (f:=Av H vul l e) (show es[i]?=some (P2 (Rk H vul l k e).1 (Rk H vul l k e).2)from hg);have ex:aN (Ra H vul l k) e=P2 (Av H vul l e) (Rk H vul l k e).2:=by unfold aN Ra;rw[if_pos hin]
       rw[ex]at fK;rw[fK]at hs;generalize(l.take i).countP (En.fH k)=n at*;generalize(ni H vul l k).map (fun r=>(BU ((ni H vul l k)) all r).cells)=ptl at*;simp[l3,e3,k1,hcm.1,hcm.2,hg,hp,aN,hs,w,wr (z:=(n:Int)+1) (by omega) (by omega)];exact ih3
      |false=>
       rw[hin]at ih3;simp only[Bool.false_eq_true,if_false,Nat.add_zero]at ih3;have:=lM (by unfold aN Ra;rw[if_neg (by simp[hin])]);subst this;cases hcm:e.cB with
       |true=>
        have hf: ¬e.fl=(k:Int):=by simpa[En.fH,hcm]using hin
        simp[l3,e3,k1,hcm,hf,w];exact ih3
       |false=>
        simp[l3,e3,k1,hcm,w];exact ih3
     |none=>
      have l3:=List.getElem?_eq_none_iff.1 h3;have e:l.length=i:=by omega
      clear ih3 h3 l3 hi;subst e;rw[CI];simp[-aZ,-List.map_map,kE,x0,x1,yd,xt,xu];rw[←CH (aN (Rk H vul l (k+1))) (aN (Ra H vul l k)) l];refine aV (n:=l.length) (fun i=> [iv (i:Int),iv ((l.take i).countP (En.fH k):Int), .list (ji (aN (Rk H vul l (k+1))) (aN (Ra H vul l k)) l i)]) R (by omega) ?_;intro agX i hi ih4;unfold GP
      conv=>enter [1,3];cbv
      cases h3:l[i]? with
      |some e=>
       have l3:=(Gz.1 h3).1;have e3:l[i]=e:=(Gz.1 h3).2;have ih4:=ih4 (by omega);rw[gL h3]at ih4;have k1:=Lu hF e;have w:=wr (z:=(i:Int)+1) (by omega) (by omega);have hg:=tZ (f:=aN (Rk H vul l (k+1))) (g:=aN (Ra H vul l k)) h3;have fK:=t_ (f:=aN (Rk H vul l (k+1))) (g:=aN (Ra H vul l k)) h3;have lM:=ql (f:=aN (Rk H vul l (k+1))) (g:=aN (Ra H vul l k)) h3;have hc:(l.take i).countP (En.fH k)≤24:=Nat.le_trans List.countP_le_length (by rw[List.length_take];omega);generalize ji (aN (Rk H vul l (k+1))) (aN (Ra H vul l k)) l i=es at*;generalize ji (aN (Rk H vul l (k+1))) (aN (Ra H vul l k)) l (i+1)=es' at*;cases hin:e.fH k with
       |true=>
        have hcm:e.cB=true∧e.fl=(k:Int):=by simpa[En.fH]using hin
        rw[hin]at ih4;simp only[if_true]at ih4;have hp:=ptE i e h3 hin;have hs:=Ph (G:=GK H) (f:=Ch H vul l e) (show es[i]?=some (P2 (Ra H vul l k e).1 (Ra H vul l k e).2)from hg);have ex:aN (Rk H vul l (k+1)) e=P2 (Ra H vul l k e).1 (Ch H vul l e):=by unfold aN;rw[Mh hin];unfold Ra;rw[if_pos hin]
        rw[ex]at fK;rw[fK]at hs;generalize(l.take i).countP (En.fH k)=n at*;generalize(nh H vul l k).map (fun r=>(BU ((nh H vul l k)) all r).cells)=ptl at*;simp[l3,e3,k1,hcm.1,hcm.2,hg,hp,aN,hs,w,wr (z:=(n:Int)+1) (by omega) (by omega)];exact ih4
       |false=>
        rw[hin]at ih4;simp only[Bool.false_eq_true,if_false,Nat.add_zero]at ih4;have:=lM (by unfold aN;rw[T9 hin]);subst this;cases hcm:e.cB with
        |true=>
         have hf: ¬e.fl=(k:Int):=by simpa[En.fH,hcm]using hin
         simp[l3,e3,k1,hcm,hf,w];exact ih4
        |false=>
         simp[l3,e3,k1,hcm,w];exact ih4
      |none=>
       have l3:=List.getElem?_eq_none_iff.1 h3;have e:l.length=i:=by omega
       clear ih4 h3 l3 hi;subst e;rw[CI];simp[wr (z:=(k:Int)+1) (by omega) (by omega)];exact ih
end Ty
end
section
namespace Ty
end Ty
end
noncomputable section
namespace Ty
variable {H : FP}
abbrev BM:=List (Int×List En)
def A5(p:Int×List En):D×D:=(iv p.1, .list (p.2.map En.cells))
def jY(k:Int)(e:En):BM→BM
 | []=> [(k,[e])]
 |p::r=>if p.1=k then(p.1,p.2++ [e])::r else p::jY k e r
def kz(k:Int):BM→List En
 | []=> []
 |p::r=>if p.1=k then p.2 else kz k r
def tH(k:Int):BM→Option Nat
 | []=>none
 |p::r=>if p.1=k then some 0 else(tH k r).map (· +1)
theorem Au{k n:Int}{e:En}: ∀(M:BM),kz n (jY k e M)=if n=k then kz n M++ [e]else kz n M
 | []=>by
  by_cases h:n=k
  ·subst h;simp[jY,kz]
  ·have h': ¬k=n:=fun e=>h e.symm;simp[jY,kz,h,h']
 |p::r=>by
  unfold jY;by_cases hk:p.1=k
  ·rw[if_pos hk];simp only[kz];by_cases h:n=k
   ·subst h;simp[hk]
   ·have h': ¬p.1=n:=fun e=>h (by rw[←e,hk]);simp[h,h']
  ·rw[if_neg hk];simp only[kz];rw[Au r];by_cases hp:p.1=n
   ·have h: ¬n=k:=fun e=>hk (by rw[hp,e]);simp[hp,h]
   ·simp[hp]
theorem zy(k:Int)(e:En): ∀M:BM,(jY k e M).length≤M.length+1
 | []=>by simp[jY]
 |p::r=>by unfold jY;have:=zy k e r;split<;>simp;omega
theorem xP{k:Int}: ∀(M:BM) (i:Nat),cG [3] (iv k) (M.map A5) i=some ((tH k M).map (· +i))
 | [],i=>rfl
 |p::r,i=>by
  rw[List.map_cons];unfold cG tH
  have h1:cj [3] (iv k) (A5 p).1=some (decide (k=p.1)):=by
   show aa [3] [iv k] [iv p.1]=_;simp
  rw[h1,Oz];by_cases h:p.1=k
  ·rw[if_pos (by simpa using h.symm),if_pos h];simp
  ·rw[if_neg (by simpa using fun e=>h e.symm),if_neg h,xP r (i+1),Option.map_map];simp[Function.comp_def,Nat.add_assoc,Nat.add_comm 1]
theorem qe{k:Int}{e:En}: ∀{M:BM} {i:Nat},tH k M=some i→ ∃p,M[i]?=some p∧kz k M=p.2∧jY k e M=M.set i (p.1,p.2++ [e])
 | [],_,h=>by cases h
 |p::r,i,h=>by
  unfold tH at h;by_cases hk:p.1=k
  ·rw[if_pos hk]at h;cases h;exact⟨p,rfl,by simp[kz,hk],by simp[jY,hk]⟩
  ·rw[if_neg hk]at h;obtain⟨j,hj,rfl⟩:=Mz.1 h;obtain⟨q,h1,h2,h3⟩:=qe (e:=e) hj;exact⟨q,h1,by simp[kz,hk,h2],by simp[jY,hk,h3]⟩
theorem qd{k:Int}{e:En}: ∀{M:BM},tH k M=none→kz k M= []∧jY k e M=M++ [(k,[e])]
 | [],_=>⟨rfl,rfl⟩
 |p::r,h=>by
  unfold tH at h;by_cases hk:p.1=k
  ·rw[if_pos hk]at h;cases h
  ·rw[if_neg hk]at h
   have h:tH k r=none:=by cases hr:tH k r with
    |none=>rfl
    |some i=>rw[hr]at h;cases h
   obtain⟨h1,h2⟩:=qd (e:=e) h;exact⟨by simp[kz,hk,h1],by simp[jY,hk,h2]⟩
section
variable {G : FP}
theorem XX{M:BM}{k:Int}{e:En}(hl:M.length<65536)(hv: ∀n,(kz n M).length<65536):XK.run G (.mapp [3] 33) [.list (aH (M.map A5)),iv k, .list [e.cells]]=some (.list (aH ((jY k e M).map A5))):=by
 show((aC (aH (M.map A5))).bind fun es=>(lN (.list [e.cells])).bind fun b=>(tW [3] 33 es (iv k) b).map fun es=>D.list (aH es))=_;rw[bJ,Oz];show((tW [3] 33 (M.map A5) (iv k) [e.cells]).map fun es=>D.list (aH es))=_
 have h1:cj [3] (iv k) (iv k)=some true:=by
  show aa [3] [iv k] [iv k]=_;simp
 unfold tW;rw[if_pos ⟨⟨rfl,h1⟩,rfl,rfl⟩,xP];cases hi:tH k M with
 |some i=>
  obtain⟨p,hp1,hp2,hp3⟩:=qe (e:=e) hi;have hlen:=hv k;rw[hp2]at hlen;simp only[Pz,Oz,Nat.add_zero,Dz,hp1];show(if(p.2.map En.cells).length+1≤aD then some ((M.map A5).set i (iv p.1, .list (p.2.map En.cells++ [e.cells])))else none).map _=_;rw[if_pos (by simp[aD];omega),Pz,hp3,List.map_set];simp[A5]
 |none=>
  obtain⟨_,hp3⟩:=qd (e:=e) hi;simp only[Option.map_none,Oz];rw[if_pos ⟨by simp[aD];omega,by simp[aD]⟩,hp3,List.map_append];rfl
theorem XZ{M:BM}{n:Int}: ∃d,XK.run G (.mget [3] .nil false) [.list (aH (M.map A5)),iv n]=some d∧XK.run G .bt [d]=some (.list ((kz n M).map En.cells)):=by
 have h1:cj [3] (iv n) (iv n)=some true:=by
  show aa [3] [iv n] [iv n]=_;simp
 have key:XK.run G (.mget [3] .nil false) [.list (aH (M.map A5)),iv n]=(pa [3] .nil false (M.map A5) (iv n)).bind fun d=>if d.aF then some d else none:=by
  show((aC (aH (M.map A5))).bind fun es=>(pa [3] .nil false es (iv n)).bind fun d=>if d.aF then some d else none)=_;rw[bJ,Oz]
 rw[key];unfold pa;rw[if_pos ⟨rfl,h1⟩,xP];cases hi:tH n M with
 |some i=>
  obtain⟨p,hp1,hp2,_⟩:=qe (e:=zE) hi;refine⟨.list (p.2.map En.cells), ?_,by rw[hp2];exact T2⟩;simp[hp1,A5]
 |none=>
  obtain⟨hp2,_⟩:=qd (e:=zE) hi;exact⟨.nil,rfl,by rw[hp2];exact T3⟩
theorem adD{l:List Rw}{a b:Int}:XK.run G (.pk (.lkp [99,3,3] (.agg [iv 0,iv 0,iv 0,iv 0,iv 0]) false)) [.fm (aH (l.map Rw.pr)), .agg [iv a,iv b]]=some (.agg (((cM a b l).bind fun i=>l[i]?).getD zR).cells):=by
 show(og dI [99,3,3] (.agg [iv 0,iv 0,iv 0,iv 0,iv 0]) false [.fm (aH (l.map Rw.pr)), .agg [iv a,iv b]]).bind _=_
 have h1:cj [99,3,3] (.agg [iv a,iv b]) (.agg [iv a,iv b])=some true:=by
  show aa [3,3] [iv a,iv b] [iv a,iv b]=_;simp
 unfold og;simp only[];rw[bJ,Oz,if_pos ⟨rfl,h1⟩,oT];cases h:cM a b l with
 |none=>rfl
 |some i=>
  obtain⟨r,hr,_⟩:=gA h;simp[hr];exact⟨rfl,rfl⟩
end
theorem l48(hF:Fr H)(s:Ss)(hr:s.rows.length<9999)(ha:kT s.rows=true){fl:Bool}:XK.run (GK H) (.call false 48) [.agg s.cells]=some (.fm (aH (s.rows.map Rw.pr))):=by
 refine ah (af hF Zi (d:= .fm (aH (s.rows.map Rw.pr))) ?_) rfl rfl
 conv=>enter [1,3];cbv
 simp;refine aV (n:=s.rows.length) (fun j=> [iv (j:Int), .list (aH ((s.rows.take j).map Rw.pr))]) (.fm (aH (s.rows.map Rw.pr))) (by omega) ?_;intro rec j hj ih;cases h3:s.rows[j]? with
 |some r=>
  have l3:=(Gz.1 h3).1;have e3:s.rows[j]=r:=(Gz.1 h3).2;have ih:=ih (by omega);have k:=N1 (G:=GK H) (l:=s.rows.take j) (r:=r) (by rw[List.length_take];omega) (nT ha h3);have et:s.rows.take (j+1)=s.rows.take j++ [r]:=by rw[List.take_add_one,h3];rfl
  rw[←et]at k;generalize aH ((s.rows.take j).map Rw.pr)=m at*;generalize aH ((s.rows.take (j+1)).map Rw.pr)=m' at*;simp[l3,e3,k,wr (z:=(j:Int)+1) (by omega) (by omega)];exact ih
 |none=>
  have l3:=List.getElem?_eq_none_iff.1 h3;have e:s.rows.length=j:=by omega
  have et:s.rows.take j=s.rows:=List.take_of_length_le (by omega);rw[et]
  have kf:XK.run (GK H) .fmk [.list (aH (s.rows.map Rw.pr))]=some (.fm (aH (s.rows.map Rw.pr))):=by
   show((aC (aH (s.rows.map Rw.pr))).bind fun es=>if es.all (fun p=>p.1.aF&&p.2.aF)then some (D.fm (aH (s.rows.map Rw.pr)))else none)=_;rw[bJ,Oz,if_pos];rw[Tz];intro p hp;obtain⟨r,_,rfl⟩:=List.mem_map.1 hp;rfl
  generalize aH (s.rows.map Rw.pr)=m at*;simp[e,kf];exact⟨rfl,rfl⟩
def dJ(n:Int):Int:=(n-1+(n-1)/4)%4
theorem u7(n:Int):0≤dJ n∧dJ n≤3:=by unfold dJ;omega
theorem l86(hF:Fr H)(n:Int)(h:1≤n∧n≤128):XK.run (GK H) (.call false 86) [iv n]=some (.tup [uv (dJ n),iv 0]):=by
 have k:XK.run (GK H) (.call false 134) [iv n]=some (bv true):=by
  refine ah (af hF N' (d:=bv true) ?_) rfl rfl
  conv=>enter [1,3];cbv
  simp[h.1,h.2]
 refine ah (af hF Zy (d:= .tup [uv (dJ n),iv 0]) ?_) rfl rfl
 conv=>enter [1,3];cbv
 have e1:(n-1).tdiv 4=(n-1)/4:=Int.tdiv_eq_ediv_of_nonneg (by omega);have e2:(n-1+(n-1)/4).tmod 4=dJ n:=by rw[Int.tmod_eq_emod_of_nonneg (by omega)];rfl
 have w8:IntKind.u8.wrap (dJ n)=dJ n:=iC .u8 _ (by have:=u7 n;show-(0:Int)≤_;omega) (by have:=u7 n;show _<(256:Int);omega);simp[k,e1,wr (z:=n-1) (by omega) (by omega),wr (z:=(n-1)/4) (by omega) (by omega),wr (z:=n-1+(n-1)/4) (by omega) (by omega),e2,w8]
theorem l59(hF:Fr H)(e:En):XK.run (GK H) (.call false 59) [.agg e.cells]=some (.agg [iv e.rd,iv e.tb,iv e.bd]):=by
 refine ah (af hF Zr (d:= .agg [iv e.rd,iv e.tb,iv e.bd]) ?_) rfl rfl
 conv=>enter [1,3];cbv
 simp;rfl
theorem l49(hF:Fr H)(s:Ss)(l:List En):XK.run (GK H) (.call false 49) [.agg s.cells, .list (l.map En.cells)]=some (.clo 85 [.lptr [.list (l.map En.cells)], .lptr s.cells]):=by
 refine ah (af hF Zj (d:= .clo 85 [.lptr [.list (l.map En.cells)], .lptr s.cells]) ?_) rfl rfl
 conv=>enter [1,3];cbv
 have kc:XK.run (GK H) (.clo 85) [.lptr [.list (l.map En.cells)], .lptr s.cells]=some (.clo 85 [.lptr [.list (l.map En.cells)], .lptr s.cells]):=rfl;simp[kc];exact⟨rfl,rfl⟩
def rowAt(s:Ss)(e:En):Rw:=((cM e.rd e.tb s.rows).bind fun i=>s.rows[i]?).getD zR
def fY(H:FP)(s:Ss)(vul:Int)(l:List En)(e:En):List D:=
 [iv e.rd,iv e.tb,iv e.bd,iv (if e.tu then(rowAt s e).ew else(rowAt s e).ns),iv (if e.tu then(rowAt s e).ns else(rowAt s e).ew),iv (eM H vul l e).1.n,iv (eM H vul l e).1.d,iv (eM H vul l e).2.n,iv (eM H vul l e).2.d,iv (2*((l.countP En.nv:Int)-1)),bv (e.nv&&decide (1<l.countP En.nv))]
def eF(H:FP)(s:Ss)(n:Int)(l:List En):List (List D):=(l.filter En.nv).map (fY H s (dJ n) l)
section
variable {G : FP} {a b : Fq} {c : Bool}
@[simp] theorem BV.len:(BV a b c).length=5:=nr rfl
@[simp] theorem BV.JN:XK.run G (.pk (.load 2 true)) [.lptr ((BV a b c).drop 0)]=some (.agg a.cells):=nr rfl
@[simp] theorem BV.Ly:XK.run G (.pk (.load 2 true)) [.lptr (BV a b c)]=some (.agg a.cells):=nr rfl
@[simp] theorem BV.Tx:XK.run G (.pk (.load 2 true)) [.lptr ((BV a b c).drop 2)]=some (.agg b.cells):=nr rfl
@[simp] theorem BV.ld4:XK.run G (.pk (.load 1 false)) [.lptr ((BV a b c).drop 4)]=some (bv c):=nr rfl
theorem XP{x0 x1 x2 x3 x4 x5 x6 x7 x8 x9:Int}{c:Bool}:XK.run G (.lit 11 1 [iv 0,iv 0,iv 0,iv 0,iv 0,iv 0,iv 0,iv 0,iv 0,iv 0,bv false] [(0,11)]) [.agg [iv x0,iv x1,iv x2,iv x3,iv x4,iv x5,iv x6,iv x7,iv x8,iv x9,bv c]]=some (.list [[iv x0,iv x1,iv x2,iv x3,iv x4,iv x5,iv x6,iv x7,iv x8,iv x9,bv c]]):=rfl
end
set_option maxHeartbeats 2000000 in
theorem l50(hB:Fb H)(s:Ss)(n:Int)(hn:1≤n∧n≤128)(l:List En)(h: ∀e∈l,EX e)(hl:l.length≤24):
  XK.run (GK H) (.call false 50) [.fm (aH (s.rows.map Rw.pr)),iv n, .list (l.map En.cells)]=some (.tup [.list (eF H s n l),iv 0]):=by
 have hF:=hB.fr;refine ahz (af hF Zk ?_) rfl;rw[aev];obtain⟨R,hR⟩: ∃R,R=D.own (.tup [.list (eF H s n l),iv 0]):=⟨_,rfl⟩;rw[←hR];have k1:=l86 hF n hn;have k2:=l87 hB l h hl (u7 n);have k3:=l88 hF l h hl;have x0: ∀a:List (List D),XK.run (GK H) (.pk (.ext 0)) [.tup [.list a,iv 0]]=some (.list a):=fun a=>rfl;have x1: ∀a:List (List D),XK.run (GK H) (.pk (.ext 1)) [.tup [.list a,iv 0]]=some (iv 0):=fun a=>rfl;have y0:XK.run (GK H) (.pk (.ext 0)) [.tup [uv (dJ n),iv 0]]=some (uv (dJ n)):=rfl;have y1:XK.run (GK H) (.pk (.ext 1)) [.tup [uv (dJ n),iv 0]]=some (iv 0):=rfl;have e0: ∀(a:Int) (g:Nat→Int),XK.run (GK H) (.pk (.ext 0)) [.tup [iv a, .agg (C4 g),iv 0]]=some (iv a):=fun a g=>rfl;have e1: ∀(a:Int) (g:Nat→Int),XK.run (GK H) (.pk (.ext 1)) [.tup [iv a, .agg (C4 g),iv 0]]=some (.agg (C4 g)):=fun a g=>rfl;have e2: ∀(a:Int) (g:Nat→Int),XK.run (GK H) (.pk (.ext 2)) [.tup [iv a, .agg (C4 g),iv 0]]=some (iv 0):=fun a g=>rfl;have hnv:l.countP En.nv≤24:=Nat.le_trans List.countP_le_length hl;have hln: ∀(i:Nat) (e:En),l[i]?=some e→(l.map (dH H (dJ n) l))[i]?=some (dH H (dJ n) l e):=fun i e h3=>by rw[Dz,h3];rfl
 have hll:(l.map (dH H (dJ n) l)).length=l.length:=List.length_map ..;generalize afL:l.map (dH H (dJ n) l)=lns at*;simp[-aZ,k1,k2,k3,x0,x1,y0,y1,e0,e1,e2];refine aV (n:=l.length) (fun i=> [iv (i:Int), .list (((l.take i).filter En.nv).map (fY H s (dJ n) l))]) R (by omega) ?_;intro rec i hi ih;cases h3:l[i]? with
 |some e=>
  have l3:=(Gz.1 h3).1;have e3:l[i]=e:=(Gz.1 h3).2;have ih:=ih (by omega);rw[oO h3]at ih;have w:=wr (z:=(i:Int)+1) (by omega) (by omega);have kl:=hln i e h3;by_cases hk:e.kd=0
  ·have hv:e.nv=false:=by simp[En.nv,hk]
   rw[hv]at ih;simp only[Bool.false_eq_true,if_false,List.append_nil]at ih;generalize((l.take i).filter En.nv).map (fY H s (dJ n) l)=acc at*;simp[l3,e3,hk,w];exact ih
  ·have hv:e.nv=true:=by simp[En.nv,hk]
   rw[hv]at ih;simp only[if_true]at ih;have kr:=adD (G:=GK H) (l:=s.rows) (a:=e.rd) (b:=e.tb);have kk:=l59 hF e;have li: ¬(l.length:Int)≤(i:Int):=by omega
   have la:(((l.take i).filter En.nv).map (fY H s (dJ n) l)).length<65536:=by
    rw[List.length_map];have:=List.length_filter_le En.nv (l.take i);rw[List.length_take]at this;omega
   have ka:=BZ (G:=GK H) (size:=11) (es:=((l.take i).filter En.nv).map (fY H s (dJ n) l)) (c:=fY H s (dJ n) l e) la rfl;have w2:=wr (z:=(l.countP En.nv:Int)-1) (by omega) (by omega);have w3:=wr (z:=2*((l.countP En.nv:Int)-1)) (by omega) (by omega);have kl2:dH H (dJ n) l e=BV (eM H (dJ n) l e).1 (eM H (dJ n) l e).2 (e.nv&&decide (1<l.countP En.nv)):=rfl;rw[kl2]at kl;obtain⟨hli,kl'⟩:=Gz.1 kl;have c30: ∀a b c:Int,XK.run (GK H) (.cell 0 3) [.agg [iv a,iv b,iv c]]=some (iv a):=fun a b c=>rfl;have c31: ∀a b c:Int,XK.run (GK H) (.cell 1 3) [.agg [iv a,iv b,iv c]]=some (iv b):=fun a b c=>rfl;have c32: ∀a b c:Int,XK.run (GK H) (.cell 2 3) [.agg [iv a,iv b,iv c]]=some (iv c):=fun a b c=>rfl;have hra:((cM e.rd e.tb s.rows).bind fun i=>s.rows[i]?).getD zR=rowAt s e:=rfl;rw[hra]at kr;have hsc:fY H s (dJ n) l e= [iv e.rd,iv e.tb,iv e.bd,iv (if e.tu then(rowAt s e).ew else(rowAt s e).ns),iv (if e.tu then(rowAt s e).ns else(rowAt s e).ew),iv (eM H (dJ n) l e).1.n,iv (eM H (dJ n) l e).1.d,iv (eM H (dJ n) l e).2.n,iv (eM H (dJ n) l e).2.d,iv (2*((l.countP En.nv:Int)-1)),bv (e.nv&&decide (1<l.countP En.nv))]:=rfl;rw[hsc]at ka ih;generalize eM H (dJ n) l e=re at*;generalize((l.take i).filter En.nv).map (fY H s (dJ n) l)=acc at*;generalize(e.nv&&decide (1<l.countP En.nv))=cn at*;generalize hc:(l.countP En.nv:Int)=c at*;have lt:=fun x0 x1 x2 x3 x4 x5 x6 x7 x8 x9 c=>XP (G:=GK H) (x0:=x0) (x1:=x1) (x2:=x2) (x3:=x3) (x4:=x4) (x5:=x5) (x6:=x6) (x7:=x7) (x8:=x8) (x9:=x9) (c:=c);cases htu:e.tu with
   |true=>
    rw[htu]at ka ih;simp only[if_true]at ka ih;simp[l3,e3,hk,hll,li,kr,kk,kl',c30,c31,c32,w2,w3,lt,ka,htu,w];exact ih
   |false=>
    rw[htu]at ka ih;simp only[Bool.false_eq_true,if_false]at ka ih;simp[l3,e3,hk,hll,li,kr,kk,kl',c30,c31,c32,w2,w3,lt,ka,htu,w];exact ih
 |none=>
  have l3:=List.getElem?_eq_none_iff.1 h3;have e:l.length=i:=by omega
  have et:l.take i=l:=List.take_of_length_le (by omega);rw[et];have rO: ∀x y,bU (.mk .tup [.mk .own [x],y]) (.tup [.list (eF H s n l),iv 0])=R:=fun x y=>by rw[hR];exact kP (An fun x=>rfl)
  rw[show((l.filter En.nv).map (fY H s (dJ n) l))=eF H s n l from rfl];generalize eF H s n l=acc at*;have ko:XK.run (GK H) .own [.list acc]=some (.list acc):=rfl;simp[e,ko,rO]
end Ty
end
section
namespace Ty
variable {H : FP}
def lx(n:Int)(e:En):Bool:=decide (e.bd=n)
def BP(M:BM)(l:List En):BM:=l.foldl (fun M e=>jY e.bd e M) M
theorem xV(n:Int): ∀(l:List En) (M:BM),kz n (BP M l)=kz n M++l.filter (lx n)
 | [],M=>by simp[BP]
 |e::r,M=>by
  show kz n (BP (jY e.bd e M) r)=_;rw[xV n r,Au];by_cases h:e.bd=n
  ·rw[if_pos h.symm,List.filter_cons_of_pos (by simpa[lx]using h),List.append_assoc];rfl
  ·rw[if_neg (fun e=>h e.symm),List.filter_cons_of_neg (by simpa[lx]using h)]
theorem GY: ∀(l:List En) (M:BM),(BP M l).length≤M.length+l.length
 | [],M=>by simp[BP]
 |e::r,M=>by
  show(BP (jY e.bd e M) r).length≤_;have h1:=GY r (jY e.bd e M);have h2:=zy e.bd e M;simp only[List.length_cons];omega
theorem J_{l:List En}{i:Nat}{e:En}(h:l[i]?=some e):BP [] (l.take (i+1))=jY e.bd e (BP [] (l.take i)):=by
 unfold BP;rw[List.take_add_one,h,List.foldl_append];rfl
noncomputable def iM(H:FP)(s:Ss)(N:Nat)(c:List En):List (List D):=(List.range N).flatMap fun i:Nat=>eF H s ((i:Int)+1) (c.filter (lx ((i:Int)+1)))
theorem uF{s:Ss}{n:Int}{l:List En}: ∀c∈eF H s n l,c.length=11∧c.all D.aY=true:=fun c hc=>by
 obtain⟨e,_,rfl⟩:=List.mem_map.1 hc;exact⟨rfl,rfl⟩
theorem GD{s:Ss}{N:Nat}{l:List En}: ∀c∈iM H s N l,c.length=11∧c.all D.aY=true:=fun c hc=>by
 obtain⟨i,_,h⟩:=List.mem_flatMap.1 hc;exact uF c h
theorem oG{s:Ss}{l:List En}(hb: ∀n,(l.filter (lx n)).length≤24): ∀N,(iM H s N l).length≤N*24
 |0=>by simp[iM]
 |N+1=>by
  have h:=oG (s:=s) hb N
  have h2:(eF H s ((N:Int)+1) (l.filter (lx ((N:Int)+1)))).length≤24:=by
   unfold eF;rw[List.length_map];exact Nat.le_trans (List.length_filter_le ..) (hb _)
  unfold iM at*;rw[List.range_succ,List.flatMap_append,List.length_append];simp only[List.flatMap_cons,List.flatMap_nil,List.append_nil];omega
section
variable {G : FP}
theorem IH{c:List D}(h:c.all D.aY=true):c.all D.nG=true:=by
 rw[Tz]at*;intro x hx;have:=h x hx;cases x<;>first|rfl|(simp[D.aY]at this;done)
theorem Vw{a b:List (List D)}(h:a.length+b.length<65536)(hb: ∀c∈b,c.length=11∧c.all D.aY=true):XK.run G (.app 11) [.list a, .list b]=some (.list (a++b)):=by
 show(if aQ 11 b=true∧a.length+b.length≤aD then some (D.list (a++b))else none)=_
 have hr:aQ 11 b=true:=by
  unfold aQ;rw[Tz];intro c hc;have:=hb c hc;simp[this.1];exact Tz.1 (IH this.2)
 rw[if_pos ⟨hr,by show a.length+b.length≤1048576;omega⟩]
theorem Xi{a b:D}:XK.run G (.isc 85 2) [.clo 85 [a,b]]=some (.tup []):=rfl
theorem RJ{es:List (List D)}{b:D}:XK.run G (.capc 85 0 2) [.clo 85 [.lptr [.list es],b]]=some (.lptr [.list es]):=rfl
theorem RL{a:D}{xs:List D}:XK.run G (.capc 85 1 2) [.clo 85 [a, .lptr xs]]=some (.lptr xs):=rfl
end
set_option maxHeartbeats 2000000 in
theorem l16(hB:Fb H)(s:Ss)(l c:List En)(h47:XK.run (GK H) (.call false 47) [.agg s.cells, .list (l.map En.cells)]=some (.tup [.list (c.map En.cells),iv 0]))
  (hr:s.rows.length<9999) (ha:kT s.rows=true) (hc: ∀e∈c,EX e) (hcl:c.length<9999) (hb: ∀n,(c.filter (lx n)).length≤24) {N:Nat} (hN:s.ss*s.bs=N) (hN2:N≤128) {fl:Bool}:
  XK.run (GK H) (.call fl 16) [.agg s.cells, .list (l.map En.cells)]=some (.tup [.list (iM H s N c),iv 0]):=by
 have hF:=hB.fr;refine ahz (af hF Ye ?_) rfl
 conv=>enter [1,3];cbv
 obtain⟨R,hR⟩: ∃R,R=D.own (.tup [.list (iM H s N c),iv 0]):=⟨_,rfl⟩;rw[←hR];have k2:=l48 hF s hr ha (fl:=false);have k3:=l49 hF s c;have x0: ∀a:List (List D),XK.run (GK H) (.pk (.ext 0)) [.tup [.list a,iv 0]]=some (.list a):=fun a=>rfl;have x1: ∀a:List (List D),XK.run (GK H) (.pk (.ext 1)) [.tup [.list a,iv 0]]=some (iv 0):=fun a=>rfl;have of: ∀a:List (List D),XK.run (GK H) .qo [.fm a]=some (.fm a):=fun a=>rfl;have nf: ∀a:List (List D),XK.run (GK H) .bt [.fm a]=some (.fm a):=fun a=>rfl;have k50:=fun(n:Int) (hn:1≤n∧n≤128) (l':List En) (h: ∀e∈l',EX e) (hl:l'.length≤24)=>l50 hB s n hn l' h hl;generalize aH (s.rows.map Rw.pr)=fm at*;simp[-aZ,h47,x0,x1,k2,of,k3,Xi,RJ,RL];refine aV (n:=c.length) (fun i=> [iv (i:Int), .list (aH ((BP [] (c.take i)).map A5))]) R (by omega) ?_;intro rec i hi ih;cases h3:c[i]? with
 |some e=>
  have l3:=(Gz.1 h3).1;have e3:c[i]=e:=(Gz.1 h3).2;have ih:=ih (by omega);rw[J_ h3]at ih;have hlen:=GY (c.take i) []
  have km:=XX (G:=GK H) (M:=BP [] (c.take i)) (k:=e.bd) (e:=e) (by rw[List.length_take]at hlen;simp at hlen;omega) (fun n=>by
   rw[xV];have:=List.length_filter_le (lx n) (c.take i);rw[List.length_take]at this;simp only[kz,List.nil_append]
   omega)
  have w:=wr (z:=(i:Int)+1) (by omega) (by omega);generalize aH ((BP [] (c.take i)).map A5)=m at*;generalize aH ((jY e.bd e (BP [] (c.take i))).map A5)=m' at*;simp[l3,e3,km,w];exact ih
 |none=>
  have l3:=List.getElem?_eq_none_iff.1 h3;have e:c.length=i:=by omega
  have et:c.take i=c:=List.take_of_length_le (by omega);rw[et];clear ih h3 l3 hi et;subst e;simp;have hz: [D.v (.int .i64 1),D.list []]= [iv (((0:Nat):Int)+1), .list (iM H s 0 c)]:=by simp[iM]
  rw[hz];refine aV (n:=N) (fun j=> [iv ((j:Int)+1), .list (iM H s j c)]) R (by omega) ?_;intro rec j hj ih;have wN:IntKind.i64.wrap (s.ss*s.bs)=(N:Int):=by rw[hN];exact wr (by omega) (by omega)
  by_cases hjN:j=N
  ·subst hjN;have hle: ¬(j:Int)+1≤(j:Int):=by omega
   have rO: ∀x y,bU (.mk .tup [.mk .own [x],y]) (.tup [.list (iM H s j c),iv 0])=R:=fun x y=>by
    rw[hR];exact kP (Tz.2 fun c hc=>(GD c hc).2)
   generalize iM H s j c=acc at*;have ko:XK.run (GK H) .own [.list acc]=some (.list acc):=rfl;simp[wN,hle,ko,rO]
  ·have hle:(j:Int)+1≤(N:Int):=by omega
   have ih:=ih (by omega);obtain⟨d,kd1,kd2⟩:=XZ (G:=GK H) (M:=BP [] c) (n:=(j:Int)+1);have hgb:kz ((j:Int)+1) (BP [] c)=c.filter (lx ((j:Int)+1)):=by rw[xV];rfl
   rw[hgb]at kd2;have k5:=k50 ((j:Int)+1) (by omega) (c.filter (lx ((j:Int)+1))) (fun e he=>hc e (List.mem_filter.1 he).1) (hb _);have hl1:=oG (H:=H) (s:=s) hb j
   have hl2:(eF H s ((j:Int)+1) (c.filter (lx ((j:Int)+1)))).length≤24:=by
    unfold eF;rw[List.length_map];exact Nat.le_trans (List.length_filter_le ..) (hb _)
   have ka:=Vw (G:=GK H) (a:=iM H s j c) (b:=eF H s ((j:Int)+1) (c.filter (lx ((j:Int)+1)))) (by omega) uF
   have hS:iM H s (j+1) c=iM H s j c++eF H s ((j:Int)+1) (c.filter (lx ((j:Int)+1))):=by
    unfold iM;rw[List.range_succ,List.flatMap_append];simp
   rw[hS]at ih;generalize aH ((BP [] c).map A5)=m at*;generalize(c.filter (lx ((j:Int)+1))).map En.cells=lc at*;generalize eF H s ((j:Int)+1) (c.filter (lx ((j:Int)+1)))=sc at*;generalize iM H s j c=acc at*;have w:=wr (z:=(j:Int)+1+1) (by omega) (by omega);simp[-aZ,wN,hle,kd1,kd2,nf,k5,x0,x1,ka,w];exact ih
end Ty
end
section
open Go.RowKit Go.Sort
namespace Ty
theorem AV: ∀(l:List En) (x:En),x∈tp l↔x∈l
 | [],x=>Iff.rfl
 | [a],x=>Iff.rfl
 |a::b::r,x=>by
  have ih:=AV (b::r) x;unfold tp;split
  ·rename_i h;subst h;rw[ih];simp
  ·rw[List.mem_cons,ih,List.mem_cons (a:=x) (b:=a)]
theorem cV(l:List En)(x:En):x∈setOf l↔x∈l:=by
 unfold setOf;rw[Hm,AV,(bG wC l).mem_iff]
theorem sK: ∀{l m:List En},l.Pairwise (fun a b=>a.cmp b<0)→m.Pairwise (fun a b=>a.cmp b<0)→(∀x,x∈l↔x∈m)→l=m
 | [],[],_,_,_=>rfl
 | [],b::s,_,_,h=>absurd ((h b).2 (List.mem_cons_self ..)) (by simp)
 |a::r,[],_,_,h=>absurd ((h a).1 (List.mem_cons_self ..)) (by simp)
 |a::r,b::s,hl,hm,h=>by
  have hl':=List.pairwise_cons.1 hl;have hm':=List.pairwise_cons.1 hm
  have hab:a=b:=by
   rcases List.mem_cons.1 ((h a).1 (List.mem_cons_self ..))with e|e
   ·exact e
   ·rcases List.mem_cons.1 ((h b).2 (List.mem_cons_self ..))with e2|e2
    ·exact e2.symm
    ·exact absurd (iE (hm'.1 a e) (hl'.1 b e2)) (dQ b)
  subst hab;congr 1;refine sK hl'.2 hm'.2 fun x=>⟨fun hx=> ?_,fun hx=> ?_⟩
  ·rcases List.mem_cons.1 ((h x).1 (Cz _ hx))with e|e
   ·subst e;exact absurd (hl'.1 x hx) (dQ x)
   ·exact e
  ·rcases List.mem_cons.1 ((h x).2 (Cz _ hx))with e|e
   ·subst e;exact absurd (hm'.1 x hx) (dQ x)
   ·exact e
theorem kL{l:List En}(hok: ∀e∈l,e.okB=true):(setOf l).Pairwise (fun a b=>a.cmp b<0):=(gS _).1 (iZ l hok)
theorem Bj{l m:List En}(hl: ∀e∈l,e.okB=true)(h: ∀x,x∈l↔x∈m):setOf l=setOf m:=
 sK (kL hl) (kL fun e he=>hl e ((h e).2 he)) fun x=>by rw[cV,cV,h]
theorem yy{l m:List En}{p:En→Bool}(hl: ∀e∈l,e.okB=true)(hm: ∀e∈m,e.okB=true)(hp: ∀e∈l,p e=true)(hq: ∀e∈m,p e=false):(setOf (l++m)).filter p=setOf l:=by
 have ho: ∀e∈l++m,e.okB=true:=fun e he=>(List.mem_append.1 he).elim (hl e) (hm e);refine sK ((kL ho).sublist List.filter_sublist) (kL hl) fun x=> ?_;rw[List.mem_filter,cV,cV,List.mem_append];refine⟨fun h=> ?_,fun h=>⟨.inl h,hp x h⟩⟩;rcases h.1 with h1|h1
 ·exact h1
 ·rw[hq x h1]at h;cases h.2
theorem filter_all{α}{p:α→Bool}{l:List α}(h: ∀e∈l,p e=true):l.filter p=l:=List.filter_eq_self.2 h
theorem mT(b t:Int)(hb:u8 b=true)(ht:u8 t=true):(oc b t).aP=true:=by
 have h1:=cu hb;have h2:=cu ht;unfold oc;split
 ·rfl
 ·unfold Ou.aP;rw[if_neg (by show¬1+b%211/30=0;omega)];simp only[Az,decide_eq_true_eq];omega
theorem IJ(b t:Int):(oc b t).wt=0:=by
 unfold oc;split<;>rfl
theorem GL(i:Int):vU (J7 i)=true:=by
 unfold J7 vU
 repeat' split
 all_goals rfl
theorem T7{e:En}(hk:e.kd=1)(hf:e.fl<4)(p0:e.o0.aP=true)(w0:e.o0.wt=0)(z1:e.o1=zO)(z2:e.o2=zO)(z3:e.o3=zO)(za:e.a0=0)(zb:e.a1=0):e.right=true:=by
 have hu:e.used=(1,true):=by unfold En.used;rw[if_pos hk,if_pos ⟨p0,w0⟩]
 unfold En.right;rw[if_neg (by omega),hu];simp[En.ol,En.xl,hk,z1,z2,z3,za,zb,zO,Ou.qh]
theorem T8{e:En}(hk:e.kd=3)(hf:e.fl<4)(p0:e.o0.aP=true)(w0:e.o0.wt=0)(p1:e.o1.aP=true)(w1:e.o1.wt=0)(z2:e.o2=zO)(z3:e.o3=zO)(za:e.a0=0)(zb:e.a1=0):e.right=true:=by
 have hu:e.used=(2,true):=by unfold En.used;rw[if_neg (by omega),if_pos hk,if_pos ⟨⟨p0,w0⟩,p1,w1⟩]
 unfold En.right;rw[if_neg (by omega),hu];simp[En.ol,En.xl,hk,z2,z3,za,zb,zO,Ou.qh]
theorem I8{e:En}(hk:e.kd=0∨e.kd=4)(hf:e.fl=0)(ht:e.tu=false)(z0:e.o0=zO)(z1:e.o1=zO)(z2:e.o2=zO)(z3:e.o3=zO)(ha:e.xl=true):e.right=true:=by
 have hu:e.used=(0,true):=by unfold En.used;rw[if_neg (by omega),if_neg (by omega),if_neg (by omega)]
 unfold En.right;rw[if_neg (by omega),hu];simp[En.ol,ha,hf,ht,z0,z1,z2,z3,zO,Ou.qh]
theorem US{o:Ou}(h1:1≤o.wt)(h2:o.wt≤99)(hp:o.aP=true):o.MT=true:=by
 unfold Ou.MT;have a: ¬o.wt<1:=by omega
 have b: ¬99<o.wt:=by omega
 simp[a,b,hp]
theorem MV{o:Ou}{r:List Ou}{s:Int}{n:Nat}(h1:1≤o.wt)(h2:o.wt≤99)(hp:o.aP=true)(hs:0≤s∧s≤400):ax (o::r) s n=ax r (s+o.wt) (n+1):=by
 show(if o.wt=0 then _ else if o.MT=true then ax r (IntKind.i64.wrap (s+o.wt)) (n+1)else _)=_;rw[if_neg (by omega),if_pos (US h1 h2 hp),wr (by omega) (by omega)]
theorem zh{p:Ou}{w:Int}{r:List Ou}{s:Int}{n:Nat}(h1:1≤w)(h2:w≤99)(hp:p.aP=true)(hs:0≤s∧s≤400):ax (p.oC w::r) s n=ax r (s+w) (n+1):=MV (o:=p.oC w) h1 h2 hp hs
theorem aaN{r:List Ou}{s:Int}{n:Nat}:ax (zO::r) s n=((n:Int),decide (2≤n)&&decide (s=100)):=by
 show(if(0:Int)=0 then _ else _)=_;rw[if_pos rfl]
theorem CU{e:En}(hk:e.kd=2)(hf:e.fl<4){n:Nat}(hn:2≤n)(hu:ax [e.o0,e.o1,e.o2,e.o3] 0 0=((n:Int),true))(hz:(e.ol.drop n).all Ou.qh=true)(za:e.a0=0)(zb:e.a1=0):e.right=true:=by
 have hu:e.used=((n:Int),true):=by unfold En.used;rw[if_neg (by omega),if_neg (by omega),if_pos hk,hu]
 unfold En.right;rw[if_neg (by omega),hu,if_neg (by simp),if_neg (by simp;omega)];have h4: ¬e.kd=4:=by omega
 simp only[Int.toNat_natCast,hz,Bool.true_and];simp[En.xl,h4,za,zb]
theorem AK{i:It}{k:Ky}(h:i.ok=true):(i.en k).right=true:=by
 simp only[It.ok,Az]at h;have hx:=h.2;simp only[Sm.ok,Az]at hx;obtain⟨⟨⟨⟨⟨⟨⟨⟨⟨⟨⟨⟨⟨gk,gf⟩,ga⟩,g0⟩,g1⟩,g2⟩,g3⟩,q0⟩,q1⟩,q2⟩,q3⟩,v0⟩,v1⟩,v2⟩:=hx;have hk:=cu gk;have hf:i.x.f%4<4:=by have:=cu gf;omega
 have p0:=mT i.x.b0 i.x.t0 g0 q0;have p1:=mT i.x.b1 i.x.t1 g1 q1;have p2:=mT i.x.b2 i.x.t2 g2 q2;have p3:=mT i.x.b3 i.x.t3 g3 q3;have w0:=cu v0;have w1:=cu v1;have w2:=cu v2;by_cases c1:i.x.k%5=1
 ·have e:i.x.en={(⟨0,0,0,0,i.x.k%5,i.x.f%4,false,zO,zO,zO,zO,0,0⟩:En)with o0:=oc i.x.b0 i.x.t0}:=by unfold Sm.en;simp only;rw[if_pos c1]
  unfold It.en;rw[e];refine T7 c1 ?_ p0 (IJ _ _) rfl rfl rfl rfl rfl;show(if i.x.k%5=0∨i.x.k%5=4 then(0:Int)else i.x.f%4)<4;split<;>omega
 ·by_cases c3:i.x.k%5=3
  ·have e:i.x.en={(⟨0,0,0,0,i.x.k%5,i.x.f%4,false,zO,zO,zO,zO,0,0⟩:En)with o0:=oc i.x.b0 i.x.t0,o1:=oc i.x.b1 i.x.t1}:=by unfold Sm.en;simp only;rw[if_neg c1,if_pos c3]
   unfold It.en;rw[e];refine T8 c3 ?_ p0 (IJ _ _) p1 (IJ _ _) rfl rfl rfl rfl;show(if i.x.k%5=0∨i.x.k%5=4 then(0:Int)else i.x.f%4)<4;split<;>omega
  ·by_cases c2:i.x.k%5=2
   ·have hfl:(if i.x.k%5=0∨i.x.k%5=4 then(0:Int)else i.x.f%4)<4:=by split<;>omega
    by_cases n2:2+i.x.w0%3=2
    ·have e:i.x.en={(⟨0,0,0,0,i.x.k%5,i.x.f%4,false,zO,zO,zO,zO,0,0⟩:En)with o0:=(oc i.x.b0 i.x.t0).oC (1+i.x.w0%(100-(2+i.x.w0%3-1))),o1:=(oc i.x.b1 i.x.t1).oC (100-(1+i.x.w0%(100-(2+i.x.w0%3-1))))}:=by
      unfold Sm.en;simp only;rw[if_neg c1,if_neg c3,if_pos c2,if_pos n2]
     unfold It.en;rw[e]
     have hw:1≤1+i.x.w0%(100-(2+i.x.w0%3-1))∧1+i.x.w0%(100-(2+i.x.w0%3-1))≤99:=by
      rw[n2];omega
     generalize 1+i.x.w0%(100-(2+i.x.w0%3-1))=W0 at hw;refine CU (n:=2) c2 hfl (by omega) ?_ rfl rfl rfl;show ax [(oc i.x.b0 i.x.t0).oC W0,(oc i.x.b1 i.x.t1).oC (100-W0),zO,zO] 0 0=_;rw[zh (by omega) (by omega) p0 (by omega),zh (by omega) (by omega) p1 (by omega),aaN];have:0+W0+(100-W0)=100:=by omega
     show _=((2:Int),true);show((2:Int),true&&decide (0+W0+(100-W0)=100))=_;rw[this];rfl
    ·have b0:1≤1+i.x.w0%(100-(2+i.x.w0%3-1))∧1+i.x.w0%(100-(2+i.x.w0%3-1))≤100-(2+i.x.w0%3-1):=by
      have:=Int.emod_nonneg i.x.w0 (b:=100-(2+i.x.w0%3-1)) (by omega);have:=Int.emod_lt_of_pos i.x.w0 (b:=100-(2+i.x.w0%3-1)) (by omega);omega
     by_cases n3:2+i.x.w0%3=3
     ·have e:i.x.en={(⟨0,0,0,0,i.x.k%5,i.x.f%4,false,zO,zO,zO,zO,0,0⟩:En)with o0:=(oc i.x.b0 i.x.t0).oC (1+i.x.w0%(100-(2+i.x.w0%3-1))),o1:=(oc i.x.b1 i.x.t1).oC (1+i.x.w1%(100-(1+i.x.w0%(100-(2+i.x.w0%3-1)))-(2+i.x.w0%3-2))),o2:=(oc i.x.b2 i.x.t2).oC (100-(1+i.x.w0%(100-(2+i.x.w0%3-1)))-(1+i.x.w1%(100-(1+i.x.w0%(100-(2+i.x.w0%3-1)))-(2+i.x.w0%3-2))))}:=by
       unfold Sm.en;simp only;rw[if_neg c1,if_neg c3,if_pos c2,if_neg n2,if_pos n3]
      unfold It.en;rw[e];generalize 1+i.x.w0%(100-(2+i.x.w0%3-1))=W0 at b0
      have b1:1≤1+i.x.w1%(100-W0-(2+i.x.w0%3-2))∧1+i.x.w1%(100-W0-(2+i.x.w0%3-2))≤100-W0-(2+i.x.w0%3-2):=by
       have:=Int.emod_nonneg i.x.w1 (b:=100-W0-(2+i.x.w0%3-2)) (by omega);have:=Int.emod_lt_of_pos i.x.w1 (b:=100-W0-(2+i.x.w0%3-2)) (by omega);omega
      generalize 1+i.x.w1%(100-W0-(2+i.x.w0%3-2))=W1 at b1;refine CU (n:=3) c2 hfl (by omega) ?_ rfl rfl rfl;show ax [(oc i.x.b0 i.x.t0).oC W0,(oc i.x.b1 i.x.t1).oC W1,(oc i.x.b2 i.x.t2).oC (100-W0-W1),zO] 0 0=_
      rw[zh (by omega) (by omega) p0 (by omega),zh (by omega) (by omega) p1 (by omega),
       zh (by omega) (by omega) p2 (by omega),aaN]
      have:0+W0+W1+(100-W0-W1)=100:=by omega
      show((3:Int),true&&decide (0+W0+W1+(100-W0-W1)=100))=((3:Int),true);rw[this];rfl
     ·have e:i.x.en={(⟨0,0,0,0,i.x.k%5,i.x.f%4,false,zO,zO,zO,zO,0,0⟩:En)with o0:=(oc i.x.b0 i.x.t0).oC (1+i.x.w0%(100-(2+i.x.w0%3-1))),o1:=(oc i.x.b1 i.x.t1).oC (1+i.x.w1%(100-(1+i.x.w0%(100-(2+i.x.w0%3-1)))-(2+i.x.w0%3-2))),o2:=(oc i.x.b2 i.x.t2).oC (1+i.x.w2%(100-(1+i.x.w0%(100-(2+i.x.w0%3-1)))-(1+i.x.w1%(100-(1+i.x.w0%(100-(2+i.x.w0%3-1)))-(2+i.x.w0%3-2)))-1)),o3:=(oc i.x.b3 i.x.t3).oC (100-(1+i.x.w0%(100-(2+i.x.w0%3-1)))-(1+i.x.w1%(100-(1+i.x.w0%(100-(2+i.x.w0%3-1)))-(2+i.x.w0%3-2)))-(1+i.x.w2%(100-(1+i.x.w0%(100-(2+i.x.w0%3-1)))-(1+i.x.w1%(100-(1+i.x.w0%(100-(2+i.x.w0%3-1)))-(2+i.x.w0%3-2)))-1)))}:=by
       unfold Sm.en;simp only;rw[if_neg c1,if_neg c3,if_pos c2,if_neg n2,if_neg n3]
      unfold It.en;rw[e];have hn:2+i.x.w0%3=4:=by omega
      rw[hn]at b0;rw[hn];generalize 1+i.x.w0%(100-(4-1))=W0 at b0
      have b1:1≤1+i.x.w1%(100-W0-(4-2))∧1+i.x.w1%(100-W0-(4-2))≤100-W0-(4-2):=by
       have:=Int.emod_nonneg i.x.w1 (b:=100-W0-(4-2)) (by omega);have:=Int.emod_lt_of_pos i.x.w1 (b:=100-W0-(4-2)) (by omega);omega
      generalize 1+i.x.w1%(100-W0-(4-2))=W1 at b1
      have b2:1≤1+i.x.w2%(100-W0-W1-1)∧1+i.x.w2%(100-W0-W1-1)≤100-W0-W1-1:=by
       have:=Int.emod_nonneg i.x.w2 (b:=100-W0-W1-1) (by omega);have:=Int.emod_lt_of_pos i.x.w2 (b:=100-W0-W1-1) (by omega);omega
      generalize 1+i.x.w2%(100-W0-W1-1)=W2 at b2;refine CU (n:=4) c2 hfl (by omega) ?_ rfl rfl rfl;show ax [(oc i.x.b0 i.x.t0).oC W0,(oc i.x.b1 i.x.t1).oC W1,(oc i.x.b2 i.x.t2).oC W2,(oc i.x.b3 i.x.t3).oC (100-W0-W1-W2)] 0 0=_
      rw[zh (by omega) (by omega) p0 (by omega),zh (by omega) (by omega) p1 (by omega),
       zh (by omega) (by omega) p2 (by omega),
       zh (by omega) (by omega) p3 (by omega)]
      have:0+W0+W1+W2+(100-W0-W1-W2)=100:=by omega
      show((4:Int),true&&decide (0+W0+W1+W2+(100-W0-W1-W2)=100))=((4:Int),true);rw[this];rfl
   ·by_cases c4:i.x.k%5=4
    ·have e:i.x.en={(⟨0,0,0,0,i.x.k%5,i.x.f%4,false,zO,zO,zO,zO,0,0⟩:En)with a0:=J7 (i.x.a%7),a1:=J7 (i.x.a/7%7)}:=by unfold Sm.en;simp only;rw[if_neg c1,if_neg c3,if_neg c2,if_pos c4]
     unfold It.en;rw[e];refine I8 (.inr c4) (if_pos (.inr c4)) (if_pos (.inr c4)) rfl rfl rfl rfl ?_;unfold En.xl;rw[if_pos c4];show(vU (J7 _)&&vU (J7 _))=true;rw[GL,GL];rfl
    ·have c0:i.x.k%5=0:=by omega
     have e:i.x.en=(⟨0,0,0,0,i.x.k%5,i.x.f%4,false,zO,zO,zO,zO,0,0⟩:En):=by unfold Sm.en;simp only;rw[if_neg c1,if_neg c3,if_neg c2,if_neg c4]
     unfold It.en;rw[e];refine I8 (.inl c0) (if_pos (.inl c0)) (if_pos (.inl c0)) rfl rfl rfl rfl ?_;unfold En.xl;rw[if_neg c4];rfl
end Ty
end
section
open Go.RowKit Go.Sort
namespace Ty
theorem La{s:Ss}{i:It}{k:Ky}(hk:Te s k=true)(hi:i.ok=true):s.fC (i.en k)=0:=by
 unfold Te at hk
 have hv: ¬((i.en k).vs<1∨99<(i.en k).vs):=by
  show¬(1+i.vs%9<1∨99<1+i.vs%9);omega
 show(match cM k.rd k.tb s.rows with|none=>_|some i=>_)=_;split at hk
 ·cases hk
 ·rename_i j hj;split at hk
  ·cases hk
  ·rename_i r hr;simp only[Az,decide_eq_true_eq]at hk;obtain⟨h1,h2,h3,h4,h5,h6⟩:=hk;simp only[hj,hr]
   rw[show(i.en k).bd=k.bd from rfl,if_neg (by omega),if_neg (show¬(s.bs<1∨k.bd<1∨128<k.bd∨IntKind.i64.wrap ((IntKind.i64.wrap (k.bd-1)).tdiv s.bs)≠r.st)from fun h=>by
    rcases h with h|h|h|h
    ·omega
    ·omega
    ·omega
    ·exact h h6),if_neg hv,AK hi]
   rfl
theorem qM{s:Ss}{l:List It}(hs:qT s=true)(hl: ∀i∈l,i.ok=true): ∀e∈fh s.eG l,s.proper e=true∧Te s ⟨e.rd,e.tb,e.bd⟩=true∧EX e:=fun e he=>by
 unfold fh at he;obtain⟨i,hi,h⟩:=List.mem_filterMap.1 he;obtain⟨k,hk,rfl⟩:=Mz.1 h;have hio:=hl i (List.mem_of_mem_take hi);have hkm:k∈s.keys:=(bG wD s.keys).mem_iff.1 (Lz hk);unfold qT at hs;rw[Az]at hs;have hko:=Tz.1 hs.1 k hkm;exact⟨by unfold Ss.proper;rw[La hko hio];rfl,hko,NK hio,AK hio⟩
theorem ma{e x:En}:e.bT x<0↔e.rd<x.rd∨(e.rd=x.rd∧(e.tb<x.tb∨(e.tb=x.tb∧e.bd<x.bd))):=by
 unfold En.bT dD cW
 grind
theorem Ke{a b c:En}(h:a.bT b<0)(k:b.bT c≤0):a.bT c<0:=by
 rw[ma]at*;rcases Int.lt_or_eq_of_le k with k|k
 ·rw[ma]at k;omega
 ·rw[fP]at k;omega
theorem DY{a b:En}(h:a.cmp b<0):a.bT b≤0:=by
 unfold En.cmp at h;split at h<;>omega
theorem mb: ∀(l:List En),l.Pairwise (fun a b=>a.bT b≤0)→(bH l).Pairwise (fun a b=>a.bT b<0)
 | [],_=>List.Pairwise.nil
 | [a],_=>List.pairwise_singleton ..
 |a::b::r,h=>by
  have h':=List.pairwise_cons.1 h;have ih:=mb (b::r) h'.2;unfold bH;split
  ·exact ih
  ·rename_i hn;refine List.pairwise_cons.2 ⟨fun x hx=> ?_,ih⟩;have hab:a.bT b<0:=by have:=h'.1 b (List.mem_cons_self ..);omega
   rcases List.mem_cons.1 ((im (b::r)).subset hx)with e|e
   ·grind
   ·exact Ke hab ((List.pairwise_cons.1 h'.2).1 x e)
theorem G9: ∀(l:List En),l.Pairwise (fun a b=>a.bT b<0)→bH l=l
 | [],_=>rfl
 | [a],_=>rfl
 |a::b::r,h=>by
  have h':=List.pairwise_cons.1 h;unfold bH;rw[if_neg (by have:=h'.1 b (List.mem_cons_self ..);omega),G9 (b::r) h'.2]
theorem Kg{l:List En}(h:lU l=true):bH (bH l)=bH l:=
 G9 _ (mb l (((gS l).1 h).imp DY))
theorem IB{α:Type} [DecidableEq α]: ∀(l m:List α),l.Pairwise (· ≠ ·)→(∀x∈l,x∈m)→l.length≤m.length
 | [],m,_,_=>Nat.zero_le _
 |a::r,m,hp,h=>by
  have hp':=List.pairwise_cons.1 hp;have ha:=h a (List.mem_cons_self ..);have ih:=IB r (m.erase a) hp'.2 fun x hx=>(List.mem_erase_of_ne (fun e=>hp'.1 x hx e.symm)).2 (h x (Cz _ hx));rw[List.length_erase_of_mem ha]at ih;have:0<m.length:=List.length_pos_of_mem ha;simp only[List.length_cons];omega
theorem few{s:Ss}(hs:qT s=true){c:List En}(hk: ∀e∈c,Te s ⟨e.rd,e.tb,e.bd⟩=true)(hc:c.Pairwise fun a b=>a.bT b<0)(n:Int):(c.filter (lx n)).length≤24:=by
 unfold qT at hs;simp only[Az]at hs
 have h24: ∀q:Int,(s.rows.filter fun r=>decide (r.st=q)).length≤24:=fun q=>by
  cases hf:s.rows.filter fun r=>decide (r.st=q)with
  |nil=>simp
  |cons r t=>
   have hm:r∈s.rows.filter fun r=>decide (r.st=q):=by rw[hf];exact List.mem_cons_self ..
   have hm:=List.mem_filter.1 hm;have h2:=Tz.1 hs.2.1 r hm.1;have hq:r.st=q:=by simpa using hm.2
   rw[hq]at h2;rw[←hf];exact Nat.le_of_ble_eq_true h2
 have hl:=IB ((c.filter (lx n)).map fun e=>(e.rd,e.tb)) ((s.rows.filter fun r=>decide (r.st=IntKind.i64.wrap ((IntKind.i64.wrap (n-1)).tdiv s.bs))).map fun r=>(r.rd,r.tb)) ?_ ?_
 ·rw[List.length_map,List.length_map]at hl;exact Nat.le_trans hl (h24 _)
 ·rw[List.pairwise_map];refine((hc.sublist List.filter_sublist).imp_of_mem ?_);intro a b ha hb hab e;have h1:a.bd=n:=by simpa[lx]using(List.mem_filter.1 ha).2
  have h2:b.bd=n:=by simpa[lx]using(List.mem_filter.1 hb).2
  injection e with e1 e2
  rw[ma]at hab;omega
 ·intro x hx;obtain⟨e,he,rfl⟩:=List.mem_map.1 hx;have hm:=List.mem_filter.1 he;have hb:e.bd=n:=by simpa[lx]using hm.2
  have hke:=hk e hm.1;unfold Te at hke;split at hke
  ·grind
  ·rename_i j hj;obtain⟨r,h1,h2,h3⟩:=gA hj
   grind
end Ty
end
section
namespace Ty
end Ty
end
section
namespace Ty
theorem M_:RA= .lets [.mk (.pk (.ibin .add)) [.t 18, .q (iv 1)]] (.next 0 [.t 56, .t 21]):=by kernel_rfl
end Ty
end
section
open Go.RowKit Go.Sort
namespace Ty
variable {H : FP}
def ri(f:Nat→Int)(b:Bool):List D:= [iv (f 0),iv (f 1),iv (f 2),iv (f 3),iv (f 4),iv (f 5),iv (f 6),iv (f 7),iv (f 8),iv (f 9),bv b]
def Scr(c:List D):Prop:= ∃f b,c=ri f b
theorem Mn{s:Ss}{N:Nat}{l:List En}: ∀c∈iM H s N l,Scr c:=fun c hc=>by
 obtain⟨i,_,h⟩:=List.mem_flatMap.1 hc;obtain⟨e,_,rfl⟩:=List.mem_map.1 h
 exact⟨fun
  |0=>e.rd|1=>e.tb|2=>e.bd
  |3=>if e.tu then(rowAt s e).ew else(rowAt s e).ns
  |4=>if e.tu then(rowAt s e).ns else(rowAt s e).ew
  |5=>(eM H (dJ ((i:Int)+1)) (l.filter (lx ((i:Int)+1))) e).1.n
  |6=>(eM H (dJ ((i:Int)+1)) (l.filter (lx ((i:Int)+1))) e).1.d
  |7=>(eM H (dJ ((i:Int)+1)) (l.filter (lx ((i:Int)+1))) e).2.n
  |8=>(eM H (dJ ((i:Int)+1)) (l.filter (lx ((i:Int)+1))) e).2.d
  |_=>2*(((l.filter (lx ((i:Int)+1))).countP En.nv:Int)-1),_,rfl⟩
section
variable {G : FP} {f g : Nat → Int} {b : Bool}
theorem CX:(ri f b).length=11:=rfl
theorem yx:XK.run G (.pk (.load 11 true)) [.lptr (ri f b)]=some (.agg (ri f b)):=nr rfl
theorem Jb:aa [3,3,3,3,3,3,3,3,3,3,8] (ri f b) (ri f b)=some true:=by
 unfold ri;simp
end
theorem l17(hF:Fr H)(l:List (List D))(hl:l.length<9999)(h: ∀c∈l,Scr c):XK.run (GK H) (.call false 17) [.list l, .list l]=some (bv true):=by
 refine ah (af hF Yk (d:=bv true) ?_) rfl rfl;unfold Uj;generalize hz0:GM=z0
 conv=>enter [1,3];cbv
 subst hz0;simp;refine aV (n:=l.length) (fun j=> [iv (j:Int),bv false]) (bv true) (by omega) ?_;intro rec j hj ih;unfold GM
 conv=>enter [1,3];cbv
 cases h3:l[j]? with
 |some c=>
  have l3:=(Gz.1 h3).1;have e3:l[j]=c:=(Gz.1 h3).2;have ih:=ih (by omega);obtain⟨f,b,rfl⟩:=h c (Lz h3);have w:=wr (z:=(j:Int)+1) (by omega) (by omega);simp[l3,e3,CX,yx,Jb,w];exact ih
 |none=>
  have l3:=List.getElem?_eq_none_iff.1 h3;have e:j=l.length:=by omega
  subst e;simp
end Ty
end
section
open Go.RowKit Go.Sort
namespace Ty
variable {H : FP}
section
variable {G : FP}
theorem J6{a b:List En}(h:a.length+b.length<65536):XK.run G (.app 33) [.list (a.map En.cells), .list (b.map En.cells)]=some (.list ((a++b).map En.cells)):=by
 show(if aQ 33 (b.map En.cells)=true∧(a.map En.cells).length+(b.map En.cells).length≤aD then some (D.list (a.map En.cells++b.map En.cells))else none)=_;rw[if_pos ⟨by unfold aQ;rw[Tz];intro x hx;obtain⟨e,_,rfl⟩:=List.mem_map.1 hx;rfl,by rw[List.length_map,List.length_map];show _≤1048576;omega⟩,List.map_append]
theorem Rv{b:List En}(h:b.length<65536):XK.run G (.app 33) [.list [], .list (b.map En.cells)]=some (.list (b.map En.cells)):=J6 (a:= []) (by simpa using h)
theorem LD:XK.run G (.lit 33 0 [] []) []=some (.list []):=rfl
theorem aen{l:List En}{i:Nat}(h:i≤l.length):XK.run G (.pk (.slc 33 true false false)) [.list (l.map En.cells),iv i]=some (.list ((l.drop i).map En.cells)):=by
 have h1: ¬ ∃x,x∈l.map En.cells∧ ¬x.length=33:=fun⟨x,hx,hn⟩=>by obtain⟨e,_,rfl⟩:=List.mem_map.1 hx;exact hn rfl
 rw[List.map_drop];generalize hL:l.map En.cells=L at h1;have h2:i≤L.length:=by rw[←hL];simpa using h
 have h3:(L.drop i).take (L.length-i)=L.drop i:=List.take_of_length_le (by rw[List.length_drop];omega);simp[XK.run,PK.run,mC,eA,bK,pU,h1,h2,h3,D.aF]
end
theorem afP(hH:Hd H)(hB:Fb H)(h11:XK.run (GK H) (.call false 11) []=some (bv true))
  {n1 n2 n3 n4:Int} {s:Ss} (hs:oE H s) (h13:XK.run (GK H) (.call false 13) [.agg [uv n1,uv n2,uv n3,uv n4]]=some (.agg s.cells)) (l:List It) (hl: ∀i∈l,i.ok=true) (cut:Int) (Cl:u8 cut=true) (odd:List En) (acH: ∀e∈odd,e.okB=true):
  GK H 5 [.agg [uv n1,uv n2,uv n3,uv n4], .list (l.map It.cells),uv cut, .list (odd.map En.cells)]=some (bv true):=by
 have hF:=hB.fr;have h15:=fun(l:List En) h1 h2=>i15 (fl:=true) hH l h1 h2;have ho:=hs.od;obtain⟨b,hb1,hb2⟩:=hs.nat;have h21:XK.run (GK H) (.call false 21) [.agg s.cells]=some (.tup [.list (s.eG.map Ky.cells),iv 0]):=ahz (l21 hH s hb1 hb2 hs.len hs.ne hs.ln hs.ok) rfl;have hsk:s.eG≠ []:=fun e=>hs.ne (by have:=(bG wD s.keys).length_eq;unfold Ss.eG at e;rw[e]at this;exact List.length_eq_zero_iff.1 this.symm);have hsl:s.eG.length<65536:=by have:=(bG wD s.keys).length_eq;have:=hs.ln;unfold Ss.eG;omega
 have h14:=l14 hH.fr s s.eG l hsk hsl hl h21;have hel:=Ah s.eG l;have heo:=D3 (ks:=s.eG) hl;have hpr:=qM ho hl;generalize Xa:fh s.eG l=aR at*;have hc:=cu Cl;refine af hH.fr Vc ?_;unfold tm5;generalize hz0:J9=z0
 conv=>enter [1,3];cbv
 subst hz0;have kc:XK.run (GK H) (.cell 0 4) [.agg [uv n1,uv n2,uv n3,uv n4]]=some (uv n1):=rfl;have nn:XK.run (GK H) .bt [.agg [uv n1,uv n2,uv n3,uv n4]]=some (.agg [uv n1,uv n2,uv n3,uv n4]):=rfl;have wc:IntKind.i64.wrap cut=cut:=wr (by omega) (by omega);simp[kc,nn,h13,h14,wc]
 suffices fin: ∀a0:Nat,a0≤aR.length→ae (GK H) 10000 J9 [] [D.agg [uv n1,uv n2,uv n3,uv n4],D.list (List.map It.cells l),uv cut,D.list (List.map En.cells odd),D.agg s.cells,D.list (List.map En.cells aR),iv (a0:Int)]=some (bv true) by
  by_cases h0:0<aR.length
  ·have hne:aR≠ []:=by rintro rfl;simp at h0
   obtain⟨a0,ha0,ht⟩: ∃a0:Nat,a0≤aR.length∧cut.tmod aR.length=(a0:Int):=
    ⟨cut.toNat%aR.length,Nat.le_of_lt (Nat.mod_lt _ h0),by rw[tm hc.1,Int.natCast_emod,Int.toNat_of_nonneg hc.1]⟩
   have fin:=fin a0 ha0;simp[h0,hne,ht];exact fin
  ·simp[h0];exact fin 0 (Nat.zero_le _)
 intro a0 ha;unfold J9;generalize hz0:Ry=z0
 conv=>enter [1,3];cbv
 subst hz0;have hA:=i15 (fl:=false) hH aR heo (by omega);have kd:=aen (G:=GK H) ha;have kt:=ZZ (G:=GK H) ha;have ka1:=Rv (G:=GK H) (b:=aR.drop a0) (by rw[List.length_drop];omega);have ka2:=J6 (G:=GK H) (a:=aR.drop a0) (b:=aR.take a0) (by rw[List.length_drop,List.length_take];omega)
 have qc: ∀x,x∈aR↔x∈aR.drop a0++aR.take a0:=fun x=>by
  rw[List.mem_append,Or.comm,←List.mem_append,List.take_append_drop]
 have tF:=h15 (aR.drop a0++aR.take a0) (fun e he=>heo e ((qc e).2 he)) (by rw[List.length_append,List.length_drop,List.length_take];omega);rw[←Bj heo qc]at tF;have fK:=iZ aR heo;have H3:=mZ aR;have hmA:=cV aR;generalize hAe:setOf aR=A at hA tF fK H3 hmA;have hpA:A.filter s.proper=A:=filter_all fun e he=>(hpr e ((hmA e).1 he)).1;have h47:=XO hF s A (by omega) hs.len hs.ap hs.ok fK;rw[hpA]at h47;have qU: ∀e∈bH A,e∈aR:=fun e he=>(hmA e).1 ((im A).subset he);have hcE: ∀e∈bH A,EX e:=fun e he=>(hpr e (qU e he)).2.2;have hck:(bH A).Pairwise fun a b=>a.bT b<0:=mb A (((gS A).1 fK).imp DY);have hcl:(bH A).length≤A.length:=(im A).length_le;have Cm:=few ho (c:=bH A) (fun e he=>(hpr e (qU e he)).2.1) hck
 obtain⟨N,hN,hN2⟩: ∃N:Nat,s.ss*s.bs=N∧N≤128:=by
  have h1:=hs.mul;have h2:=ho;unfold qT at h2;simp only[Az,decide_eq_true_eq]at h2;exact⟨(s.ss*s.bs).toNat,by omega,by omega⟩
 have GB: ∀X:List En,XK.run (GK H) (.call false 47) [.agg s.cells, .list (X.map En.cells)]=some (.tup [.list ((bH A).map En.cells),iv 0])→XK.run (GK H) (.call false 16) [.agg s.cells, .list (X.map En.cells)]=some (.tup [.list (iM H s N (bH A)),iv 0]):=
  fun X hX=>l16 hB s X (bH A) hX hs.len hs.ap hcE (by omega) Cm hN hN2
 have h16:=GB A h47;have hSl:=oG (H:=H) (s:=s) Cm N;have h17:=l17 hF (iM H s N (bH A)) (by omega) Mn;have x0: ∀a:List (List D),XK.run (GK H) (.pk (.ext 0)) [.tup [.list a,iv 0]]=some (.list a):=fun a=>rfl;have x1: ∀a:List (List D),XK.run (GK H) (.pk (.ext 1)) [.tup [.list a,iv 0]]=some (iv 0):=fun a=>rfl;obtain⟨m,hm⟩: ∃m,m=min odd.length 10:=⟨_,rfl⟩
 have km:XK.run (GK H) (.pk (.mx2 false)) [iv (odd.length:Int),iv 10]=some (iv (m:Int)):=by
  rw[Pd,hm];congr 3;split<;>omega
 have ks:=ZZ (G:=GK H) (l:=odd) (i:=m) (by omega);obtain⟨od,hod⟩: ∃od,od=odd.take m:=⟨_,rfl⟩;rw[←hod]at ks;have acG: ∀e∈od,e.okB=true:=fun e he=>acH e (by rw[hod]at he;exact List.mem_of_mem_take he);have acI:od.length≤10:=by rw[hod,List.length_take];omega
 obtain⟨pH,hw⟩: ∃w,w=od.filter fun e=> !s.proper e:=⟨_,rfl⟩;have hwB: ∀e∈pH,e.okB=true:=fun e he=>acG e (by rw[hw]at he;exact(List.mem_filter.1 he).1)
 have hwp: ∀e∈pH,s.proper e=false:=fun e he=>by
  rw[hw]at he;simpa using(List.mem_filter.1 he).2
 have hwl:pH.length≤10:=by rw[hw];exact Nat.le_trans (List.length_filter_le ..) acI
 have Xn:=Rv (G:=GK H) (b:=aR) (by omega);have Xo:=J6 (G:=GK H) (a:=aR) (b:=pH) (by omega);have hMB:=h15 (aR++pH) (fun e he=>(List.mem_append.1 he).elim (heo e) (hwB e)) (by rw[List.length_append];omega);have hMf:=yy (p:=s.proper) heo hwB (fun e he=>(hpr e he).1) hwp;have Eg:=iZ (aR++pH) (fun e he=>(List.mem_append.1 he).elim (heo e) (hwB e));have hMl:=mZ (aR++pH);rw[List.length_append]at hMl;rw[hAe]at hMf;generalize setOf (aR++pH)=M at hMB hMf Eg hMl;have Sl:=XO hF s M (by omega) hs.len hs.ap hs.ok Eg;rw[hMf]at Sl;have V4:=GB M Sl;have KK:XK.run (GK H) (.call false 19) [.agg s.cells, .list (M.map En.cells)]=_:=ahz (l19 hF s M (by omega) hs.len hs.ap hs.ok Eg) rfl;rw[hMf]at KK;obtain⟨q,hq⟩: ∃q,q=M.filter fun e=> !s.proper e:=⟨_,rfl⟩;rw[←hq]at KK
 have hMq:M.length=A.length+q.length:=by
  rw[←hMf,hq];clear KK hq hMf V4 Sl Eg hMB hMl
  induction M with
  |nil=>rfl
  |cons a r ih=>
   cases hp:s.proper a<;>simp[hp]<;>omega
 have Ta:XK.run (GK H) (.call false 20) [.list (A.map En.cells)]=some (.tup [.list ((bH A).map En.cells),iv 0]):=ahz (l20 hF A (by omega) fK) rfl;have V3:=XO hF s (bH A) (by omega) hs.len hs.ap hs.ok (Bi fK (im A));rw[filter_all (fun e he=>(hpr e (qU e he)).1),Kg fK]at V3;have abQ:=GB (bH A) V3;have k18: ∀e:En,XK.run (GK H) (.call false 18) [.agg s.cells, .agg e.cells]=some (iv (s.fC e)):=fun e=>ah (l18 hF s hs.len e) rfl rfl;have y0: ∀a b:List (List D),XK.run (GK H) (.pk (.ext 0)) [.tup [.list a, .list b,iv 0]]=some (.list a):=fun a b=>rfl;have y1: ∀a b:List (List D),XK.run (GK H) (.pk (.ext 1)) [.tup [.list a, .list b,iv 0]]=some (.list b):=fun a b=>rfl;have y2: ∀a b:List (List D),XK.run (GK H) (.pk (.ext 2)) [.tup [.list a, .list b,iv 0]]=some (iv 0):=fun a b=>rfl;generalize hSe:iM H s N (bH A)=S at*;generalize aR.drop a0=dr at kd ka1 ka2 tF;generalize aR.take a0=tk at kt ka2 tF;generalize hta:List.map En.cells (dr++tk)=ta at ka2 tF;simp[-aZ,hA,kd,kt,LD,ka1,ka2,tF,h16,h17,x0,x1,km,ks];refine aV (n:=od.length) (fun j=> [iv (j:Int), .list (((od.take j).filter fun e=> !s.proper e).map En.cells)]) (bv true) (by omega) ?_;intro rec j hj ih;unfold Ry;generalize hz0:RA=z0;generalize hz1:xo=z1
 conv=>enter [1,3];cbv
 subst hz0;subst hz1
 conv in xo=>unfold xo;cbv
 cases h3:od[j]? with
 |some e=>
  have l3:=(Gz.1 h3).1;have e3:od[j]=e:=(Gz.1 h3).2;have ih:=ih (by omega)
  have hlen:((od.take j).filter fun e=> !s.proper e).length<65536:=by
   have:=List.length_filter_le (fun e=> !s.proper e) (od.take j);simp at this;omega
  have kp:=GF (G:=GK H) (e:=e) hlen;have w:=wr (z:=(j:Int)+1) (by omega) (by omega);rw[List.take_add_one,h3,Option.toList_some,List.filter_append,List.map_append]at ih;generalize List.map En.cells ((od.take j).filter fun e=> !s.proper e)=acc at*;have k18:=k18 e;by_cases hcz:s.fC e=0
  ·simp[hcz,Ss.proper]at ih;simp[l3,e3,k18,hcz,w,M_];exact ih
  ·simp[hcz,Ss.proper]at ih;simp[l3,e3,k18,hcz,w,M_,kp];exact ih
 |none=>
  have l3:=List.getElem?_eq_none_iff.1 h3;have l3': ¬(j:Int)<od.length:=by omega
  rw[List.take_of_length_le l3,←hw]
  have hne: ¬IntKind.i64.wrap ((A.length:Int)+q.length)≠M.length:=by
   rw[wr (by omega) (by omega),hMq];omega
  generalize List.map En.cells (aR++pH)=tm at*;clear ih;simp[-aZ,l3',LD,hne,Xn,Xo,hMB,V4,KK,y0,y1,y2,x0,x1,h17,Ta,abQ,h11]
end Ty
end
end Go.Proofs.YtkcfpgaepmllhaaGreatDoor
