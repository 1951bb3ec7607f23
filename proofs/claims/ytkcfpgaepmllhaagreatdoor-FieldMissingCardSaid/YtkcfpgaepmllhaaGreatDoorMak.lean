/- Part of the proof: symbolic execution of the program, its soundness, and the closing lemmas. No condition. -/
import Derived.Test.YtkcfpgaepmllhaaGreatDoorMac
import Derived.Test.YtkcfpgaepmllhaaGreatDoorMad
import Derived.Test.YtkcfpgaepmllhaaGreatDoorMae
import Derived.Test.YtkcfpgaepmllhaaGreatDoorMaf
import Derived.Test.YtkcfpgaepmllhaaGreatDoorMag
import Derived.Test.YtkcfpgaepmllhaaGreatDoorMah
import Derived.Test.YtkcfpgaepmllhaaGreatDoorMai
import Derived.Test.YtkcfpgaepmllhaaGreatDoorMaj
import Derived.Test.YtkcfpgaepmllhaaGreatDoorFag
import Derived.Test.YtkcfpgaepmllhaaGreatDoorFaf
import Derived.Shelf.SlSortCmp.WholeK
import Derived.Shelf.SlGeneric
import Derived.Ground.SlsfProg
import Derived.Shelf.SlSortCmp.NoneTotal
import Derived.Test.YtkcfpgaepmllhaaGreatDoorMab
import Derived.Test.YtkcfpgaepmllhaaGreatDoorMaa
namespace Go.Proofs.YtkcfpgaepmllhaaGreatDoor
open Go.RowKit
set_option maxRecDepth 100000
set_option linter.all false
section
theorem RM : tr.RU cx:=⟨⟨⟨⟨⟨⟨⟨ok6,ad_⟩,⟨Yw,YC⟩⟩,⟨⟨Ue,YD⟩,⟨YI,⟨Uf,YR⟩⟩⟩⟩,⟨⟨⟨YU,YW⟩,⟨Zb,aeb⟩⟩,⟨⟨Zp,aec⟩,⟨ZC,⟨ZD,aee⟩⟩⟩⟩⟩,⟨⟨⟨⟨ZE,ZF⟩,⟨ZG,ZH⟩⟩,⟨⟨ZI,ZJ⟩,⟨ZK,⟨Ju,ZL⟩⟩⟩⟩,⟨⟨⟨ZM,ZN⟩,⟨ZO,ZP⟩⟩,⟨⟨aei,ZQ⟩,⟨ZR,⟨Ug,ZS⟩⟩⟩⟩⟩⟩,⟨⟨⟨⟨⟨aej,aek⟩,⟨ZT,ZU⟩⟩,⟨⟨ZV,ZW⟩,⟨ZX,⟨ZY,Jv⟩⟩⟩⟩,⟨⟨⟨aem,aen⟩,⟨ZZ,Uh⟩⟩,⟨⟨Ui,aer⟩,⟨Z0,⟨Ow,Ox⟩⟩⟩⟩⟩,⟨⟨⟨⟨Oy,OA⟩,⟨OB,OC⟩⟩,⟨⟨OD,OF⟩,⟨mI,⟨Yv,OG⟩⟩⟩⟩,⟨⟨⟨OH,OI⟩,⟨OJ,YB⟩⟩,⟨⟨Js,OL⟩,⟨OM,⟨ON,OP⟩⟩⟩⟩⟩⟩⟩,⟨⟨⟨⟨⟨⟨YE,YF⟩,⟨YG,YK⟩⟩,⟨⟨YL,E_⟩,⟨OQ,⟨OR,YN⟩⟩⟩⟩,⟨⟨⟨OS,OT⟩,⟨OU,OV⟩⟩,⟨⟨OW,OX⟩,⟨OY,⟨OZ,O0⟩⟩⟩⟩⟩,⟨⟨⟨⟨YV,YX⟩,⟨YY,Y6⟩⟩,⟨⟨Y7,Y8⟩,⟨Y9,⟨Y_,Za⟩⟩⟩⟩,⟨⟨⟨O6,O7⟩,⟨O8,O9⟩⟩,⟨⟨O_,Zd⟩,⟨Zf,⟨Zj,Zm⟩⟩⟩⟩⟩⟩,⟨⟨⟨⟨⟨Zo,Pa⟩,⟨Pb,Pc⟩⟩,⟨⟨Pd,Pe⟩,⟨Pf,⟨Pg,Zq⟩⟩⟩⟩,⟨⟨⟨Zt,Zu⟩,⟨Zv,Jt⟩⟩,⟨⟨Ph,Pj⟩,⟨Pk,⟨Pm,Pn⟩⟩⟩⟩⟩,⟨⟨⟨⟨Fa,Po⟩,⟨Zy,Zz⟩⟩,⟨⟨ZA,ZB⟩,⟨Pp,⟨Pq,Pr⟩⟩⟩⟩,⟨⟨⟨Ps,Pu⟩,⟨Pv,⟨Pw,Px⟩⟩⟩,⟨⟨Py,PA⟩,⟨PB,⟨PC,PD⟩⟩⟩⟩⟩⟩⟩⟩
end
section
theorem Kb:Ka= .lets [.mk (.pk (.ibin .neq)) [.t 0, .t 0]] (.ret (.mk .bq [.t 1])):=by kernel_rfl
theorem M8:U0= .lets [.mk (.call false 148) [.mk .bq [.t 0]]] (.lets [.mk (.call false 148) [.mk .bq [.t 1]]] (.ite (.t 2) (.ite (.t 3) (.ret (.mk .bq [.q (.v (.int .i64 0))])) (.ret (.mk .bq [.q (.v (.int .i64 (-1)))]))) (.ite (.t 3) (.ret (.mk .bq [.q (.v (.int .i64 1))])) (.lets [.mk (.pk (.ibin .lss)) [.t 0, .t 1]] (.ite (.t 4) (.ret (.mk .bq [.q (.v (.int .i64 (-1)))])) (.lets [.mk (.pk (.ibin .gtr)) [.t 0, .t 1]] (.ite (.t 5) (.ret (.mk .bq [.q (.v (.int .i64 1))])) (.ret (.mk .bq [.q (.v (.int .i64 0))]))))))))):=by kernel_rfl
theorem FE:UZ= .lets [.mk (.pk .llen) [.t 0]] (.loop [.q (.v (.int .i64 0)), .q (.v (.int .i64 0))] (.lets [.mk (.pk (.ibin .lss)) [.t 2, .t 1]] (.ite (.t 4) (.lets [.mk (.pk (.load 1 false)) [.mk (.pk (.idx 3 1)) [.t 0, .t 2]]] (.lets [.mk (.pk (.ibin .neq)) [.t 5, .q (.v (.int .i64 0))]] (.ite (.t 6) (.ret (.mk .bq [.t 5])) (.lets [.mk (.pk (.ibin .add)) [.t 2, .q (.v (.int .i64 1))]] (.next 0 [.t 7, .t 3]))))) (.ret (.mk .bq [.q (.v (.int .i64 0))]))))):=by kernel_rfl
theorem M7:UT= .lets [.mk (.pk (.fbox 3)) [.t 1]] (.lets [.mk (.pk (.fbox 3)) [.t 0]] (.lets [.mk (.call false 96) [.mk .bq [.mk (.pk (.load 1 false)) [.mk (.pk (.fld 0)) [.t 3]]], .mk .bq [.mk (.pk (.load 1 false)) [.mk (.pk (.fld 0)) [.t 2]]]]] (.lets [.mk (.call false 96) [.mk .bq [.mk (.pk (.load 1 false)) [.mk (.pk (.fld 1)) [.t 3]]], .mk .bq [.mk (.pk (.load 1 false)) [.mk (.pk (.fld 1)) [.t 2]]]]] (.lets [.mk (.call false 96) [.mk .bq [.mk (.pk (.load 1 false)) [.mk (.pk (.fld 2)) [.t 3]]], .mk .bq [.mk (.pk (.load 1 false)) [.mk (.pk (.fld 2)) [.t 2]]]]] (.lets [.mk (.call true 95) [.mk (.lit 1 3 [(.v (.int .i64 0)),(.v (.int .i64 0)),(.v (.int .i64 0))] [(0,1),(1,1),(2,1)]) [.t 4, .t 5, .t 6]]] (.ret (.mk .bq [.t 7]))))))):=by kernel_rfl
theorem ke{C:Cx}{H:FP}{N f n:Nat}{t:FT}(ho:aN C f n t){ds:List D}{d:D}(h0:H f ds=none)(hlt:f<1000000)(hl:ds.length=n)(hn:ds.all D.aF=true)(he:ae (GG C H N) N t [] ds=some d):GG C H N f ds=some d:=by
 obtain⟨t0,h1,h2⟩:=ho;exact KK h1 h0 hlt hl hn (yf (q:=(n,t0)) hl (by rw[←h2]at he;exact he))
noncomputable abbrev GK:FP:=GG cx kB 10000
theorem Lq(a:Int):GK 148 [iv a]=some (bv false):=by
 refine ke Js rfl (by decide) rfl rfl ?_;rw[Kb];simp[ae,X.ev,X.ba,XK.run,PK.run,jc,dm,D.aF,D.aM,D.eT,bo,aq,bY,D.flat,D.aW]
def c_(a b:Int):Int:=if a<b then-1 else if b<a then 1 else 0
theorem SE(a b:Int):GK 96 [iv a,iv b]=some (iv (c_ a b)):=by
 refine ke Ui rfl (by decide) rfl rfl ?_;rw[M8];have h: ∀a,GG cx kB 10000 148 [iv a]=some (bv false):=Lq;unfold c_;by_cases h1:a<b
 ·simp[ae,X.ev,X.ba,XK.run,gn,h,D.bare,PK.run,jc,dm,D.aF,D.aM,D.eT,bo,aq,bY,D.flat,D.aW,D.asBool,h1]
 ·by_cases h2:b<a
  ·simp[ae,X.ev,X.ba,XK.run,gn,h,D.bare,PK.run,jc,dm,D.aF,D.aM,D.eT,bo,aq,bY,D.flat,D.aW,D.asBool,h1,h2]
  ·simp[ae,X.ev,X.ba,XK.run,gn,h,D.bare,PK.run,jc,dm,D.aF,D.aM,D.eT,bo,aq,bY,D.flat,D.aW,D.asBool,h1,h2]
def dJ(a b c:Int):Int:=if a≠0 then a else if b≠0 then b else c
def jH:FT:= .lets [.mk (.pk (.ibin .lss)) [.t 2, .t 1]] (.ite (.t 4) (.lets [.mk (.pk (.load 1 false)) [.mk (.pk (.idx 3 1)) [.t 0, .t 2]]] (.lets [.mk (.pk (.ibin .neq)) [.t 5, .q (.v (.int .i64 0))]] (.ite (.t 6) (.ret (.mk .bq [.t 5])) (.lets [.mk (.pk (.ibin .add)) [.t 2, .q (.v (.int .i64 1))]] (.next 0 [.t 7, .t 3]))))) (.ret (.mk .bq [.q (.v (.int .i64 0))])))
theorem DK{G:FP}{N:Nat}{rec:List D→Option D}{es:List (List D)}{i j x:Int}(hx:sA 3 1 [.list es,iv i]=some (.lptr [iv x]))(hl:i<3)(hj:IntKind.wrap .i64 (i+1)=j):
  ae G N jH [rec] [.list es,iv 3,iv i,iv 0]=if x=0 then rec [iv j,iv 0]else some (iv x):=by
 unfold jH;by_cases h:x=0
 ·simp[ae,X.ev,X.ba,XK.run,PK.run,jc,dm,iU,D.aF,D.aM,D.eT,D.asBool,hx,hl,hj,h]
 ·have hb:(x !=0)=true:=by simpa using h
  simp[ae,X.ev,X.ba,XK.run,PK.run,jc,dm,iU,D.aF,D.aM,D.eT,D.asBool,bo,aq,bY,D.flat,D.aW,hx,hl,hj,h];rw[hb];rfl
theorem TY{G:FP}{N:Nat}{rec:List D→Option D}{es:List (List D)}:ae G N jH [rec] [.list es,iv 3,iv 3,iv 0]=some (iv 0):=by
 unfold jH;simp[ae,X.ev,X.ba,XK.run,PK.run,jc,dm,D.aF,D.aM,D.eT,D.asBool,bo,aq,bY,D.flat,D.aW]
theorem HK(G:FP)(n:Nat)(a b c:Int):ae G (n+4) (.lets [.mk (.pk .llen) [.t 0]] (.loop [.q (.v (.int .i64 0)), .q (.v (.int .i64 0))] jH)) [] [.list [[iv a],[iv b],[iv c]]]=some (iv (dJ a b c)):=by
 have h1:X.ba G [.list [[iv a],[iv b],[iv c]]] [.mk (.pk .llen) [.t 0]]=some [iv 3]:=rfl;have h2: ∀ρ,X.ba G ρ [.q (.v (.int .i64 0)), .q (.v (.int .i64 0))]=some [iv 0,iv 0]:=fun ρ=>rfl;have s0: ∀rec,ae G (n+4) jH [rec] ([.list [[iv a],[iv b],[iv c]]]++ [iv 3]++ [iv 0,iv 0])=if a=0 then rec [iv 1,iv 0]else some (iv a):=fun rec=>DK rfl (by decide) (by decide)
 have s1: ∀rec,ae G (n+4) jH [rec] ([.list [[iv a],[iv b],[iv c]]]++ [iv 3]++ [iv 1,iv 0])=if b=0 then rec [iv 2,iv 0]else some (iv b):=fun rec=>DK rfl (by decide) (by decide)
 have s2: ∀rec,ae G (n+4) jH [rec] ([.list [[iv a],[iv b],[iv c]]]++ [iv 3]++ [iv 2,iv 0])=if c=0 then rec [iv 3,iv 0]else some (iv c):=fun rec=>DK rfl (by decide) (by decide)
 have s3: ∀rec,ae G (n+4) jH [rec] ([.list [[iv a],[iv b],[iv c]]]++ [iv 3]++ [iv 3,iv 0])=some (iv 0):=fun rec=>TY;generalize jH=B at*;simp only[ae,h1,h2,Oz,iter];rw[s0];by_cases ha:a=0
 ·rw[if_pos ha,s1];by_cases hb:b=0
  ·rw[if_pos hb,s2];by_cases hc:c=0
   ·rw[if_pos hc,s3];simp[dJ,ha,hb,hc]
   ·rw[if_neg hc];simp[dJ,ha,hb]
  ·rw[if_neg hb];simp[dJ,ha,hb]
 ·rw[if_neg ha];simp[dJ,ha]
theorem SD(a b c:Int):GK 95 [.list [[iv a],[iv b],[iv c]]]=some (iv (dJ a b c)):=by
 refine ke Uh rfl (by decide) rfl rfl ?_;rw[FE];exact HK (GG cx kB 10000) 9996 a b c
def TK(a b c:Int):D:= .agg [iv a,iv b,iv c]
theorem SC(a b c x y z:Int):GK 58 [TK a b c,TK x y z]=some (iv (dJ (c_ a x) (c_ b y) (c_ c z))):=by
 refine ke ZO rfl (by decide) rfl rfl ?_;rw[M7];have h: ∀a b,GG cx kB 10000 96 [iv a,iv b]=some (iv (c_ a b)):=SE;have k: ∀a b c,GG cx kB 10000 95 [.list [[iv a],[iv b],[iv c]]]=some (iv (dJ a b c)):=SD;generalize GG cx kB 10000=G at*;simp[ae,TK,X.ev,X.ba,XK.run,gn,h,k,D.bare,PK.run,H8,Ie,iU,D.aF,D.aM,D.eT,bo,aq,bY,D.flat,D.aW,D.cells,D.gK,D.nz,nP,lj,aO,D.nV,D.VC,putAt]
end
section
def ud:List D→Bool
 | [.v (.int .i64 _), .v (.int .i64 _), .v (.int .i64 _)]=>true
 |_=>false
def K5:List D→List D→Int
 | [.v (.int .i64 a), .v (.int .i64 b), .v (.int .i64 c)],[.v (.int .i64 x), .v (.int .i64 y), .v (.int .i64 z)]=>dJ (c_ a x) (c_ b y) (c_ c z)
 |_,_=>0
theorem dL{x:List D}(h:ud x=true): ∃a b c,x= [iv a,iv b,iv c]:=by
 unfold ud at h;split at h
 ·exact⟨_,_,_,rfl⟩
 ·cases h
theorem yc(a b c x y z:Int):K5 [iv a,iv b,iv c] [iv x,iv y,iv z]<0↔a<x∨a=x∧(b<y∨b=y∧c<z):=by
 show dJ (c_ a x) (c_ b y) (c_ c z)<0↔_;unfold dJ c_
 repeat' split
 all_goals omega
theorem TL:Ae Tryz.prog 58 3 ud K5 where
 len x h:=by obtain⟨a,b,c,rfl⟩:=dL h;rfl
 pl x h d hd:=by
  obtain⟨a,b,c,rfl⟩:=dL h;simp only[List.mem_cons,List.not_mem_nil,or_false]at hd;rcases hd with rfl|rfl|rfl<;>rfl
 ok x y hx hy:=by
  obtain⟨a,b,c,rfl⟩:=dL hx;obtain⟨a',b',c',rfl⟩:=dL hy;exact((oT (C:=cx) (N:=10000) rfl lh qN).p 58 _ _ (by decide) (SC a b c a' b' c')).1
 body:=⟨Tryz.f58,Tryz.func58,rfl,by kernel_rfl⟩
 lt:=by decide
 irrefl x h:=by
  obtain⟨a,b,c,rfl⟩:=dL h;rw[yc];omega
 trans x y z hx hy hz:=by
  obtain⟨a,b,c,rfl⟩:=dL hx;obtain⟨a',b',c',rfl⟩:=dL hy;obtain⟨a2,b2,c2,rfl⟩:=dL hz;simp only[yc];omega
 ntrans x y z hx hy hz:=by
  obtain⟨a,b,c,rfl⟩:=dL hx;obtain⟨a',b',c',rfl⟩:=dL hy;obtain⟨a2,b2,c2,rfl⟩:=dL hz;simp only[yc];omega
 anti x y hx hy:=by
  obtain⟨a,b,c,rfl⟩:=dL hx;obtain⟨a',b',c',rfl⟩:=dL hy;simp only[yc];intro h1 h2;have e1:a=a':=by omega
  have e2:b=b':=by omega
  have e3:c=c':=by omega
  rw[e1,e2,e3]
theorem LU{es:List (List D)}(hne:es≠ [])(hes: ∀x∈es,ud x=true)(hlen:es.length<4611686018427387904):VEp Tryz.prog 0 57 [.list es, .clo 58 []] es (bV (Bx K5) es) (.tup []):=
 TL.sort (ρ:=Tryz.rU) Tryz.MU (fun w=>by rfl) (fun w=>by rfl) ⟨Tryz.f57,Tryz.func57,rfl,by kernel_rfl⟩ (x0:= [iv 0,iv 0,iv 0]) rfl hes hlen (fun h=>absurd h hne)
def aS:FP:=fun f ds=>if f=1000057 then(match ds with
  | [.list es, .clo 58 []]=>if es.isEmpty=false∧es.all ud=true∧es.length<65536 then some (.tup [.tup [], .list (bV (Bx K5) es)])else none
  |_=>none)else kB f ds
theorem gB:Sound Tryz.prog (br aS) where
 p f ds d hlt h:=by
  have h:aS f ds=some d:=h;unfold aS at h;rw[if_neg (by omega)]at h;exact lh.p f ds d hlt h
 e k f ds r hf h6 h:=by
  replace h:aS (1000000+(1000000*k+f)) ds=some r:=h
  unfold aS at h;split at h
  ·rename_i he;have hk:k=0:=by omega
   have hf7:f=57:=by omega
   rw[hk,hf7];split at h
   ·rename_i es;split at h<;>cases h;rename_i hc;exact⟨es,_,_,rfl,rfl,LU (fun e=>by rw[e]at hc;cases hc.1) (fun x hx=>Tz.1 hc.2.1 x hx) (by omega)⟩
   ·cases h
  ·exact lh.e k f ds r hf h6 h
 q e f ds r hf h:=by
  obtain⟨d,hd,rfl⟩:=Mz.1 (show(aS (1000001000000+(1000000*e+f)) ds).map _=some r from h);unfold aS at hd;rw[if_neg (by omega)]at hd;exact lh.q e f ds _ hf (show Option.map _ _=_ by rw[hd];rfl)
end
section
namespace Ty
theorem nr{α:Type}{a b:α}(h:a=b):a=b:=h
def ob{α β:Type}(x:Option α)(f:α→Option β):Option β:=x.bind f
@[congr] theorem afC{α β:Type}{x y:Option α}{f:α→Option β}(h:x=y):ob x f=ob y f:=by rw[h]
@[simp] theorem GC{α β:Type}{a:α}{f:α→Option β}:ob (some a) f=f a:=nr rfl
section
variable {G : FP} {N : Nat} {E : List D} {L : List (List D → Option D)}
@[simp] theorem acf{x:X}:ae G N (.ret x) L E=ob (X.ev G E x) fun d=>if d.aF then some (bY x d)else none:=nr rfl
@[simp] theorem acd{xs:List X}{k:FT}:ae G N (.fM xs k) L E=ob (X.ba G E xs) fun _=>ae G N k L E:=nr rfl
@[simp] theorem abr{xs:List X}{k:FT}:ae G N (.lets xs k) L E=ob (X.ba G E xs) fun ds=>ae G N k L (E++ds):=nr rfl
@[simp] theorem ace{c:X}{a b:FT}:ae G N (.ite c a b) L E=ob (X.ev G E c) fun v=>ob v.asBool fun x=>if x=true then ae G N a L E else ae G N b L E:=by
 simp only[ae,ob];congr 1;funext v;congr 1;funext x;cases x<;>rfl
@[simp] theorem abu{j:Nat}{xs:List X}:ae G N (.next j xs) L E=ob (X.ba G E xs) fun ds=>ob (L[j]?) fun f=>f ds:=nr rfl
@[simp] theorem afq{k b:FT}:ae G N (.jp k b) L E=ae G N b ((fun vs=>ae G N k L (E++vs))::L) E:=nr rfl
@[simp] theorem VQ{i:Nat}:X.ev G E (.t i)=E[i]?:=nr rfl
@[simp] theorem x_q{d:D}:X.ev G E (.q d)=some d:=nr rfl
@[simp] theorem Hc{k:XK}{xs:List X}:X.ev G E (.mk k xs)=ob (X.ba G E xs) (k.run G):=nr rfl
@[simp] theorem afW{c a b:X}:X.ev G E (.ite c a b)=ob (X.ev G E c) fun v=>ob v.asBool fun x=>if x=true then X.ev G E a else X.ev G E b:=by
 simp only[X.ev,ob];congr 1;funext v;congr 1;funext x;cases x<;>rfl
@[simp] theorem Ac:X.ba G E []=some []:=nr rfl
@[simp] theorem eL{x:X}{r:List X}:X.ba G E (x::r)=ob (X.ev G E x) fun d=>ob (X.ba G E r) fun ds=>some (d::ds):=by
 simp only[X.ba,ob];congr 1;funext d;cases X.ba G E r<;>rfl
def ju(G:FP)(N:Nat)(b:FT)(L:List (List D→Option D))(E:List D)(n:Nat):List D→Option D:=iter (fun rec vs=>ae G N b (rec::L) (E++vs)) n
@[simp] theorem abt{xs:List X}{b:FT}:ae G N (.loop xs b) L E=ob (X.ba G E xs) (ju G N b L E N):=nr rfl
theorem cG{b:FT}{n:Nat}{S:Type}(enc:S→List D)(res:S→D)(mes:S→Nat)(ok:S→Prop)
  (step: ∀(rec:List D→Option D) (s:S),ok s→(∀s',ok s'→mes s'<mes s→rec (enc s')=some (res s'))→ae G N b (rec::L) (E++enc s)=some (res s)) (s:S) (h:ok s) (hn:mes s<n):ju G N b L E n (enc s)=some (res s):=by
 induction n generalizing s with
 |zero=>omega
 |succ n ih=>
  show ae G N b (ju G N b L E n::L) (E++enc s)=_;exact step _ s h fun s' h' hm=>ih s' h' (by omega)
theorem aI{b:FT}{n:Nat}(enc:Nat→List D)(R:D)(hn:n<10000)(step: ∀(rec:List D→Option D) (i:Nat),i≤n→(i<n→rec (enc (i+1))=some R)→ae G N b (rec::L) (E++enc i)=some R):ju G N b L E 10000 (enc 0)=some R:=
 cG enc (fun _=>R) (fun i=>n-i) (fun i=>i≤n) (fun rec i hi ih=>step rec i hi fun h=>ih (i+1) h (by omega)) 0 (Nat.zero_le _) (by omega)
@[simp] theorem afZ{b:Bool}:D.asBool (.v (.bool b))=some b:=nr rfl
@[simp] theorem Z8{k:IntKind}{a b:Int}:XK.run G (.pk (.ibin .add)) [.v (.int k a), .v (.int k b)]=some (.v (.int k (k.wrap (a+b)))):=by simp[XK.run,PK.run,jc,dm,D.aF,D.aM,D.eT]
@[simp] theorem afR{k:IntKind}{a b:Int}:XK.run G (.pk (.ibin .sub)) [.v (.int k a), .v (.int k b)]=some (.v (.int k (k.wrap (a-b)))):=by simp[XK.run,PK.run,jc,dm,D.aF,D.aM,D.eT]
@[simp] theorem ζ{k:IntKind}{a b:Int}:XK.run G (.pk (.ibin .mul)) [.v (.int k a), .v (.int k b)]=some (.v (.int k (k.wrap (a*b)))):=by simp[XK.run,PK.run,jc,dm,D.aF,D.aM,D.eT]
@[simp] theorem Z9{k:IntKind}{a b:Int}:XK.run G (.pk (.ibin .eql)) [.v (.int k a), .v (.int k b)]=some (.v (.bool (decide (a=b)))):=by simp[XK.run,PK.run,jc,dm,D.aF,D.aM,D.eT];rw[Bool.eq_iff_iff];simp
@[simp] theorem θ{k:IntKind}{a b:Int}:XK.run G (.pk (.ibin .neq)) [.v (.int k a), .v (.int k b)]=some (.v (.bool (!decide (a=b)))):=by simp[XK.run,PK.run,jc,dm,D.aF,D.aM,D.eT,bne];rw[Bool.eq_iff_iff];simp
@[simp] theorem δ{k:IntKind}{a b:Int}:XK.run G (.pk (.ibin .lss)) [.v (.int k a), .v (.int k b)]=some (.v (.bool (decide (a<b)))):=by simp[XK.run,PK.run,jc,dm,D.aF,D.aM,D.eT]
@[simp] theorem Z_{k:IntKind}{a b:Int}:XK.run G (.pk (.ibin .leq)) [.v (.int k a), .v (.int k b)]=some (.v (.bool (decide (a≤b)))):=by simp[XK.run,PK.run,jc,dm,D.aF,D.aM,D.eT]
@[simp] theorem Z'{k:IntKind}{a b:Int}:XK.run G (.pk (.ibin .gtr)) [.v (.int k a), .v (.int k b)]=some (.v (.bool (decide (b<a)))):=by simp[XK.run,PK.run,jc,dm,D.aF,D.aM,D.eT]
@[simp] theorem afJ{k:IntKind}{a b:Int}:XK.run G (.pk (.ibin .geq)) [.v (.int k a), .v (.int k b)]=some (.v (.bool (decide (b≤a)))):=by simp[XK.run,PK.run,jc,dm,D.aF,D.aM,D.eT]
@[simp] theorem ξ{k:IntKind}{a b:Int}:XK.run G (.pk (.ibin .quo)) [.v (.int k a), .v (.int k b)]=if b=0 then none else some (.v (.int k (k.wrap (a.tdiv b)))):=by
 simp only[XK.run,PK.run,jc,dm,if_true];split<;>simp[D.aF,D.aM,D.eT]
@[simp] theorem ο{k:IntKind}{a b:Int}:XK.run G (.pk (.ibin .rem)) [.v (.int k a), .v (.int k b)]=if b=0 then none else some (.v (.int k (a.tmod b))):=by
 simp only[XK.run,PK.run,jc,dm,if_true];split<;>simp[D.aF,D.aM,D.eT]
@[simp] theorem afO{b:Bool}:XK.run G (.pk .inot) [.v (.bool b)]=some (.v (.bool (!b))):=nr rfl
@[simp] theorem JG{k q:IntKind}{a:Int}:XK.run G (.pk (.conv k)) [.v (.int q a)]=some (.v (.int k (k.wrap a))):=nr rfl
@[simp] theorem ahi{w b:Bool}:XK.run G (.gv w) [.v (.bool b)]=some (.v (.bool (b==w))):=nr rfl
@[simp] theorem afK{w:Bool}{xs:List D}:XK.run G (.gv w) [.tup xs]=some (.v (.bool false)):=nr rfl
@[simp] theorem afS{ds:List D}:XK.run G .tup ds=some (.tup ds):=nr rfl
@[simp] theorem afM{es:List (List D)}:XK.run G (.pk .llen) [.list es]=some (.v (.int .i64 es.length)):=nr rfl
@[simp] theorem aeE{v:Value}:XK.run G .bq [.v v]=some (.v v):=nr rfl
@[simp] theorem Uu{es:List (List D)}:XK.run G .bq [.list es]=some (.list es):=nr rfl
@[simp] theorem Uv:XK.run G .bq [.nil]=some (.list []):=nr rfl
@[simp] theorem abB{v:Value}:XK.run G .eA [.v v]=some (.v v):=nr rfl
@[simp] theorem abz{es:List (List D)}:XK.run G .eA [.list es]=some (.list es):=nr rfl
@[simp] theorem abA{es:List D}:XK.run G .eA [.lptr es]=some (.lptr es):=nr rfl
@[simp] theorem afI{off:Nat}{xs:List D}:XK.run G (.pk (.fld off)) [.lptr xs]=some (.lptr (xs.drop off)):=nr rfl
@[simp] theorem aeG{v:Value}:XK.run G .qa [.v v]=some (.v v):=nr rfl
@[simp] theorem aeF{es:List (List D)}:XK.run G .qa [.list es]=some (.list es):=nr rfl
@[simp] theorem afL{d:D}{r:List D}:XK.run G (.pk (.load 1 false)) [.lptr (d::r)]=if d.aF then some d else none:=by
 simp[XK.run,PK.run,iU]
@[simp] theorem afA{v:Value}:D.aF (.v v)=true:=nr rfl
@[simp] theorem afy{es:List (List D)}:D.aF (.list es)=true:=nr rfl
@[simp] theorem afx{xs:List D}:D.aF (.agg xs)=xs.all D.aM:=nr rfl
@[simp] theorem ad8{v:Value}:D.aM (.v v)=true:=nr rfl
@[simp] theorem ad7{es:List (List D)}:D.aM (.list es)=true:=nr rfl
@[simp] theorem afU{x:X}{v:Value}:bY x (.v v)= .v v:=nr rfl
@[simp] theorem bN{k:Nat}{xs:List D}:XK.run G (.pk (.ext k)) [.tup xs]=(xs[k]?).bind fun d=>if d.aF then some d else none:=nr rfl
theorem ag{fl:Bool}{f:Nat}{ds:List D}{d:D}(h:G f ds=some d)(h1:d.eD=false)(h2:(if fl then d.flat else d.aF)=true):XK.run G (.call fl f) ds=some d:=by
 have hb:d.bare=d:=by
  unfold D.bare;unfold D.eD at h1;split at h1
  ·cases h1
  ·rfl
 show(G f ds).bind _=_;rw[h,Oz,hb];cases fl
 ·exact if_pos h2
 ·rw[if_pos (by simp[show d.flat=true from h2])]
@[simp] theorem fu{ds:List D}:XK.run G .agg ds=if ds.all D.aM=true then some (.agg ds)else none:=nr rfl
@[simp] theorem BS{e size:Nat}{es:List (List D)}{k:IntKind}{i:Nat}:XK.run G (.pk (.idx e size)) [.list es, .v (.int k (i:Int))]=(es[i]?).bind fun c=>if c.length=size then some (.lptr c)else none:=by
 show(if(i:Int)<0 then none else(es[(i:Int).toNat]?).bind fun c=>if c.length=size then some (D.lptr c)else none).bind (fun d=>if d.aF then some d else none)=_;rw[if_neg (by omega),Int.toNat_natCast];cases es[i]? with
 |none=>rfl
 |some c=>simp only[Oz];split<;>rfl
@[simp] theorem aex{e size:Nat}{es:List (List D)}{k:IntKind}:XK.run G (.pk (.idx e size)) [.list es, .v (.int k 0)]=(es[0]?).bind fun c=>if c.length=size then some (.lptr c)else none:=BS (i:=0)
@[simp] theorem aeB{e size:Nat}{es:List (List D)}{k:IntKind}{i:Nat}:XK.run G (.pk (.idx e size)) [.list es, .v (.int k ((i:Int)+1))]=(es[i+1]?).bind fun c=>if c.length=size then some (.lptr c)else none:=BS (i:=i+1)
@[simp] theorem afN{ds:List D}:XK.run G .mkl ds=some (.list (ds.map fun d=> [d])):=nr rfl
@[simp] theorem aeC{ds:List D}:XK.run G .lptr ds=some (.lptr ds):=nr rfl
@[simp] theorem BR{neg:Bool}{ks:List Nat}{xs ys:List D}:XK.run G (.pk (.aeq neg ks)) [.agg xs, .agg ys]=(aa ks xs ys).bind fun r=>some (.v (.bool (if neg then !r else r))):=by
 show((aa ks xs ys).map fun r=>bv (if neg then !r else r)).bind _=_;cases aa ks xs ys<;>rfl
@[simp] theorem Lm:aa [] [] []=some true:=nr rfl
theorem V6{k:IntKind}{a b:Int}:fp (bj k) (.v (.int k a)) (.v (.int k b))=some (decide (a=b)):=by
 have e:(a==b)=decide (a=b):=by rw[Bool.eq_iff_iff];simp
 simp[fp,aa,e]
@[simp] theorem NL{ks:List Nat}{xs ys:List D}{a b:Int}:aa (3::ks) (.v (.int .i64 a)::xs) (.v (.int .i64 b)::ys)=(aa ks xs ys).bind fun r=>some (decide (a=b)&&r):=by
 rw[lu,show fp 3 (.v (.int .i64 a)) (.v (.int .i64 b))=some (decide (a=b))from V6 (k:= .i64)];rfl
@[simp] theorem Wh{ks:List Nat}{xs ys:List D}{a b:Int}:aa (4::ks) (.v (.int .u8 a)::xs) (.v (.int .u8 b)::ys)=(aa ks xs ys).bind fun r=>some (decide (a=b)&&r):=by
 rw[lu,show fp 4 (.v (.int .u8 a)) (.v (.int .u8 b))=some (decide (a=b))from V6 (k:= .u8)];rfl
@[simp] theorem Wg{ks:List Nat}{xs ys:List D}{a b:Bool}:aa (8::ks) (.v (.bool a)::xs) (.v (.bool b)::ys)=(aa ks xs ys).bind fun r=>some ((a==b)&&r):=by
 rw[lu,show fp 8 (.v (.bool a)) (.v (.bool b))=some (a==b)from by simp[fp,aa]];rfl
@[simp] theorem adi{p:Prop} [Decidable p]{a b:Bool}:(if p then D.v (.bool a)else D.v (.bool b))= .v (.bool (if p then a else b)):=by split<;>rfl
@[simp] theorem XJ{α:Type}{p:Prop} [Decidable p]{a b:α}:(if p then some a else some b)=some (if p then a else b):=by split<;>rfl
@[simp] theorem adj{p:Prop} [Decidable p]{k:IntKind}{a b:Int}:(if p then D.v (.int k a)else D.v (.int k b))= .v (.int k (if p then a else b)):=by split<;>rfl
theorem Vl(i:Nat)(h:i<4611686018427387904):IntKind.i64.wrap (i:Int)=(i:Int):=iC .i64 _ (by show-(9223372036854775808:Int)≤_;omega) (by show _<(9223372036854775808:Int);omega)
theorem Vm(i:Nat)(h:i<4611686018427387904):IntKind.i64.wrap ((i:Int)+1)=((i+1:Nat):Int):=by
 rw[iC .i64 _ (by show-(9223372036854775808:Int)≤_;omega) (by show _<(9223372036854775808:Int);omega)];omega
end
end Ty
end
section
namespace Ty
abbrev uv(z:Int):D:= .v (.int .u8 z)
structure Ou where
 lv:Int
 dn:Int
 rk:Int
 dc:Int
 tr:Int
 wt:Int
def Ou.cells(x:Ou):List D:= [uv x.lv,uv x.dn,uv x.rk,uv x.dc,iv x.tr,iv x.wt]
section
variable {G : FP} {x : Ou}
@[simp] theorem Ou.cell0:XK.run G (.cell 0 6) [.agg x.cells]=some (uv x.lv):=nr rfl
@[simp] theorem Ou.fp:XK.run G (.cell 1 6) [.agg x.cells]=some (uv x.dn):=nr rfl
@[simp] theorem Ou.aL:XK.run G (.cell 2 6) [.agg x.cells]=some (uv x.rk):=nr rfl
@[simp] theorem Ou.HB:XK.run G (.cell 3 6) [.agg x.cells]=some (uv x.dc):=nr rfl
@[simp] theorem Ou.HC:XK.run G (.cell 4 6) [.agg x.cells]=some (iv x.tr):=nr rfl
@[simp] theorem Ou.ld4:XK.run G (.pk (.load 1 false)) [.lptr (x.cells.drop 4)]=some (iv x.tr):=nr rfl
@[simp] theorem Ou.NB:XK.run G (.cell 5 6) [.agg x.cells]=some (iv x.wt):=nr rfl
@[simp] theorem Ou.ld5:XK.run G (.pk (.load 1 false)) [.lptr (x.cells.drop 5)]=some (iv x.wt):=nr rfl
@[simp] theorem Ou.fb:XK.run G (.pk (.fbox 6)) [.agg x.cells]=some (.lptr x.cells):=nr rfl
@[simp] theorem Ou.L4:XK.run G (.pk (.load 6 true)) [.lptr x.cells]=some (.agg x.cells):=nr rfl
@[simp] theorem Ou.bq:XK.run G .bq [.agg x.cells]=some (.agg x.cells):=nr rfl
@[simp] theorem Ou.len:x.cells.length=6:=nr rfl
@[simp] theorem Ou.aF:(D.agg x.cells).aF=true:=nr rfl
@[simp] theorem Ou.nV:x.cells.all D.nV=true:=nr rfl
@[simp] theorem Ou.Wj{ks:List Nat}{ys:List D}:aa ks x.cells ys=aa ks [uv x.lv,uv x.dn,uv x.rk,uv x.dc,iv x.tr,iv x.wt] ys:=nr rfl
end
structure Rw where
 rd:Int
 tb:Int
 ns:Int
 ew:Int
 st:Int
def Rw.cells(x:Rw):List D:= [iv x.rd,iv x.tb,iv x.ns,iv x.ew,iv x.st]
section
variable {G : FP} {x : Rw}
@[simp] theorem Rw.cell0:XK.run G (.cell 0 5) [.agg x.cells]=some (iv x.rd):=nr rfl
@[simp] theorem Rw.fp:XK.run G (.cell 1 5) [.agg x.cells]=some (iv x.tb):=nr rfl
@[simp] theorem Rw.aL:XK.run G (.cell 2 5) [.agg x.cells]=some (iv x.ns):=nr rfl
@[simp] theorem Rw.TZ:XK.run G (.pk (.load 1 false)) [.lptr (x.cells.drop 2)]=some (iv x.ns):=nr rfl
@[simp] theorem Rw.HB:XK.run G (.cell 3 5) [.agg x.cells]=some (iv x.ew):=nr rfl
@[simp] theorem Rw.ld3:XK.run G (.pk (.load 1 false)) [.lptr (x.cells.drop 3)]=some (iv x.ew):=nr rfl
@[simp] theorem Rw.HC:XK.run G (.cell 4 5) [.agg x.cells]=some (iv x.st):=nr rfl
@[simp] theorem Rw.ld4:XK.run G (.pk (.load 1 false)) [.lptr (x.cells.drop 4)]=some (iv x.st):=nr rfl
@[simp] theorem Rw.L5:XK.run G (.pk (.load 1 false)) [.lptr x.cells]=some (iv x.rd):=nr rfl
@[simp] theorem Rw.Oh:XK.run G (.pk (.load 1 false)) [.lptr x.cells.tail]=some (iv x.tb):=nr rfl
@[simp] theorem Rw.fb:XK.run G (.pk (.fbox 5)) [.agg x.cells]=some (.lptr x.cells):=nr rfl
@[simp] theorem Rw.L4:XK.run G (.pk (.load 5 true)) [.lptr x.cells]=some (.agg x.cells):=nr rfl
@[simp] theorem Rw.bq:XK.run G .bq [.agg x.cells]=some (.agg x.cells):=nr rfl
@[simp] theorem Rw.len:x.cells.length=5:=nr rfl
@[simp] theorem Rw.aF:(D.agg x.cells).aF=true:=nr rfl
@[simp] theorem Rw.nV:x.cells.all D.nV=true:=nr rfl
end
structure Ky where
 rd:Int
 tb:Int
 bd:Int
def Ky.cells(x:Ky):List D:= [iv x.rd,iv x.tb,iv x.bd]
section
variable {G : FP} {x : Ky}
@[simp] theorem Ky.cell0:XK.run G (.cell 0 3) [.agg x.cells]=some (iv x.rd):=nr rfl
@[simp] theorem Ky.fp:XK.run G (.cell 1 3) [.agg x.cells]=some (iv x.tb):=nr rfl
@[simp] theorem Ky.aL:XK.run G (.cell 2 3) [.agg x.cells]=some (iv x.bd):=nr rfl
@[simp] theorem Ky.L4:XK.run G (.pk (.load 3 true)) [.lptr x.cells]=some (.agg x.cells):=nr rfl
@[simp] theorem Ky.bq:XK.run G .bq [.agg x.cells]=some (.agg x.cells):=nr rfl
@[simp] theorem Ky.len:x.cells.length=3:=nr rfl
@[simp] theorem Ky.aF:(D.agg x.cells).aF=true:=nr rfl
@[simp] theorem Ky.nV:x.cells.all D.nV=true:=nr rfl
end
structure Ss where
 tb:Int
 rs:Int
 ss:Int
 cp:Int
 wn:Int
 rows:List Rw
 bs:Int
def Ss.cells(x:Ss):List D:= [iv x.tb,iv x.rs,iv x.ss,iv x.cp,iv x.wn, .list (x.rows.map Rw.cells),iv x.bs]
section
variable {G : FP} {x : Ss}
@[simp] theorem Ss.cell0:XK.run G (.cell 0 7) [.agg x.cells]=some (iv x.tb):=nr rfl
@[simp] theorem Ss.TZ:XK.run G (.pk (.load 1 false)) [.lptr (x.cells.drop 2)]=some (iv x.ss):=nr rfl
@[simp] theorem Ss.NB:XK.run G (.cell 5 7) [.agg x.cells]=some (.list (x.rows.map Rw.cells)):=nr rfl
@[simp] theorem Ss.ld5:XK.run G (.pk (.load 1 false)) [.lptr (x.cells.drop 5)]=some (.list (x.rows.map Rw.cells)):=nr rfl
@[simp] theorem Ss.V_:XK.run G (.cell 6 7) [.agg x.cells]=some (iv x.bs):=nr rfl
@[simp] theorem Ss.ld6:XK.run G (.pk (.load 1 false)) [.lptr (x.cells.drop 6)]=some (iv x.bs):=nr rfl
@[simp] theorem Ss.fb:XK.run G (.pk (.fbox 7)) [.agg x.cells]=some (.lptr x.cells):=nr rfl
@[simp] theorem Ss.L4:XK.run G (.pk (.load 7 true)) [.lptr x.cells]=some (.agg x.cells):=nr rfl
@[simp] theorem Ss.bq:XK.run G .bq [.agg x.cells]=some (.agg x.cells):=nr rfl
@[simp] theorem Ss.len:x.cells.length=7:=nr rfl
@[simp] theorem Ss.aF:(D.agg x.cells).aF=true:=nr rfl
@[simp] theorem Ss.nV:x.cells.all D.nV=true:=nr rfl
end
structure En where
 rd:Int
 tb:Int
 bd:Int
 vs:Int
 kd:Int
 fl:Int
 tu:Bool
 o0:Ou
 o1:Ou
 o2:Ou
 o3:Ou
 a0:Int
 a1:Int
def En.outs(x:En):List D:=x.o0.cells++(x.o1.cells++(x.o2.cells++x.o3.cells))
def En.cells(x:En):List D:=iv x.rd::iv x.tb::iv x.bd::iv x.vs::uv x.kd::uv x.fl::bv x.tu::(x.outs++ [iv x.a0,iv x.a1])
section
variable {G : FP} {x : En}
@[simp] theorem En.cell0:XK.run G (.cell 0 33) [.agg x.cells]=some (iv x.rd):=nr rfl
@[simp] theorem En.fp:XK.run G (.cell 1 33) [.agg x.cells]=some (iv x.tb):=nr rfl
@[simp] theorem En.aL:XK.run G (.cell 2 33) [.agg x.cells]=some (iv x.bd):=nr rfl
@[simp] theorem En.TZ:XK.run G (.pk (.load 1 false)) [.lptr (x.cells.drop 2)]=some (iv x.bd):=nr rfl
@[simp] theorem En.HB:XK.run G (.cell 3 33) [.agg x.cells]=some (iv x.vs):=nr rfl
@[simp] theorem En.ld3:XK.run G (.pk (.load 1 false)) [.lptr (x.cells.drop 3)]=some (iv x.vs):=nr rfl
@[simp] theorem En.HC:XK.run G (.cell 4 33) [.agg x.cells]=some (uv x.kd):=nr rfl
@[simp] theorem En.ld4:XK.run G (.pk (.load 1 false)) [.lptr (x.cells.drop 4)]=some (uv x.kd):=nr rfl
@[simp] theorem En.NB:XK.run G (.cell 5 33) [.agg x.cells]=some (uv x.fl):=nr rfl
@[simp] theorem En.ld5:XK.run G (.pk (.load 1 false)) [.lptr (x.cells.drop 5)]=some (uv x.fl):=nr rfl
@[simp] theorem En.V_:XK.run G (.cell 6 33) [.agg x.cells]=some (bv x.tu):=nr rfl
@[simp] theorem En.ld6:XK.run G (.pk (.load 1 false)) [.lptr (x.cells.drop 6)]=some (bv x.tu):=nr rfl
@[simp] theorem En.afe:XK.run G (.cell 7 33) [.agg x.cells]=some (uv x.o0.lv):=nr rfl
@[simp] theorem En.aff:XK.run G (.cell 8 33) [.agg x.cells]=some (uv x.o0.dn):=nr rfl
@[simp] theorem En.afg:XK.run G (.cell 9 33) [.agg x.cells]=some (uv x.o0.rk):=nr rfl
@[simp] theorem En.abK:XK.run G (.cell 10 33) [.agg x.cells]=some (uv x.o0.dc):=nr rfl
@[simp] theorem En.abL:XK.run G (.cell 11 33) [.agg x.cells]=some (iv x.o0.tr):=nr rfl
@[simp] theorem En.abM:XK.run G (.cell 12 33) [.agg x.cells]=some (iv x.o0.wt):=nr rfl
@[simp] theorem En.agh:XK.run G (.pk (.load 1 false)) [.lptr (x.cells.drop 12)]=some (iv x.o0.wt):=nr rfl
@[simp] theorem En.abN:XK.run G (.cell 13 33) [.agg x.cells]=some (uv x.o1.lv):=nr rfl
@[simp] theorem En.abO:XK.run G (.cell 14 33) [.agg x.cells]=some (uv x.o1.dn):=nr rfl
@[simp] theorem En.abP:XK.run G (.cell 15 33) [.agg x.cells]=some (uv x.o1.rk):=nr rfl
@[simp] theorem En.abQ:XK.run G (.cell 16 33) [.agg x.cells]=some (uv x.o1.dc):=nr rfl
@[simp] theorem En.abR:XK.run G (.cell 17 33) [.agg x.cells]=some (iv x.o1.tr):=nr rfl
@[simp] theorem En.abS:XK.run G (.cell 18 33) [.agg x.cells]=some (iv x.o1.wt):=nr rfl
@[simp] theorem En.agn:XK.run G (.pk (.load 1 false)) [.lptr (x.cells.drop 18)]=some (iv x.o1.wt):=nr rfl
@[simp] theorem En.abT:XK.run G (.cell 19 33) [.agg x.cells]=some (uv x.o2.lv):=nr rfl
@[simp] theorem En.abU:XK.run G (.cell 20 33) [.agg x.cells]=some (uv x.o2.dn):=nr rfl
@[simp] theorem En.abV:XK.run G (.cell 21 33) [.agg x.cells]=some (uv x.o2.rk):=nr rfl
@[simp] theorem En.abW:XK.run G (.cell 22 33) [.agg x.cells]=some (uv x.o2.dc):=nr rfl
@[simp] theorem En.abX:XK.run G (.cell 23 33) [.agg x.cells]=some (iv x.o2.tr):=nr rfl
@[simp] theorem En.abY:XK.run G (.cell 24 33) [.agg x.cells]=some (iv x.o2.wt):=nr rfl
@[simp] theorem En.agt:XK.run G (.pk (.load 1 false)) [.lptr (x.cells.drop 24)]=some (iv x.o2.wt):=nr rfl
@[simp] theorem En.abZ:XK.run G (.cell 25 33) [.agg x.cells]=some (uv x.o3.lv):=nr rfl
@[simp] theorem En.ab0:XK.run G (.cell 26 33) [.agg x.cells]=some (uv x.o3.dn):=nr rfl
@[simp] theorem En.ab1:XK.run G (.cell 27 33) [.agg x.cells]=some (uv x.o3.rk):=nr rfl
@[simp] theorem En.ab2:XK.run G (.cell 28 33) [.agg x.cells]=some (uv x.o3.dc):=nr rfl
@[simp] theorem En.ab3:XK.run G (.cell 29 33) [.agg x.cells]=some (iv x.o3.tr):=nr rfl
@[simp] theorem En.ab4:XK.run G (.cell 30 33) [.agg x.cells]=some (iv x.o3.wt):=nr rfl
@[simp] theorem En.agz:XK.run G (.pk (.load 1 false)) [.lptr (x.cells.drop 30)]=some (iv x.o3.wt):=nr rfl
@[simp] theorem En.ab5:XK.run G (.cell 31 33) [.agg x.cells]=some (iv x.a0):=nr rfl
@[simp] theorem En.agA:XK.run G (.pk (.load 1 false)) [.lptr (x.cells.drop 31)]=some (iv x.a0):=nr rfl
@[simp] theorem En.ab6:XK.run G (.cell 32 33) [.agg x.cells]=some (iv x.a1):=nr rfl
@[simp] theorem En.agB:XK.run G (.pk (.load 1 false)) [.lptr (x.cells.drop 32)]=some (iv x.a1):=nr rfl
@[simp] theorem En.L5:XK.run G (.pk (.load 1 false)) [.lptr x.cells]=some (iv x.rd):=nr rfl
@[simp] theorem En.Oh:XK.run G (.pk (.load 1 false)) [.lptr x.cells.tail]=some (iv x.tb):=nr rfl
@[simp] theorem En.fb:XK.run G (.pk (.fbox 33)) [.agg x.cells]=some (.lptr x.cells):=nr rfl
@[simp] theorem En.L4:XK.run G (.pk (.load 33 true)) [.lptr x.cells]=some (.agg x.cells):=nr rfl
@[simp] theorem En.bq:XK.run G .bq [.agg x.cells]=some (.agg x.cells):=nr rfl
@[simp] theorem En.len:x.cells.length=33:=nr rfl
@[simp] theorem En.aF:(D.agg x.cells).aF=true:=nr rfl
@[simp] theorem En.nV:x.cells.all D.nV=true:=nr rfl
@[simp] theorem En.agE:XK.run G (.pk (.load 6 true)) [.lptr (x.cells.drop 7)]=some (.agg x.o0.cells):=nr rfl
@[simp] theorem En.agF:XK.run G (.pk (.load 6 true)) [.lptr (x.cells.drop 13)]=some (.agg x.o1.cells):=nr rfl
@[simp] theorem En.agG:XK.run G (.pk (.load 6 true)) [.lptr (x.cells.drop 19)]=some (.agg x.o2.cells):=nr rfl
@[simp] theorem En.agH:XK.run G (.pk (.load 6 true)) [.lptr (x.cells.drop 25)]=some (.agg x.o3.cells):=nr rfl
@[simp] theorem En.ai0:XK.run G (.pk (.aidx 4 6)) [.lptr (x.cells.drop 7),iv 0]=some (.lptr (x.cells.drop 7)):=nr rfl
@[simp] theorem En.ai1:XK.run G (.pk (.aidx 4 6)) [.lptr (x.cells.drop 7),iv 1]=some (.lptr (x.cells.drop 13)):=nr rfl
@[simp] theorem En.ai2:XK.run G (.pk (.aidx 4 6)) [.lptr (x.cells.drop 7),iv 2]=some (.lptr (x.cells.drop 19)):=nr rfl
@[simp] theorem En.ai3:XK.run G (.pk (.aidx 4 6)) [.lptr (x.cells.drop 7),iv 3]=some (.lptr (x.cells.drop 25)):=nr rfl
@[simp] theorem En.aw0:XK.run G (.pk (.aidx 2 1)) [.lptr (x.cells.drop 31),iv 0]=some (.lptr (x.cells.drop 31)):=nr rfl
@[simp] theorem En.aw1:XK.run G (.pk (.aidx 2 1)) [.lptr (x.cells.drop 31),iv 1]=some (.lptr (x.cells.drop 32)):=nr rfl
end
end Ty
end
section
namespace Ty
def Ba:List Nat:= [152,153,54,90,166,167,168,123,11,15]
def Fr(H:FP):Prop:= ∀f ds,f<1000000→Ba.contains f=false→H f ds=none
theorem Lr:Fr kB:=fun f ds _ h=>by
 have h1:f≠152:=fun e=>by subst e;exact absurd h (by decide)
 have h2:f≠153:=fun e=>by subst e;exact absurd h (by decide)
 unfold kB;rw[if_neg h1,if_neg h2]
theorem EL:Fr aS:=fun f ds h h1=>by unfold aS;rw[if_neg (by omega)];exact Lr f ds h h1
noncomputable abbrev GK(H:FP):FP:=GG cx H 10000
variable {H : FP}
theorem af(hF:Fr H){f n:Nat}{t:FT}(ho:aN cx f n t){ds:List D}{d:D}(he:ae (GK H) 10000 t [] ds=some d)(hlt:f<1000000:=by decide)(h1:Ba.contains f=false:=by decide)(hl:ds.length=n:=by rfl)(hn:ds.all D.aF=true:=by rfl):GK H f ds=some d:=ke ho (hF f ds hlt h1) hlt hl hn he
theorem ads(hF:Fr H)(a:Int):GK H 148 [iv a]=some (bv false):=by
 refine af hF Js ?_
 conv=>enter [1,3];cbv
 simp
theorem l96(hF:Fr H)(a b:Int):GK H 96 [iv a,iv b]=some (iv (c_ a b)):=by
 refine af hF Ui ?_
 conv=>enter [1,3];cbv
 have k: ∀a,XK.run (GK H) (.call false 148) [iv a]=some (bv false):=fun a=>ag (ads hF a) rfl rfl;simp[k];unfold c_;by_cases h1:a<b
 ·simp[h1]
 ·by_cases h2:b<a<;>simp[h1,h2]
theorem l95(hF:Fr H)(a b c:Int):GK H 95 [.list [[iv a],[iv b],[iv c]]]=some (iv (dJ a b c)):=by
 refine af hF Uh ?_;rw[FE];exact HK (GK H) 9996 a b c
def En.bP(e x:En):Int:=dJ (c_ e.rd x.rd) (c_ e.tb x.tb) (c_ e.bd x.bd)
theorem l82(hF:Fr H)(e x:En):GK H 82 [.agg e.cells, .agg x.cells]=some (iv (e.bP x)):=by
 refine af hF ZT ?_
 conv=>enter [1,3];cbv
 have k: ∀a b,XK.run (GK H) (.call false 96) [iv a,iv b]=some (iv (c_ a b)):=fun a b=>ag (l96 hF a b) rfl rfl;have k2: ∀a b c,XK.run (GK H) (.call true 95) [.list [[iv a],[iv b],[iv c]]]=some (iv (dJ a b c)):=fun a b c=>ag (l95 hF a b c) rfl rfl;have k3: ∀a b c,XK.run (GK H) (.lit 1 3 [iv 0,iv 0,iv 0] [(0,1),(1,1),(2,1)]) [iv a,iv b,iv c]=some (.list [[iv a],[iv b],[iv c]]):=fun a b c=>rfl;simp[k,k2,k3,En.bP]
def Ky.cmp(e x:Ky):Int:=dJ (c_ e.rd x.rd) (c_ e.tb x.tb) (c_ e.bd x.bd)
def Ou.bK(o:Ou):List Int:= [IntKind.i64.wrap o.lv,IntKind.i64.wrap o.dn,IntKind.i64.wrap o.rk,IntKind.i64.wrap o.dc,o.tr,o.wt]
def En.bK(e:En):List Int:=e.rd::e.tb::e.bd::e.vs::IntKind.i64.wrap e.kd::IntKind.i64.wrap e.fl::(bif e.tu then 1 else 0)::(e.o0.bK++(e.o1.bK++(e.o2.bK++(e.o3.bK++ [e.a0,e.a1]))))
theorem l83(hF:Fr H)(e:En):GK H 83 [.agg e.cells]=some (.agg (e.bK.map iv)):=by
 refine af hF ZU ?_;rw[←oz];obtain⟨rd,tb,bd,vs,kd,fl,tu,o0,o1,o2,o3,a0,a1⟩:=e;cases tu<;>kernel_rfl
section
variable {G : FP} {x : En}
@[simp] theorem En.nc0:XK.run G (.cell 0 33) [.agg (x.bK.map iv)]=some (iv (x.rd)):=nr rfl
@[simp] theorem En.nc1:XK.run G (.cell 1 33) [.agg (x.bK.map iv)]=some (iv (x.tb)):=nr rfl
@[simp] theorem En.nc2:XK.run G (.cell 2 33) [.agg (x.bK.map iv)]=some (iv (x.bd)):=nr rfl
@[simp] theorem En.nc3:XK.run G (.cell 3 33) [.agg (x.bK.map iv)]=some (iv (x.vs)):=nr rfl
@[simp] theorem En.nc4:XK.run G (.cell 4 33) [.agg (x.bK.map iv)]=some (iv (IntKind.i64.wrap x.kd)):=nr rfl
@[simp] theorem En.nc5:XK.run G (.cell 5 33) [.agg (x.bK.map iv)]=some (iv (IntKind.i64.wrap x.fl)):=nr rfl
@[simp] theorem En.nc6:XK.run G (.cell 6 33) [.agg (x.bK.map iv)]=some (iv (bif x.tu then 1 else 0)):=nr rfl
@[simp] theorem En.nc7:XK.run G (.cell 7 33) [.agg (x.bK.map iv)]=some (iv (IntKind.i64.wrap x.o0.lv)):=nr rfl
@[simp] theorem En.nc8:XK.run G (.cell 8 33) [.agg (x.bK.map iv)]=some (iv (IntKind.i64.wrap x.o0.dn)):=nr rfl
@[simp] theorem En.nc9:XK.run G (.cell 9 33) [.agg (x.bK.map iv)]=some (iv (IntKind.i64.wrap x.o0.rk)):=nr rfl
@[simp] theorem En.agM:XK.run G (.cell 10 33) [.agg (x.bK.map iv)]=some (iv (IntKind.i64.wrap x.o0.dc)):=nr rfl
@[simp] theorem En.agN:XK.run G (.cell 11 33) [.agg (x.bK.map iv)]=some (iv (x.o0.tr)):=nr rfl
@[simp] theorem En.agO:XK.run G (.cell 12 33) [.agg (x.bK.map iv)]=some (iv (x.o0.wt)):=nr rfl
@[simp] theorem En.agP:XK.run G (.cell 13 33) [.agg (x.bK.map iv)]=some (iv (IntKind.i64.wrap x.o1.lv)):=nr rfl
@[simp] theorem En.agQ:XK.run G (.cell 14 33) [.agg (x.bK.map iv)]=some (iv (IntKind.i64.wrap x.o1.dn)):=nr rfl
@[simp] theorem En.agR:XK.run G (.cell 15 33) [.agg (x.bK.map iv)]=some (iv (IntKind.i64.wrap x.o1.rk)):=nr rfl
@[simp] theorem En.agS:XK.run G (.cell 16 33) [.agg (x.bK.map iv)]=some (iv (IntKind.i64.wrap x.o1.dc)):=nr rfl
@[simp] theorem En.agT:XK.run G (.cell 17 33) [.agg (x.bK.map iv)]=some (iv (x.o1.tr)):=nr rfl
@[simp] theorem En.agU:XK.run G (.cell 18 33) [.agg (x.bK.map iv)]=some (iv (x.o1.wt)):=nr rfl
@[simp] theorem En.agV:XK.run G (.cell 19 33) [.agg (x.bK.map iv)]=some (iv (IntKind.i64.wrap x.o2.lv)):=nr rfl
@[simp] theorem En.agW:XK.run G (.cell 20 33) [.agg (x.bK.map iv)]=some (iv (IntKind.i64.wrap x.o2.dn)):=nr rfl
@[simp] theorem En.agX:XK.run G (.cell 21 33) [.agg (x.bK.map iv)]=some (iv (IntKind.i64.wrap x.o2.rk)):=nr rfl
@[simp] theorem En.agY:XK.run G (.cell 22 33) [.agg (x.bK.map iv)]=some (iv (IntKind.i64.wrap x.o2.dc)):=nr rfl
@[simp] theorem En.agZ:XK.run G (.cell 23 33) [.agg (x.bK.map iv)]=some (iv (x.o2.tr)):=nr rfl
@[simp] theorem En.ag0:XK.run G (.cell 24 33) [.agg (x.bK.map iv)]=some (iv (x.o2.wt)):=nr rfl
@[simp] theorem En.ag1:XK.run G (.cell 25 33) [.agg (x.bK.map iv)]=some (iv (IntKind.i64.wrap x.o3.lv)):=nr rfl
@[simp] theorem En.ag2:XK.run G (.cell 26 33) [.agg (x.bK.map iv)]=some (iv (IntKind.i64.wrap x.o3.dn)):=nr rfl
@[simp] theorem En.ag3:XK.run G (.cell 27 33) [.agg (x.bK.map iv)]=some (iv (IntKind.i64.wrap x.o3.rk)):=nr rfl
@[simp] theorem En.ag4:XK.run G (.cell 28 33) [.agg (x.bK.map iv)]=some (iv (IntKind.i64.wrap x.o3.dc)):=nr rfl
@[simp] theorem En.ag5:XK.run G (.cell 29 33) [.agg (x.bK.map iv)]=some (iv (x.o3.tr)):=nr rfl
@[simp] theorem En.ag6:XK.run G (.cell 30 33) [.agg (x.bK.map iv)]=some (iv (x.o3.wt)):=nr rfl
@[simp] theorem En.ag7:XK.run G (.cell 31 33) [.agg (x.bK.map iv)]=some (iv (x.a0)):=nr rfl
@[simp] theorem En.ag8:XK.run G (.cell 32 33) [.agg (x.bK.map iv)]=some (iv (x.a1)):=nr rfl
end
def eO:List Int→List Int→Int
 | [],[]=>0
 | [],_::_=> -1
 |_::_,[]=>1
 |a::r,b::s=>if c_ a b=0 then eO r s else c_ a b
theorem dw{a b:Int}:c_ a b=0↔a=b:=by unfold c_;repeat' split<;>omega
theorem cF{α:Type}{l:List α}{i:Nat}{a:α}(h:l[i]?=some a):l.drop i=a::l.drop (i+1):=by
 obtain⟨hi,rfl⟩:=Gz.1 h;exact List.drop_eq_getElem_cons hi
theorem dI{α:Type}{l:List α}{i:Nat}(h:l[i]?=none):l.drop i= []:=by simpa using h
theorem l84(hF:Fr H)(xs ys:List Int)(hx:xs.length<9999):GK H 84 [.list (xs.map fun z=> [iv z]), .list (ys.map fun z=> [iv z])]=some (iv (eO xs ys)):=by
 refine af hF ZV ?_
 conv=>enter [1,3];cbv
 have k: ∀a b,XK.run (GK H) (.call false 96) [iv a,iv b]=some (iv (c_ a b)):=fun a b=>ag (l96 hF a b) rfl rfl;simp;refine cG (S:=Nat) (enc:=fun i=> [iv (i:Int),iv 0]) (res:=fun i=>iv (eO (xs.drop i) (ys.drop i))) (mes:=fun i=>xs.length-i) (ok:=fun i=>i≤xs.length∧i≤ys.length) ?_ 0 ⟨by omega,by omega⟩ (by omega);rintro rec i ⟨h1,h2⟩ ih;cases h3:xs[i]? with
 |some a=>
  have l3:=(Gz.1 h3).1;rw[cF h3];cases h4:ys[i]? with
  |some b=>
   have l4:=(Gz.1 h4).1;have ih:=ih (i+1) ⟨l3,l4⟩ (by omega);rw[cF h4];have e3:xs[i]=a:=(Gz.1 h3).2;have e4:ys[i]=b:=(Gz.1 h4).2;simp[k,l3,l4,e3,e4,Int.not_le.2 (Int.ofNat_lt.2 l4),eO,Vm i (by omega)];by_cases h5:c_ a b=0
   ·simpa[h5]using ih
   ·simp[h5]
  |none=>
   have l4:=List.getElem?_eq_none_iff.1 h4;rw[dI h4];simp[h3,l3,Int.ofNat_le.2 l4,eO]
 |none=>
  have l3:=List.getElem?_eq_none_iff.1 h3;rw[dI h3];cases h4:ys[i]? with
  |some b=>
   have l4:=(Gz.1 h4).1;rw[cF h4];have e:xs.length=i:=by omega
   simp[e,l4,eO]
  |none=>
   have l4:=List.getElem?_eq_none_iff.1 h4;rw[dI h4];have e:xs.length=i:=by omega
   have e':ys.length=i:=by omega
   simp[e,e',eO]
theorem AT: ∀(ks:List Nat) (xs ys:List Int),(∀k∈ks,k=3)→ks.length=xs.length→ys.length=xs.length→aa ks (xs.map iv) (ys.map iv)=some (decide (xs=ys))
 | [],[],[],_,_,_=>rfl
 |k::ks,a::xs,b::ys,h,h1,h2=>by
  obtain rfl:=h k (List.mem_cons_self ..);rw[List.map_cons,List.map_cons,NL,AT ks xs ys (fun k hk=>h k (Cz _ hk)) (by simpa using h1) (by simpa using h2)];simp[Bool.decide_and]
 | [],_::_,_,_,h,_=>by simp at h
 |_::_,[],_,_,h,_=>by simp at h
 |_,[],_::_,_,_,h=>by simp at h
 |_,_::_,[],_,_,h=>by simp at h
def En.lex(e x:En):Int:=eO e.bK x.bK
def En.cmp(e x:En):Int:=if e.bP x≠0 then e.bP x else e.lex x
theorem qK: ∀l,eO l l=0
 | []=>rfl
 |a::r=>by simp[eO,dw,qK r]
theorem l44(hF:Fr H)(e x:En):GK H 44 [.agg e.cells, .agg x.cells]=some (iv (e.cmp x)):=by
 refine af hF ZE ?_
 conv=>enter [1,3];cbv
 have k: ∀e x:En,XK.run (GK H) (.call false 82) [.agg e.cells, .agg x.cells]=some (iv (e.bP x)):=fun e x=>ag (l82 hF e x) rfl rfl;have k2: ∀e:En,XK.run (GK H) (.call false 83) [.agg e.cells]=some (.agg (e.bK.map iv)):=fun e=>ag (l83 hF e) rfl rfl;have k3: ∀e x:En,XK.run (GK H) (.call true 84) [.list (e.bK.map fun z=> [iv z]), .list (x.bK.map fun z=> [iv z])]=some (iv (e.lex x)):=fun e x=>ag (l84 hF e.bK x.bK (by show 33<9999;decide)) rfl rfl;have k4:=AT [3,3,3,3,3,3,3,3,3,3,3,3,3,3,3,3,3,3,3,3,3,3,3,3,3,3,3,3,3,3,3,3,3] e.bK x.bK (by decide) rfl rfl;simp[En.bK,Ou.bK]at k3;simp[k,k2,k4];by_cases h1:e.bP x=0
 ·by_cases h2:e.bK=x.bK
  ·have:e.lex x=0:=by unfold En.lex;rw[h2,qK]
   simp[h1,h2,En.cmp,this]
  ·simp[h1,h2,En.cmp,k3]
 ·simp[h1,En.cmp]
end Ty
end
section
namespace Ty
variable {H : FP}
@[simp] theorem ad9{a b:Value}:D.aF (.tup [.v a, .v b])=true:=nr rfl
@[simp] theorem aeR{x:X}{a b:Value}:bY x (.tup [.v a, .v b])= .tup [.v a, .v b]:=nr rfl
theorem fZ{G:FP}{fl:Bool}{f:Nat}{eM r cs:List D}(hf:f<1000000)(h:eM.mapM (bo dO)=some cs):XK.run G (.ccall fl) (.clo f eM::r)=XK.run G (.call fl f) (r++cs):=by
 show(if f<1000000 then(eM.mapM (bo dO)).bind fun cs=>gn G fl f (r++cs)else none)=gn G fl f (r++cs);rw[if_pos hf,h];rfl
theorem wr{z:Int}(h1: -9223372036854775808≤z)(h2:z<9223372036854775808):IntKind.i64.wrap z=z:=iC .i64 z h1 h2
def mN:List En→Bool
 |a::b::r=>if a.cmp b<0 then mN (b::r)else false
 |_=>true
theorem l55(hF:Fr H)(l:List En)(hl:l.length<9999):GK H 55 [.list (l.map En.cells)]=some (bv (mN l)):=by
 refine af hF ZM ?_
 conv=>enter [1,3];cbv
 have k: ∀e x:En,XK.run (GK H) (.call false 44) [.agg e.cells, .agg x.cells]=some (iv (e.cmp x)):=fun e x=>ag (l44 hF e x) rfl rfl;simp;refine cG (S:=Nat) (enc:=fun j=> [iv ((j:Int)+1),bv false]) (res:=fun j=>bv (mN (l.drop j))) (mes:=fun j=>l.length-j) (ok:=fun j=>j≤l.length) ?_ 0 (by omega) (by omega);intro rec j h1 ih;cases h3:l[j+1]? with
 |some b=>
  have l3:=(Gz.1 h3).1;have e3:l[j+1]=b:=(Gz.1 h3).2;have h2:l[j]?=some l[j]:=Ez (by omega);generalize l[j]=a at h2;have e2:l[j]=a:=by rw[Ez (by omega)]at h2;exact Option.some.inj h2
  have ih:=ih (j+1) (by omega) (by omega);rw[cF h2,cF h3];rw[cF h3]at ih;have l3':(j:Int)+1<l.length:=by omega
  have l2':j<l.length:=by omega
  simp[k,l3,l3',l2',e3,e2,mN,Vl j (by omega),wr (z:=(j:Int)+1+1) (by omega) (by omega)];by_cases h5:a.cmp b<0
  ·simpa[h5,Int.not_le.2 h5]using ih
  ·simp[h5,Int.not_lt.1 h5]
 |none=>
  have l3:=List.getElem?_eq_none_iff.1 h3;have l3': ¬(j:Int)+1<l.length:=by omega
  have:mN (l.drop j)=true:=by
   cases h2:l[j]? with
   |none=>rw[dI h2];rfl
   |some a=>rw[cF h2,dI h3];rfl
  simp[l3',this]
theorem l52(hF:Fr H)(r:Rw)(e:En):GK H 52 [.agg r.cells, .lptr e.cells]=some (bv (decide (r.rd=e.rd)&&decide (r.tb=e.tb))):=by
 refine af hF ZK ?_
 conv=>enter [1,3];cbv
 simp
def Ou.aQ(o:Ou):Bool:=if o.lv=0 then(decide (o.lv=0)&&(decide (o.dn=0)&&(decide (o.rk=0)&&decide (o.dc=0))))&&decide (o.tr=0)
 else decide (o.lv≤7)&&decide (o.dn≤4)&&decide (o.rk≤2)&&decide (o.dc≤3)&&decide (0≤o.tr)&&decide (o.tr≤13)
theorem LX(hF:Fr H)(o:Ou):GK H 138 [.agg o.cells]=some (bv o.aQ):=by
 refine af hF OJ ?_
 conv=>enter [1,3];cbv
 unfold Ou.aQ;by_cases h:o.lv=0<;>simp[h]
def cW(rd tb:Int):List Rw→Option Nat
 | []=>none
 |r::s=>if r.rd=rd∧r.tb=tb then some 0 else(cW rd tb s).map (· +1)
def MB:Option Nat→Int
 |some i=>i
 |none=> -1
theorem l51(hF:Fr H)(l:List Rw)(hl:l.length<9999)(e:En):GK H 51 [.list (l.map Rw.cells), .clo 52 [.lptr e.cells]]=some (iv (MB (cW e.rd e.tb l))):=by
 refine af hF ZJ ?_
 conv=>enter [1,3];cbv
 have k: ∀r:Rw,XK.run (GK H) (.ccall false) [.clo 52 [.lptr e.cells], .agg r.cells]=some (bv (decide (r.rd=e.rd)&&decide (r.tb=e.tb))):=fun r=>(fZ (by decide) (cs:= [.lptr e.cells]) rfl).trans (ag (l52 hF r e) rfl rfl);simp;refine cG (S:=Nat) (enc:=fun j=> [iv (j:Int),iv 0]) (res:=fun j=>iv (MB ((cW e.rd e.tb (l.drop j)).map (· +j)))) (mes:=fun j=>l.length-j) (ok:=fun j=>j≤l.length) ?_ 0 (by omega) (by omega)|>.trans ?_
 ·intro rec j h1 ih;cases h3:l[j]? with
  |some r=>
   have l3:=(Gz.1 h3).1;have e3:l[j]=r:=(Gz.1 h3).2;have ih:=ih (j+1) (by omega) (by omega);rw[cF h3];simp[k,l3,e3,cW,wr (z:=(j:Int)+1) (by omega) (by omega)];by_cases h5:r.rd=e.rd∧r.tb=e.tb
   ·simp[h5,MB]
   ·rw[if_neg h5,if_neg h5,Option.map_map];rw[show(((j+1:Nat):Int))=(j:Int)+1 by omega]at ih;rw[ih];simp[Function.comp_def,Nat.add_assoc,Nat.add_comm 1]
  |none=>
   have l3:=List.getElem?_eq_none_iff.1 h3;have l3': ¬(j:Int)<l.length:=by omega
   rw[dI h3];simp[l3',cW,MB]
 ·simp
section
variable {G : FP} {N : Nat} {b : FT} {L : List (List D → Option D)} {E ds : List D} {x : En}
theorem lp0:ju G N b L E 10000 ds=ae G N b (ju G N b L E 9999::L) (E++ds):=rfl
theorem lp1:ju G N b L E 9999 ds=ae G N b (ju G N b L E 9998::L) (E++ds):=rfl
theorem lp2:ju G N b L E 9998 ds=ae G N b (ju G N b L E 9997::L) (E++ds):=rfl
theorem lp3:ju G N b L E 9997 ds=ae G N b (ju G N b L E 9996::L) (E++ds):=rfl
theorem lp4:ju G N b L E 9996 ds=ae G N b (ju G N b L E 9995::L) (E++ds):=rfl
@[simp] theorem ahl:XK.run G (.pk (.sla 4 6 false true)) [.lptr (x.cells.drop 7),iv 0]=some (.list []):=nr rfl
@[simp] theorem ahm:XK.run G (.pk (.sla 4 6 false true)) [.lptr (x.cells.drop 7),iv 1]=some (.list [x.o0.cells]):=nr rfl
@[simp] theorem ahn:XK.run G (.pk (.sla 4 6 false true)) [.lptr (x.cells.drop 7),iv 2]=some (.list [x.o0.cells,x.o1.cells]):=nr rfl
@[simp] theorem aeO:XK.run G (.pk (.sla 4 6 true false)) [.lptr (x.cells.drop 7),iv 0]=some (.list [x.o0.cells,x.o1.cells,x.o2.cells,x.o3.cells]):=nr rfl
@[simp] theorem wr1:IntKind.i64.wrap 1=1:=nr rfl
@[simp] theorem wr2:IntKind.i64.wrap 2=2:=nr rfl
@[simp] theorem wr3:IntKind.i64.wrap 3=3:=nr rfl
@[simp] theorem wr4:IntKind.i64.wrap 4=4:=nr rfl
@[simp] theorem aey{e size:Nat}{es:List (List D)}:XK.run G (.pk (.idx e size)) [.list es,iv 1]=(es[1]?).bind fun c=>if c.length=size then some (.lptr c)else none:=BS (i:=1)
end
def Ou.Nr(o:Ou):Bool:= !(decide (o.wt<1)||decide (99<o.wt))&&o.aQ
def ay:List Ou→Int→Nat→Int×Bool
 | [],s,n=>((n:Int),decide (2≤n)&&decide (s=100))
 |o::r,s,n=>if o.wt=0 then((n:Int),decide (2≤n)&&decide (s=100))else if o.Nr then ay r (IntKind.i64.wrap (s+o.wt)) (n+1)else(0,false)
def En.used(e:En):Int×Bool:=
 if e.kd=1 then(if e.o0.aQ=true∧e.o0.wt=0 then(1,true)else(0,false))
 else if e.kd=3 then(if(e.o0.aQ=true∧e.o0.wt=0)∧(e.o1.aQ=true∧e.o1.wt=0)then(2,true)else(0,false))
 else if e.kd=2 then ay [e.o0,e.o1,e.o2,e.o3] 0 0
 else(0,true)
theorem adU(hF:Fr H)(e:En)(h1:e.kd=1):GK H 89 [.agg e.cells]=some (.tup [iv e.used.1,bv e.used.2]):=by
 refine af hF Jv ?_
 conv=>enter [1,3];cbv
 have k: ∀o:Ou,XK.run (GK H) (.call false 138) [.agg o.cells]=some (bv o.aQ):=fun o=>ag (LX hF o) rfl rfl;unfold En.used;simp[h1,k];refine cG (S:=Nat) (enc:=fun j=> [iv (j:Int),bv false,iv 0]) (res:=fun j=>if j=0→(e.o0.aQ=true∧e.o0.wt=0)then .tup [iv 1,bv true]else .tup [iv 0,bv false]) (mes:=fun j=>1-j) (ok:=fun j=>j≤1) ?_ 0 (by omega) (by omega)|>.trans ?_
 ·intro rec j hj ih;rcases j with _|_|j
  ·have ih:=ih 1 (by omega) (by omega);simp at ih;by_cases hp:e.o0.aQ=true<;>by_cases hw:e.o0.wt=0<;>simp[k,hp,hw,ih]
  ·simp
  ·omega
 ·by_cases hp:e.o0.aQ=true<;>by_cases hw:e.o0.wt=0<;>simp[hp,hw]
theorem adV(hF:Fr H)(e:En)(h1: ¬e.kd=1)(h3:e.kd=3):GK H 89 [.agg e.cells]=some (.tup [iv e.used.1,bv e.used.2]):=by
 refine af hF Jv ?_
 conv=>enter [1,3];cbv
 have k: ∀o:Ou,XK.run (GK H) (.call false 138) [.agg o.cells]=some (bv o.aQ):=fun o=>ag (LX hF o) rfl rfl;unfold En.used;simp[h3,k];refine cG (S:=Nat) (enc:=fun j=> [iv (j:Int),bv false,iv 0]) (res:=fun j=>if(j=0→(e.o0.aQ=true∧e.o0.wt=0))∧(j≤1→(e.o1.aQ=true∧e.o1.wt=0))then .tup [iv 2,bv true]else .tup [iv 0,bv false]) (mes:=fun j=>2-j) (ok:=fun j=>j≤2) ?_ 0 (by omega) (by omega)|>.trans ?_
 ·intro rec j hj ih;rcases j with _|_|_|j
  ·have ih:=ih 1 (by omega) (by omega);simp at ih;by_cases hp:e.o0.aQ=true<;>by_cases hw:e.o0.wt=0<;>simp[k,hp,hw,ih]
  ·have ih:=ih 2 (by omega) (by omega);simp at ih;by_cases hp:e.o1.aQ=true<;>by_cases hw:e.o1.wt=0<;>simp[k,hp,hw,ih]
  ·simp
  ·omega
 ·by_cases hp:e.o0.aQ=true<;>by_cases hw:e.o0.wt=0<;>by_cases hp1:e.o1.aQ=true<;>by_cases hw1:e.o1.wt=0<;>simp[hp,hw,hp1,hw1]
theorem adW(hF:Fr H)(e:En)(h1: ¬e.kd=1)(h3: ¬e.kd=3)(h2:e.kd=2):GK H 89 [.agg e.cells]=some (.tup [iv e.used.1,bv e.used.2]):=by
 refine af hF Jv ?_
 conv=>enter [1,3];cbv
 have k: ∀o:Ou,XK.run (GK H) (.call false 138) [.agg o.cells]=some (bv o.aQ):=fun o=>ag (LX hF o) rfl rfl;unfold En.used;simp[h2];refine cG (S:=Int×Nat) (enc:=fun s=> [iv s.1,iv (s.2:Int),bv false,iv 0]) (res:=fun s=> .tup [iv (ay ([e.o0,e.o1,e.o2,e.o3].drop s.2) s.1 s.2).1,bv (ay ([e.o0,e.o1,e.o2,e.o3].drop s.2) s.1 s.2).2]) (mes:=fun s=>4-s.2) (ok:=fun s=>s.2≤4) ?_ (0,0) (by show 0≤4;omega) (by show 4-0<10000;omega);rintro rec ⟨s,_|_|_|_|_|j⟩ hj ih
 ·have ih:=fun z=>ih (z,1) (by show 1≤4;omega) (by show 4-1<4-0;omega);simp[ay]at ih;by_cases hw:e.o0.wt=0
  ·simp[hw,ay]
  ·by_cases ha:e.o0.wt<1<;>by_cases hb:99<e.o0.wt<;>by_cases hp:e.o0.aQ=true<;>simp[hw,ha,hb,hp,k,ay,Ou.Nr,ih]
 ·have ih:=fun z=>ih (z,2) (by show 2≤4;omega) (by show 4-2<4-1;omega);simp[ay]at ih;by_cases hw:e.o1.wt=0
  ·simp[hw,ay]
  ·by_cases ha:e.o1.wt<1<;>by_cases hb:99<e.o1.wt<;>by_cases hp:e.o1.aQ=true<;>simp[hw,ha,hb,hp,k,ay,Ou.Nr,ih]
 ·have ih:=fun z=>ih (z,3) (by show 3≤4;omega) (by show 4-3<4-2;omega);simp[ay]at ih;by_cases hw:e.o2.wt=0
  ·simp[hw,ay]
  ·by_cases ha:e.o2.wt<1<;>by_cases hb:99<e.o2.wt<;>by_cases hp:e.o2.aQ=true<;>simp[hw,ha,hb,hp,k,ay,Ou.Nr,ih]
 ·have ih:=fun z=>ih (z,4) (by show 4≤4;omega) (by show 4-4<4-3;omega);simp[ay]at ih;by_cases hw:e.o3.wt=0
  ·simp[hw,ay]
  ·by_cases ha:e.o3.wt<1<;>by_cases hb:99<e.o3.wt<;>by_cases hp:e.o3.aQ=true<;>simp[hw,ha,hb,hp,k,ay,Ou.Nr,ih]
 ·simp[ay]
 ·exact absurd (show j+1+1+1+1+1≤4 from hj) (by omega)
theorem adX(hF:Fr H)(e:En)(h1: ¬e.kd=1)(h3: ¬e.kd=3)(h2: ¬e.kd=2):GK H 89 [.agg e.cells]=some (.tup [iv e.used.1,bv e.used.2]):=by
 refine af hF Jv ?_
 conv=>enter [1,3];cbv
 have k: ∀o:Ou,XK.run (GK H) (.call false 138) [.agg o.cells]=some (bv o.aQ):=fun o=>ag (LX hF o) rfl rfl;unfold En.used;simp[h1,h3,h2];exact cG (S:=Unit) (enc:=fun _=> [iv 0,bv false,iv 0]) (res:=fun _=> .tup [iv 0,bv true]) (mes:=fun _=>0) (ok:=fun _=>True) (fun rec s _ _=>by simp) () trivial (by omega)
theorem l89(hF:Fr H)(e:En):GK H 89 [.agg e.cells]=some (.tup [iv e.used.1,bv e.used.2]):=by
 by_cases h1:e.kd=1
 ·exact adU hF e h1
 ·by_cases h3:e.kd=3
  ·exact adV hF e h1 h3
  ·by_cases h2:e.kd=2
   ·exact adW hF e h1 h3 h2
   ·exact adX hF e h1 h3 h2
end Ty
end
section
namespace Ty
variable {H : FP}
theorem sj: ∀(l:List Ou) (s:Int) (n:Nat),∃m:Nat,(ay l s n).1=m∧m≤n+l.length
 | [],s,n=>⟨n,rfl,by simp⟩
 |o::r,s,n=>by
  unfold ay;split
  ·exact⟨n,rfl,by omega⟩
  ·split
   ·obtain⟨m,h1,h2⟩:=sj r (IntKind.i64.wrap (s+o.wt)) (n+1);exact⟨m,h1,by simp at h2⊢;omega⟩
   ·exact⟨0,rfl,by omega⟩
theorem M_(e:En): ∃m:Nat,e.used.1=m∧m≤4:=by
 unfold En.used
 repeat' split
 any_goals exact⟨1,rfl,by omega⟩
 any_goals exact⟨0,rfl,by omega⟩
 any_goals exact⟨2,rfl,by omega⟩
 exact sj _ 0 0
def Ou.qH(o:Ou):Bool:=decide (o.lv=0)&&(decide (o.dn=0)&&(decide (o.rk=0)&&(decide (o.dc=0)&&(decide (o.tr=0)&&decide (o.wt=0)))))
def wQ(a:Int):Bool:=decide (a=0)||decide (a=30)||decide (a=40)||decide (a=50)||decide (a=60)||decide (a=70)||decide (a=100)
def En.ol(e:En):List Ou:= [e.o0,e.o1,e.o2,e.o3]
def En.Ag(e:En):Bool:=if e.kd=4 then wQ e.a0&&wQ e.a1 else decide (e.a0=0)&&decide (e.a1=0)
def En.right(e:En):Bool:=
 if 4<e.kd∨3<e.fl then false
 else if e.used.2=false then false
 else if e.used.1=0∧(e.fl≠0∨e.tu=true)then false
 else(e.ol.drop e.used.1.toNat).all Ou.qH&&e.Ag
section
variable {G : FP} {x : En}
@[simp] theorem agD:XK.run G (.pk (.load 2 true)) [.lptr (x.cells.drop 31)]=some (.agg [iv x.a0,iv x.a1]):=nr rfl
@[simp] theorem afb{a b:Int}:XK.run G (.pk (.aix 2 1 false)) [.agg [iv a,iv b],iv 0]=some (iv a):=nr rfl
@[simp] theorem afc{a b:Int}:XK.run G (.pk (.aix 2 1 false)) [.agg [iv a,iv b],iv 1]=some (iv b):=nr rfl
theorem sll{n:Nat}(h:n≤4):XK.run G (.pk (.sla 4 6 true false)) [.lptr (x.cells.drop 7),iv (n:Int)]=some (.list ((x.ol.drop n).map Ou.cells)):=by
 rcases n with _|_|_|_|_|n
 ·rfl
 ·rfl
 ·rfl
 ·rfl
 ·rfl
 ·omega
end
theorem adQ(hF:Fr H)(e:En)(h1:4<e.kd∨3<e.fl):GK H 53 [.agg e.cells]=some (bv false):=by
 refine af hF Ju ?_
 conv=>enter [1,3];cbv
 by_cases h:4<e.kd
 ·simp[h]
 ·simp[h,h1.resolve_left h]
theorem adR(hF:Fr H)(e:En)(h1: ¬(4<e.kd∨3<e.fl))(hu:e.used.2=false):GK H 53 [.agg e.cells]=some (bv false):=by
 refine af hF Ju ?_
 conv=>enter [1,3];cbv
 have k:XK.run (GK H) (.call false 89) [.agg e.cells]=some (.tup [iv e.used.1,bv e.used.2]):=ag (l89 hF e) rfl rfl;rw[hu]at k;have ha: ¬4<e.kd:=fun h=>h1 (.inl h);have hb: ¬3<e.fl:=fun h=>h1 (.inr h);simp[ha,hb,k]
theorem adS(hF:Fr H)(e:En)(h1: ¬(4<e.kd∨3<e.fl))(hu:e.used.2=true)(h0:e.used.1=0)(h2:e.fl≠0∨e.tu=true):GK H 53 [.agg e.cells]=some (bv false):=by
 refine af hF Ju ?_
 conv=>enter [1,3];cbv
 have k:XK.run (GK H) (.call false 89) [.agg e.cells]=some (.tup [iv e.used.1,bv e.used.2]):=ag (l89 hF e) rfl rfl;rw[hu,h0]at k;have ha: ¬4<e.kd:=fun h=>h1 (.inl h);have hb: ¬3<e.fl:=fun h=>h1 (.inr h);by_cases hf:e.fl=0
 ·simp[ha,hb,k,hf,h2.resolve_left (fun h=>h hf)]
 ·simp[ha,hb,k,hf]
theorem adT(hF:Fr H)(e:En)(h1: ¬(4<e.kd∨3<e.fl))(hu:e.used.2=true)(h2: ¬(e.used.1=0∧(e.fl≠0∨e.tu=true))):GK H 53 [.agg e.cells]=some (bv ((e.ol.drop e.used.1.toNat).all Ou.qH&&e.Ag)):=by
 refine af hF Ju ?_
 conv=>enter [1,3];cbv
 obtain⟨n,hn,hn4⟩:=M_ e;have k:XK.run (GK H) (.call false 89) [.agg e.cells]=some (.tup [iv e.used.1,bv e.used.2]):=ag (l89 hF e) rfl rfl;have hs:=sll (G:=GK H) (x:=e) hn4;rw[hu,hn]at k;rw[hn]at h2⊢;rw[Int.toNat_natCast];generalize hl:e.ol.drop n=l at hs⊢;have hl4:l.length≤4:=by rw[←hl];simp[En.ol]
 have ha: ¬4<e.kd:=fun h=>h1 (.inl h);have hb: ¬3<e.fl:=fun h=>h1 (.inr h);have key: ∀(rec:List D→Option D),True:=fun _=>trivial
 have cond:(n:Int)=0→e.fl=0∧e.tu=false:=fun h=>by
  by_cases hf:e.fl=0
  ·cases ht:e.tu with
   |false=>exact⟨hf,rfl⟩
   |true=>exact absurd ⟨h, .inr ht⟩ h2
  ·exact absurd ⟨h, .inl hf⟩ h2
 by_cases h0:(n:Int)=0
 ·obtain⟨hf,ht⟩:=cond h0;rw[h0]at k hs;simp[-aeO,ha,hb,k,hf,ht,hs];refine cG (S:=Nat) (enc:=fun j=> [iv (j:Int),bv false]) (res:=fun j=>bv ((l.drop j).all Ou.qH&&e.Ag)) (mes:=fun j=>l.length-j) (ok:=fun j=>j≤l.length) ?_ 0 (by omega) (by omega);intro rec j h1 ih;cases h3:l[j]? with
  |some o=>
   have l3:=(Gz.1 h3).1;have e3:l[j]=o:=(Gz.1 h3).2;have ih:=ih (j+1) (by omega) (by omega);rw[show(((j+1:Nat):Int))=(j:Int)+1 by omega]at ih;rw[cF h3];by_cases hz:o.qH=true
   ·have hz':=hz;unfold Ou.qH at hz';simp only[Az,decide_eq_true_eq]at hz';simp[l3,e3,hz,hz',wr (z:=(j:Int)+1) (by omega) (by omega),ih]
   ·have hz': ¬(o.lv=0∧o.dn=0∧o.rk=0∧o.dc=0∧o.tr=0∧o.wt=0):=fun h=>hz (by simp[Ou.qH,h]);simp[l3,e3,hz,hz']
  |none=>
   have l3:=List.getElem?_eq_none_iff.1 h3;have l3': ¬(j:Int)<l.length:=by omega
   rw[dI h3];unfold En.Ag;by_cases h4:e.kd=4
   ·simp[l3',h4];unfold wQ
    repeat' split
    all_goals simp_all [Bool.or_assoc]
   ·simp[l3',h4]
 ·have h0n: ¬n=0:=by omega
  simp[ha,hb,k,h0,h0n,hs];refine cG (S:=Nat) (enc:=fun j=> [iv (j:Int),bv false]) (res:=fun j=>bv ((l.drop j).all Ou.qH&&e.Ag)) (mes:=fun j=>l.length-j) (ok:=fun j=>j≤l.length) ?_ 0 (by omega) (by omega);intro rec j h1 ih;cases h3:l[j]? with
  |some o=>
   have l3:=(Gz.1 h3).1;have e3:l[j]=o:=(Gz.1 h3).2;have ih:=ih (j+1) (by omega) (by omega);rw[show(((j+1:Nat):Int))=(j:Int)+1 by omega]at ih;rw[cF h3];by_cases hz:o.qH=true
   ·have hz':=hz;unfold Ou.qH at hz';simp only[Az,decide_eq_true_eq]at hz';simp[l3,e3,hz,hz',wr (z:=(j:Int)+1) (by omega) (by omega),ih]
   ·have hz': ¬(o.lv=0∧o.dn=0∧o.rk=0∧o.dc=0∧o.tr=0∧o.wt=0):=fun h=>hz (by simp[Ou.qH,h]);simp[l3,e3,hz,hz']
  |none=>
   have l3:=List.getElem?_eq_none_iff.1 h3;have l3': ¬(j:Int)<l.length:=by omega
   rw[dI h3];unfold En.Ag;by_cases h4:e.kd=4
   ·simp[l3',h4];unfold wQ
    repeat' split
    all_goals simp_all [Bool.or_assoc]
   ·simp[l3',h4]
theorem l53(hF:Fr H)(e:En):GK H 53 [.agg e.cells]=some (bv e.right):=by
 unfold En.right;by_cases h1:4<e.kd∨3<e.fl
 ·rw[if_pos h1];exact adQ hF e h1
 ·rw[if_neg h1];cases hu:e.used.2 with
  |false=>rw[if_pos rfl];exact adR hF e h1 hu
  |true=>
   rw[if_neg (by simp)];by_cases h2:e.used.1=0∧(e.fl≠0∨e.tu=true)
   ·rw[if_pos h2];exact adS hF e h1 hu h2.1 h2.2
   ·rw[if_neg h2];exact adT hF e h1 hu h2
def Ss.fM(s:Ss)(e:En):Int:=match cW e.rd e.tb s.rows with
 |none=>310
 |some i=>match s.rows[i]? with
  |none=>0
  |some r=>if r.ns≤0∨r.ew≤0 then 310
   else if s.bs<1∨e.bd<1∨128<e.bd∨IntKind.i64.wrap ((IntKind.i64.wrap (e.bd-1)).tdiv s.bs)≠r.st then 311
   else if e.vs<1∨99<e.vs then 312
   else if e.right=false then 313 else 0
theorem gA{rd tb:Int}: ∀{l:List Rw} {i:Nat},cW rd tb l=some i→ ∃r,l[i]?=some r∧r.rd=rd∧r.tb=tb
 | [],_,h=>by cases h
 |r::s,i,h=>by
  unfold cW at h;split at h
  ·rename_i hc;cases h;exact⟨r,rfl,hc⟩
  ·cases hf:cW rd tb s with
   |none=>rw[hf]at h;cases h
   |some j=>
    rw[hf]at h;cases h;obtain⟨q,h1,h2⟩:=gA hf;exact⟨q,by simpa using h1,h2⟩
theorem adw(hF:Fr H)(s:Ss)(hl:s.rows.length<9999)(e:En)(h:cW e.rd e.tb s.rows=none):GK H 18 [.agg s.cells, .agg e.cells]=some (iv 310):=by
 refine af hF Uf ?_
 conv=>enter [1,3];cbv
 have k:XK.run (GK H) (.call false 51) [.list (s.rows.map Rw.cells), .clo 52 [.lptr e.cells]]=some (iv (-1)):=ag (by rw[l51 hF s.rows hl e,h];rfl) rfl rfl;have k2:XK.run (GK H) (.clo 52) [.lptr e.cells]=some (.clo 52 [.lptr e.cells]):=rfl;simp[k,k2]
theorem adx(hF:Fr H)(s:Ss)(hl:s.rows.length<9999)(e:En){i:Nat}{r:Rw}(h:cW e.rd e.tb s.rows=some i)(hr:s.rows[i]?=some r):GK H 18 [.agg s.cells, .agg e.cells]=some (iv (s.fM e)):=by
 refine af hF Uf ?_
 conv=>enter [1,3];cbv
 have k:XK.run (GK H) (.call false 51) [.list (s.rows.map Rw.cells), .clo 52 [.lptr e.cells]]=some (iv (i:Int)):=ag (by rw[l51 hF s.rows hl e,h];rfl) rfl rfl;have k2:XK.run (GK H) (.clo 52) [.lptr e.cells]=some (.clo 52 [.lptr e.cells]):=rfl;have k3:XK.run (GK H) (.call false 53) [.agg e.cells]=some (bv e.right):=ag (l53 hF e) rfl rfl;have li:=(Gz.1 hr).1;have er:=(Gz.1 hr).2;have hi: ¬(i:Int)<0:=by omega
 unfold Ss.fM;rw[h];simp only[hr];by_cases h1:r.ns≤0
 ·simp[k,k2,hi,li,er,h1]
 ·by_cases h2:r.ew≤0
  ·simp[k,k2,hi,li,er,h1,h2]
  ·by_cases h3:s.bs<1
   ·simp[k,k2,hi,li,er,h1,h2,h3]
   ·by_cases h4:e.bd<1
    ·simp[k,k2,hi,li,er,h1,h2,h3,h4]
    ·by_cases h5:128<e.bd
     ·simp[k,k2,hi,li,er,h1,h2,h3,h4,h5]
     ·have h0: ¬s.bs=0:=by omega
      by_cases h6:IntKind.i64.wrap ((IntKind.i64.wrap (e.bd-1)).tdiv s.bs)=r.st
      ·by_cases h7:e.vs<1
       ·simp[k,k2,hi,li,er,h1,h2,h3,h4,h5,h0,h6,h7]
       ·by_cases h8:99<e.vs
        ·simp[k,k2,hi,li,er,h1,h2,h3,h4,h5,h0,h6,h7,h8]
        ·cases h9:e.right<;>simp[k,k2,k3,hi,li,er,h1,h2,h3,h4,h5,h0,h6,h7,h8,h9]
      ·simp[k,k2,hi,li,er,h1,h2,h3,h4,h5,h0,h6]
theorem l18(hF:Fr H)(s:Ss)(hl:s.rows.length<9999)(e:En):GK H 18 [.agg s.cells, .agg e.cells]=some (iv (s.fM e)):=by
 cases h:cW e.rd e.tb s.rows with
 |none=>unfold Ss.fM;rw[h];exact adw hF s hl e h
 |some i=>obtain⟨r,hr,_⟩:=gA h;exact adx hF s hl e h hr
end Ty
end
section
namespace Ty
theorem kG{a b:Int}:c_ a b<0↔a<b:=by unfold c_;repeat' split<;>omega
theorem HG{a b:Int}:0<c_ a b↔b<a:=by unfold c_;repeat' split<;>omega
theorem kO: ∀{xs ys:List Int},eO xs ys=0↔xs=ys
 | [],[]=>by simp[eO]
 | [],_::_=>by simp[eO]
 |_::_,[]=>by simp[eO]
 |a::r,b::s=>by
  unfold eO;by_cases h:c_ a b=0
  ·rw[if_pos h,kO,dw.1 h];simp
  ·rw[if_neg h];have:a≠b:=fun e=>h (dw.2 e);simp[h,this]
theorem mD: ∀{xs ys:List Int},eO xs ys<0↔0<eO ys xs
 | [],[]=>by simp[eO]
 | [],_::_=>by simp[eO]
 |_::_,[]=>by simp[eO]
 |a::r,b::s=>by
  unfold eO;by_cases h:a=b
  ·rw[if_pos (dw.2 h),if_pos (dw.2 h.symm),mD]
  ·rw[if_neg (fun e=>h (dw.1 e)),if_neg (fun e=>h (dw.1 e).symm),kG,HG]
theorem oE: ∀{xs ys zs:List Int},eO xs ys<0→eO ys zs<0→eO xs zs<0
 | [],[],_,h,_=>by simp[eO]at h
 | [],_::_,[],_,h=>by simp[eO]at h
 | [],_::_,_::_,_,_=>by simp[eO]
 |_::_,[],_,h,_=>by simp[eO]at h
 |_::_,_::_,[],_,h=>by simp[eO]at h
 |a::r,b::s,c::t,h,k=>by
  unfold eO at h k⊢;by_cases h1:a=b
  ·subst h1;rw[if_pos (dw.2 rfl)]at h;by_cases h2:a=c
   ·subst h2;rw[if_pos (dw.2 rfl)]at k⊢;exact oE h k
   ·rw[if_neg (fun e=>h2 (dw.1 e))]at k⊢;exact k
  ·rw[if_neg (fun e=>h1 (dw.1 e)),kG]at h;by_cases h2:b=c
   ·subst h2;rw[if_neg (fun e=>h1 (dw.1 e)),kG];exact h
   ·rw[if_neg (fun e=>h2 (dw.1 e)),kG]at k;rw[if_neg (fun e=>by have:=dw.1 e;omega),kG];omega
theorem lk(e x:En):e.cmp x=e.lex x:=by
 unfold En.cmp;split
 ·rename_i h;unfold En.bP at h⊢;unfold En.lex En.bK;simp only[eO];unfold dJ at h⊢;by_cases h1:c_ e.rd x.rd=0
  ·by_cases h2:c_ e.tb x.tb=0
   ·by_cases h3:c_ e.bd x.bd=0
    ·simp[h1,h2,h3]at h
    ·simp[h1,h2,h3]
   ·simp[h1,h2]
  ·simp[h1]
 ·rfl
theorem kH{a b c:En}(h:a.cmp b<0)(k:b.cmp c<0):a.cmp c<0:=by
 rw[lk]at h k⊢;exact oE h k
theorem fD(a:En): ¬a.cmp a<0:=by rw[lk];unfold En.lex;rw[qK];omega
theorem tK{a b c:En}(h: ¬a.cmp b<0)(k: ¬b.cmp c<0): ¬a.cmp c<0:=by
 rw[lk]at h k⊢;unfold En.lex at h k⊢
 have e: ∀{x y:List Int},¬eO x y<0↔eO y x<0∨x=y:=fun{x y}=>by
  rw[mD (xs:=y),←kO];omega
 rw[e]at h k⊢;rcases h with h|h
 ·rcases k with k|k
  ·exact .inl (oE k h)
  ·rw[←k];exact .inl h
 ·rw[h];exact k
def u8(z:Int):Bool:=decide (0≤z)&&decide (z<256)
def Ou.okB(o:Ou):Bool:=u8 o.lv&&u8 o.dn&&u8 o.rk&&u8 o.dc
def En.okB(e:En):Bool:=u8 e.kd&&u8 e.fl&&e.o0.okB&&e.o1.okB&&e.o2.okB&&e.o3.okB
theorem M9{z:Int}(h:u8 z=true):IntKind.i64.wrap z=z:=by
 simp[u8]at h;exact wr (by omega) (by omega)
theorem uK{e x:En}(he:e.okB=true)(hx:x.okB=true)(h:e.bK=x.bK):e=x:=by
 obtain⟨rd,tb,bd,vs,kd,fl,tu,⟨l0,d0,r0,c0,t0,w0⟩,⟨l1,d1,r1,c1,t1,w1⟩,⟨l2,d2,r2,c2,t2,w2⟩,⟨l3,d3,r3,c3,t3,w3⟩,a0,a1⟩:=e;obtain⟨rd',tb',bd',vs',kd',fl',tu',⟨l0',d0',r0',c0',t0',w0'⟩,⟨l1',d1',r1',c1',t1',w1'⟩,⟨l2',d2',r2',c2',t2',w2'⟩,⟨l3',d3',r3',c3',t3',w3'⟩,a0',a1'⟩:=x;simp[En.okB,Ou.okB,Az]at he hx;simp[En.bK,Ou.bK]at h
 have e1:tu=tu':=by
  have:=h.2.2.2.2.2.2.1;cases tu<;>cases tu'<;>simp at this⊢
 simp[M9,he,hx]at h;simp[h,e1]
end Ty
end
end Go.Proofs.YtkcfpgaepmllhaaGreatDoor
namespace Go.Proofs
open Go.Shelf
def Tryz.nY:Go.Shelf.Ren:=⟨fun|6=>43|15=>81|14=>80|28=>132|29=>133|20=>124|21=>125|22=>126|23=>127|24=>128|25=>129|26=>130|27=>131|46=>173|47=>174|48=>175|49=>176|50=>177|57=>219|n=>n,fun|22=>27|24=>40|25=>115|3=>3|39=>170|0=>0|53=>228|55=>198|4=>4|46=>222|45=>221|50=>182|5=>5|9=>9|66=>265|70=>269|76=>332|77=>307|n=>n,fun|n=>n⟩
theorem Tryz.xG:Go.Proofs.SlLaysF0.n6 Tryz.prog Tryz.nY:={
 mixed:=by kernel_rfl
 f6:=⟨Tryz.f43.name,by decide,Tryz.func43.trans (congrArg some (by kernel_rfl))⟩
 f14:=⟨Tryz.f80.name,by decide,Tryz.func80.trans (congrArg some (by kernel_rfl))⟩
 f15:=Tryz.func81.trans (congrArg some (by kernel_rfl))
 f20:=⟨Tryz.f124.name,by decide,Tryz.func124.trans (congrArg some (by kernel_rfl))⟩
 f21:=⟨Tryz.f125.name,by decide,Tryz.func125.trans (congrArg some (by kernel_rfl))⟩
 f22:=⟨Tryz.f126.name,by decide,Tryz.func126.trans (congrArg some (by kernel_rfl))⟩
 f23:=⟨Tryz.f127.name,by decide,Tryz.func127.trans (congrArg some (by kernel_rfl))⟩
 f24:=⟨Tryz.f128.name,by decide,Tryz.func128.trans (congrArg some (by kernel_rfl))⟩
 f25:=⟨Tryz.f129.name,by decide,Tryz.func129.trans (congrArg some (by kernel_rfl))⟩
 f26:=⟨Tryz.f130.name,by decide,Tryz.func130.trans (congrArg some (by kernel_rfl))⟩
 f27:=⟨Tryz.f131.name,by decide,Tryz.func131.trans (congrArg some (by kernel_rfl))⟩
 f28:=Tryz.func132.trans (congrArg some (by kernel_rfl))
 f29:=Tryz.func133.trans (congrArg some (by kernel_rfl))
 f46:=⟨Tryz.f173.name,by decide,Tryz.func173.trans (congrArg some (by kernel_rfl))⟩
 f47:=Tryz.func174.trans (congrArg some (by kernel_rfl))
 f48:=Tryz.func175.trans (congrArg some (by kernel_rfl))
 f49:=⟨Tryz.f176.name,by decide,Tryz.func176.trans (congrArg some (by kernel_rfl))⟩
 f50:=⟨Tryz.f177.name,by decide,Tryz.func177.trans (congrArg some (by kernel_rfl))⟩
 f57:=⟨Tryz.f219.name,by decide,Tryz.func219.trans (congrArg some (by kernel_rfl))⟩
 t0:=Tryz.underlying0
 a0:=Tryz.isAgg0
 z0:=Tryz.sizeOf0
 v0:=Tryz.zeroValue0
 t3:=Tryz.underlying3
 a3:=Tryz.isAgg3
 z3:=Tryz.sizeOf3
 v3:=Tryz.zeroValue3
 t4:=Tryz.underlying4
 a4:=Tryz.isAgg4
 z4:=Tryz.sizeOf4
 v4:=Tryz.zeroValue4
 t5:=Tryz.underlying5
 a5:=Tryz.isAgg5
 z5:=Tryz.sizeOf5
 v5:=Tryz.zeroValue5
 t9:=Tryz.underlying9
 a9:=Tryz.isAgg9
 z9:=Tryz.sizeOf9
 v9:=Tryz.zeroValue9
 t22:=Tryz.underlying27
 a22:=Tryz.isAgg27
 z22:=Tryz.sizeOf27
 v22:=Tryz.zeroValue27
 t25:=Tryz.underlying115
 a25:=Tryz.isAgg115
 z25:=Tryz.sizeOf115
 v25:=Tryz.zeroValue115
 t39:=Tryz.underlying170
 a39:=Tryz.isAgg170
 z39:=Tryz.sizeOf170
 v39:=Tryz.zeroValue170
 t45:=Tryz.underlying221
 a45:=Tryz.isAgg221
 z45:=Tryz.sizeOf221
 v45:=Tryz.zeroValue221
 t46:=Tryz.underlying222
 a46:=Tryz.isAgg222
 z46:=Tryz.sizeOf222
 v46:=Tryz.zeroValue222
 t50:=Tryz.underlying182
 a50:=Tryz.isAgg182
 z50:=Tryz.sizeOf182
 v50:=Tryz.zeroValue182
 t53:=Tryz.underlying228
 a53:=Tryz.isAgg228
 z53:=Tryz.sizeOf228
 v53:=Tryz.zeroValue228
 t55:=Tryz.underlying198
 a55:=Tryz.isAgg198
 z55:=Tryz.sizeOf198
 v55:=Tryz.zeroValue198
 t66:=Tryz.underlying265
 a66:=Tryz.isAgg265
 z66:=Tryz.sizeOf265
 v66:=Tryz.zeroValue265
 t70:=Tryz.underlying269
 a70:=Tryz.isAgg269
 z70:=Tryz.sizeOf269
 v70:=Tryz.zeroValue269
 t76:=Tryz.underlying332
 a76:=Tryz.isAgg332
 z76:=Tryz.sizeOf332
 v76:=Tryz.zeroValue332
 t77:=Tryz.underlying307
 a77:=Tryz.isAgg307
 z77:=Tryz.sizeOf307
 v77:=Tryz.zeroValue307}
end Go.Proofs
namespace Go.Proofs.YtkcfpgaepmllhaaGreatDoor
open Go.RowKit
set_option maxRecDepth 100000
set_option linter.all false
section
namespace Ty
def tI{α:Type}(k:IntKind)(f:Int→List D→Option α):List D→Option α
 | .v (.int q z)::r=>if q=k then f z r else none
 |_=>none
def tB{α:Type}(f:Bool→List D→Option α):List D→Option α
 | .v (.bool b)::r=>f b r
 |_=>none
theorem eK{α:Type}{k:IntKind}{f:Int→List D→Option α}{l:List D}{a:α}(h:tI k f l=some a): ∃z r,l= .v (.int k z)::r∧f z r=some a:=by
 unfold tI at h;split at h
 ·split at h
  ·rename_i e;subst e;exact⟨_,_,rfl,h⟩
  ·cases h
 ·cases h
theorem MZ{α:Type}{f:Bool→List D→Option α}{l:List D}{a:α}(h:tB f l=some a): ∃z r,l= .v (.bool z)::r∧f z r=some a:=by
 unfold tB at h;split at h
 ·exact⟨_,_,rfl,h⟩
 ·cases h
def tO{α:Type}(f:Ou→List D→Option α):List D→Option α:=
 tI .u8 fun a=>tI .u8 fun b=>tI .u8 fun c=>tI .u8 fun d=>tI .i64 fun e=>tI .i64 fun g=>f ⟨a,b,c,d,e,g⟩
theorem tj{α:Type}{f:Ou→List D→Option α}{l:List D}{a:α}(h:tO f l=some a): ∃o r,l=o.cells++r∧f o r=some a:=by
 unfold tO at h;obtain⟨z1,r1,rfl,h1⟩:=eK h;obtain⟨z2,r2,rfl,h2⟩:=eK h1;obtain⟨z3,r3,rfl,h3⟩:=eK h2;obtain⟨z4,r4,rfl,h4⟩:=eK h3;obtain⟨z5,r5,rfl,h5⟩:=eK h4;obtain⟨z6,r6,rfl,h6⟩:=eK h5;exact⟨_,r6,rfl,h6⟩
def Ϛ{α:Type}(a:α):List D→Option α
 | []=>some a
 |_=>none
def FX:List D→Option En:=
 tI .i64 fun rd=>tI .i64 fun tb=>tI .i64 fun bd=>tI .i64 fun vs=>tI .u8 fun kd=>tI .u8 fun fl=>tB fun tu=>tO fun o0=>tO fun o1=>tO fun o2=>tO fun o3=>tI .i64 fun a0=>tI .i64 fun a1=>Ϛ ⟨rd,tb,bd,vs,kd,fl,tu,o0,o1,o2,o3,a0,a1⟩
theorem FY{l:List D}{e:En}(h:FX l=some e):l=e.cells:=by
 unfold FX at h;obtain⟨z1,r1,rfl,h1⟩:=eK h;obtain⟨z2,r2,rfl,h2⟩:=eK h1;obtain⟨z3,r3,rfl,h3⟩:=eK h2;obtain⟨z4,r4,rfl,h4⟩:=eK h3;obtain⟨z5,r5,rfl,h5⟩:=eK h4;obtain⟨z6,r6,rfl,h6⟩:=eK h5;obtain⟨z7,r7,rfl,h7⟩:=MZ h6;obtain⟨o0,r8,rfl,h8⟩:=tj h7;obtain⟨o1,r9,rfl,h9⟩:=tj h8;obtain⟨o2,ra,rfl,h10⟩:=tj h9;obtain⟨o3,rb,rfl,h11⟩:=tj h10;obtain⟨z8,rc,rfl,h12⟩:=eK h11;obtain⟨z9,rd,rfl,h13⟩:=eK h12;unfold Ϛ at h13;split at h13
 ·cases h13;rfl
 ·cases h13
theorem tS(e:En):FX e.cells=some e:=rfl
def rH(l:List D):Bool:=match FX l with
 |some e=>e.okB
 |none=>false
theorem dK{l:List D}(h:rH l=true): ∃e:En,l=e.cells∧e.okB=true:=by
 unfold rH at h;split at h
 ·rename_i e he;exact⟨e,FY he,h⟩
 ·cases h
def K4(l m:List D):Int:=match FX l,FX m with
 |some e,some x=>e.cmp x
 |_,_=>0
theorem iD(e x:En):K4 e.cells x.cells=e.cmp x:=by simp[K4,tS]
theorem Sx:Ae Tryz.prog 44 33 rH K4 where
 len x h:=by obtain⟨e,rfl,_⟩:=dK h;rfl
 pl x h d hd:=by
  obtain⟨e,rfl,_⟩:=dK h;have:e.cells.all lJ=true:=rfl;exact Tz.1 this d hd
 ok x y hx hy:=by
  obtain⟨e,rfl,_⟩:=dK hx;obtain⟨e',rfl,_⟩:=dK hy;rw[iD];exact((oT (C:=cx) (N:=10000) rfl gB qN).p 44 _ _ (by decide) (l44 EL e e')).1
 body:=⟨Tryz.f44,Tryz.func44,rfl,by kernel_rfl⟩
 lt:=by decide
 irrefl x h:=by
  obtain⟨e,rfl,_⟩:=dK h;rw[iD];exact fD e
 trans x y z hx hy hz:=by
  obtain⟨a,rfl,_⟩:=dK hx;obtain⟨b,rfl,_⟩:=dK hy;obtain⟨c,rfl,_⟩:=dK hz;simp only[iD];exact kH
 ntrans x y z hx hy hz:=by
  obtain⟨a,rfl,_⟩:=dK hx;obtain⟨b,rfl,_⟩:=dK hy;obtain⟨c,rfl,_⟩:=dK hz;simp only[iD];exact tK
 anti x y hx hy:=by
  obtain⟨a,rfl,ha⟩:=dK hx;obtain⟨b,rfl,hb⟩:=dK hy;simp only[iD];intro h k;rw[lk]at h k;unfold En.lex at h k
  have h1:eO a.bK b.bK=0:=by
   rw[mD]at k;omega
  rw[uK ha hb (kO.1 h1)]
theorem Lj{es:List (List D)}(Tc:es= []→xR Tryz.prog 43 [.list [], .clo 44 []] (.tup []))(hes: ∀x∈es,rH x=true)(hlen:es.length<4611686018427387904):VEp Tryz.prog 0 43 [.list es, .clo 44 []] es (bV (Bx K4) es) (.tup []):=
 Sx.sort (ρ:=Tryz.nY) Tryz.xG (fun w=>by rfl) (fun w=>by rfl) ⟨Tryz.f43,Tryz.func43,rfl,by kernel_rfl⟩ (x0:=(⟨0,0,0,0,0,0,false,⟨0,0,0,0,0,0⟩,⟨0,0,0,0,0,0⟩,⟨0,0,0,0,0,0⟩,⟨0,0,0,0,0,0⟩,0,0⟩:En).cells) rfl hes hlen Tc
end Ty
end
section
namespace Ty
theorem Sz:xR Tryz.prog 43 [.list [], .clo 44 []] (.tup []):=by
 refine .inr ⟨⟨Tryz.f43,Tryz.func43,rfl,by kernel_rfl⟩,fun w pr cargs hpr hG hr=> ?_⟩
 have key: ∀(p:Option Addr) (cap:Nat) (fv:Value),cargs= #[.slice p 0 cap,fv]→Calls Tryz.prog 43 cargs w fun e w'=> ∃v pr',e= .returned v∧dP (fun _=>False) w w'∧(∀b o,pr b o→pr' b o)∧(∀b o,pr' b o→pr b o∨(w.heap.size≤b∧b<w'.heap.size))∧aj w' pr' aA v (.tup []):=fun p cap fv hc=>by
  subst hc;refine(AnyF.slices_SortFunc_none Tryz.xG p cap fv w).mono ?_;rintro e w' ⟨rfl,rfl⟩;exact⟨_,pr,rfl,dP.refl _ _,fun _ _ h=>h,fun _ _ h=> .inl h, .tup rfl fun i c x h=>by simp at h⟩
 obtain⟨l⟩:=cargs
 match l,hr with
 | [a,f],⟨h1,_⟩=>
  generalize hd:D.list []=d at h1;cases h1<;>first|(cases hd;done)|skip
  ·exact key none 0 f rfl
  ·exact key _ _ f rfl
  ·injection hd with hd
   subst hd;exact key _ _ f rfl
def dS:FP:=fun f ds=>if f=1000043 then(match ds with
  | [.list es, .clo 44 []]=>if es.all rH=true∧es.length<65536 then some (.tup [.tup [], .list (bV (Bx K4) es)])else none
  |_=>none)else aS f ds
theorem jq:Sound Tryz.prog (br dS) where
 p f ds d hlt h:=by
  have h:dS f ds=some d:=h;unfold dS at h;rw[if_neg (by omega)]at h;exact gB.p f ds d hlt h
 e k f ds r hf h6 h:=by
  replace h:dS (1000000+(1000000*k+f)) ds=some r:=h
  unfold dS at h;split at h
  ·rename_i he;have hk:k=0:=by omega
   have hf7:f=43:=by omega
   rw[hk,hf7];split at h
   ·rename_i es;split at h<;>cases h;rename_i hc;exact⟨es,_,_,rfl,rfl,Lj (fun _=>Sz) (fun x hx=>Tz.1 hc.1 x hx) (by omega)⟩
   ·cases h
  ·exact gB.e k f ds r hf h6 h
 q e f ds r hf h:=by
  obtain⟨d,hd,rfl⟩:=Mz.1 (show(dS (1000001000000+(1000000*e+f)) ds).map _=some r from h);unfold dS at hd;rw[if_neg (by omega)]at hd;exact gB.q e f ds _ hf (show Option.map _ _=_ by rw[hd];rfl)
theorem Ik:Fr dS:=fun f ds h h1=>by unfold dS;rw[if_neg (by omega)];exact EL f ds h h1
end Ty
end
section
open Go.RowKit Go.Sort
namespace Ty
def xm(a b:En):Bool:=decide (a.cmp b<0)
theorem DJ(l:List En):bV (Bx K4) (l.map En.cells)=(bV xm l).map En.cells:=
 (nC (f:=En.cells) (lt:=xm) (lt':=Bx K4) (fun x y=>by unfold Bx xm;rw[iD]) l).symm
theorem aeQ:SWO xm:=
 ⟨fun x=>decide_eq_false (fD x),fun _ _ _ h1 h2=>decide_eq_true (kH (of_decide_eq_true h1) (of_decide_eq_true h2)),fun _ _ _ h1 h2=>decide_eq_false (tK (of_decide_eq_false h1) (of_decide_eq_false h2))⟩
def tT [DecidableEq En]:List En→List En
 |a::b::r=>if a=b then tT (b::r)else a::tT (b::r)
 |l=>l
theorem AP [DecidableEq En]: ∀(b:En) (r:List En),∃s,tT (b::r)=b::s
 |b,[]=>⟨[],rfl⟩
 |b,c::r=>by
  unfold tT;split
  ·rename_i h;subst h;exact AP b r
  ·exact⟨_,rfl⟩
theorem ED [DecidableEq En]: ∀(l:List En),(∀e∈l,e.okB=true)→l.Pairwise (fun a b=>xm b a=false)→mN (tT l)=true
 | [],_,_=>rfl
 | [a],_,_=>rfl
 |a::b::r,hok,h=>by
  have ih:=ED (b::r) (fun e he=>hok e (Cz _ he)) (List.pairwise_cons.1 h).2;unfold tT;split
  ·exact ih
  ·rename_i hne;obtain⟨s,hs⟩:=AP b r;rw[hs]at ih⊢;have h1:=(List.pairwise_cons.1 h).1 b (List.mem_cons_self ..)
   have h2:a.cmp b<0:=by
    unfold xm at h1;have h3:=of_decide_eq_false h1;by_cases h4:a.cmp b<0
    ·exact h4
    ·exfalso;apply hne;rw[lk]at h3 h4;unfold En.lex at h3 h4;have h5:eO a.bK b.bK=0:=by rw[mD]at h3;omega
     exact uK (hok a (List.mem_cons_self ..)) (hok b (Cz _ (List.mem_cons_self ..))) (kO.1 h5)
   simp[mN,h2,ih]
end Ty
end
section
namespace Ty
theorem kW: ∀l:List En,mN l=true↔l.Pairwise (fun a b=>a.cmp b<0)
 | []=>by simp[mN]
 | [a]=>by simp[mN]
 |a::b::r=>by
  have ih:=kW (b::r);unfold mN;rw[List.pairwise_cons,←ih];constructor
  ·intro h;split at h
   ·rename_i h1;refine⟨fun x hx=> ?_,h⟩;rcases List.mem_cons.1 hx with rfl|hx
    ·exact h1
    ·exact kH h1 ((List.pairwise_cons.1 (ih.1 h)).1 x hx)
   ·cases h
  ·rintro⟨h1,h2⟩;rw[if_pos (h1 b (List.mem_cons_self ..))];exact h2
theorem JU{l m:List En}(h:mN l=true)(hs:m.Sublist l):mN m=true:=
 (kW m).2 (((kW l).1 h).sublist hs)
def bx:List En→List En
 |a::b::r=>if a.bP b=0 then bx (b::r)else a::bx (b::r)
 |l=>l
def runK(k:En):List En→Nat
 | []=>0
 |a::r=>if a.bP k=0 then runK k r+1 else 0
theorem Fw(k:En): ∀l:List En,runK k l≤l.length
 | []=>by simp[runK]
 |a::r=>by
  unfold runK;split
  ·have:=Fw k r;simp;omega
  ·simp
theorem H_{a b c:Int}:dJ a b c=0↔a=0∧b=0∧c=0:=by
 unfold dJ
 repeat' split
 all_goals omega
theorem jI{e x:En}:e.bP x=0↔e.rd=x.rd∧e.tb=x.tb∧e.bd=x.bd:=by
 unfold En.bP;rw[H_,dw,dw,dw]
theorem mY(e:En):e.bP e=0:=jI.2 ⟨rfl,rfl,rfl⟩
end Ty
end
section
namespace Ty
variable {H : FP}
theorem eI{G:FP}{fl:Bool}{f:Nat}{ds:List D}{d:D}(h:G f ds=some d.own)(h2:d.aF=true):XK.run G (.call fl f) ds=some d:=by
 show(G f ds).bind _=_;rw[h,Oz];show(if(if fl then d.flat||true&&d.aF else d.aF)=true then some d else none)=_;rw[h2];cases fl<;>simp
theorem jA{G:FP}{f:Nat}{ds:List D}{r d:D}(h:G f ds=some r)(hb:r.bare=d)(h2:d.aF=true):XK.run G (.call false f) ds=some d:=by
 show(G f ds).bind _=_;rw[h,Oz];show(if r.bare.aF=true then some r.bare else none)=_;rw[hb,h2];rfl
end Ty
end
section
namespace Ty
variable {H : FP}
def sub:List Nat→FT→FT
 | [],t=>t
 |_::p, .fM _ k=>sub p k
 |_::p, .lets _ k=>sub p k
 |_::p, .loop _ k=>sub p k
 |0::p, .ite _ a _=>sub p a
 |_::p, .ite _ _ b=>sub p b
 |0::p, .jp k _=>sub p k
 |_::p, .jp _ b=>sub p b
 |_,t=>t
end Ty
end
section
namespace Ty
variable {H : FP}
section
variable {G : FP}
theorem Uw{es:List (List D)}{sz i:Nat}{k:IntKind}(hes: ∀c∈es,c.length=sz)(h:i≤es.length):XK.run G (.pk (.slc sz true false false)) [.list es, .v (.int k (i:Int))]=some (.list (es.drop i)):=by
 have h1: ¬ ∃x,x∈es∧ ¬x.length=sz:=fun⟨x,hx,hn⟩=>hn (hes x hx);simp[XK.run,PK.run,oN,e_,b7,tQ,h1,h,D.aF];exact List.take_of_length_le (by simp)
theorem slE{l:List En}{i:Nat}{k:IntKind}(h:i≤l.length):XK.run G (.pk (.slc 33 true false false)) [.list (l.map En.cells), .v (.int k (i:Int))]=some (.list ((l.drop i).map En.cells)):=by
 rw[Uw (by simp) (by simpa using h),List.map_drop]
@[simp] theorem aeH{a:Int}:XK.run G (.pk (.ishift .shr)) [.v (.int .u64 a), .v (.int .u64 1)]=some (.v (.int .u64 (a.fdiv 2))):=nr rfl
@[simp] theorem Ys{f:Nat}:XK.run G .bq [.clo f []]=some (.clo f []):=nr rfl
@[simp] theorem afH{es:List (List D)}:XK.run G (.pk (.fbox 1)) [.list es]=some (.lptr [.list es]):=nr rfl
theorem i82{e x:En}(hF:Fr H):XK.run (GK H) (.call false 82) [.agg e.cells, .agg x.cells]=some (iv (e.bP x)):=ag (l82 hF e x) rfl rfl
theorem c82{e x:En}(hF:Fr H):XK.run (GK H) (.ccall false) [.clo 82 [], .agg e.cells, .agg x.cells]=some (iv (e.bP x)):=(fZ (by decide) (cs:= []) rfl).trans (i82 hF)
end
def Be(k:En):List En→Bool
 | []=>false
 |x::_=>decide (x.bP k=0)
theorem l93(hF:Fr H)(l:List En)(k:En)(hl:l.length<9999)(hs: ∀x∈l,¬x.bP k<0):GK H 93 [.list (l.map En.cells), .agg k.cells, .clo 82 []]=some (.tup [iv 0,bv (Be k l)]):=by
 refine af hF ZZ ?_
 conv=>enter [1,3];cbv
 have k2: ∀e:En,XK.run (GK H) (.ccall false) [.clo 82 [], .agg e.cells, .agg k.cells]=some (iv (e.bP k)):=fun e=>c82 hF;simp;refine cG (S:=Nat) (enc:=fun j=> [iv (j:Int),iv 0]) (res:=fun _=> .tup [iv 0,bv (Be k l)]) (mes:=fun j=>j) (ok:=fun j=>j≤l.length) ?_ l.length (by omega) (by omega);intro rec j h1 ih;by_cases h2:0<j
 ·have hw:IntKind.i64.wrap ((IntKind.u64.wrap (IntKind.i64.wrap (j:Int))).fdiv 2)=((j/2:Nat):Int):=by
   rw[wr (z:=(j:Int)) (by omega) (by omega),iC .u64 (j:Int) (by show-(0:Int)≤_;omega) (by show _<(18446744073709551616:Int);omega),Int.fdiv_eq_ediv_of_nonneg _ (by omega),wr (by omega) (by omega)];omega
  have l3:j/2<l.length:=by omega
  have l4:j/2<j:=by omega
  generalize j/2=q at hw l3 l4;have h3:l[q]?=some l[q]:=Ez (by omega);generalize hx:l[q]=x at h3;have h4: ¬x.bP k<0:=hs x (hx▸List.getElem_mem _);have ih:=ih q (by omega) (by omega);simp[h2,hw,l3,hx,k2,h4];simpa using ih
 ·obtain rfl:j=0:=by omega
  cases l with
  |nil=>simp[Be]
  |cons x r=>simp[k2,Be]
end Ty
end
section
namespace Ty
variable {H : FP}
theorem qk(e x:En):x.bP e= -e.bP x:=by
 unfold En.bP dJ;have h: ∀a b:Int,c_ b a= -c_ a b:=fun a b=>by unfold c_;repeat' split<;>omega
 rw[h e.rd,h e.tb,h e.bd];by_cases h1:c_ e.rd x.rd=0<;>by_cases h2:c_ e.tb x.tb=0<;>simp[h1,h2]
theorem JW{a x:En}(h:a.cmp x<0): ¬x.bP a<0:=by
 rw[qk];unfold En.cmp at h;split at h<;>omega
theorem u_{a b:En}(h:a.bP b=0): ∀l:List En,runK a l=runK b l
 | []=>rfl
 |c::r=>by
  unfold runK;rw[jI]at h;have e:c.bP a=0↔c.bP b=0:=by rw[jI,jI];omega
  by_cases h1:c.bP b=0
  ·rw[if_pos h1,if_pos (e.2 h1),u_ (jI.2 h) r]
  ·rw[if_neg h1,if_neg (fun k=>h1 (e.1 k))]
theorem JR(a:En)(r:List En):runK a (a::r)=runK a r+1:=by
 conv=>lhs;unfold runK
 rw[if_pos (mY a)]
theorem K8(a b:En)(r:List En):bx (a::b::r)=if a.bP b=0 then bx (b::r)else a::bx (b::r):=rfl
theorem UF(k a:En)(r:List En):runK k (a::r)=if a.bP k=0 then runK k r+1 else 0:=rfl
theorem EB: ∀(a:En) (r:List En),∃x,(a::r)[runK a r]?=some x∧bx (a::r)=x::bx ((a::r).drop (runK a r+1))
 |a,[]=>⟨a,rfl,rfl⟩
 |a,b::s=>by
  rw[K8,UF];by_cases h:a.bP b=0
  ·have h':b.bP a=0:=by rw[qk,h];rfl
   obtain⟨x,h1,h2⟩:=EB b s;rw[if_pos h,if_pos h',u_ h s];exact⟨x,by simpa using h1,by simpa using h2⟩
  ·have h': ¬b.bP a=0:=by rw[qk];omega
   rw[if_neg h,if_neg h'];exact⟨a,rfl,rfl⟩
theorem Fv(k:En): ∀(l:List En) (i:Nat),i<runK k l→ ∃x,l[i]?=some x∧x.bP k=0
 | [],i,h=>by simp[runK]at h
 |a::r,i,h=>by
  unfold runK at h;split at h
  ·rename_i h1;cases i with
   |zero=>exact⟨a,rfl,h1⟩
   |succ i=>obtain⟨x,h2,h3⟩:=Fv k r i (by omega);exact⟨x,by simpa using h2,h3⟩
  ·omega
theorem BY(k:En): ∀(l:List En) (x:En),l[runK k l]?=some x→ ¬x.bP k=0
 | [],x,h=>by simp at h
 |a::r,x,h=>by
  unfold runK at h;split at h
  ·exact BY k r x (by simpa using h)
  ·rename_i h1;simp at h;subst h;exact h1
theorem mZ: ∀l:List En,(bx l).Sublist l
 | []=>by simp[bx]
 | [a]=>by simp[bx]
 |a::b::r=>by
  unfold bx;split
  ·exact(mZ (b::r)).trans (List.sublist_cons_self ..)
  ·exact(mZ (b::r)).cons_cons a
theorem l56(hF:Fr H)(l:List En)(k:En):GK H 56 [.list (l.map En.cells), .agg k.cells]=some (.clo 92 [.lptr [.list (l.map En.cells)], .lptr k.cells]):=by
 refine af hF ZN ?_
 conv=>enter [1,3];cbv
 have k3: ∀es xs,XK.run (GK H) (.clo 92) [.lptr [.list es], .lptr xs]=some (.clo 92 [.lptr [.list es], .lptr xs]):=fun _ _=>rfl;simp[k3];exact⟨rfl,rfl⟩
@[simp] theorem afP{G:FP}{d:D}:XK.run G .own [d]=some d:=nr rfl
theorem iW{x:X}{es:List (List D)}(h:es.all (fun c=>c.all D.aW)=true):iy (.mk .own [x]) (.list es)=true:=by
 cases es with
 |nil=>rfl
 |cons a r=>exact h
theorem EK(l:List En):(l.map En.cells).all (fun c=>c.all D.aW)=true:=by
 rw[Tz];intro c hc;obtain⟨e,_,rfl⟩:=List.mem_map.1 hc;rfl
@[simp] theorem Ϝ{x y:X}{l:List En}{k:IntKind}{z:Int}:bY (.mk .tup [.mk .own [x],y]) (.tup [.list (l.map En.cells), .v (.int k z)])=D.own (.tup [.list (l.map En.cells), .v (.int k z)]):=by
 have h:l6 (.mk .tup [.mk .own [x],y]) (.tup [.list (l.map En.cells), .v (.int k z)])=true:=by
  show(iy _ _&&(iy _ _&&true))=true;rw[iW (EK l)];cases y<;>rfl
 show(if _ then _ else if l6 (.mk .tup [.mk .own [x],y]) (.tup [.list (l.map En.cells), .v (.int k z)])=true then _ else _)=_;rw[h];rfl
@[simp] theorem abv{es:List (List D)}{v:Value}:D.aF (.tup [.list es, .v v])=true:=nr rfl
@[simp] theorem Yg{G:FP}{e:En}:XK.run G (.lit 33 1 [iv 0,iv 0,iv 0,iv 0,uv 0,uv 0,bv false,uv 0,uv 0,uv 0,uv 0,iv 0,iv 0,uv 0,uv 0,uv 0,uv 0,iv 0,iv 0,uv 0,uv 0,uv 0,uv 0,iv 0,iv 0,uv 0,uv 0,uv 0,uv 0,iv 0,iv 0,iv 0,iv 0] [(0,33)]) [.agg e.cells]=some (.list [e.cells]):=nr rfl
theorem RY{G:FP}{l:List En}{e:En}(h:l.length<65536):XK.run G (.app 33) [.list (l.map En.cells), .list [e.cells]]=some (.list (l.map En.cells++ [e.cells])):=by
 show(if aO 33 [e.cells]=true∧(l.map En.cells).length+1≤aC then some (D.list (l.map En.cells++ [e.cells]))else none)=_;rw[if_pos ⟨rfl,by simp[aC];omega⟩]
theorem XH{G:FP}{a b:D}:XK.run G (.isc 92 2) [.clo 92 [a,b]]=some (.tup []):=rfl
theorem V7{G:FP}{a:D}{xs:List D}:XK.run G (.capc 92 0 2) [.clo 92 [.lptr xs,a]]=some (.lptr xs):=rfl
theorem V8{G:FP}{a:D}{xs:List D}:XK.run G (.capc 92 1 2) [.clo 92 [a, .lptr xs]]=some (.lptr xs):=rfl
theorem l20(hF:Fr H)(l:List En)(hl:l.length<9999)(hs:mN l=true):GK H 20 [.list (l.map En.cells)]=some (D.own (.tup [.list ((bx l).map En.cells),iv 0])):=by
 refine af hF YU ?_
 conv=>enter [1,3];cbv
 have k1:XK.run (GK H) (.call false 55) [.list (l.map En.cells)]=some (bv true):=ag (by rw[l55 hF l hl,hs]) rfl rfl;have k2: ∀(l:List En) (k:En),XK.run (GK H) (.call false 56) [.list (l.map En.cells), .agg k.cells]=some (.clo 92 [.lptr [.list (l.map En.cells)], .lptr k.cells]):=fun l k=>ag (l56 hF l k) rfl rfl;have k3: ∀e k:En,XK.run (GK H) (.call false 82) [.agg e.cells, .agg k.cells]=some (iv (e.bP k)):=fun e k=>i82 hF;simp[k1];refine cG (S:=List En×Nat) (enc:=fun s=> [.list (s.1.map En.cells),iv (s.2:Int)]) (res:=fun s=>D.own (.tup [.list ((s.1++bx (l.drop s.2)).map En.cells),iv 0])) (mes:=fun s=>l.length-s.2) (ok:=fun s=>s.2≤l.length∧s.1.length+(l.length-s.2)≤l.length) ?_ ([],0) ⟨by simp,by simp⟩ (by show l.length-0<_;omega);rintro rec ⟨out,k⟩ ⟨h1,h2⟩ ih
 replace h1:k≤l.length:=h1
 replace h2:out.length+(l.length-k)≤l.length:=h2
 replace ih:=fun o n h h' h''=>ih (o,n) ⟨h,h'⟩ h''
 simp only at ih⊢;cases h3:l[k]? with
 |none=>
  have l3:=List.getElem?_eq_none_iff.1 h3;have l3': ¬(k:Int)<l.length:=by omega
  rw[dI h3];simp[l3',bx]
 |some a=>
  have l3:=(Gz.1 h3).1;have e3:l[k]=a:=(Gz.1 h3).2;have d3:=cF h3;obtain⟨x,h4,h5⟩:=EB a (l.drop (k+1));have ks:XK.run (GK H) (.pk (.slc 33 true false false)) [.list (l.map En.cells),iv (k:Int)]=some (.list ((l.drop k).map En.cells)):=slE h1;rw[d3]
  have k4:XK.run (GK H) (.call false 93) [.list ((l.drop k).map En.cells), .agg a.cells, .clo 82 []]=some (.tup [iv 0,bv (Be a (l.drop k))]):=by
   refine ag (l93 hF _ _ (by simp;omega) fun y hy=> ?_) rfl rfl;rw[d3]at hy;rcases List.mem_cons.1 hy with rfl|hy
   ·rw[mY];omega
   ·have hp:=((kW l).1 hs).sublist (List.drop_sublist k l);rw[d3]at hp;exact JW ((List.pairwise_cons.1 hp).1 y hy)
  generalize hmd:l.drop k=m at ks k4 d3;simp[l3,e3,h1,ks,k2,k4,XH,V7,V8];have hm:m.length=l.length-k:=by have:=congrArg List.length d3;simp at this;omega
  refine cG (S:=Nat) (enc:=fun i=> [iv (i:Int),iv ((if i=0 then k else k+i-1:Nat):Int)]) (res:=fun _=>(D.tup [D.list (List.map En.cells out++List.map En.cells (bx (a::List.drop (k+1) l))),iv 0]).own) (mes:=fun i=>l.length-k-i) (ok:=fun i=>i≤runK a m) ?_ 0 (by simp) (by omega);intro Dx i hi ih2;have hle:=Fw a m;by_cases hr:i<runK a m
  ·obtain⟨y,hy1,hy2⟩:=Fv a m i hr;have ly:=(Gz.1 hy1).1;have ey:=(Gz.1 hy1).2;have ih2:=ih2 (i+1) (by omega) (by omega);rw[show(if i+1=0 then k else k+(i+1)-1:Nat)=k+i by rw[if_neg (by omega)];omega]at ih2;simp[ly,ey,k3,hy2];rw[wr (z:=(i:Int)+1) (by omega) (by omega),wr (z:=(k:Int)+i) (by omega) (by omega)];simpa using ih2
  ·have hi:i=runK a m:=by omega
   have ah:runK a m=runK a (l.drop (k+1))+1:=by rw[d3,JR]
   have hx:l[k+i-1]?=some x:=by
    have:m[i-1]?=some x:=by rw[d3,hi,ah];simpa using h4
    rw[←hmd,List.getElem?_drop]at this;rw[←this];congr 1;omega
   have hx1:=(Gz.1 hx).1;have hx2:=(Gz.1 hx).2;have ih:=ih (out++ [x]) (k+i) (by omega) (by simp;omega) (by omega);have hq:l.drop (k+i)=(a::l.drop (k+1)).drop (runK a (l.drop (k+1))+1):=by rw[←d3,←ah,←hi,←hmd,List.drop_drop]
   have hif:(if i=0 then k else k+i-1:Nat)=k+i-1:=if_neg (by omega);rw[hif];rw[hq,List.append_assoc,List.singleton_append,←h5]at ih;generalize hj:k+i-1=j at hx hx1 hx2;have hki:((k+i:Nat):Int)=(j:Int)+1:=by omega
   rw[hki]at ih;have hap:XK.run (GK H) (.app 33) [.list (out.map En.cells), .list [x.cells]]=some (.list (out.map En.cells++ [x.cells])):=RY (by omega);simp at ih;cases h7:m[i]? with
   |none=>
    have ly:=List.getElem?_eq_none_iff.1 h7;have ly': ¬(i:Int)<m.length:=by omega
    simp[ly',hx1,hx2,hap];rw[wr (z:=(j:Int)+1) (by omega) (by omega)];exact ih
   |some y=>
    have ly:=(Gz.1 h7).1;have ey:=(Gz.1 h7).2;have hy: ¬y.bP a=0:=BY a m y (by rw[←hi];exact h7);simp[ly,ey,k3,hy,hx1,hx2,hap];rw[wr (z:=(j:Int)+1) (by omega) (by omega)];exact ih
end Ty
end
section
namespace Ty
def cs(v n c m:Nat):List X:=(List.range m).map fun j=>X.mk (.cell (c+j) n) [.t v]
theorem aaU:UW= .lets [.mk (.pk (.ibin .rem)) [.t 2, .q (uv 8)]] (.jp (.ite (.t 4) (.lets [.mk (.call false 121) [.mk .bq [.t 0], .mk .bq [.t 1], .mk .bq [.mk (.pk (.ibin .rem)) [.t 2, .q (uv 4)]]]] (.fM [.mk (.cell 0 6) [.t 5]] (.ret (.mk .bq [.t 5])))) (.jp (.ite (.t 5) (.lets [.mk (.call false 122) [.mk .bq [.t 0], .mk .bq [.t 1], .mk .bq [.mk (.pk (.ibin .sub)) [.mk (.pk (.ibin .rem)) [.t 2, .q (uv 8)], .q (uv 4)]]]] (.fM [.mk (.pk (.ext 1)) [.t 6], .mk (.cell 0 6) [.mk (.pk (.ext 0)) [.t 6]]] (.lets [.mk (.pk (.ext 0)) [.t 6]] (.ret (.mk .bq [.t 7]))))) (.lets [.mk (.pk (.ibin .add)) [.q (iv 2), .mk (.pk (.ibin .rem)) [.mk (.pk (.conv .i64)) [.t 0], .q (iv 23)]]] (.lets [.mk (.call false 123) [.mk .bq [.t 6], .mk .bq [.mk (.pk (.ibin .add)) [.q (iv 1), .mk (.pk (.ibin .rem)) [.mk (.pk (.conv .i64)) [.t 1], .mk (.pk (.ibin .sub)) [.mk (.pk (.ibin .mul)) [.q (iv 2), .t 6], .q (iv 1)]]]]]] (.fM [.mk (.pk (.ext 1)) [.t 7], .mk (.cell 0 6) [.mk (.pk (.ext 0)) [.t 7]]] (.lets [.mk (.pk (.ext 0)) [.t 7]] (.ret (.mk .bq [.t 8]))))))) (.lets [.mk (.pk (.ibin .eql)) [.t 3, .q (uv 4)]] (.ite (.t 5) (.next 0 [.t 5]) (.lets [.mk (.pk (.ibin .eql)) [.t 3, .q (uv 5)]] (.ite (.t 6) (.next 0 [.t 6]) (.lets [.mk (.pk (.ibin .eql)) [.t 3, .q (uv 6)]] (.next 0 [.t 7])))))))) (.lets [.mk (.pk (.ibin .eql)) [.t 3, .q (uv 0)]] (.ite (.t 4) (.next 0 [.t 4]) (.lets [.mk (.pk (.ibin .eql)) [.t 3, .q (uv 1)]] (.ite (.t 5) (.next 0 [.t 5]) (.lets [.mk (.pk (.ibin .eql)) [.t 3, .q (uv 2)]] (.ite (.t 6) (.next 0 [.t 6]) (.lets [.mk (.pk (.ibin .eql)) [.t 3, .q (uv 3)]] (.next 0 [.t 7]))))))))):=by kernel_rfl
theorem aaT:J_= .lets [.mk (.pk (.ibin .add)) [.q (iv 2), .mk (.pk (.ibin .rem)) [.mk (.pk (.conv .i64)) [.t 0], .q (iv 23)]]] (.lets [.mk (.pk (.ibin .rem)) [.t 2, .q (uv 4)]] (.jp (.lets [.mk (.call false 166) [.mk .bq [.t 6], .mk .bq [.mk (.pk (.mx2 true)) [.t 5, .q (uv 1)]]]] (.fM [.mk (.pk (.ext 1)) [.t 7]] (.lets [.mk (.pk (.ext 0)) [.t 7]] (.lets [.mk (.pk (.ibin .add)) [.q (iv 1), .mk (.pk (.ibin .rem)) [.mk (.pk (.conv .i64)) [.t 1], .mk (.pk (.mx2 true)) [.t 8, .q (iv 1)]]]] (.jp (.fM [.mk .qa [.t 10], .mk .qa [.t 11], .mk .qa [.t 12], .mk .qa [.t 13], .mk .qa [.t 14], .mk .qa [.t 15]] (.ret (.mk .agg [.mk .eA [.t 10], .mk .eA [.t 11], .mk .eA [.t 12], .mk .eA [.t 13], .mk .eA [.t 14], .mk .eA [.t 15]]))) (.lets [.mk (.pk (.ibin .eql)) [.t 5, .q (uv 0)]] (.ite (.t 10) (.lets [.mk (.call false 167) [.mk .bq [.t 6], .mk .bq [.t 9]]] (.fM [.mk (.pk (.ext 1)) [.t 11], .mk (.cell 0 6) [.mk (.pk (.ext 0)) [.t 11]]] (.lets [.mk (.pk (.ext 0)) [.t 11]] (.next 0 (cs 12 6 0 6))))) (.lets [.mk (.call false 168) [.mk .bq [.t 6], .mk .bq [.t 9], .mk .bq [.t 5]]] (.fM [.mk (.pk (.ext 1)) [.t 11], .mk (.cell 0 6) [.mk (.pk (.ext 0)) [.t 11]]] (.lets [.mk (.pk (.ext 0)) [.t 11]] (.next 0 (cs 12 6 0 6)))))))))))) (.jp (.jp (.next 0 [.t 5, .t 6]) (.lets [.mk (.pk (.ibin .or)) [.t 3, .q (iv 1)]] (.lets [.mk (.pk (.ibin .gtr)) [.t 6, .q (iv 24)]] (.ite (.t 7) (.lets [.mk (.pk (.ibin .sub)) [.t 6, .q (iv 2)]] (.next 0 [.t 8])) (.next 0 [.t 6]))))) (.fM [.ite (.mk (.gv true) [.mk (.pk (.ibin .eql)) [.t 4, .q (uv 0)]]) (.mk (.pk (.ibin .rem)) [.t 3, .q (iv 6)]) (.q (.tup [])), .ite (.mk (.gv true) [.mk (.pk (.ibin .eql)) [.t 4, .q (uv 0)]]) (.mk (.pk (.ibin .neq)) [.mk (.pk (.ibin .rem)) [.t 3, .q (iv 6)], .q (iv 1)]) (.q (.tup []))] (.lets [.ite (.ite (.mk (.pk (.ibin .eql)) [.t 4, .q (uv 0)]) (.mk (.pk (.ibin .neq)) [.mk (.pk (.ibin .rem)) [.t 3, .q (iv 6)], .q (iv 1)]) (.q (bv false))) (.mk (.pk (.ibin .neq)) [.mk (.pk (.ibin .rem)) [.t 3, .q (iv 6)], .q (iv 5)]) (.q (bv false))] (.ite (.t 5) (.next 0 [.q (uv 1)]) (.lets [.mk (.pk (.ibin .eql)) [.t 4, .q (uv 1)]] (.ite (.t 6) (.next 0 [.t 4]) (.lets [.mk (.pk (.ibin .gtr)) [.t 4, .q (uv 1)]] (.ite (.t 7) (.lets [.mk (.pk (.ibin .andNot)) [.t 3, .q (iv 1)]] (.next 1 [.t 4, .t 8])) (.next 1 [.t 4, .t 3]))))))))))):=by kernel_rfl
end Ty
end
section
namespace Ty
variable {H : FP}
section
variable {G : FP} {E : List D}
def Vz(n:Nat)(d:D):Option (List D):=if d.cells.length=n∧d.cells.all D.gK=true∧d.cells.all D.aM=true then some d.cells else none
theorem Wc{v n:Nat}(hn:0<n):X.ba G E (cs v n 0 n)=ob (E[v]?) (Vz n):=by
 cases hv:E[v]? with
 |none=>
  obtain⟨m,rfl⟩: ∃m,n=m+1:=⟨n-1,by omega⟩;rw[cs,List.range_succ_eq_map,List.map_cons,eL,Hc,eL,VQ,hv];rfl
 |some d=>
  rw[GC];unfold Vz;split
  ·rename_i hc
   have key: ∀l:List Nat,(∀j∈l,j<n)→X.ba G E (l.map fun j=>X.mk (.cell (0+j) n) [.t v])=some (l.map fun j=>d.cells.getD j .nil):=fun l hl=>by
    induction l with
    |nil=>rfl
    |cons j r ih=>
     have hj:=hl j (List.mem_cons_self ..)
     have h2:X.ev G E (X.mk (.cell (0+j) n) [.t v])=some (d.cells.getD j .nil):=by
      rw[Hc,eL,VQ,hv];simp only[GC,Ac];show(if d.cells.length=n∧d.cells.all D.gK=true∧d.cells.all D.aM=true then d.cells[0+j]? else none)=_;rw[if_pos hc,Nat.zero_add,List.getD_eq_getElem?_getD,Ez (by omega)];rfl
     rw[List.map_cons,eL,h2,ih fun k hk=>hl k (Cz _ hk)];rfl
   rw[cs,key _ fun j hj=>List.mem_range.1 hj];congr 1;apply List.ext_getElem
   ·simp[hc.1]
   ·intro i h1 h2;simp[List.getD_eq_getElem?_getD,h2]
  ·rename_i hc;obtain⟨m,rfl⟩: ∃m,n=m+1:=⟨n-1,by omega⟩;rw[cs,List.range_succ_eq_map,List.map_cons,eL,Hc,eL,VQ,hv];simp only[GC,Ac];show ob (if d.cells.length=m+1∧d.cells.all D.gK=true∧d.cells.all D.aM=true then d.cells[0+0]? else none) _=none;rw[if_neg hc];rfl
@[simp] theorem af1{v:Nat}:X.ba G E (cs v 33 0 33)=ob (E[v]?) (Vz 33):=Wc (by omega)
@[simp] theorem afl{x:En}:Vz 33 (.agg x.cells)=some [iv x.rd,iv x.tb,iv x.bd,iv x.vs,uv x.kd,uv x.fl,bv x.tu,uv x.o0.lv,uv x.o0.dn,uv x.o0.rk,uv x.o0.dc,iv x.o0.tr,iv x.o0.wt,uv x.o1.lv,uv x.o1.dn,uv x.o1.rk,uv x.o1.dc,iv x.o1.tr,iv x.o1.wt,uv x.o2.lv,uv x.o2.dn,uv x.o2.rk,uv x.o2.dc,iv x.o2.tr,iv x.o2.wt,uv x.o3.lv,uv x.o3.dn,uv x.o3.rk,uv x.o3.dc,iv x.o3.tr,iv x.o3.wt,iv x.a0,iv x.a1]:=nr rfl
end
def Rw.pr(r:Rw):D×D:=(.agg [iv r.rd,iv r.tb], .agg r.cells)
theorem H4{a b:Int}{r:Rw}:bR [99,3,3] (.agg [iv a,iv b]) r.pr.1=some (decide (r.rd=a∧r.tb=b)):=by
 show aa [3,3] [iv a,iv b] [iv r.rd,iv r.tb]=_;simp[eq_comm (a:=r.rd),eq_comm (a:=r.tb)]
theorem pc{a b:Int}: ∀(l:List Rw) (i:Nat),bu [99,3,3] (.agg [iv a,iv b]) (l.map Rw.pr) i=some ((cW a b l).map (· +i))
 | [],i=>rfl
 |r::s,i=>by
  rw[List.map_cons];unfold bu cW;rw[H4,Oz];by_cases h:r.rd=a∧r.tb=b
  ·rw[if_pos (by simpa using h),if_pos h];simp
  ·rw[if_neg (by simpa using h),if_neg h,pc s (i+1),Option.map_map];simp[Function.comp_def,Nat.add_assoc,Nat.add_comm 1]
def hD:List Rw→Bool
 | []=>true
 |r::s=>s.all (fun q=> !(decide (q.rd=r.rd)&&decide (q.tb=r.tb)))&&hD s
theorem CR{a b:Int}{l:List Rw}(h: ∀r∈l,¬(r.rd=a∧r.tb=b)):cW a b l=none:=by
 induction l with
 |nil=>rfl
 |cons r s ih=>
  unfold cW;rw[if_neg (h r (List.mem_cons_self ..)),ih fun q hq=>h q (Cz _ hq)];rfl
theorem om: ∀{l:List Rw} {j:Nat} {r:Rw},hD l=true→l[j]?=some r→ ∀q∈l.take j,¬(q.rd=r.rd∧q.tb=r.tb)
 | [],j,r,_,h=>by simp at h
 |p::s,0,r,_,_=>by simp
 |p::s,j+1,r,ha,h=>by
  unfold hD at ha;rw[Az,Tz]at ha;intro q hq;rw[List.take_succ_cons]at hq;rcases List.mem_cons.1 hq with rfl|hq
  ·have:=ha.1 r (Lz (by simpa using h));simp at this;exact fun k=>this.elim (fun h=>h k.1.symm) (fun h=>h k.2.symm)
  ·exact om ha.2 (by simpa using h) q hq
theorem EG{G:FP}{r:Rw}{d:D}:XK.run G (.pk (.ext 0)) [.tup [.agg r.cells,d]]=some (.agg r.cells):=nr rfl
theorem EH{G:FP}{a d:D}(h:d.aF=true):XK.run G (.pk (.ext 1)) [.tup [a,d]]=some d:=by rw[bN];simp[h]
def zR:Rw:=⟨0,0,0,0,0⟩
section
variable {G : FP}
@[simp] theorem agL{r:Rw}:XK.run G (.lit 5 1 [iv 0,iv 0,iv 0,iv 0,iv 0] [(0,5)]) [.agg r.cells]=some (.list [r.cells]):=nr rfl
@[simp] theorem ϛ{x y z:X}{l m:List En}{k:IntKind}{c:Int}:bY (.mk .tup [.mk .own [x], .mk .own [y],z]) (.tup [.list (l.map En.cells), .list (m.map En.cells), .v (.int k c)])=D.own (.tup [.list (l.map En.cells), .list (m.map En.cells), .v (.int k c)]):=by
 have h:l6 (.mk .tup [.mk .own [x], .mk .own [y],z]) (.tup [.list (l.map En.cells), .list (m.map En.cells), .v (.int k c)])=true:=by
  show(iy _ _&&(iy _ _&&(iy _ _&&true)))=true;rw[iW (EK l),iW (EK m)];cases z<;>rfl
 show(if _ then _ else if l6 (.mk .tup [.mk .own [x], .mk .own [y],z]) (.tup [.list (l.map En.cells), .list (m.map En.cells), .v (.int k c)])=true then _ else _)=_;rw[h];rfl
@[simp] theorem abw{a b:List (List D)}{v:Value}:D.aF (.tup [.list a, .list b, .v v])=true:=nr rfl
theorem Ov{l:List Rw}{r:Rw}(hl:l.length<65536)(h: ∀q∈l,¬(q.rd=r.rd∧q.tb=r.tb)):XK.run G (.mset [99,3,3]) [.list (ao (l.map Rw.pr)), .agg [iv r.rd,iv r.tb], .agg r.cells]=some (.list (ao ((l++ [r]).map Rw.pr))):=by
 show((ax (ao (l.map Rw.pr))).bind fun es=>(jw [99,3,3] es (.agg [iv r.rd,iv r.tb]) (.agg r.cells)).map fun es=>D.list (ao es))=_;rw[aH,Oz]
 have h1:bR [99,3,3] (.agg [iv r.rd,iv r.tb]) (.agg [iv r.rd,iv r.tb])=some true:=by
  show aa [3,3] [iv r.rd,iv r.tb] [iv r.rd,iv r.tb]=_;simp
 unfold jw;rw[if_pos ⟨rfl,rfl,h1⟩,pc,CR h];simp only[Option.map_none,Oz];rw[if_pos (by simp[aC];omega)];simp[Rw.pr]
theorem Yn{l:List Rw}{a b:Int}:XK.run G (.mget [99,3,3] (.agg [iv 0,iv 0,iv 0,iv 0,iv 0]) true) [.list (ao (l.map Rw.pr)), .agg [iv a,iv b]]=some (match(cW a b l).bind fun i=>l[i]? with
  |some r=> .tup [.agg r.cells,bv true]
  |none=> .tup [.agg zR.cells,bv false]):=by
 show((ax (ao (l.map Rw.pr))).bind fun es=>(jv [99,3,3] (.agg [iv 0,iv 0,iv 0,iv 0,iv 0]) true es (.agg [iv a,iv b])).bind fun d=>if d.aF then some d else none)=_;rw[aH,Oz]
 have h1:bR [99,3,3] (.agg [iv a,iv b]) (.agg [iv a,iv b])=some true:=by
  show aa [3,3] [iv a,iv b] [iv a,iv b]=_;simp
 unfold jv;rw[if_pos ⟨rfl,h1⟩,pc];cases h:cW a b l with
 |none=>rfl
 |some i=>
  obtain⟨r,hr,_⟩:=gA h;simp[hr];exact⟨rfl,rfl⟩
end
def Ss.alone(s:Ss)(e:En):Ss:=⟨0,0,0,0,0,((cW e.rd e.tb s.rows).bind fun i=>s.rows[i]?).toList,s.bs⟩
theorem FK(s:Ss)(e:En):(s.alone e).fM e=s.fM e:=by
 unfold Ss.fM Ss.alone;cases h:cW e.rd e.tb s.rows with
 |none=>simp[cW]
 |some i=>
  obtain⟨r,hr,h1,h2⟩:=gA h;simp[hr,cW,h1,h2]
def Ss.proper(s:Ss)(e:En):Bool:=decide (s.fM e=0)
set_option maxHeartbeats 2000000 in
theorem l19(hF:Fr H)(s:Ss)(l:List En)(hl:l.length<9999)(hr:s.rows.length<9999)(ha:hD s.rows=true)(h54:GK H 54 [.agg s.cells]=some (iv 0))(hs:mN l=true):
  GK H 19 [.agg s.cells, .list (l.map En.cells)]=some (D.own (.tup [.list ((l.filter s.proper).map En.cells), .list ((l.filter fun e=> !s.proper e).map En.cells),iv 0])):=by
 refine af hF YR ?_;unfold UP;generalize hz0:Ee=z0
 conv=>enter [1,3];cbv
 subst hz0;generalize hz1:Ef=z1
 conv in Ee=>unfold Ee;rw[hz1];cbv
 subst hz1;generalize N1:sK=ahv
 conv in Ef=>unfold Ef;rw[N1];cbv
 subst N1
 conv in sK=>unfold sK;cbv
 have k:XK.run (GK H) (.call false 54) [.agg s.cells]=some (iv 0):=ag h54 rfl rfl;have k2:XK.run (GK H) (.call false 20) [.list (l.map En.cells)]=some (.tup [.list ((bx l).map En.cells),iv 0]):=eI (l20 hF l hl hs) rfl;simp[k,k2];refine aI (n:=s.rows.length) (fun j=> [iv (j:Int), .list (ao ((s.rows.take j).map Rw.pr))]) ((D.own (.tup [.list ((l.filter s.proper).map En.cells), .list ((l.filter fun e=> !s.proper e).map En.cells),iv 0]))) (by omega) ?_;intro rec j hj ih;cases h3:s.rows[j]? with
 |some r=>
  have l3:=(Gz.1 h3).1;have e3:=(Gz.1 h3).2;have ih:=ih (by omega)
  have km:XK.run (GK H) (.mset [99,3,3]) [.list (ao ((s.rows.take j).map Rw.pr)), .agg [iv r.rd,iv r.tb], .agg r.cells]=some (.list (ao ((s.rows.take (j+1)).map Rw.pr))):=by
   rw[Ov (by simp;omega) (om ha h3),List.take_add_one,h3];rfl
  generalize D.list (ao ((s.rows.take j).map Rw.pr))=M1 at km;generalize D.list (ao ((s.rows.take (j+1)).map Rw.pr))=M2 at km ih;simp[l3,e3,km];rw[wr (z:=(j:Int)+1) (by omega) (by omega)];simpa using ih
 |none=>
  have l3:=List.getElem?_eq_none_iff.1 h3;have l3': ¬(j:Int)<s.rows.length:=by omega
  rw[List.take_of_length_le l3];have kg: ∀a b:Int,XK.run (GK H) (.mget [99,3,3] (.agg [iv 0,iv 0,iv 0,iv 0,iv 0]) true) [.list (ao (s.rows.map Rw.pr)), .agg [iv a,iv b]]=_:=fun a b=>Yn;generalize D.list (ao (s.rows.map Rw.pr))=M at kg;simp[l3'];refine aI (n:=l.length) (fun j=> [iv (j:Int), .list (((l.take j).filter fun e=> !s.proper e).map En.cells), .list (((l.take j).filter s.proper).map En.cells)]) ((D.own (.tup [.list ((l.filter s.proper).map En.cells), .list ((l.filter fun e=> !s.proper e).map En.cells),iv 0]))) (by omega) ?_;clear ih;intro Dx j2 hj2 ih;cases h4:l[j2]? with
  |none=>
   have l4:=List.getElem?_eq_none_iff.1 h4;have l4': ¬(j2:Int)<l.length:=by omega
   rw[List.take_of_length_le l4];simp[l4']
  |some e=>
   have l4:=(Gz.1 h4).1;have e4:=(Gz.1 h4).2;have ih:=ih (by omega)
   have hlen: ∀p:En→Bool,((l.take j2).filter p).length<65536:=fun p=>by
    have:=List.length_filter_le p (l.take j2);simp at this;omega
   have ka: ∀p:En→Bool,XK.run (GK H) (.app 33) [.list (((l.take j2).filter p).map En.cells), .list [e.cells]]=some (.list (((l.take j2).filter p).map En.cells++ [e.cells])):=fun p=>RY (hlen p)
   have kc: ∀rows,(s.alone e).rows=rows→XK.run (GK H) (.call true 18) [.agg [iv 0,iv 0,iv 0,iv 0,iv 0, .list (rows.map Rw.cells),iv s.bs], .agg e.cells]=some (iv (s.fM e)):=fun rows Bh=>by
    subst Bh;refine ag ((l18 hF (s.alone e) ?_ e).trans (by rw[FK])) rfl rfl;unfold Ss.alone;cases(cW e.rd e.tb s.rows).bind fun i=>s.rows[i]?<;>simp
   rw[List.take_add_one,h4,Option.toList_some,List.filter_append,List.filter_append,List.map_append,List.map_append]at ih;generalize hP:((l.take j2).filter s.proper).map En.cells=Pl at ih;generalize hQ:((l.take j2).filter fun e=> !s.proper e).map En.cells=Ql at ih;have kp:XK.run (GK H) (.app 33) [.list Pl, .list [e.cells]]=some (.list (Pl++ [e.cells])):=by rw[←hP];exact ka _
   have kq:XK.run (GK H) (.app 33) [.list Ql, .list [e.cells]]=some (.list (Ql++ [e.cells])):=by rw[←hQ];exact ka _
   have kg:=kg e.rd e.tb;cases hfr:(cW e.rd e.tb s.rows).bind fun i=>s.rows[i]? with
   |none=>
    rw[hfr]at kg;have kc:=kc [] (by unfold Ss.alone;rw[hfr];rfl);simp only[List.map_nil]at kc;by_cases hc:s.fM e=0
    ·simp[hc,Ss.proper]at ih;simp[l4,e4,kg,kc,kp,hc,-bN,EG,EH];rw[wr (z:=(j2:Int)+1) (by omega) (by omega)];exact ih
    ·simp[hc,Ss.proper]at ih;simp[l4,e4,kg,kc,kq,hc,-bN,EG,EH];rw[wr (z:=(j2:Int)+1) (by omega) (by omega)];exact ih
   |some r=>
    rw[hfr]at kg;have kc:=kc [r] (by unfold Ss.alone;rw[hfr];rfl);simp only[List.map_cons,List.map_nil]at kc;by_cases hc:s.fM e=0
    ·simp[hc,Ss.proper]at ih;simp[l4,e4,kg,kc,kp,hc,-bN,EG,EH];rw[wr (z:=(j2:Int)+1) (by omega) (by omega)];exact ih
    ·simp[hc,Ss.proper]at ih;simp[l4,e4,kg,kc,kq,hc,-bN,EG,EH];rw[wr (z:=(j2:Int)+1) (by omega) (by omega)];exact ih
end Ty
end
section
namespace Ty
variable {H : FP}
theorem J8{x:X}{es:List (List D)}{v:D}:(bY x (.tup [.list es,v])).bare= .tup [.list es,v]:=by
 unfold bY;split
 ·rfl
 ·split<;>rfl
theorem l47(hF:Fr H)(s:Ss)(l:List En)(hl:l.length<9999)(hr:s.rows.length<9999)(ha:hD s.rows=true)(h54:GK H 54 [.agg s.cells]=some (iv 0))(hs:mN l=true):
  XK.run (GK H) (.call false 47) [.agg s.cells, .list (l.map En.cells)]=some (.tup [.list ((bx (l.filter s.proper)).map En.cells),iv 0]):=by
 have vZ:(l.filter s.proper).length≤l.length:=List.length_filter_le ..;have k:XK.run (GK H) (.call false 19) [.agg s.cells, .list (l.map En.cells)]=some (.tup [.list ((l.filter s.proper).map En.cells), .list ((l.filter fun e=> !s.proper e).map En.cells),iv 0]):=eI (l19 hF s l hl hr ha h54 hs) rfl;have k2:XK.run (GK H) (.call false 20) [.list ((l.filter s.proper).map En.cells)]=some (.tup [.list ((bx (l.filter s.proper)).map En.cells),iv 0]):=eI (l20 hF _ (by omega) (JU hs List.filter_sublist)) rfl;refine jA (r:=bY (.mk .tup [.mk .bq [.t 9], .mk .bq [.t 8]]) (.tup [.list ((bx (l.filter s.proper)).map En.cells),iv 0])) (af hF ZF ?_) J8 rfl
 conv=>enter [1,3];cbv
 simp[k,k2]
end Ty
end
section
open Go.RowKit Go.Sort
namespace Ty
variable {H : FP}
structure Hd(H:FP):Prop where
 k15:H 15 [.list []]=some (D.own (.list []))
 n15: ∀(c:List D) (es:List (List D)),H 15 [.list (c::es)]=none
 fr:Fr H
 k57: ∀es:List (List D),es.isEmpty=false→es.all ud=true→es.length<65536→H 1000057 [.list es, .clo 58 []]=some (.tup [.tup [], .list (bV (Bx K5) es)])
 k43: ∀es:List (List D),es.all rH=true→es.length<65536→H 1000043 [.list es, .clo 44 []]=some (.tup [.tup [], .list (bV (Bx K4) es)])
def xj(bs:Int)(r:Rw)(i:Nat):Ky:=⟨r.rd,r.tb,IntKind.i64.wrap (IntKind.i64.wrap (IntKind.i64.wrap (r.st*bs)+i)+1)⟩
def nU(bs:Nat)(r:Rw):List Ky:=if r.ns≤0∨r.ew≤0 then []else(List.range bs).map (xj bs r)
def Ss.keys(s:Ss):List Ky:=s.rows.flatMap (nU s.bs.toNat)
def yN(a b:Ky):Bool:=decide (a.cmp b<0)
def Ss.cy(s:Ss):List Ky:=bV yN s.keys
section
variable {G : FP}
@[simp] theorem agK{k:Ky}:XK.run G (.lit 3 1 [iv 0,iv 0,iv 0] [(0,3)]) [.agg k.cells]=some (.list [k.cells]):=nr rfl
theorem Yi{a b c:Int}:XK.run G (.lit 3 1 [iv 0,iv 0,iv 0] [(0,3)]) [.agg [iv a,iv b,iv c]]=some (.list [(⟨a,b,c⟩:Ky).cells]):=nr rfl
theorem VZ{l:List Ky}{k:Ky}(h:l.length<65536):XK.run G (.app 3) [.list (l.map Ky.cells), .list [k.cells]]=some (.list (l.map Ky.cells++ [k.cells])):=by
 show(if aO 3 [k.cells]=true∧(l.map Ky.cells).length+1≤aC then some (D.list (l.map Ky.cells++ [k.cells]))else none)=_;rw[if_pos ⟨rfl,by simp[aC];omega⟩]
theorem SL(l:List Ky):(l.map Ky.cells).all (fun c=>c.all D.aW)=true:=by
 rw[Tz];intro c hc;obtain⟨e,_,rfl⟩:=List.mem_map.1 hc;rfl
@[simp] theorem ϝ{x y:X}{l:List Ky}{k:IntKind}{z:Int}:bY (.mk .tup [.mk .own [x],y]) (.tup [.list (l.map Ky.cells), .v (.int k z)])=D.own (.tup [.list (l.map Ky.cells), .v (.int k z)]):=by
 have h:l6 (.mk .tup [.mk .own [x],y]) (.tup [.list (l.map Ky.cells), .v (.int k z)])=true:=by
  show(iy _ _&&(iy _ _&&true))=true;rw[iW (SL l)];cases y<;>rfl
 show(if _ then _ else if l6 (.mk .tup [.mk .own [x],y]) (.tup [.list (l.map Ky.cells), .v (.int k z)])=true then _ else _)=_;rw[h];rfl
theorem B7(l:List Ky):bV (Bx K5) (l.map Ky.cells)=(bV yN l).map Ky.cells:=
 (nC (f:=Ky.cells) (lt:=yN) (lt':=Bx K5) (fun x y=>by
  unfold Bx yN Ky.cmp Ky.cells;rw[Bool.eq_iff_iff];simp only[decide_eq_true_eq]
  first|rfl|(simp[K5];done)|skip) l).symm
end
theorem e57(hH:Hd H)(l:List Ky)(h0:l≠ [])(hl:l.length<65536):XK.run (GK H) (.ecall 0 57 3) [.list (l.map Ky.cells), .clo 58 []]=some (.tup [.tup [], .list ((bV yN l).map Ky.cells)]):=by
 have h1:GK H 1000057 [.list (l.map Ky.cells), .clo 58 []]=some (.tup [.tup [], .list ((bV yN l).map Ky.cells)]):=by
  rw[←B7];refine dC (hH.k57 _ ?_ ?_ (by simpa using hl))
  ·cases l with
   |nil=>exact absurd rfl h0
   |cons a r=>rfl
  ·rw[Tz];intro x hx;obtain⟨e,_,rfl⟩:=List.mem_map.1 hx;rfl
 have hlen:=(bW yN l).length_eq;show(if([.list (l.map Ky.cells), .clo 58 []].set 0 .nil).all D.aF=true∧57<1000000 then(GK H (1000000+(1000000*0+57)) [.list (l.map Ky.cells), .clo 58 []]).bind _ else none)=_;rw[if_pos ⟨rfl,by omega⟩,show 1000000+(1000000*0+57)=1000057 from rfl,h1,Oz];show(if D.aF (.tup [])=true∧((bV yN l).map Ky.cells).length=(l.map Ky.cells).length∧aO 3 ((bV yN l).map Ky.cells)=true then _ else none)=_;rw[if_pos ⟨rfl,by simp[hlen],by unfold aO;rw[Tz];intro x hx;obtain⟨e,_,rfl⟩:=List.mem_map.1 hx;rfl⟩]
theorem l21(hH:Hd H)(s:Ss){b:Nat}(hb:s.bs=b)(hb2:b<9999)(hr:s.rows.length<9999)(hk:s.keys≠ [])(hk2:s.keys.length<65536)(h54:GK H 54 [.agg s.cells]=some (iv 0)):GK H 21 [.agg s.cells]=some (D.own (.tup [.list (s.cy.map Ky.cells),iv 0])):=by
 refine af hH.fr YW ?_
 conv=>enter [1,3];cbv
 have k:XK.run (GK H) (.call false 54) [.agg s.cells]=some (iv 0):=ag h54 rfl rfl
 have IE: ∀j,j≤s.rows.length→((s.rows.take j).flatMap (nU b)).length≤s.keys.length:=fun j hj=>by
  unfold Ss.keys;rw[hb,Int.toNat_natCast]
  conv=>rhs;rw[←List.take_append_drop j s.rows]
  rw[List.flatMap_append,List.length_append];omega
 simp[k];refine aI (n:=s.rows.length) (fun j=> [iv (j:Int), .list (((s.rows.take j).flatMap (nU b)).map Ky.cells)]) (D.own (.tup [.list (s.cy.map Ky.cells),iv 0])) (by omega) ?_;intro rec j hj ih;cases h3:s.rows[j]? with
 |none=>
  have l3:=List.getElem?_eq_none_iff.1 h3;have l3': ¬(j:Int)<s.rows.length:=by omega
  have k2:=e57 hH s.keys hk hk2;rw[List.take_of_length_le l3];have:s.rows.flatMap (nU b)=s.keys:=by unfold Ss.keys;rw[hb];rfl
  rw[this];have k3:(D.tup []).aF=true:=rfl;simp[l3',k2,k3,Ss.cy]
 |some r=>
  have l3:=(Gz.1 h3).1;have e3:=(Gz.1 h3).2;have ih:=ih (by omega);have hk3:=IE (j+1) (by omega);rw[List.take_add_one,h3,Option.toList_some,List.flatMap_append,List.flatMap_singleton]at ih hk3;generalize(s.rows.take j).flatMap (nU b)=out at ih hk3;unfold nU at ih hk3;by_cases h1:r.ns≤0
  ·rw[if_pos (.inl h1),List.append_nil]at ih;simp[l3,e3,h1];rw[wr (z:=(j:Int)+1) (by omega) (by omega)];exact ih
  ·by_cases h2:r.ew≤0
   ·rw[if_pos (.inr h2),List.append_nil]at ih;simp[l3,e3,h1,h2];rw[wr (z:=(j:Int)+1) (by omega) (by omega)];exact ih
   ·rw[if_neg (by omega)]at ih hk3;simp[l3,e3,h1,h2];refine cG (S:=List Ky×Nat) (enc:=fun q=> [iv (q.2:Int), .list (q.1.map Ky.cells)]) (res:=fun _=>D.own (.tup [.list (s.cy.map Ky.cells),iv 0])) (mes:=fun q=>b-q.2) (ok:=fun q=>q.2≤b∧q.1=out++(List.range q.2).map (xj b r)) ?_ (out,0) ⟨by simp,by simp⟩ (by show b-0<_;omega);rintro Dx ⟨o2,i⟩ ⟨hi,ho⟩ ih2
    replace hi:i≤b:=hi
    replace ho:o2=out++(List.range i).map (xj b r):=ho
    by_cases h4:i<b
    ·have ih2:=ih2 (o2++ [xj b r i],i+1) ⟨by show i+1≤b;omega,by simp[ho,List.range_succ]⟩ (by show b-(i+1)<b-i;omega);have hl:o2.length<65536:=by rw[ho];simp at hk3⊢;omega
     have ka:=VZ (G:=GK H) (k:=xj b r i) hl;clear ho;have h5:(i:Int)<b:=by omega
     unfold xj at ka ih2;simp only[List.map_append,List.map_cons,List.map_nil]at ih2;simp[hb,h5,Yi,ka];rw[wr (z:=(i:Int)+1) (by omega) (by omega)];exact ih2
    ·obtain rfl:i=b:=by omega
     subst ho;simp at ih;simp[hb];rw[wr (z:=(j:Int)+1) (by omega) (by omega)];exact ih
end Ty
end
noncomputable section
open Go.RowKit Go.Sort
namespace Ty
variable {H : FP}
instance afm:DecidableEq En:=fun _ _=>Classical.propDecidable _
def nb:En→List En→List En
 |_,[]=> []
 |p,b::r=>if b=p then nb b r else b::nb b r
theorem sZ(p b:En)(r:List En):nb p (b::r)=if b=p then nb b r else b::nb b r:=by conv=>lhs;unfold nb
def yk:List En→List En
 | []=> []
 |a::r=>a::nb a r
theorem Jm: ∀(a:En) (r:List En),tT (a::r)=a::nb a r
 |a,[]=>rfl
 |a,b::r=>by
  have ih:=Jm b r;unfold tT nb;by_cases h:a=b
  ·subst h;rw[if_pos rfl,if_pos rfl,ih]
  ·rw[if_neg h,if_neg (fun e=>h e.symm),ih]
theorem HX: ∀l:List En,yk l=tT l
 | []=>rfl
 |a::r=>(Jm a r).symm
theorem Dr: ∀(p:En) (l:List En),(nb p l).Sublist l
 |p,[]=>by simp[nb]
 |p,b::r=>by
  unfold nb;split
  ·exact(Dr b r).trans (List.sublist_cons_self ..)
  ·exact(Dr b r).cons_cons b
theorem Ld: ∀l:List En,(yk l).Sublist l
 | []=>by simp[yk]
 |a::r=>(Dr a r).cons_cons a
section
variable {G : FP}
theorem aca(e x:En):aa [3,3,3,3,4,4,8,4,4,4,4,3,3,4,4,4,4,3,3,4,4,4,4,3,3,4,4,4,4,3,3,3,3] e.cells x.cells=some (decide (e=x)):=by
 obtain⟨rd,tb,bd,vs,kd,fl,tu,⟨l0,d0,r0,c0,t0,w0⟩,⟨l1,d1,r1,c1,t1,w1⟩,⟨l2,d2,r2,c2,t2,w2⟩,⟨l3,d3,r3,c3,t3,w3⟩,a0,a1⟩:=e;obtain⟨rd',tb',bd',vs',kd',fl',tu',⟨l0',d0',r0',c0',t0',w0'⟩,⟨l1',d1',r1',c1',t1',w1'⟩,⟨l2',d2',r2',c2',t2',w2'⟩,⟨l3',d3',r3',c3',t3',w3'⟩,a0',a1'⟩:=x;simp only[En.cells,En.outs,Ou.cells,List.cons_append,List.nil_append,NL,Wh,Wg,Lm,Oz];congr 1;rw[Bool.eq_iff_iff];simp only[Az,decide_eq_true_eq,beq_iff_eq,En.mk.injEq,Ou.mk.injEq,and_true,and_assoc]
theorem aqE{neg:Bool}{e x:En}:XK.run G (.pk (.aeq neg [3,3,3,3,4,4,8,4,4,4,4,3,3,4,4,4,4,3,3,4,4,4,4,3,3,4,4,4,4,3,3,3,3])) [.agg e.cells, .agg x.cells]=some (bv (if neg then !decide (e=x)else decide (e=x))):=by
 rw[BR,aca];rfl
theorem PG{a b:Nat}:XK.run G .adn [iv a,iv b]=some (iv ((a+b:Nat):Int)):=by
 show(if 0≤(a:Int)∧0≤(b:Int)then some (D.v (.int .i64 ((a:Int)+b)))else none)=_;rw[if_pos ⟨by omega,by omega⟩];simp
theorem Lf{l:List En}{i:Nat}(h:i≤l.length):XK.run G .drp [.list (l.map En.cells),iv i]=some (.list ((l.drop i).map En.cells)):=by
 show(if 0≤(i:Int)∧(i:Int)≤(l.map En.cells).length then some (D.list ((l.map En.cells).drop (i:Int).toNat))else none)=_;rw[if_pos ⟨by omega,by simp;omega⟩,List.map_drop];rfl
theorem aeM{l:List En}{i:Nat}{e:En}(h:i<l.length):XK.run G (.setl 33 0 33) [.list (l.map En.cells),iv i, .agg e.cells]=some (.list ((l.set i e).map En.cells)):=by
 show(if(i:Int)<0 then none else((l.map En.cells)[(i:Int).toNat]?).bind fun c=>if e.cells.length=33∧0+33≤33∧c.length=33∧e.cells.all D.gK=true∧e.cells.all D.nV=true then some (D.list ((l.map En.cells).set (i:Int).toNat (putAt c 0 e.cells)))else none)=_;rw[if_neg (by omega),Int.toNat_natCast,Dz,Ez h,Pz,Oz,if_pos ⟨rfl,by omega,rfl,rfl,rfl⟩,List.map_set];rfl
theorem ab7{l:List En}{i:Nat}(h:i≤l.length): ∃m:List En,m.length=l.length∧m.take i=l.take i∧XK.run G (.clr [iv 0,iv 0,iv 0,iv 0,uv 0,uv 0,bv false,uv 0,uv 0,uv 0,uv 0,iv 0,iv 0,uv 0,uv 0,uv 0,uv 0,iv 0,iv 0,uv 0,uv 0,uv 0,uv 0,iv 0,iv 0,uv 0,uv 0,uv 0,uv 0,iv 0,iv 0,iv 0,iv 0]) [.list (l.map En.cells),iv i]=some (.list (m.map En.cells)):=by
 refine⟨l.take i++List.replicate (l.length-i) ⟨0,0,0,0,0,0,false,⟨0,0,0,0,0,0⟩,⟨0,0,0,0,0,0⟩,⟨0,0,0,0,0,0⟩,⟨0,0,0,0,0,0⟩,0,0⟩,by simp;omega, ?_, ?_⟩
 ·rw[List.take_append_of_le_length (by simp;omega),List.take_take];simp
 ·show(if 0≤(i:Int)∧(i:Int)≤(l.map En.cells).length then some (D.list ((l.map En.cells).take (i:Int).toNat++List.replicate ((l.map En.cells).length-(i:Int).toNat) _))else none)=_;rw[if_pos ⟨by omega,by simp;omega⟩,List.map_append,List.map_replicate,List.map_take];simp;exact .inr rfl
end
theorem Ϟ{G:FP}{l:List En}{i:Nat}(h:i≤l.length):XK.run G .take [.list (l.map En.cells),iv i]=some (.list ((l.take i).map En.cells)):=by
 show(if 0≤(i:Int)∧(i:Int)≤(l.map En.cells).length then some (D.list ((l.map En.cells).take (i:Int).toNat))else none)=_;rw[if_pos ⟨by omega,by simp;omega⟩,List.map_take];rfl
theorem ϟ{G:FP}{l:List En}:XK.run G .take [.list (l.map En.cells),iv (l.length:Int)]=some (.list (l.map En.cells)):=by
 rw[Ϟ (Nat.le_refl _),List.take_length]
theorem J9{x:X}{l:List En}:bY (.mk .own [x]) (.list (l.map En.cells))=D.own (.list (l.map En.cells)):=by
 have h:l6 (.mk .own [x]) (.list (l.map En.cells))=true:=iW (EK l);show(if _ then _ else if l6 (.mk .own [x]) (.list (l.map En.cells))=true then _ else _)=_;rw[h];rfl
theorem e43(hH:Hd H)(l:List En)(hok: ∀e∈l,e.okB=true)(hl:l.length<65536):XK.run (GK H) (.ecall 0 43 33) [.list (l.map En.cells), .clo 44 []]=some (.tup [.tup [], .list ((bV xm l).map En.cells)]):=by
 have h1:GK H 1000043 [.list (l.map En.cells), .clo 44 []]=some (.tup [.tup [], .list ((bV xm l).map En.cells)]):=by
  rw[←DJ];refine dC (hH.k43 _ ?_ (by simpa using hl));rw[Tz];intro x hx;obtain⟨e,he,rfl⟩:=List.mem_map.1 hx;unfold rH;rw[tS];exact hok e he
 have hlen:=(bW xm l).length_eq;show(if([.list (l.map En.cells), .clo 44 []].set 0 .nil).all D.aF=true∧43<1000000 then(GK H (1000000+(1000000*0+43)) [.list (l.map En.cells), .clo 44 []]).bind _ else none)=_;rw[if_pos ⟨rfl,by omega⟩,show 1000000+(1000000*0+43)=1000043 from rfl,h1,Oz];show(if D.aF (.tup [])=true∧((bV xm l).map En.cells).length=(l.map En.cells).length∧aO 33 ((bV xm l).map En.cells)=true then _ else none)=_;rw[if_pos ⟨rfl,by simp[hlen],by unfold aO;rw[Tz];intro x hx;obtain⟨e,_,rfl⟩:=List.mem_map.1 hx;rfl⟩]
theorem HA{f n:Nat}{t:FT}(ho:aN cx f n t){ds:List D}{d:D}(h0:H f ds=none)(he:ae (GK H) 10000 t [] ds=some d)(hlt:f<1000000:=by decide)(hl:ds.length=n:=by rfl)(hn:ds.all D.aF=true:=by rfl):GK H f ds=some d:=ke ho h0 hlt hl hn he
theorem c15(hH:Hd H)(l:List En)(hok: ∀e∈l,e.okB=true)(hl:l.length<9999)(d:D)(hd:d.aF=true)(h0:H 15 [d]=none)
  (hs:(XK.run (GK H) (.pk (.snil false)) [d, .nil]=some (bv true)∧l= [])∨(XK.run (GK H) (.pk (.snil false)) [d, .nil]=some (bv false)∧XK.run (GK H) (.app 33) [.list [],d]=some (.list (l.map En.cells)))):
  GK H 15 [d]=some (D.own (.list ((yk (bV xm l)).map En.cells))):=by
 refine HA Ue h0 ?_ (hn:=by simp[hd])
 conv=>enter [1,3];cbv
 have k2:XK.run (GK H) (.lit 33 0 [] []) []=some (.list []):=rfl;have k4:=e43 hH l hok (by omega);have k5:(D.tup []).aF=true:=rfl;have k6:=fun l:List En=>ϟ (G:=GK H) (l:=l);have kt:=fun(x:X) (l:List En)=>J9 (x:=x) (l:=l);have hlen:=(bW xm l).length_eq;generalize hm:bV xm l=m at k4 hlen;have main: ∀(L:List (List D→Option D)),True:=fun _=>trivial;rcases hs with⟨h1,rfl⟩|⟨h1,h2⟩
 ·have hm0:m= []:=by simpa using hlen
  subst hm0;have k6:XK.run (GK H) .take [.list [],iv 0]=some (.list []):=k6 [];have kt: ∀x,bY (.mk .own [x]) (.list [])=D.own (.list []):=fun x=>kt x [];have ko:XK.run (GK H) .own [.list []]=some (.list []):=rfl;simp only[List.map_nil]at k4;simp[h1,k4,k5,k6,kt,ko,yk]
 ·simp[h1,k2,h2,k4,k5];by_cases h3:(m.length:Int)<2
  ·have hdm:yk m=m:=by
    match m,h3 with
    | [],_=>rfl
    | [x],_=>rfl
    |x::y::r,h3=>simp at h3;omega
   have k6:=k6 m;rw[hdm];simp[h3,k6,kt]
  ·rw[if_neg h3];refine cG (S:=Nat) (enc:=fun i=> [iv (i:Int)]) (res:=fun _=>D.own (.list ((yk m).map En.cells))) (mes:=fun i=>m.length-i) (ok:=fun i=>1≤i∧i≤m.length∧ ∃p,m[i-1]?=some p∧yk m=m.take i++nb p (m.drop i)) ?_ 1 ⟨Nat.le_refl _,by omega, ?_⟩ (by omega)
   rotate_left
   ·match m,h3 with
    | [],h3=>simp at h3
    |x::r,_=>exact⟨x,rfl,rfl⟩
   rintro rec i ⟨h4,h5,p,h6,h7⟩ ih;obtain⟨c0,rfl⟩: ∃c0,i=c0+1:=⟨i-1,by omega⟩;simp only[Nat.add_sub_cancel]at h6;have lp:=(Gz.1 h6).1;have ep:=(Gz.1 h6).2;have w0:IntKind.i64.wrap (c0:Int)=c0:=wr (by omega) (by omega);have w1:IntKind.i64.wrap ((c0:Int)+1)=(c0:Int)+1:=wr (by omega) (by omega);have w2:IntKind.i64.wrap ((c0:Int)+1+1)=(c0:Int)+1+1:=wr (by omega) (by omega);cases h8:m[c0+1]? with
   |none=>
    have l8:=List.getElem?_eq_none_iff.1 h8;have hdm:yk m=m:=by rw[h7,List.take_of_length_le l8,dI h8];simp[nb]
    have l8': ¬((c0:Int)+1<m.length):=by omega
    have k6:=k6 m;rw[hdm];simp[l8',k6,kt]
   |some b=>
    have l8:=(Gz.1 h8).1;have e8:=(Gz.1 h8).2;have l8':(c0:Int)+1<m.length:=by omega
    have hd8:=cF h8;by_cases hbp:b=p
    ·have hdr: ∃r,XK.run (GK H) .drp [.list (m.map En.cells),iv ((c0:Int)+1)]=some r:=⟨_,Lf (i:=c0+1) h5⟩;obtain⟨dr0,hdr⟩:=hdr
     have Iz:yk m=m.take (c0+1)++nb b (m.drop (c0+2)):=by
      rw[h7,hd8,sZ,if_pos hbp]
     simp[l8,l8',e8,ep,lp,w0,-BR,aqE,hbp,hdr];have h2':(2:Int)≤m.length:=by omega
     clear ih
     refine cG (S:=Nat×Nat×List En) (enc:=fun q=> [iv ((q.1:Int)+1),iv (q.2.1:Int), .list (q.2.2.map En.cells)]) (res:=fun _=>D.own (.list ((yk m).map En.cells))) (mes:=fun q=>m.length-q.1)
      (ok:=fun q=> ∃W,W.length=q.2.1∧q.2.2=W++m.drop q.2.1∧q.2.1<c0+1+q.1+1∧c0+1+q.1+1≤m.length∧ ∃x,m[c0+1+q.1]?=some x∧yk m=W++nb x (m.drop (c0+1+q.1+1))) ?_ (0,c0+1,m) ⟨m.take (c0+1),by simp;omega,by simp,by simp,by simp;omega,b,h8,Iz⟩ (by show m.length-0<_;omega)
     rintro Dx ⟨c,kw,cur⟩ ⟨W,hW,CY,hk,hj,x,hx,hdm⟩ ih
     replace hW:W.length=kw:=hW
     replace CY:cur=W++m.drop kw:=CY
     replace hk:kw<c0+1+c+1:=hk
     replace hj:c0+1+c+1≤m.length:=hj
     replace hx:m[c0+1+c]?=some x:=hx
     replace hdm:yk m=W++nb x (m.drop (c0+1+c+1)):=hdm
     have hcl:cur.length=m.length:=by rw[CY];simp;omega
     have hat: ∀j,kw≤j→cur[j]?=m[j]?:=fun j hj=>by
      rw[CY,Xz (by omega),List.getElem?_drop];congr 1;omega
     have hdc:=Lf (G:=GK H) (l:=cur) (i:=c0+1) (by omega);rw[show((c0+1:Nat):Int)=(c0:Int)+1 by omega]at hdc;have hdl:(cur.drop (c0+1)).length=m.length-(c0+1):=by simp[hcl]
     have hda: ∀j,(cur.drop (c0+1))[j]?=cur[c0+1+j]?:=fun j=>List.getElem?_drop;generalize cur.drop (c0+1)=dr at hdc hdl hda;have wc0:IntKind.i64.wrap (c:Int)=c:=wr (by omega) (by omega);have wc2:IntKind.i64.wrap ((c:Int)+1+1)=(c:Int)+1+1:=wr (by omega) (by omega);have wk:IntKind.i64.wrap ((kw:Int)+1)=(kw:Int)+1:=wr (by omega) (by omega);cases hy:m[c0+1+c+1]? with
     |none=>
      have l9:=List.getElem?_eq_none_iff.1 hy;have hW2:yk m=W:=by rw[hdm,dI hy];simp[nb]
      have l9': ¬((c:Int)+1<dr.length):=by omega
      have hkl:kw≤cur.length:=by omega
      obtain⟨m2,hm2,ht2,hc2⟩:=ab7 (G:=GK H) (l:=cur) (i:=kw) hkl;have hdk:=Lf (G:=GK H) (l:=cur) (i:=kw) hkl;have hd2: ∃r,XK.run (GK H) .drp [.list (m2.map En.cells),iv ((c0:Int)+1)]=some r:=⟨_,Lf (i:=c0+1) (by omega)⟩;obtain⟨r2,hd2⟩:=hd2;have hW3:m2.take kw=W:=by rw[ht2,CY,List.take_append_of_le_length (by omega),List.take_of_length_le (by omega)]
      have tk1:=Ϟ (G:=GK H) (l:=m2) (i:=kw) (by omega);have tk2:=tk1;rw[hW3]at tk1 tk2
      conv at tk2=>enter [1,3];rw[←hW]
      have k6:=k6 W;rw[hW2];generalize cur.drop kw=ck at hdk;simp[hdc,l9',hdk,hc2,tk1,tk2,hd2,k6,kt]
     |some y=>
      have l9:=(Gz.1 hy).1;have l9':(c:Int)+1<dr.length:=by omega
      have hA1:XK.run (GK H) .adn [iv ((c0:Int)+1),iv ((c:Int)+1)]=some (iv (((c0+1+c:Nat):Int)+1)):=by
       have:=PG (G:=GK H) (a:=c0+1) (b:=c+1);rw[show((c0+1:Nat):Int)=(c0:Int)+1 by omega,show((c+1:Nat):Int)=(c:Int)+1 by omega]at this;rw[this];congr 3
      have hA0:XK.run (GK H) .adn [iv ((c0:Int)+1),iv (c:Int)]=some (iv ((c0+1+c:Nat):Int)):=by
       have:=PG (G:=GK H) (a:=c0+1) (b:=c);rw[show((c0+1:Nat):Int)=(c0:Int)+1 by omega]at this;exact this
      have hc1:=hat (c0+1+c) (by omega);have hc2:=hat (c0+1+c+1) (by omega);have hd1:=hda c;have hd2:=hda (c+1);rw[hc1,hx]at hd1;rw[show c0+1+(c+1)=c0+1+c+1 by omega,hc2,hy]at hd2;rw[hx]at hc1;rw[hy]at hc2;have hdy:=cF hy;have jN:=aeM (G:=GK H) (l:=cur) (i:=kw) (e:=y) (by omega)
      have IK:cur.set kw y=(W++ [y])++m.drop (kw+1):=by
       have hkm:m.drop kw=m[kw]::m.drop (kw+1):=List.drop_eq_getElem_cons (by omega);rw[CY,hkm,List.set_append_right _ _ (by omega),hW,Nat.sub_self,List.set_cons_zero];simp
      generalize hq:c0+1+c=q at hA1 hA0 hc1 hc2 hdm hx hy hdy hj hk l9 ih;have x1:=(Gz.1 hc1).1;have x2:=(Gz.1 hc1).2;have y1:=(Gz.1 hc2).1;have y2:=(Gz.1 hc2).2;have u1:=(Gz.1 hd1).1;have v1:=(Gz.1 hd2).1;have kwl:kw<cur.length:=by omega
      by_cases hyx:y=x
      ·have ih:=ih (c+1,kw,cur) ⟨W,hW,CY,by show kw<c0+1+(c+1)+1;omega,by show c0+1+(c+1)+1≤m.length;omega,y,by rw[←hy];congr 1;show c0+1+(c+1)=_;omega,by
        show yk m=W++nb y (m.drop (c0+1+(c+1)+1));rw[hdm,hdy,sZ,if_pos hyx,show c0+1+(c+1)+1=q+1+1 by omega]⟩ (by show m.length-(c+1)<m.length-c;omega)
       simp[hdc,l9',hA1,hA0,x1,x2,y1,y2,u1,v1,wc0,wc2,kwl,-BR,aqE,hyx];simpa using ih
      ·have ih:=ih (c+1,kw+1,cur.set kw y) ⟨W++ [y],by simp[hW],IK,by show kw+1<c0+1+(c+1)+1;omega,by show c0+1+(c+1)+1≤m.length;omega,y,by rw[←hy];congr 1;show c0+1+(c+1)=_;omega,by
        show yk m=(W++ [y])++nb y (m.drop (c0+1+(c+1)+1));rw[hdm,hdy,sZ,if_neg hyx,show c0+1+(c+1)+1=q+1+1 by omega];simp⟩ (by show m.length-(c+1)<m.length-c;omega)
       simp[hdc,l9',hA1,hA0,x1,x2,y1,y2,u1,v1,wc0,wc2,wk,kwl,-BR,aqE,hyx,jN];simpa using ih
    ·have hnx:yk m=m.take (c0+2)++nb b (m.drop (c0+2)):=by
      rw[h7,hd8,sZ,if_neg hbp,List.take_add_one (i:=c0+1),h8];simp
     have ih:=ih (c0+2) ⟨by omega,by omega,b,h8,hnx⟩ (by omega);simp[l8,l8',e8,ep,lp,w0,w1,w2,-BR,aqE,hbp];rw[show(((c0+2:Nat)):Int)=(c0:Int)+1+1 by omega]at ih;exact ih
theorem g15(hH:Hd H)(l:List En)(hok: ∀e∈l,e.okB=true)(hl:l.length<9999)(h0:l≠ []):GK H 15 [.list (l.map En.cells)]=some (D.own (.list ((yk (bV xm l)).map En.cells))):=by
 refine c15 hH l hok hl _ rfl ?_ (.inr ⟨?_, ?_⟩)
 ·cases l with
  |nil=>exact absurd rfl h0
  |cons a r=>exact hH.n15 _ _
 ·cases l with
  |nil=>exact absurd rfl h0
  |cons a r=>rfl
 ·show(if aO 33 (l.map En.cells)=true∧0+(l.map En.cells).length≤aC then some (D.list ([]++l.map En.cells))else none)=_;rw[if_pos ⟨by unfold aO;rw[Tz];intro x hx;obtain⟨e,_,rfl⟩:=List.mem_map.1 hx;rfl,by simp[aC];omega⟩];rfl
end Ty
end
section
namespace Ty
variable {H : FP}
theorem cP{z:Int}(h:u8 z=true):0≤z∧z<256:=by simpa[u8]using h
theorem vD{z:Int}(h1:0≤z)(h2:z<256):u8 z=true:=by simp[u8,h1,h2]
theorem wu8{z:Int}(h1:0≤z)(h2:z<256):IntKind.u8.wrap z=z:=iC .u8 z (by show-(0:Int)≤z;omega) h2
theorem afa(z:Int):IntKind.u8.wrap z=z%256:=by
 simp only[IntKind.wrap,IntKind.bits,IntKind.signed,Bool.false_and,Bool.false_eq_true,if_false]
 first|rfl|(simp;done)|(simp;omega)
theorem tm{a b:Int}(h:0≤a):a.tmod b=a%b:=Int.tmod_eq_emod_of_nonneg h
theorem td{a b:Int}(h:0≤a):a.tdiv b=a/b:=Int.tdiv_eq_ediv_of_nonneg h
def oc(b t:Int):Ou:=if b%211=210 then⟨0,0,0,0,0,0⟩else⟨1+b%211/30,b%211/6%5,b%211%3,(b+t)%4,t%14,0⟩
theorem E9(b t:Int)(hb:u8 b=true):(oc b t).okB=true:=by
 obtain⟨h1,h2⟩:=cP hb;unfold oc;split
 ·rfl
 ·simp only[Ou.okB,Az];exact⟨⟨⟨vD (by omega) (by omega),vD (by omega) (by omega)⟩,vD (by omega) (by omega)⟩,vD (by omega) (by omega)⟩
theorem l79(hF:Fr H)(b t:Int)(hb:u8 b=true)(ht:u8 t=true):GK H 79 [uv b,uv t]=some (.agg (oc b t).cells):=by
 obtain⟨b1,b2⟩:=cP hb;obtain⟨t1,t2⟩:=cP ht;refine af hF ZS ?_
 conv=>enter [1,3];cbv
 have e1:(IntKind.i64.wrap b).tmod 211=b%211:=by rw[wr (by omega) (by omega),tm (by omega)]
 have e2:IntKind.u8.wrap (IntKind.i64.wrap (1+IntKind.i64.wrap ((b%211).tdiv 30)))=1+b%211/30:=by
  rw[td (by omega),wr (z:=b%211/30) (by omega) (by omega),wr (by omega) (by omega),wu8 (by omega) (by omega)]
 have e3:IntKind.u8.wrap ((IntKind.i64.wrap ((b%211).tdiv 6)).tmod 5)=b%211/6%5:=by
  rw[td (by omega),wr (z:=b%211/6) (by omega) (by omega),tm (by omega),wu8 (by omega) (by omega)]
 have e4:IntKind.u8.wrap ((b%211).tmod 3)=b%211%3:=by rw[tm (by omega),wu8 (by omega) (by omega)]
 have e5:(IntKind.u8.wrap (b+t)).tmod 4=(b+t)%4:=by rw[afa,tm (by omega)];omega
 have e6:(IntKind.i64.wrap t).tmod 14=t%14:=by rw[wr (by omega) (by omega),tm (by omega)]
 unfold oc;by_cases h:b%211=210
 ·simp[e1,h];rfl
 ·simp[e1,h];rw[e2,e3,e4,e5,e6];rfl
structure Sm where
 k:Int
 f:Int
 a:Int
 b0:Int
 b1:Int
 b2:Int
 b3:Int
 t0:Int
 t1:Int
 t2:Int
 t3:Int
 w0:Int
 w1:Int
 w2:Int
def Sm.cells(x:Sm):List D:= [uv x.k,uv x.f,uv x.a,uv x.b0,uv x.b1,uv x.b2,uv x.b3,uv x.t0,uv x.t1,uv x.t2,uv x.t3,uv x.w0,uv x.w1,uv x.w2]
def Sm.ok(x:Sm):Bool:=u8 x.k&&u8 x.f&&u8 x.a&&u8 x.b0&&u8 x.b1&&u8 x.b2&&u8 x.b3&&u8 x.t0&&u8 x.t1&&u8 x.t2&&u8 x.t3&&u8 x.w0&&u8 x.w1&&u8 x.w2
def zO:Ou:=⟨0,0,0,0,0,0⟩
def Ou.oS(o:Ou)(w:Int):Ou:={o with wt:=w}
def KW(i:Int):Int:=if i=0 then 0 else if i=1 then 30 else if i=2 then 40 else if i=3 then 50 else if i=4 then 60 else if i=5 then 70 else 100
def Sm.en(x:Sm):En:=
  let z:En:=⟨0,0,0,0,x.k%5,x.f%4,false,zO,zO,zO,zO,0,0⟩
  let p0:=oc x.b0 x.t0;let p1:=oc x.b1 x.t1;let p2:=oc x.b2 x.t2;let p3:=oc x.b3 x.t3
  if x.k%5=1 then{z with o0:=p0}
  else if x.k%5=3 then{z with o0:=p0,o1:=p1}
  else if x.k%5=2 then
    (let n:=2+x.w0%3
     let w0:=1+x.w0%(100-(n-1))
     let r0:=100-w0
     if n=2 then{z with o0:=p0.oS w0,o1:=p1.oS r0}
     else
       (let w1:=1+x.w1%(r0-(n-2))
        let r1:=r0-w1
        if n=3 then{z with o0:=p0.oS w0,o1:=p1.oS w1,o2:=p2.oS r1}
        else
          (let w2:=1+x.w2%(r1-1)
           {z with o0:=p0.oS w0,o1:=p1.oS w1,o2:=p2.oS w2,o3:=p3.oS (r1-w2)})))
  else if x.k%5=4 then{z with a0:=KW (x.a%7),a1:=KW (x.a/7%7)}
  else z
section
variable {G : FP} {x : Sm}
@[simp] theorem Sm.c0:XK.run G (.cell 0 14) [.agg x.cells]=some (uv x.k):=nr rfl
@[simp] theorem Sm.c1:XK.run G (.cell 1 14) [.agg x.cells]=some (uv x.f):=nr rfl
@[simp] theorem Sm.c2:XK.run G (.cell 2 14) [.agg x.cells]=some (uv x.a):=nr rfl
@[simp] theorem Sm.c3:XK.run G (.cell 3 14) [.agg x.cells]=some (uv x.b0):=nr rfl
@[simp] theorem Sm.c4:XK.run G (.cell 4 14) [.agg x.cells]=some (uv x.b1):=nr rfl
@[simp] theorem Sm.c5:XK.run G (.cell 5 14) [.agg x.cells]=some (uv x.b2):=nr rfl
@[simp] theorem Sm.c6:XK.run G (.cell 6 14) [.agg x.cells]=some (uv x.b3):=nr rfl
@[simp] theorem Sm.c7:XK.run G (.cell 7 14) [.agg x.cells]=some (uv x.t0):=nr rfl
@[simp] theorem Sm.c8:XK.run G (.cell 8 14) [.agg x.cells]=some (uv x.t1):=nr rfl
@[simp] theorem Sm.c9:XK.run G (.cell 9 14) [.agg x.cells]=some (uv x.t2):=nr rfl
@[simp] theorem Sm.c10:XK.run G (.cell 10 14) [.agg x.cells]=some (uv x.t3):=nr rfl
@[simp] theorem Sm.c11:XK.run G (.cell 11 14) [.agg x.cells]=some (uv x.w0):=nr rfl
@[simp] theorem Sm.c12:XK.run G (.cell 12 14) [.agg x.cells]=some (uv x.w1):=nr rfl
@[simp] theorem Sm.c13:XK.run G (.cell 13 14) [.agg x.cells]=some (uv x.w2):=nr rfl
end
section
variable {G : FP} {E : List D} {p : Ou} {w : Int} {x0 x1 x2 x3 x4 x5 x6 x7 x8 x9 x10 x11 x12 x13 x14 x15 x16 x17 x18 x19 x20 x21 x22 x23 : Value}
@[simp] theorem c24{i:Nat}:XK.run G (.cell i 24) [.agg [.v x0, .v x1, .v x2, .v x3, .v x4, .v x5, .v x6, .v x7, .v x8, .v x9, .v x10, .v x11, .v x12, .v x13, .v x14, .v x15, .v x16, .v x17, .v x18, .v x19, .v x20, .v x21, .v x22, .v x23]]= [D.v x0, .v x1, .v x2, .v x3, .v x4, .v x5, .v x6, .v x7, .v x8, .v x9, .v x10, .v x11, .v x12, .v x13, .v x14, .v x15, .v x16, .v x17, .v x18, .v x19, .v x20, .v x21, .v x22, .v x23][i]?:=nr rfl
@[simp] theorem so0:XK.run G (.seta 4 6 0 6) [.agg [.v x0, .v x1, .v x2, .v x3, .v x4, .v x5, .v x6, .v x7, .v x8, .v x9, .v x10, .v x11, .v x12, .v x13, .v x14, .v x15, .v x16, .v x17, .v x18, .v x19, .v x20, .v x21, .v x22, .v x23],iv 0, .agg p.cells]=some (.agg [uv p.lv,uv p.dn,uv p.rk,uv p.dc,iv p.tr,iv p.wt, .v x6, .v x7, .v x8, .v x9, .v x10, .v x11, .v x12, .v x13, .v x14, .v x15, .v x16, .v x17, .v x18, .v x19, .v x20, .v x21, .v x22, .v x23]):=nr rfl
@[simp] theorem so1:XK.run G (.seta 4 6 0 6) [.agg [.v x0, .v x1, .v x2, .v x3, .v x4, .v x5, .v x6, .v x7, .v x8, .v x9, .v x10, .v x11, .v x12, .v x13, .v x14, .v x15, .v x16, .v x17, .v x18, .v x19, .v x20, .v x21, .v x22, .v x23],iv 1, .agg p.cells]=some (.agg [.v x0, .v x1, .v x2, .v x3, .v x4, .v x5,uv p.lv,uv p.dn,uv p.rk,uv p.dc,iv p.tr,iv p.wt, .v x12, .v x13, .v x14, .v x15, .v x16, .v x17, .v x18, .v x19, .v x20, .v x21, .v x22, .v x23]):=nr rfl
@[simp] theorem so2:XK.run G (.seta 4 6 0 6) [.agg [.v x0, .v x1, .v x2, .v x3, .v x4, .v x5, .v x6, .v x7, .v x8, .v x9, .v x10, .v x11, .v x12, .v x13, .v x14, .v x15, .v x16, .v x17, .v x18, .v x19, .v x20, .v x21, .v x22, .v x23],iv 2, .agg p.cells]=some (.agg [.v x0, .v x1, .v x2, .v x3, .v x4, .v x5, .v x6, .v x7, .v x8, .v x9, .v x10, .v x11,uv p.lv,uv p.dn,uv p.rk,uv p.dc,iv p.tr,iv p.wt, .v x18, .v x19, .v x20, .v x21, .v x22, .v x23]):=nr rfl
@[simp] theorem so3:XK.run G (.seta 4 6 0 6) [.agg [.v x0, .v x1, .v x2, .v x3, .v x4, .v x5, .v x6, .v x7, .v x8, .v x9, .v x10, .v x11, .v x12, .v x13, .v x14, .v x15, .v x16, .v x17, .v x18, .v x19, .v x20, .v x21, .v x22, .v x23],iv 3, .agg p.cells]=some (.agg [.v x0, .v x1, .v x2, .v x3, .v x4, .v x5, .v x6, .v x7, .v x8, .v x9, .v x10, .v x11, .v x12, .v x13, .v x14, .v x15, .v x16, .v x17,uv p.lv,uv p.dn,uv p.rk,uv p.dc,iv p.tr,iv p.wt]):=nr rfl
@[simp] theorem sw0:XK.run G (.seta 4 6 5 1) [.agg [.v x0, .v x1, .v x2, .v x3, .v x4, .v x5, .v x6, .v x7, .v x8, .v x9, .v x10, .v x11, .v x12, .v x13, .v x14, .v x15, .v x16, .v x17, .v x18, .v x19, .v x20, .v x21, .v x22, .v x23],iv 0,iv w]=some (.agg [.v x0, .v x1, .v x2, .v x3, .v x4,iv w, .v x6, .v x7, .v x8, .v x9, .v x10, .v x11, .v x12, .v x13, .v x14, .v x15, .v x16, .v x17, .v x18, .v x19, .v x20, .v x21, .v x22, .v x23]):=nr rfl
@[simp] theorem sw1:XK.run G (.seta 4 6 5 1) [.agg [.v x0, .v x1, .v x2, .v x3, .v x4, .v x5, .v x6, .v x7, .v x8, .v x9, .v x10, .v x11, .v x12, .v x13, .v x14, .v x15, .v x16, .v x17, .v x18, .v x19, .v x20, .v x21, .v x22, .v x23],iv 1,iv w]=some (.agg [.v x0, .v x1, .v x2, .v x3, .v x4, .v x5, .v x6, .v x7, .v x8, .v x9, .v x10,iv w, .v x12, .v x13, .v x14, .v x15, .v x16, .v x17, .v x18, .v x19, .v x20, .v x21, .v x22, .v x23]):=nr rfl
@[simp] theorem sw2:XK.run G (.seta 4 6 5 1) [.agg [.v x0, .v x1, .v x2, .v x3, .v x4, .v x5, .v x6, .v x7, .v x8, .v x9, .v x10, .v x11, .v x12, .v x13, .v x14, .v x15, .v x16, .v x17, .v x18, .v x19, .v x20, .v x21, .v x22, .v x23],iv 2,iv w]=some (.agg [.v x0, .v x1, .v x2, .v x3, .v x4, .v x5, .v x6, .v x7, .v x8, .v x9, .v x10, .v x11, .v x12, .v x13, .v x14, .v x15, .v x16,iv w, .v x18, .v x19, .v x20, .v x21, .v x22, .v x23]):=nr rfl
@[simp] theorem sw3:XK.run G (.seta 4 6 5 1) [.agg [.v x0, .v x1, .v x2, .v x3, .v x4, .v x5, .v x6, .v x7, .v x8, .v x9, .v x10, .v x11, .v x12, .v x13, .v x14, .v x15, .v x16, .v x17, .v x18, .v x19, .v x20, .v x21, .v x22, .v x23],iv 3,iv w]=some (.agg [.v x0, .v x1, .v x2, .v x3, .v x4, .v x5, .v x6, .v x7, .v x8, .v x9, .v x10, .v x11, .v x12, .v x13, .v x14, .v x15, .v x16, .v x17, .v x18, .v x19, .v x20, .v x21, .v x22,iv w]):=nr rfl
@[simp] theorem ga0:XK.run G (.geta 4 1 0 1 false) [.agg [.v x0, .v x1, .v x2, .v x3],iv 0]=some (.v x0):=nr rfl
@[simp] theorem rn0:XK.run G (.rngi 4) [iv 0]=some (.tup []):=nr rfl
@[simp] theorem rm0:XK.run G (.rngi 3) [iv 0]=some (.tup []):=nr rfl
@[simp] theorem gb0:XK.run G (.geta 3 1 0 1 false) [.agg [.v x0, .v x1, .v x2],iv 0]=some (.v x0):=nr rfl
@[simp] theorem ga1:XK.run G (.geta 4 1 0 1 false) [.agg [.v x0, .v x1, .v x2, .v x3],iv 1]=some (.v x1):=nr rfl
@[simp] theorem UD:XK.run G (.rngi 4) [iv 1]=some (.tup []):=nr rfl
@[simp] theorem rm1:XK.run G (.rngi 3) [iv 1]=some (.tup []):=nr rfl
@[simp] theorem gb1:XK.run G (.geta 3 1 0 1 false) [.agg [.v x0, .v x1, .v x2],iv 1]=some (.v x1):=nr rfl
@[simp] theorem ga2:XK.run G (.geta 4 1 0 1 false) [.agg [.v x0, .v x1, .v x2, .v x3],iv 2]=some (.v x2):=nr rfl
@[simp] theorem UE:XK.run G (.rngi 4) [iv 2]=some (.tup []):=nr rfl
@[simp] theorem rm2:XK.run G (.rngi 3) [iv 2]=some (.tup []):=nr rfl
@[simp] theorem gb2:XK.run G (.geta 3 1 0 1 false) [.agg [.v x0, .v x1, .v x2],iv 2]=some (.v x2):=nr rfl
@[simp] theorem ga3:XK.run G (.geta 4 1 0 1 false) [.agg [.v x0, .v x1, .v x2, .v x3],iv 3]=some (.v x3):=nr rfl
@[simp] theorem rn3:XK.run G (.rngi 4) [iv 3]=some (.tup []):=nr rfl
end
def awL:D:= .list [[iv 0],[iv 30],[iv 40],[iv 50],[iv 60],[iv 70],[iv 100]]
theorem Hm{G:FP}{i:Int}(h1:0≤i)(h2:i<7):XK.run G (.pk (.idx 0 1)) [awL,iv i]=some (.lptr [iv (KW i)]):=by
 have:i=0∨i=1∨i=2∨i=3∨i=4∨i=5∨i=6:=by omega
 rcases this with rfl|rfl|rfl|rfl|rfl|rfl|rfl<;>rfl
set_option maxHeartbeats 2000000 in
theorem l41 (hF : Fr H) (x : Sm) (hx : x.ok = true) : GK H 41 [.agg x.cells] = some (.agg x.en.cells) := by
  simp only [Sm.ok, Az] at hx
  obtain ⟨⟨⟨⟨⟨⟨⟨⟨⟨⟨⟨⟨⟨gk, gf⟩, ga⟩, g0⟩, g1⟩, g2⟩, g3⟩, q0⟩, q1⟩, q2⟩, q3⟩, v0⟩, v1⟩, v2⟩ := hx
  have k79 : ∀ b t, u8 b = true → u8 t = true → XK.run (GK H) (.call false 79) [uv b, uv t] = some (.agg (oc b t).cells) := fun b t h1 h2 => ag (l79 hF b t h1 h2) rfl rfl
  have m0 := k79 _ _ g0 q0
  have m1 := k79 _ _ g1 q1
  have m2 := k79 _ _ g2 q2
  have m3 := k79 _ _ g3 q3
  have hk := cP gk
  have hf := cP gf
  have ek : x.k.tmod 5 = x.k % 5 := tm hk.1
  have ef : x.f.tmod 4 = x.f % 4 := tm hf.1
  refine af hF ZD ?_
  unfold UR
  generalize hz0 : Ei = z0
  generalize hz1 : sL = z1
  conv => enter [1, 3]; cbv
  subst hz0
  subst hz1
  generalize N2 : sM = ahw
  conv in Ei => unfold Ei; rw [N2]; cbv
  subst N2
  conv in sL => unfold sL; cbv
  conv in sM => unfold sM; cbv
  unfold Sm.en
  by_cases c1 : x.k % 5 = 1
  · simp [ek, ef, c1, m0]
    rfl
  · by_cases c3 : x.k % 5 = 3
    · simp [ek, ef, c1, c3, m0, m1]
      rfl
    · by_cases c2 : x.k % 5 = 2
      · have hw0 := cP v0
        have hw1 := cP v1
        have hw2 := cP v2
        have e0 : (IntKind.i64.wrap x.w0).tmod 3 = x.w0 % 3 := by rw [wr (by omega) (by omega), tm (by omega)]
        have hr : x.w0 % 3 = 0 ∨ x.w0 % 3 = 1 ∨ x.w0 % 3 = 2 := by omega
        rcases hr with hr | hr | hr
        · have ea : IntKind.i64.wrap (1 + (IntKind.i64.wrap x.w0).tmod 99) = 1 + x.w0 % 99 := by rw [wr (z := x.w0) (by omega) (by omega), tm (by omega), wr (by omega) (by omega)]
          have eb : IntKind.i64.wrap (100 - (1 + x.w0 % 99)) = 100 - (1 + x.w0 % 99) := wr (by omega) (by omega)
          have h99 : IntKind.i64.wrap 99 = 99 := rfl
          simp [ek, ef, c3, c2, e0, hr]
          rw [lp0]
          simp [m0, ea, eb, h99]
          rw [lp1]
          simp [m1, ea, eb, h99]
          rw [lp2]
          simp
          rfl
        · have ea : IntKind.i64.wrap (1 + (IntKind.i64.wrap x.w0).tmod 98) = 1 + x.w0 % 98 := by rw [wr (z := x.w0) (by omega) (by omega), tm (by omega), wr (by omega) (by omega)]
          have eb : IntKind.i64.wrap (100 - (1 + x.w0 % 98)) = 100 - (1 + x.w0 % 98) := wr (by omega) (by omega)
          have h98 : IntKind.i64.wrap 98 = 98 := rfl
          have b1 : 1 ≤ 1 + x.w0 % 98 ∧ 1 + x.w0 % 98 ≤ 98 := by omega
          simp [ek, ef, c3, c2, e0, hr]
          rw [lp0]
          simp [m0, ea, eb, h98]
          generalize 1 + x.w0 % 98 = W0 at b1
          have ec : IntKind.i64.wrap (100 - W0 - 1) = 100 - W0 - 1 := wr (by omega) (by omega)
          have hne : ¬ 100 - W0 - 1 = 0 := by omega
          have ed : IntKind.i64.wrap (1 + (IntKind.i64.wrap x.w1).tmod (100 - W0 - 1)) = 1 + x.w1 % (100 - W0 - 1) := by
            have := Int.emod_nonneg x.w1 (b := 100 - W0 - 1) (by omega)
            have := Int.emod_lt_of_pos x.w1 (b := 100 - W0 - 1) (by omega)
            rw [wr (z := x.w1) (by omega) (by omega), tm (by omega), wr (by omega) (by omega)]
          rw [lp1]
          simp [m1, ec, hne, ed]
          have b2 : 1 ≤ 1 + x.w1 % (100 - W0 - 1) ∧ 1 + x.w1 % (100 - W0 - 1) ≤ 100 - W0 - 1 := by
            have := Int.emod_nonneg x.w1 (b := 100 - W0 - 1) (by omega)
            have := Int.emod_lt_of_pos x.w1 (b := 100 - W0 - 1) (by omega)
            omega
          generalize 1 + x.w1 % (100 - W0 - 1) = W1 at b2
          have ef2 : IntKind.i64.wrap (100 - W0 - W1) = 100 - W0 - W1 := wr (by omega) (by omega)
          have eg : IntKind.i64.wrap (100 - W0 - W1 - (100 - W0 - W1)) = 0 := by rw [Int.sub_self]; rfl
          rw [lp2]
          simp [m2, ef2]
          rw [lp3]
          simp
          rfl
        · have ea : IntKind.i64.wrap (1 + (IntKind.i64.wrap x.w0).tmod 97) = 1 + x.w0 % 97 := by rw [wr (z := x.w0) (by omega) (by omega), tm (by omega), wr (by omega) (by omega)]
          have eb : IntKind.i64.wrap (100 - (1 + x.w0 % 97)) = 100 - (1 + x.w0 % 97) := wr (by omega) (by omega)
          have h97 : IntKind.i64.wrap 97 = 97 := rfl
          have b1 : 1 ≤ 1 + x.w0 % 97 ∧ 1 + x.w0 % 97 ≤ 97 := by omega
          simp [ek, ef, c3, c2, e0, hr]
          rw [lp0]
          simp [m0, ea, eb, h97]
          generalize 1 + x.w0 % 97 = W0 at b1
          have ec : IntKind.i64.wrap (100 - W0 - 2) = 100 - W0 - 2 := wr (by omega) (by omega)
          have hne : ¬ 100 - W0 - 2 = 0 := by omega
          have ed : IntKind.i64.wrap (1 + (IntKind.i64.wrap x.w1).tmod (100 - W0 - 2)) = 1 + x.w1 % (100 - W0 - 2) := by
            have := Int.emod_nonneg x.w1 (b := 100 - W0 - 2) (by omega)
            have := Int.emod_lt_of_pos x.w1 (b := 100 - W0 - 2) (by omega)
            rw [wr (z := x.w1) (by omega) (by omega), tm (by omega), wr (by omega) (by omega)]
          have b2 : 1 ≤ 1 + x.w1 % (100 - W0 - 2) ∧ 1 + x.w1 % (100 - W0 - 2) ≤ 100 - W0 - 2 := by
            have := Int.emod_nonneg x.w1 (b := 100 - W0 - 2) (by omega)
            have := Int.emod_lt_of_pos x.w1 (b := 100 - W0 - 2) (by omega)
            omega
          rw [lp1]
          simp [m1, ec, hne, ed]
          generalize 1 + x.w1 % (100 - W0 - 2) = W1 at b2
          have ef2 : IntKind.i64.wrap (100 - W0 - W1) = 100 - W0 - W1 := wr (by omega) (by omega)
          have ec2 : IntKind.i64.wrap (100 - W0 - W1 - 1) = 100 - W0 - W1 - 1 := wr (by omega) (by omega)
          have Tb : ¬ 100 - W0 - W1 - 1 = 0 := by omega
          have ed2 : IntKind.i64.wrap (1 + (IntKind.i64.wrap x.w2).tmod (100 - W0 - W1 - 1)) = 1 + x.w2 % (100 - W0 - W1 - 1) := by
            have := Int.emod_nonneg x.w2 (b := 100 - W0 - W1 - 1) (by omega)
            have := Int.emod_lt_of_pos x.w2 (b := 100 - W0 - W1 - 1) (by omega)
            rw [wr (z := x.w2) (by omega) (by omega), tm (by omega), wr (by omega) (by omega)]
          have b3 : 1 ≤ 1 + x.w2 % (100 - W0 - W1 - 1) ∧ 1 + x.w2 % (100 - W0 - W1 - 1) ≤ 100 - W0 - W1 - 1 := by
            have := Int.emod_nonneg x.w2 (b := 100 - W0 - W1 - 1) (by omega)
            have := Int.emod_lt_of_pos x.w2 (b := 100 - W0 - W1 - 1) (by omega)
            omega
          rw [lp2]
          simp [m2, ef2, ec2, Tb, ed2]
          generalize 1 + x.w2 % (100 - W0 - W1 - 1) = W2 at b3
          have ef3 : IntKind.i64.wrap (100 - W0 - W1 - W2) = 100 - W0 - W1 - W2 := wr (by omega) (by omega)
          rw [lp3]
          simp [m3, ef3]
          rw [lp4]
          simp
          rfl
      · by_cases c4 : x.k % 5 = 4
        · have hga := cP ga
          have e7 : (IntKind.i64.wrap x.a).tmod 7 = x.a % 7 := by rw [wr (by omega) (by omega), tm (by omega)]
          have e8 : (IntKind.i64.wrap ((IntKind.i64.wrap x.a).tdiv 7)).tmod 7 = x.a / 7 % 7 := by rw [wr (z := x.a) (by omega) (by omega), td (by omega), wr (by omega) (by omega), tm (by omega)]
          have kl : XK.run (GK H) (.lit 1 7 [iv 0, iv 0, iv 0, iv 0, iv 0, iv 0, iv 0] [(0, 1), (1, 1), (2, 1), (3, 1), (4, 1), (5, 1), (6, 1)]) [iv 0, iv 30, iv 40, iv 50, iv 60, iv 70, iv 100] = some awL := rfl
          have ka := Hm (G := GK H) (i := x.a % 7) (by omega) (by omega)
          have kb := Hm (G := GK H) (i := x.a / 7 % 7) (by omega) (by omega)
          have kc : ∀ z, XK.run (GK H) (.cell 0 1) [iv z] = some (iv z) := fun z => rfl
          simp [ek, ef, c1, c3, c2, c4, e7, e8, kl, ka, kb, kc]
          rfl
        · simp [ek, ef, c1, c3, c2, c4]
          rfl
end Ty
end
section
namespace Ty
variable {H : FP}
structure It where
 at':Int
 vs:Int
 tu:Bool
 x:Sm
abbrev G4(z:Int):D:= .v (.int .u16 z)
def It.cells(i:It):List D:=G4 i.at'::uv i.vs::bv i.tu::i.x.cells
def It.ok(i:It):Bool:=decide (0≤i.at')&&decide (i.at'<65536)&&u8 i.vs&&i.x.ok
def It.en(i:It)(k:Ky):En:=
 let e:=i.x.en
 {e with rd:=k.rd,tb:=k.tb,bd:=k.bd,vs:=1+i.vs%9,fl:=if e.kd=0∨e.kd=4 then 0 else e.fl,tu:=if e.kd=0∨e.kd=4 then e.tu else i.tu}
def fE(ks:List Ky)(l:List It):List En:=(l.take 40).filterMap fun i=>(ks[(i.at'%(ks.length:Int)).toNat]?).map i.en
section
variable {G : FP} {i : It}
@[simp] theorem It.c0:XK.run G (.cell 0 17) [.agg i.cells]=some (G4 i.at'):=nr rfl
@[simp] theorem It.c1:XK.run G (.cell 1 17) [.agg i.cells]=some (uv i.vs):=nr rfl
@[simp] theorem It.c2:XK.run G (.cell 2 17) [.agg i.cells]=some (bv i.tu):=nr rfl
@[simp] theorem It.c3:XK.run G (.cell 3 17) [.agg i.cells]=some (uv i.x.k):=nr rfl
@[simp] theorem It.c4:XK.run G (.cell 4 17) [.agg i.cells]=some (uv i.x.f):=nr rfl
@[simp] theorem It.c5:XK.run G (.cell 5 17) [.agg i.cells]=some (uv i.x.a):=nr rfl
@[simp] theorem It.c6:XK.run G (.cell 6 17) [.agg i.cells]=some (uv i.x.b0):=nr rfl
@[simp] theorem It.c7:XK.run G (.cell 7 17) [.agg i.cells]=some (uv i.x.b1):=nr rfl
@[simp] theorem It.c8:XK.run G (.cell 8 17) [.agg i.cells]=some (uv i.x.b2):=nr rfl
@[simp] theorem It.c9:XK.run G (.cell 9 17) [.agg i.cells]=some (uv i.x.b3):=nr rfl
@[simp] theorem It.c10:XK.run G (.cell 10 17) [.agg i.cells]=some (uv i.x.t0):=nr rfl
@[simp] theorem It.c11:XK.run G (.cell 11 17) [.agg i.cells]=some (uv i.x.t1):=nr rfl
@[simp] theorem It.c12:XK.run G (.cell 12 17) [.agg i.cells]=some (uv i.x.t2):=nr rfl
@[simp] theorem It.c13:XK.run G (.cell 13 17) [.agg i.cells]=some (uv i.x.t3):=nr rfl
@[simp] theorem It.c14:XK.run G (.cell 14 17) [.agg i.cells]=some (uv i.x.w0):=nr rfl
@[simp] theorem It.c15:XK.run G (.cell 15 17) [.agg i.cells]=some (uv i.x.w1):=nr rfl
@[simp] theorem It.c16:XK.run G (.cell 16 17) [.agg i.cells]=some (uv i.x.w2):=nr rfl
@[simp] theorem It.L4:XK.run G (.pk (.load 17 true)) [.lptr i.cells]=some (.agg i.cells):=nr rfl
@[simp] theorem It.len:i.cells.length=17:=nr rfl
@[simp] theorem It.bq:XK.run G .bq [.agg i.cells]=some (.agg i.cells):=nr rfl
@[simp] theorem It.aF:(D.agg i.cells).aF=true:=nr rfl
def NK(n c m:Nat)(d:D):Option (List D):=if d.cells.length=n∧d.cells.all D.gK=true∧d.cells.all D.aM=true then some ((d.cells.drop c).take m)else none
theorem Sj{E:List D}{v n c m:Nat}(hm:0<m)(hc:c+m≤n):X.ba G E (cs v n c m)=ob (E[v]?) (NK n c m):=by
 cases hv:E[v]? with
 |none=>
  obtain⟨k,rfl⟩: ∃k,m=k+1:=⟨m-1,by omega⟩;rw[cs,List.range_succ_eq_map,List.map_cons,eL,Hc,eL,VQ,hv];rfl
 |some d=>
  rw[GC];unfold NK;split
  ·rename_i hd
   have key: ∀l:List Nat,(∀j∈l,j<m)→X.ba G E (l.map fun j=>X.mk (.cell (c+j) n) [.t v])=some (l.map fun j=>d.cells.getD (c+j) .nil):=fun l hl=>by
    induction l with
    |nil=>rfl
    |cons j r ih=>
     have hj:=hl j (List.mem_cons_self ..)
     have h2:X.ev G E (X.mk (.cell (c+j) n) [.t v])=some (d.cells.getD (c+j) .nil):=by
      rw[Hc,eL,VQ,hv];simp only[GC,Ac];show(if d.cells.length=n∧d.cells.all D.gK=true∧d.cells.all D.aM=true then d.cells[c+j]? else none)=_;rw[if_pos hd,List.getD_eq_getElem?_getD,Ez (by omega)];rfl
     rw[List.map_cons,eL,h2,ih fun k hk=>hl k (Cz _ hk)];rfl
   rw[cs,key _ fun j hj=>List.mem_range.1 hj];congr 1;apply List.ext_getElem
   ·simp;omega
   ·intro i h1 h2;have h3:c+i<d.cells.length:=by simp at h1;omega
    simp[List.getD_eq_getElem?_getD,h3]
  ·rename_i hd;obtain⟨k,rfl⟩: ∃k,m=k+1:=⟨m-1,by omega⟩;rw[cs,List.range_succ_eq_map,List.map_cons,eL,Hc,eL,VQ,hv];simp only[GC,Ac];show ob (if d.cells.length=n∧d.cells.all D.gK=true∧d.cells.all D.aM=true then d.cells[c+0]? else none) _=none;rw[if_neg hd];rfl
theorem ε{a b:Int}:XK.run G (.pk (.mx2 false)) [iv a,iv b]=some (iv (if b<a then b else a)):=nr rfl
theorem aeN{l:List It}{n:Nat}(h:n≤l.length):XK.run G (.pk (.slc 17 false true false)) [.list (l.map It.cells),iv n]=some (.list ((l.take n).map It.cells)):=by
 have h1: ¬ ∃x,x∈l.map It.cells∧ ¬x.length=17:=fun⟨x,hx,hn⟩=>by obtain⟨e,_,rfl⟩:=List.mem_map.1 hx;exact hn rfl
 rw[List.map_take];generalize hL:l.map It.cells=L at h1;have h2:n≤L.length:=by rw[←hL];simpa using h
 simp[XK.run,PK.run,oN,e_,b7,tQ,h1,h2,D.aF]
end
set_option maxHeartbeats 2000000 in
theorem l14 (hF : Fr H) (s : Ss) (ks : List Ky) (l : List It) (hk : ks ≠ []) (hk2 : ks.length < 65536) (hl : ∀ i ∈ l, i.ok = true) (h21 : XK.run (GK H) (.call false 21) [.agg s.cells] = some (.tup [.list (ks.map Ky.cells), iv 0])) :
    XK.run (GK H) (.call false 14) [.agg s.cells, .list (l.map It.cells)] = some (.list ((fE ks l).map En.cells)) := by
  have hb : ∀ x, (bY x (.list ((fE ks l).map En.cells))).bare = .list ((fE ks l).map En.cells) := fun x => by
    unfold bY; split
    · rfl
    · split <;> rfl
  refine jA (r := bY (.mk .own [.t 7]) (.list ((fE ks l).map En.cells))) (af hF YC ?_) (hb _) rfl
  unfold UN
  generalize hz0 : Ed = z0
  conv => enter [1, 3]; cbv
  subst hz0
  conv in Ed => unfold Ed; cbv
  obtain ⟨n, hn, hn2⟩ : ∃ n : Nat, (if (40 : Int) < l.length then 40 else (l.length : Int)) = n ∧ n = min l.length 40 := ⟨min l.length 40, by split <;> omega, rfl⟩
  have k1 : XK.run (GK H) (.pk (.mx2 false)) [iv (l.length : Int), iv 40] = some (iv (n : Int)) := by rw [ε, hn]
  have k2 := aeN (G := GK H) (l := l) (n := n) (by omega)
  have hl2 : ∀ i ∈ l.take n, i.ok = true := fun i hi => hl i (List.mem_of_mem_take hi)
  have acZ : fE ks l = (l.take n).filterMap fun i => (ks[(i.at' % (ks.length : Int)).toNat]?).map i.en := by
    unfold fE
    rw [hn2]
    congr 1
    by_cases h : l.length ≤ 40
    · rw [List.take_of_length_le h, List.take_of_length_le (by omega)]
    · rw [Nat.min_eq_right (by omega)]
  have hl3 : (l.take n).length ≤ 40 := by simp; omega
  rw [acZ]
  generalize l.take n = m at k2 hl2 hl3
  have agd : 0 < ks.length := List.length_pos_iff.2 hk
  simp [k1, k2, h21]
  refine aI (n := m.length) (fun j => [iv (j : Int), .list (((m.take j).filterMap fun i => (ks[(i.at' % (ks.length : Int)).toNat]?).map i.en).map En.cells)]) (bY (.mk .own [.t 7]) (.list ((m.filterMap fun i => (ks[(i.at' % (ks.length : Int)).toNat]?).map i.en).map En.cells))) (by omega) ?_
  intro rec j hj ih
  cases h3 : m[j]? with
  | none =>
    have l3 := List.getElem?_eq_none_iff.1 h3
    have l3' : ¬ (j : Int) < m.length := by omega
    rw [List.take_of_length_le l3]
    generalize (m.filterMap fun i => (ks[(i.at' % (ks.length : Int)).toNat]?).map i.en) = R
    simp [l3']
  | some i =>
    have l3 := (Gz.1 h3).1
    have e3 := (Gz.1 h3).2
    have hi := hl2 i (Lz h3)
    have ih := ih (by omega)
    have hlen : ((m.take j).filterMap fun i => (ks[(i.at' % (ks.length : Int)).toNat]?).map i.en).length < 65536 := by
      have := List.length_filterMap_le (fun i : It => (ks[(i.at' % (ks.length : Int)).toNat]?).map i.en) (m.take j)
      simp at this ⊢; omega
    simp only [It.ok, Az, decide_eq_true_eq] at hi
    obtain ⟨⟨⟨ha, ha2⟩, hv⟩, hx⟩ := hi
    have hv := cP hv
    have hm1 := Int.emod_nonneg i.at' (b := (ks.length : Int)) (by omega)
    have hm2 := Int.emod_lt_of_pos i.at' (b := (ks.length : Int)) (by omega)
    obtain ⟨q, hq⟩ : ∃ q : Nat, i.at' % (ks.length : Int) = q := ⟨(i.at' % (ks.length : Int)).toNat, by omega⟩
    have hql : q < ks.length := by omega
    have hkq : ks[q]? = some ks[q] := Ez hql
    generalize hkk : ks[q] = k at hkq
    have e1 : (IntKind.i64.wrap i.at').tmod (ks.length : Int) = (q : Int) := by rw [wr (by omega) (by omega), tm ha, hq]
    have e2 : IntKind.i64.wrap (1 + (IntKind.i64.wrap i.vs).tmod 9) = 1 + i.vs % 9 := by rw [wr (z := i.vs) (by omega) (by omega), tm (by omega), wr (by omega) (by omega)]
    have k41 : XK.run (GK H) (.call false 41) [.agg i.x.cells] = some (.agg i.x.en.cells) := ag (l41 hF i.x hx) rfl rfl
    rw [List.take_add_one, h3, Option.toList_some, List.filterMap_append] at ih
    simp only [List.filterMap_cons, List.filterMap_nil, hq, Int.toNat_natCast, hkq, Pz] at ih
    generalize ((m.take j).filterMap fun i => (ks[(i.at' % (ks.length : Int)).toNat]?).map i.en) = out at ih hlen
    have kap := RY (G := GK H) (l := out) (e := i.en k) hlen
    unfold Sm.cells at k41
    have kne : ¬ (ks.length : Int) = 0 := by omega
    have XQ : ¬ ks = [] := hk
    have wj : IntKind.i64.wrap ((j : Int) + 1) = (j : Int) + 1 := wr (by omega) (by omega)
    by_cases hkd : i.x.en.kd = 0 ∨ i.x.en.kd = 4
    · have hen : (D.agg (i.en k).cells) = .agg [iv k.rd, iv k.tb, iv k.bd, iv (1 + i.vs % 9), uv i.x.en.kd, uv 0, bv i.x.en.tu, uv i.x.en.o0.lv, uv i.x.en.o0.dn, uv i.x.en.o0.rk, uv i.x.en.o0.dc, iv i.x.en.o0.tr, iv i.x.en.o0.wt, uv i.x.en.o1.lv, uv i.x.en.o1.dn, uv i.x.en.o1.rk, uv i.x.en.o1.dc, iv i.x.en.o1.tr, iv i.x.en.o1.wt, uv i.x.en.o2.lv, uv i.x.en.o2.dn, uv i.x.en.o2.rk, uv i.x.en.o2.dc, iv i.x.en.o2.tr, iv i.x.en.o2.wt, uv i.x.en.o3.lv, uv i.x.en.o3.dn, uv i.x.en.o3.rk, uv i.x.en.o3.dc, iv i.x.en.o3.tr, iv i.x.en.o3.wt, iv i.x.en.a0, iv i.x.en.a1] := by
        show D.agg (It.en i k).cells = _
        unfold It.en
        simp only [hkd, if_true]
        rfl
      have kl := Yg (G := GK H) (e := i.en k)
      rw [hen] at kl
      simp [l3, e3, e1, e2, k41, kne, XQ, hql, hkk, hkd, kl, kap, wj]
      simpa using ih
    · have hen : (D.agg (i.en k).cells) = .agg [iv k.rd, iv k.tb, iv k.bd, iv (1 + i.vs % 9), uv i.x.en.kd, uv i.x.en.fl, bv i.tu, uv i.x.en.o0.lv, uv i.x.en.o0.dn, uv i.x.en.o0.rk, uv i.x.en.o0.dc, iv i.x.en.o0.tr, iv i.x.en.o0.wt, uv i.x.en.o1.lv, uv i.x.en.o1.dn, uv i.x.en.o1.rk, uv i.x.en.o1.dc, iv i.x.en.o1.tr, iv i.x.en.o1.wt, uv i.x.en.o2.lv, uv i.x.en.o2.dn, uv i.x.en.o2.rk, uv i.x.en.o2.dc, iv i.x.en.o2.tr, iv i.x.en.o2.wt, uv i.x.en.o3.lv, uv i.x.en.o3.dn, uv i.x.en.o3.rk, uv i.x.en.o3.dc, iv i.x.en.o3.tr, iv i.x.en.o3.wt, iv i.x.en.a0, iv i.x.en.a1] := by
        show D.agg (It.en i k).cells = _
        unfold It.en
        simp only [hkd, if_false]
        rfl
      have kl := Yg (G := GK H) (e := i.en k)
      rw [hen] at kl
      simp [l3, e3, e1, e2, k41, kne, XQ, hql, hkk, hkd, kl, kap, wj]
      simpa using ih
end Ty
end
section
open Go.RowKit Go.Sort
namespace Ty
variable {H : FP}
theorem Vk{o:Ou}{w:Int}(h:o.okB=true):(o.oS w).okB=true:=h
theorem ϑ{x:Sm}(hx:x.ok=true):x.en.okB=true:=by
 simp only[Sm.ok,Az]at hx;obtain⟨⟨⟨⟨⟨⟨⟨⟨⟨⟨⟨⟨⟨gk,gf⟩,ga⟩,g0⟩,g1⟩,g2⟩,g3⟩,q0⟩,q1⟩,q2⟩,q3⟩,v0⟩,v1⟩,v2⟩:=hx;have hk:=cP gk;have hf:=cP gf;have e1:u8 (x.k%5)=true:=vD (by omega) (by omega);have e2:u8 (x.f%4)=true:=vD (by omega) (by omega);have p0:=E9 x.b0 x.t0 g0;have p1:=E9 x.b1 x.t1 g1;have p2:=E9 x.b2 x.t2 g2;have p3:=E9 x.b3 x.t3 g3;have z:zO.okB=true:=rfl;unfold Sm.en;simp only
 repeat' split
 all_goals simp[En.okB,e1,e2,p0,p1,p2,p3,z,Vk]
theorem XI{i:It}{k:Ky}(h:i.ok=true):(i.en k).okB=true:=by
 simp only[It.ok,Az]at h;have h2:=ϑ h.2;simp only[En.okB,Az]at h2;unfold It.en;simp only[En.okB,Az];refine⟨⟨⟨⟨⟨h2.1.1.1.1.1, ?_⟩,h2.1.1.1.2⟩,h2.1.1.2⟩,h2.1.2⟩,h2.2⟩;split
 ·rfl
 ·exact h2.1.1.1.1.2
theorem H2(ks:List Ky)(l:List It):(fE ks l).length≤40:=by
 unfold fE;refine Nat.le_trans (List.length_filterMap_le ..) ?_;simp;omega
noncomputable def setOf(l:List En):List En:=yk (bV xm l)
theorem GW(l:List En):(setOf l).length≤l.length:=by
 have h1:=(Ld (bV xm l)).length_le;have h2:=(bW xm l).length_eq;unfold setOf;omega
theorem i15{fl:Bool}(hH:Hd H)(l:List En)(hok: ∀e∈l,e.okB=true)(hl:l.length<9999):XK.run (GK H) (.call fl 15) [.list (l.map En.cells)]=some (.list ((setOf l).map En.cells)):=by
 by_cases h0:l= []
 ·subst h0;exact eI (dC hH.k15) rfl
 ·exact eI (g15 hH l hok hl h0) rfl
theorem vh(l:List En)(hok: ∀e∈l,e.okB=true):mN (setOf l)=true:=by
 unfold setOf;rw[HX];exact ED _ (fun e he=>hok e ((bW xm l).mem_iff.1 he)) (lM aeQ l)
def IV(s:Ss)(k:Ky):Bool:=match cW k.rd k.tb s.rows with
 |none=>false
 |some i=>match s.rows[i]? with
  |none=>false
  |some r=>decide (0<r.ns)&&(decide (0<r.ew)&&(decide (1≤s.bs)&&(decide (1≤k.bd)&&(decide (k.bd≤128)&&decide (IntKind.i64.wrap ((IntKind.i64.wrap (k.bd-1)).tdiv s.bs)=r.st)))))
def rJ(s:Ss):Bool:=s.keys.all (IV s)&&(s.rows.all (fun r=>Nat.ble (s.rows.filter fun q=>decide (q.st=r.st)).length 24)&&decide (s.ss*s.bs≤128))
def JD(r:Rw):Bool:=decide (0<r.ns)&&decide (0<r.ew)
def RX(r q:Rw):Bool:= !Nat.beq r.st.toNat q.st.toNat||(!JD r||(!JD q||(!Nat.beq r.ns.toNat q.ns.toNat&&(!Nat.beq r.ns.toNat q.ew.toNat&&(!Nat.beq r.ew.toNat q.ns.toNat&& !Nat.beq r.ew.toNat q.ew.toNat)))))
def Φ(r:Rw):Bool:= !JD r|| !Nat.beq r.ns.toNat r.ew.toNat
def Iu:List Rw→Bool
 | []=>true
 |r::t=>Φ r&&(t.all (RX r)&&Iu t)
structure jj(H:FP)(s:Ss):Prop where
 len:s.rows.length<9999
 ap:hD s.rows=true
 ok:GK H 54 [.agg s.cells]=some (iv 0)
 bad: ∀b:Int,b≤0→GK H 54 [.agg ({s with bs:=b}:Ss).cells]=some (iv 282)
 nat: ∃b:Nat,s.bs=b∧b<9999
 ne:s.keys≠ []
 ln:s.keys.length<65536
 mul:0≤s.ss*s.bs∧s.ss*s.bs<10000
 od:rJ s=true
 pd:Iu s.rows=true
 kb:s.keys.length<9999∧ ∀k∈s.keys,k.bd≤s.ss*s.bs
def zE:En:=⟨0,0,0,0,0,0,false,⟨0,0,0,0,0,0⟩,⟨0,0,0,0,0,0⟩,⟨0,0,0,0,0,0⟩,⟨0,0,0,0,0,0⟩,0,0⟩
section
variable {G : FP}
end
section
variable {G : FP} {E : List D}
end
end Ty
end
section
open Go.RowKit Go.Sort
namespace Ty
variable {H : FP}
structure Mv where
 tb:Int
 rs:Int
 ss:Int
 cp:Int
 wn:Int
 rows:List Rw
def Mv.cells(m:Mv):List D:= [iv m.tb,iv m.rs,iv m.ss,iv m.cp,iv m.wn, .list (m.rows.map Rw.cells)]
def Mv.MS(m:Mv)(b:Int):Ss:=⟨m.tb,m.rs,m.ss,m.cp,m.wn,m.rows,b⟩
def Mk(H:FP)(f:Nat)(ds:List D):Prop:= ∃m:Mv,XK.run (GK H) (.call false f) ds=some (.tup [.agg m.cells,iv 0])∧ ∀b:Int,(b=1∨b=2)→jj H (m.MS b)
def Vw(H:FP)(f:Nat)(ds:List D):Prop:= ∃m:Mv,XK.run (GK H) (.call false f) ds=some (.agg m.cells)∧ ∀b:Int,(b=1∨b=2)→jj H (m.MS b)
structure Mvs(H:FP):Prop where
 q22:XK.run (GK H) (.call false 166) [iv 2,uv 2]=some (.tup [iv 1,iv 0])
 m22: ∀n:Int,1≤n→n≤1→Mk H 168 [iv 2,iv n,uv 2]
 q42:XK.run (GK H) (.call false 166) [iv 4,uv 2]=some (.tup [iv 3,iv 0])
 m42: ∀n:Int,1≤n→n≤3→Mk H 168 [iv 4,iv n,uv 2]
 q23:XK.run (GK H) (.call false 166) [iv 2,uv 3]=some (.tup [iv 2,iv 0])
 m23: ∀n:Int,1≤n→n≤2→Mk H 168 [iv 2,iv n,uv 3]
 q43:XK.run (GK H) (.call false 166) [iv 4,uv 3]=some (.tup [iv 4,iv 0])
 m43: ∀n:Int,1≤n→n≤4→Mk H 168 [iv 4,iv n,uv 3]
 q31:XK.run (GK H) (.call false 166) [iv 3,uv 1]=some (.tup [iv 3,iv 0])
 m31: ∀n:Int,1≤n→n≤3→Mk H 168 [iv 3,iv n,uv 1]
 q51:XK.run (GK H) (.call false 166) [iv 5,uv 1]=some (.tup [iv 5,iv 0])
 T4: ∀n:Int,1≤n→n≤5→Mk H 168 [iv 5,iv n,uv 1]
 r5: ∀n:Int,1≤n→n≤5→Mk H 167 [iv 5,iv n]
 h2: ∀n:Int,1≤n→n≤3→Mk H 123 [iv 2,iv n]
 h3: ∀n:Int,1≤n→n≤5→Mk H 123 [iv 3,iv n]
 h4: ∀n:Int,1≤n→n≤7→Mk H 123 [iv 4,iv n]
 h5: ∀n:Int,1≤n→n≤9→Mk H 123 [iv 5,iv n]
section
variable {G : FP} {m : Mv}
@[simp] theorem Mv.c0:XK.run G (.cell 0 6) [.agg m.cells]=some (iv m.tb):=nr rfl
@[simp] theorem Mv.c1:XK.run G (.cell 1 6) [.agg m.cells]=some (iv m.rs):=nr rfl
@[simp] theorem Mv.c2:XK.run G (.cell 2 6) [.agg m.cells]=some (iv m.ss):=nr rfl
@[simp] theorem Mv.c3:XK.run G (.cell 3 6) [.agg m.cells]=some (iv m.cp):=nr rfl
@[simp] theorem Mv.c4:XK.run G (.cell 4 6) [.agg m.cells]=some (iv m.wn):=nr rfl
@[simp] theorem Mv.c5:XK.run G (.cell 5 6) [.agg m.cells]=some (.list (m.rows.map Rw.cells)):=nr rfl
@[simp] theorem Mv.e0{d:D}:XK.run G (.pk (.ext 0)) [.tup [.agg m.cells,d]]=some (.agg m.cells):=nr rfl
@[simp] theorem Mv.e1{v:Value}:XK.run G (.pk (.ext 1)) [.tup [.agg m.cells, .v v]]=some (.v v):=nr rfl
@[simp] theorem afn{a b:Value}:XK.run G (.pk (.ext 0)) [.tup [.v a, .v b]]=some (.v a):=nr rfl
@[simp] theorem afo{a b:Value}:XK.run G (.pk (.ext 1)) [.tup [.v a, .v b]]=some (.v b):=nr rfl
@[simp] theorem Mv.bq:XK.run G .bq [.agg m.cells]=some (.agg m.cells):=nr rfl
@[simp] theorem Mv.aF:(D.agg m.cells).aF=true:=nr rfl
@[simp] theorem af2{E:List D}{v:Nat}:X.ba G E (cs v 6 0 6)=ob (E[v]?) (NK 6 0 6):=Sj (by omega) (by omega)
@[simp] theorem afi:NK 6 0 6 (.agg m.cells)=some [iv m.tb,iv m.rs,iv m.ss,iv m.cp,iv m.wn, .list (m.rows.map Rw.cells)]:=nr rfl
theorem or_:XK.run G (.pk (.ibin .or)) [iv 2,iv 1]=some (iv 3)∧XK.run G (.pk (.ibin .or)) [iv 3,iv 1]=some (iv 3)∧XK.run G (.pk (.ibin .or)) [iv 4,iv 1]=some (iv 5)∧XK.run G (.pk (.ibin .or)) [iv 5,iv 1]=some (iv 5):=⟨rfl,rfl,rfl,rfl⟩
theorem an_:XK.run G (.pk (.ibin .andNot)) [iv 2,iv 1]=some (iv 2)∧XK.run G (.pk (.ibin .andNot)) [iv 3,iv 1]=some (iv 2)∧XK.run G (.pk (.ibin .andNot)) [iv 4,iv 1]=some (iv 4)∧XK.run G (.pk (.ibin .andNot)) [iv 5,iv 1]=some (iv 4):=⟨rfl,rfl,rfl,rfl⟩
theorem mx_{k:IntKind}{a b:Int}:XK.run G (.pk (.mx2 true)) [.v (.int k a), .v (.int k b)]=some (.v (.int k (if a<b then b else a))):=nr rfl
end
theorem Mv.all(m:Mv): ∀x,x∈m.cells→x.aM=true:=by simp[Mv.cells]
theorem Ss.all(s:Ss): ∀x,x∈s.cells→x.aM=true:=by simp[Ss.cells]
theorem qg{x:X}{xs:List D}:(bY x (.agg xs)).bare= .agg xs:=by
 unfold bY;split
 ·rfl
 ·split<;>rfl
abbrev xT:X:= .mk .agg [.mk .eA [.t 10], .mk .eA [.t 11], .mk .eA [.t 12], .mk .eA [.t 13], .mk .eA [.t 14], .mk .eA [.t 15]]
theorem ewL{r n:Int}(h:u8 r=true)(h1:0<n)(h2:n<99):IntKind.i64.wrap (1+(IntKind.i64.wrap r).tmod n)=1+r%n:=by
 have h:=cP h;have:=Int.emod_nonneg r (show n≠0 by omega);have:=Int.emod_lt_of_pos r h1;rw[wr (z:=r) (by omega) (by omega),tm h.1,wr (by omega) (by omega)]
theorem md{p:Int→Prop}{r d:Int}(hr:u8 r=true)(hd:0<d)(h: ∀n,1≤n→n≤d→p n):p (1+r%d):=by
 have:=Int.emod_nonneg r (show d≠0 by omega);have:=Int.emod_lt_of_pos r hd;exact h _ (by omega) (by omega)
theorem ets:(IntKind.i64.wrap (2+(IntKind.i64.wrap 0).tmod 23)=2∧IntKind.i64.wrap (2+(IntKind.i64.wrap 1).tmod 23)=3∧IntKind.i64.wrap (2+(IntKind.i64.wrap 2).tmod 23)=4∧IntKind.i64.wrap (2+(IntKind.i64.wrap 3).tmod 23)=5)∧IntKind.i64.wrap 2=2∧IntKind.i64.wrap 3=3∧IntKind.i64.wrap 4=4∧IntKind.i64.wrap 5=5:=by decide
theorem hU(hF:Fr H){f n:Nat}{t:FT}(ho:aN cx f n t){ds:List D}{m:Mv}{x:X}(hg: ∀b:Int,(b=1∨b=2)→jj H (m.MS b))(he:ae (GK H) 10000 t [] ds=some (bY x (.agg m.cells)))(hlt:f<1000000:=by decide)(h1:Ba.contains f=false:=by decide)(hl:ds.length=n:=by rfl)(hn:ds.all D.aF=true:=by rfl):Vw H f ds:=
 ⟨m,jA (af hF ho he hlt h1 hl hn) qg rfl,hg⟩
set_option maxHeartbeats 4000000 in
theorem adq(hF:Fr H)(hM:Mvs H){r:Int}(hr:u8 r=true): ∀t k:Int,(t=0∨t=1∨t=2∨t=3)→(k=0∨k=1∨k=2∨k=3)→Vw H 121 [uv t,uv r,uv k]:=by
 obtain⟨_,a31,b31⟩:=md hr (by decide) hM.m31;obtain⟨_,a22,b22⟩:=md hr (by decide) hM.m22;obtain⟨_,a23,b23⟩:=md hr (by decide) hM.m23;obtain⟨_,a51,b51⟩:=md hr (by decide) hM.T4;obtain⟨_,a42,b42⟩:=md hr (by decide) hM.m42;obtain⟨_,a43,b43⟩:=md hr (by decide) hM.m43;obtain⟨_,a5,b5⟩:=md hr (by decide) hM.r5;rw[show 1+r%1=1 by omega]at a22;have ew:=fun n=>ewL (n:=n) hr;have w1:=ew 1 (by decide) (by decide);have w2:=ew 2 (by decide) (by decide);have w3:=ew 3 (by decide) (by decide);have w4:=ew 4 (by decide) (by decide);have w5:=ew 5 (by decide) (by decide);clear ew;rintro t k (rfl|rfl|rfl|rfl) (rfl|rfl|rfl|rfl)
 iterate 2
  iterate 2
   refine hU hF mI (x:=xT) b31 ?_
   rotate_left
  refine hU hF mI (x:=xT) b22 ?_
  rotate_left
  refine hU hF mI (x:=xT) b23 ?_
  rotate_left
 iterate 2
  refine hU hF mI (x:=xT) b51 ?_
  rotate_left
 refine hU hF mI (x:=xT) b42 ?_
 rotate_left
 refine hU hF mI (x:=xT) b43 ?_
 rotate_left
 refine hU hF mI (x:=xT) b5 ?_
 rotate_left
 refine hU hF mI (x:=xT) b51 ?_
 rotate_left
 refine hU hF mI (x:=xT) b42 ?_
 rotate_left
 refine hU hF mI (x:=xT) b43 ?_
 rotate_left
 all_goals
  rw[aaT];simp[-bN,ets,or_,an_,mx_,hM.q31,hM.q22,hM.q23,hM.q51,hM.q42,hM.q43,w1,w2,w3,w4,w5,a31,a22,a23,a51,a42,a43,a5];rfl
theorem X_ (hF : Fr H) {t r k : Int} (hk : k = 0 ∨ k = 1 ∨ k = 2 ∨ k = 3) (h : Vw H 121 [uv t, uv r, uv k]) : Vw H 78 [uv t, uv r, uv k] := by
  obtain ⟨m, hm, hg⟩ := h
  refine hU hF Ug (x := .mk .bq [.t 5]) hg ?_
  rw [aaU]
  rcases hk with rfl | rfl | rfl | rfl <;> (simp [-bN, hm]; exact Mv.all m)
theorem E4(hF:Fr H){t0 t w d r:Int}(hr:u8 r=true)(hd:0<d∧d<99)(h: ∀n:Int,1≤n→n≤d→Mk H 123 [iv t,iv n])(et:IntKind.i64.wrap (2+(IntKind.i64.wrap t0).tmod 23)=t)(ev:IntKind.i64.wrap t=t)(e1:IntKind.i64.wrap (2*t)=w)(e2:IntKind.i64.wrap (w-1)=d):Vw H 78 [uv t0,uv r,uv 7]:=by
 obtain⟨m,hm,hg⟩:=md hr hd.1 h;refine hU hF Ug (x:= .mk .bq [.t 8]) hg ?_;rw[aaU];have ew:=ewL (n:=d) hr hd.1 hd.2;have d0: ¬d=0:=by omega
 simp[-bN,et,ev,e1,e2,ew,hm,d0];exact Mv.all m
theorem X'(hF:Fr H){n1 n2 n3 n4 a c kd:Int}(h4:u8 n4=true)(ha:n1.tmod 4=a)(hc:n3.tmod 5=c)(hx:XK.run (GK H) (.pk (.aix 5 1 false)) [.agg [uv 0,uv 1,uv 2,uv 3,uv 7],uv c]=some (uv kd))(hm:Vw H 78 [uv a,uv n2,uv kd]):
  ∃s:Ss,jj H s∧XK.run (GK H) (.call false 40) [uv n1,uv n2,uv n3,uv n4]=some (.agg s.cells):=by
 obtain⟨m,hm,hg⟩:=hm;have h:=cP h4;have e:IntKind.i64.wrap (1+(IntKind.i64.wrap n4).tmod 2)=1+n4%2:=by rw[wr (z:=n4) (by omega) (by omega),tm h.1,wr (by omega) (by omega)]
 refine⟨m.MS (1+n4%2),hg _ (by omega),jA (r:=bY (.mk .agg [.mk .eA [.mk (.cell 0 6) [.t 4]], .mk .eA [.mk (.cell 1 6) [.t 4]], .mk .eA [.mk (.cell 2 6) [.t 4]], .mk .eA [.mk (.cell 3 6) [.t 4]], .mk .eA [.mk (.cell 4 6) [.t 4]], .mk .eA [.mk (.cell 5 6) [.t 4]], .mk .eA [.t 5]]) (.agg (m.MS (1+n4%2)).cells)) (af hF ZC ?_) qg rfl⟩
 conv=>enter [1,3];cbv
 simp[-bN,ha,hc,hx,hm,e];rfl
theorem l13(hF:Fr H){n1 n2 n3 n4:Int}{s:Ss}(h:XK.run (GK H) (.call false 40) [uv n1,uv n2,uv n3,uv n4]=some (.agg s.cells)):XK.run (GK H) (.call false 13) [.agg [uv n1,uv n2,uv n3,uv n4]]=some (.agg s.cells):=by
 refine jA (r:=bY (.mk .bq [.t 1]) (.agg s.cells)) (af hF Yw ?_) qg rfl
 conv=>enter [1,3];cbv
 have c0:XK.run (GK H) (.cell 0 4) [.agg [uv n1,uv n2,uv n3,uv n4]]=some (uv n1):=rfl;have c1:XK.run (GK H) (.cell 1 4) [.agg [uv n1,uv n2,uv n3,uv n4]]=some (uv n2):=rfl;have c2:XK.run (GK H) (.cell 2 4) [.agg [uv n1,uv n2,uv n3,uv n4]]=some (uv n3):=rfl;have c3:XK.run (GK H) (.cell 3 4) [.agg [uv n1,uv n2,uv n3,uv n4]]=some (uv n4):=rfl;simp[-bN,c0,c1,c2,c3,h];exact Ss.all s
theorem Yt (hF : Fr H) (hM : Mvs H) {n1 n2 n3 n4 : Int} (h1 : u8 n1 = true) (h2 : u8 n2 = true) (h3 : u8 n3 = true) (h4 : u8 n4 = true) : ∃ s : Ss, jj H s ∧ XK.run (GK H) (.call false 13) [.agg [uv n1, uv n2, uv n3, uv n4]] = some (.agg s.cells) := by
  have r1 := cP h1
  have r3 := cP h3
  have e1 : n1.tmod 4 = n1 % 4 := tm r1.1
  have e3 : n3.tmod 5 = n3 % 5 := tm r3.1
  have c1 : n1 % 4 = 0 ∨ n1 % 4 = 1 ∨ n1 % 4 = 2 ∨ n1 % 4 = 3 := by omega
  have c3 : n3 % 5 = 0 ∨ n3 % 5 = 1 ∨ n3 % 5 = 2 ∨ n3 % 5 = 3 ∨ n3 % 5 = 4 := by omega
  have key : ∃ s : Ss, jj H s ∧ XK.run (GK H) (.call false 40) [uv n1, uv n2, uv n3, uv n4] = some (.agg s.cells) := by
    rcases c1 with c1 | c1 | c1 | c1 <;> rcases c3 with c3 | c3 | c3 | c3 | c3
    all_goals first
      | exact X' hF h4 (e1.trans c1) (e3.trans c3) rfl (X_ hF (by decide) (adq hF hM h2 _ _ (by decide) (by decide)))
      | exact X' hF h4 (e1.trans c1) (e3.trans c3) rfl (E4 (w := 4) hF h2 (by decide) hM.h2 (by decide) (by decide) (by decide) (by decide))
      | exact X' hF h4 (e1.trans c1) (e3.trans c3) rfl (E4 (w := 6) hF h2 (by decide) hM.h3 (by decide) (by decide) (by decide) (by decide))
      | exact X' hF h4 (e1.trans c1) (e3.trans c3) rfl (E4 (w := 8) hF h2 (by decide) hM.h4 (by decide) (by decide) (by decide) (by decide))
      | exact X' hF h4 (e1.trans c1) (e3.trans c3) rfl (E4 (w := 10) hF h2 (by decide) hM.h5 (by decide) (by decide) (by decide) (by decide))
  obtain ⟨s, hs, h⟩ := key
  exact ⟨s, hs, l13 hF h⟩
end Ty
end
section
namespace Ty
noncomputable abbrev PP:=Tryz.prog
def Wk : Array Field := #[{ name := "Tables", type := 5, offset := 0, embedded := false, tag := "", pkgPath := "", byteOffset := 0 }, { name := "Rounds", type := 5, offset := 1, embedded := false, tag := "", pkgPath := "", byteOffset := 1 }, { name := "Kind", type := 5, offset := 2, embedded := false, tag := "", pkgPath := "", byteOffset := 2 }, { name := "Boards", type := 5, offset := 3, embedded := false, tag := "", pkgPath := "", byteOffset := 3 }]
def NN : Array Field := #[{ name := "At", type := 61, offset := 0, embedded := false, tag := "", pkgPath := "", byteOffset := 0 }, { name := "Version", type := 5, offset := 1, embedded := false, tag := "", pkgPath := "", byteOffset := 2 }, { name := "Turned", type := 4, offset := 2, embedded := false, tag := "", pkgPath := "", byteOffset := 3 }, { name := "X", type := 110, offset := 3, embedded := false, tag := "", pkgPath := "", byteOffset := 4 }]
def NM : Array Field := #[{ name := "Kind", type := 5, offset := 0, embedded := false, tag := "", pkgPath := "", byteOffset := 0 }, { name := "Field", type := 5, offset := 1, embedded := false, tag := "", pkgPath := "", byteOffset := 1 }, { name := "Award", type := 5, offset := 2, embedded := false, tag := "", pkgPath := "", byteOffset := 2 }, { name := "Bids", type := 107, offset := 3, embedded := false, tag := "", pkgPath := "", byteOffset := 3 }, { name := "Tricks", type := 107, offset := 7, embedded := false, tag := "", pkgPath := "", byteOffset := 7 }, { name := "Weights", type := 108, offset := 11, embedded := false, tag := "", pkgPath := "", byteOffset := 11 }]
theorem u45:PP.underlying 45=some (.struct Wk):=by kernel_rfl
theorem u46:PP.underlying 46=some (.slice 112):=by kernel_rfl
theorem aeX:PP.underlying 112=some (.struct NN):=by kernel_rfl
theorem aeW:PP.underlying 110=some (.struct NM):=by kernel_rfl
theorem aa0:PP.underlying 107=some (.array 4 5):=by kernel_rfl
theorem aeV:PP.underlying 108=some (.array 3 5):=by kernel_rfl
theorem u5:PP.underlying 5=some (.int .u8):=by kernel_rfl
theorem u61:PP.underlying 61=some (.int .u16):=by kernel_rfl
theorem u4:PP.underlying 4=some .bool:=by kernel_rfl
theorem u3:PP.underlying 3=some (.int .i64):=by kernel_rfl
theorem c5:PP.cellsOf 5=1:=by kernel_rfl
theorem c4:PP.cellsOf 4=1:=by kernel_rfl
theorem c61:PP.cellsOf 61=1:=by kernel_rfl
theorem c45:PP.cellsOf 45=4:=by kernel_rfl
theorem V5:PP.cellsOf 110=14:=by kernel_rfl
theorem Sc:PP.cellsOf 107=4:=by kernel_rfl
theorem V4:PP.cellsOf 108=3:=by kernel_rfl
theorem abI:PP.cellsOf 112=17:=by kernel_rfl
variable {H : FP}
theorem Kg{n t:Nat}{fs:Array Field}{ds:List D}(hu:PP.underlying t=some (.struct fs))(h:bH PP (n+1) t ds):ds.length=PP.cellsOf t∧ ∀f∈fs.toList,bH PP n f.type ((ds.drop f.offset).take (PP.cellsOf f.type)):=by
 unfold bH at h;rw[hu]at h;exact h
theorem aaV{n t m e:Nat}{ds:List D}(hu:PP.underlying t=some (.array m e))(h:bH PP (n+1) t ds):ds.length=PP.cellsOf t∧ ∀i,i<m→bH PP n e ((ds.drop (i*PP.cellsOf e)).take (PP.cellsOf e)):=by
 unfold bH at h;rw[hu]at h;exact h
theorem RN{n t:Nat}{k:IntKind}{ds:List D}(hu:PP.underlying t=some (.int k))(h:bH PP (n+1) t ds): ∃z,ds= [.v (.int k z)]∧(Lit.int k z).wf=true:=by
 unfold bH at h;rw[hu]at h;exact h
theorem aaW{n t:Nat}{ds:List D}(hu:PP.underlying t=some .bool)(h:bH PP (n+1) t ds): ∃b,ds= [bv b]:=by
 unfold bH at h;rw[hu]at h;exact h
theorem aaY{n t e:Nat}{ds:List D}(hu:PP.underlying t=some (.slice e))(h:bH PP (n+1) t ds): ∃es,ds= [.list es]∧es.length≤maxLen∧ ∀c∈es,bH PP n e c:=by
 unfold bH at h;rw[hu]at h;exact h
theorem pY{n:Nat}{d:D}(h:bH PP (n+1) 5 [d]): ∃z,d=uv z∧u8 z=true:=by
 obtain⟨z,h1,h2⟩:=RN u5 h;simp only[List.cons.injEq,and_true]at h1;refine⟨z,h1, ?_⟩;simp[Lit.wf]at h2;have e1:IntKind.u8.min=0:=rfl;have e2:IntKind.u8.max=255:=rfl;rw[e1,e2]at h2;exact vD h2.1 (by omega)
theorem ad0{l:List D}(h:l.length=4): ∃a b c d,l= [a,b,c,d]:=by
 match l,h with
 | [a,b,c,d],_=>exact⟨a,b,c,d,rfl⟩
theorem U1{n:Nat}{ds:List D}(h:bH PP (n+2) 45 ds): ∃a b c d,ds= [uv a,uv b,uv c,uv d]∧u8 a=true∧u8 b=true∧u8 c=true∧u8 d=true:=by
 obtain⟨h1,h2⟩:=Kg u45 h;rw[c45]at h1;obtain⟨a,b,c,d,rfl⟩:=ad0 h1;have g: ∀i (f:Field),Wk.toList[i]?=some f→bH PP (n+1) f.type (([a,b,c,d].drop f.offset).take (PP.cellsOf f.type)):=fun i f hf=>h2 f (Lz hf);have g0:=g 0 _ rfl;have g1:=g 1 _ rfl;have g2:=g 2 _ rfl;have g3:=g 3 _ rfl;rw[show PP.cellsOf _=1 from c5]at g0 g1 g2 g3;obtain⟨z0,rfl,y0⟩:=pY g0;obtain⟨z1,rfl,y1⟩:=pY g1;obtain⟨z2,rfl,y2⟩:=pY g2;obtain⟨z3,rfl,y3⟩:=pY g3;exact⟨z0,z1,z2,z3,rfl,y0,y1,y2,y3⟩
theorem zQ{n t m:Nat}{ds:List D}(hu:PP.underlying t=some (.array m 5))(hc:PP.cellsOf t=m)(h:bH PP (n+2) t ds):ds.length=m∧ ∀(i:Nat) (d:D),ds[i]?=some d→ ∃z,d=uv z∧u8 z=true:=by
 obtain⟨h1,h2⟩:=aaV hu h;rw[hc]at h1;refine⟨h1,fun i d hd=> ?_⟩;have hi:i<m:=by rw[←h1];exact(Gz.1 hd).1
 have h3:=h2 i hi;rw[c5,Nat.mul_one]at h3
 have:(ds.drop i).take 1= [d]:=by
  rw[List.take_one,List.head?_drop,hd];rfl
 rw[this]at h3;exact pY h3
theorem aaZ{n:Nat}{ds:List D}(h:bH PP (n+3) 110 ds): ∃x:Sm,ds=x.cells∧x.ok=true:=by
 obtain⟨h1,h2⟩:=Kg aeW h;rw[V5]at h1;have g: ∀i (f:Field),NM.toList[i]?=some f→bH PP (n+2) f.type ((ds.drop f.offset).take (PP.cellsOf f.type)):=fun i f hf=>h2 f (Lz hf)
 match ds,h1 with
 | [a0,a1,a2,a3,a4,a5,a6,a7,a8,a9,a10,a11,a12,a13],_=>
  have g0:=g 0 _ rfl;have g1:=g 1 _ rfl;have g2:=g 2 _ rfl;have g3:=g 3 _ rfl;have g4:=g 4 _ rfl;have g5:=g 5 _ rfl;rw[show PP.cellsOf _=1 from c5]at g0 g1 g2;rw[show PP.cellsOf _=4 from Sc]at g3 g4;rw[show PP.cellsOf _=3 from V4]at g5;obtain⟨z0,rfl,y0⟩:=pY g0;obtain⟨z1,rfl,y1⟩:=pY g1;obtain⟨z2,rfl,y2⟩:=pY g2;have b3:=(zQ (n:=n) aa0 Sc g3).2;have b4:=(zQ (n:=n) aa0 Sc g4).2;have b5:=(zQ (n:=n) aeV V4 g5).2;obtain⟨z3,rfl,y3⟩:=b3 0 _ rfl;obtain⟨z4,rfl,y4⟩:=b3 1 _ rfl;obtain⟨z5,rfl,y5⟩:=b3 2 _ rfl;obtain⟨z6,rfl,y6⟩:=b3 3 _ rfl;obtain⟨z7,rfl,y7⟩:=b4 0 _ rfl;obtain⟨z8,rfl,y8⟩:=b4 1 _ rfl;obtain⟨z9,rfl,y9⟩:=b4 2 _ rfl;obtain⟨z10,rfl,y10⟩:=b4 3 _ rfl;obtain⟨z11,rfl,y11⟩:=b5 0 _ rfl;obtain⟨z12,rfl,y12⟩:=b5 1 _ rfl;obtain⟨z13,rfl,y13⟩:=b5 2 _ rfl;exact⟨⟨z0,z1,z2,z3,z4,z5,z6,z7,z8,z9,z10,z11,z12,z13⟩,rfl,by simp[Sm.ok,y0,y1,y2,y3,y4,y5,y6,y7,y8,y9,y10,y11,y12,y13]⟩
theorem Kh{n:Nat}{d:D}(h:bH PP (n+1) 61 [d]): ∃z,d=G4 z∧0≤z∧z<65536:=by
 obtain⟨z,h1,h2⟩:=RN u61 h;simp only[List.cons.injEq,and_true]at h1;refine⟨z,h1, ?_⟩;simp[Lit.wf]at h2;have e1:IntKind.u16.min=0:=rfl;have e2:IntKind.u16.max=65535:=rfl;rw[e1,e2]at h2;exact⟨h2.1,by omega⟩
theorem aaX{n:Nat}{ds:List D}(h:bH PP (n+4) 112 ds): ∃i:It,ds=i.cells∧i.ok=true:=by
 obtain⟨h1,h2⟩:=Kg aeX h;rw[abI]at h1;have g: ∀i (f:Field),NN.toList[i]?=some f→bH PP (n+3) f.type ((ds.drop f.offset).take (PP.cellsOf f.type)):=fun i f hf=>h2 f (Lz hf)
 match ds,h1 with
 |a0::a1::a2::r,h1=>
  have g0:=g 0 _ rfl;have g1:=g 1 _ rfl;have g2:=g 2 _ rfl;have g3:=g 3 _ rfl;rw[show PP.cellsOf _=1 from c61]at g0;rw[show PP.cellsOf _=1 from c5]at g1;rw[show PP.cellsOf _=1 from c4]at g2;rw[show PP.cellsOf _=14 from V5]at g3;obtain⟨z0,rfl,y0,y0'⟩:=Kh g0;obtain⟨z1,rfl,y1⟩:=pY g1;obtain⟨z2,hz2⟩:=aaW u4 g2;have hz2:a2=bv z2:=by simpa using hz2
  subst hz2;have e3:(List.drop 3 (G4 z0::uv z1::bv z2::r)).take 14=r:=List.take_of_length_le (by simp at h1⊢;omega)
  replace g3:bH PP (n+3) 110 ((List.drop 3 (G4 z0::uv z1::bv z2::r)).take 14):=g3
  rw[e3]at g3;obtain⟨x,hx,hxo⟩:=aaZ (n:=n) g3;subst hx;exact⟨⟨z0,z1,z2,x⟩,rfl,by simp[It.ok,y0,y0',y1,hxo]⟩
theorem V0{P:Program}{n t1 t2 t3:Nat}: ∀{Ds:List D},n_ P n [t1,t2,t3] Ds→ ∃a b c,Ds= [a,b,c]∧j0 P n t1 a∧j0 P n t2 b∧j0 P n t3 c
 | [],h=>h.elim
 | [_],h=>h.2.elim
 | [_,_],h=>h.2.2.elim
 | [a,b,c],h=>⟨a,b,c,rfl,h.1,h.2.1,h.2.2.1⟩
 |_::_::_::_::_,h=>h.2.2.2.elim
end Ty
end
section
open Go.RowKit Go.Sort
namespace Ty
theorem G6{P:Program}{f:Nat}{r:D}(h1:NA P f [.nil] r)(h2:NA P f [.mt] r):NA P f [.list []] r:=by
 have key: ∀{w:World} {pr:aV} {cargs:Array Value},aX w pr aA cargs.toList [.list []]→aX w pr aA cargs.toList [.nil]∨aX w pr aA cargs.toList [.mt]:=fun{w pr cargs} h=>by
  obtain⟨l⟩:=cargs
  match l,h with
  | [a],⟨h,_⟩=>
   generalize hd:D.list []=d at h;cases h<;>first|(cases hd;done)|skip
   ·exact .inl ⟨.nil,trivial⟩
   ·exact .inr ⟨.mt,trivial⟩
   ·injection hd with hd
    subst hd;exact .inr ⟨.mt,trivial⟩
 exact⟨h1.1,fun w pr cargs hpr hG h=>(key h).elim (h1.2 w pr cargs hpr hG) (h2.2 w pr cargs hpr hG)⟩
theorem SN: ∀ds,dS 15 ds=none:=fun ds=>by
 unfold dS aS kB;rw[if_neg (by omega),if_neg (by omega),if_neg (by omega),if_neg (by omega)]
theorem set_nil:Vx Tryz.prog 15 [.list []] (D.own (.list [])):=by
 have e43:XK.run (GK dS) (.ecall 0 43 33) [.list [], .clo 44 []]=some (.tup [.tup [], .list []]):=by
  have h1:GK dS 1000043 [.list [], .clo 44 []]=some (.tup [.tup [], .list []]):=dC rfl;show(if([.list [], .clo 44 []].set 0 D.nil).all D.aF=true∧43<1000000 then(GK dS (1000000+(1000000*0+43)) [.list [], .clo 44 []]).bind _ else none)=_;rw[if_pos ⟨rfl,by omega⟩,show 1000000+(1000000*0+43)=1000043 from rfl,h1,Oz];rfl
 have k6:XK.run (GK dS) .take [.list [],iv 0]=some (.list []):=ϟ (l:= []);have ko:XK.run (GK dS) .own [.list []]=some (.list []):=rfl;have k5:(D.tup []).aF=true:=rfl
 have core: ∀d:D,d.aF=true→(XK.run (GK dS) (.pk (.snil false)) [d, .nil]=some (bv true)∨XK.run (GK dS) (.pk (.snil false)) [d, .nil]=some (bv false)∧XK.run (GK dS) (.app 33) [.list [],d]=some (.list []))→NA Tryz.prog 15 [d] (.list []):=fun d hd hs=>by
  have h:GK dS 15 [d]=some (D.own (.list [])):=by
   refine HA Ue (SN _) ?_ (hn:=by simp[hd])
   conv=>enter [1,3];cbv
   have k2:XK.run (GK dS) (.lit 33 0 [] []) []=some (.list []):=rfl;rcases hs with h1|⟨h1,h2⟩
   ·simp[h1,e43,k5,k6,ko];rfl
   ·simp[h1,k2,h2,e43,k5,k6,ko];rfl
  exact((oT (C:=cx) (N:=10000) rfl jq qN).p 15 _ _ (by decide) h).2 rfl
 have n:=G6 (core .nil rfl (.inl rfl)) (core .mt rfl (.inr ⟨rfl,rfl⟩));exact⟨n.toP,fun _=>n⟩
def dA:FP:=fun f ds=>if f=15 then(match ds with
  | [.list []]=>some (D.own (.list []))
  |_=>none)else dS f ds
theorem Bb:Sound Tryz.prog (br dA) where
 p f ds d hlt h:=by
  replace h:dA f ds=some d:=h
  unfold dA at h;split at h
  ·rename_i hf;subst hf;split at h
   ·cases h;exact set_nil
   ·cases h
  ·exact jq.p f ds d hlt h
 e k f ds r hf h6 h:=by
  replace h:dA (1000000+(1000000*k+f)) ds=some r:=h
  unfold dA at h;rw[if_neg (by omega)]at h;exact jq.e k f ds r hf h6 h
 q e f ds r hf h:=by
  obtain⟨d,hd,rfl⟩:=Mz.1 (show(dA (1000001000000+(1000000*e+f)) ds).map _=some r from h);unfold dA at hd;rw[if_neg (by omega)]at hd;exact jq.q e f ds _ hf (show Option.map _ _=_ by rw[hd];rfl)
theorem gU{H:FP}{f:Nat}{ds:List D}: ∀{K:KT},(∀p∈K,p.1≠f)→eh K H f ds=H f ds
 | [],_=>rfl
 |p::r,h=>by
  have hb:Nat.beq p.1 f=false:=by
   cases hb:Nat.beq p.1 f with
   |false=>rfl
   |true=>exact absurd (Nat.eq_of_beq_eq_true hb) (h p (List.mem_cons_self ..))
  show b9 (Nat.beq p.1 f) (B0 ds (H f ds) p.2) (eh r H f ds)=_;rw[hb];exact gU fun q hq=>h q (Cz _ hq)
theorem Xl{K:KT}(hK:K.all (fun p=> [54,90,166,167,168,123,11].contains p.1)=true):Hd (eh K dA):=by
 have hK:=Tz.1 hK
 have Jj: ∀f,[54,90,166,167,168,123,11].contains f=false→ ∀p∈K,p.1≠f:=fun f hf p hp e=>by
  have:=hK p hp;rw[e,hf]at this;cases this
 refine⟨?_,fun c es=> ?_,fun f ds hlt hf=> ?_,fun es h1 h2 h3=> ?_,fun es h1 h2=> ?_⟩
 ·rw[gU (Jj 15 (by decide))];rfl
 ·rw[gU (Jj 15 (by decide))];rfl
 ·have hf2: [54,90,166,167,168,123,11].contains f=false:=by
   simp[Ba]at hf⊢;omega
  rw[gU (Jj f hf2)];have h15:f≠15:=by intro e;subst e;simp[Ba]at hf
  show(if f=15 then _ else dS f ds)=none;rw[if_neg h15];exact Ik f ds hlt hf
 ·rw[gU (Jj _ (by decide))];show(if 1000057=15 then _ else dS 1000057 _)=_;rw[if_neg (by omega)];show(if 1000057=1000043 then _ else aS 1000057 _)=_;rw[if_neg (by omega)];show(if es.isEmpty=false∧es.all ud=true∧es.length<65536 then some (D.tup [.tup [], .list (bV (Bx K5) es)])else none)=_;rw[if_pos ⟨h1,h2,h3⟩]
 ·rw[gU (Jj _ (by decide))];show(if 1000043=15 then _ else dS 1000043 _)=_;rw[if_neg (by omega)];show(if es.all rH=true∧es.length<65536 then some (D.tup [.tup [], .list (bV (Bx K4) es)])else none)=_;rw[if_pos ⟨h1,h2⟩]
end Ty
end
noncomputable section
open Go.RowKit Go.Sort
namespace Ty
variable {H : FP}
def aeK:List D→Rw
 | [.v (.int .i64 a), .v (.int .i64 b), .v (.int .i64 c), .v (.int .i64 d), .v (.int .i64 e)]=>⟨a,b,c,d,e⟩
 |_=>⟨0,0,0,0,0⟩
def Gy:D→Mv
 | .tup [.agg [.v (.int .i64 a), .v (.int .i64 b), .v (.int .i64 c), .v (.int .i64 d), .v (.int .i64 e), .list rows],_]=>⟨a,b,c,d,e,rows.map aeK⟩
 |_=>⟨0,0,0,0,0,[]⟩
def is0:Option D→Bool
 |some (.v (.int .i64 0))=>true
 |_=>false
def LN:Option D→Bool
 |some (.tup [.v (.bool true), .v (.int .i64 0)])=>true
 |_=>false
def ER(K:KT)(s:Ss):Bool:=
 Nat.blt s.rows.length 9999&&(hD s.rows&&(is0 (eh K dA 54 [.agg s.cells])&&(!s.keys.isEmpty&&(Nat.blt s.keys.length 65536&&(decide (0≤s.ss*s.bs)&&(decide (s.ss*s.bs<10000)&&(rJ s&&(Iu s.rows&&(Nat.blt s.keys.length 9999&&s.keys.all fun k=>decide (k.bd≤s.ss*s.bs))))))))))
def T5:D:=iv 9223372036854775807
def jo(K:KT)(c:Nat×List D):Bool:=
 match eh K dA c.1 c.2 with
 |some r=>Am r.bare (.tup [.agg (Gy r.bare).cells,iv 0])&&((D.tup [.agg (Gy r.bare).cells,iv 0]).aF&&(ER K ((Gy r.bare).MS 1)&&(ER K ((Gy r.bare).MS 2)&&LN (eh K dA 90 [.agg (Gy r.bare).cells,T5]))))
 |none=>false
theorem Tq{o:Option D}(h:is0 o=true):o=some (iv 0):=by
 unfold is0 at h;split at h
 ·rfl
 ·cases h
theorem LO{o:Option D}(h:LN o=true):o=some (.tup [bv true,iv 0]):=by
 unfold LN at h;split at h
 ·rfl
 ·cases h
def Fk(K:KT):Bool:=K.all fun p=> !Nat.beq p.1 54||p.2.all fun e=>match e.ds with
 | [.agg [_,_,_,_,_,_, .v (.int .i64 z)]]=>decide (0<z)
 |_=>false
theorem n54: ∀ds,dA 54 ds=none:=fun ds=>by
 unfold dA dS aS kB;rw[if_neg (by omega),if_neg (by omega),if_neg (by omega),if_neg (by omega),if_neg (by omega)]
theorem adl{K:KT}(hK:Fk K=true){s:Ss}(hb:s.bs≤0):eh K dA 54 [.agg s.cells]=none:=by
 cases h:eh K dA 54 [.agg s.cells]with
 |none=>rfl
 |some d=>
  rcases Df h with⟨p,hp,h1,e,he,h2,_⟩|h
  ·have h3:=Tz.1 hK p hp;rw[h1]at h3
   have h4:=Tz.1 (show(p.2.all fun e=>match e.ds with
    | [.agg [_,_,_,_,_,_, .v (.int .i64 z)]]=>decide (0<z)
    |_=>false)=true from h3) e he
   rw[h2]at h4;have h5:decide (0<s.bs)=true:=h4;simp at h5;omega
  ·rw[n54]at h;cases h
def Ss.mv(s:Ss):Mv:=⟨s.tb,s.rs,s.ss,s.cp,s.wn,s.rows⟩
theorem ld6{G:FP}{s:Ss}:XK.run G (.pk (.load 6 true)) [.lptr s.cells]=some (.agg s.mv.cells):=nr rfl
theorem adZ{G:FP}{s:Ss}:XK.run G (.pk (.load 6 true)) [.lptr (s.cells.drop 0)]=some (.agg s.mv.cells):=nr rfl
theorem TX{s:Ss}(h0:H 54 [.agg s.cells]=none)(h90:GK H 90 [.agg s.mv.cells,T5]=some (.tup [bv true,iv 0]))(hb:s.bs≤0):GK H 54 [.agg s.cells]=some (iv 282):=by
 refine HA ZL h0 ?_
 conv=>enter [1,3];cbv
 have k:XK.run (GK H) (.call false 90) [.agg s.mv.cells,iv 9223372036854775807]=some (.tup [bv true,iv 0]):=ag h90 rfl rfl;have hlt:s.bs<1:=by omega
 simp[k,hlt,ld6,adZ]
theorem Iv{K:KT}(hK:Fk K=true){m:Mv}{b:Int}(hb:b=1∨b=2)(h:ER K (m.MS b)=true)(h90:LN (eh K dA 90 [.agg m.cells,T5])=true):jj (eh K dA) (m.MS b):=by
 unfold ER at h;simp only[Az,decide_eq_true_eq,Bool.not_eq_true']at h;obtain⟨h1,h2,h3,h4,h5,h6,h7,h8,h9,h10,h11⟩:=h;refine⟨by simpa[Nat.blt_eq]using h1,h2,dC (Tq h3),fun c hc=> ?_, ?_,(fun e=>by rw[e]at h4;cases h4),by simpa[Nat.blt_eq]using h5,⟨h6,h7⟩,h8,h9,⟨by simpa[Nat.blt_eq]using h10,fun k hk=>by simpa using Tz.1 h11 k hk⟩⟩
 ·exact TX (adl hK hc) (dC (LO h90)) hc
 ·rcases hb with rfl|rfl
  ·exact⟨1,rfl,by omega⟩
  ·exact⟨2,rfl,by omega⟩
theorem SR{K:KT}(hK:Fk K=true){f:Nat}{ds:List D}(h:jo K (f,ds)=true):Mk (eh K dA) f ds:=by
 unfold jo at h;simp only[]at h;split at h
 ·rename_i r hr;simp only[Az]at h;obtain⟨h1,h2,h3,h4,h5⟩:=h;refine⟨Gy r.bare,jA (dC hr) (mW h1) h2,fun b hb=> ?_⟩;rcases hb with rfl|rfl
  ·exact Iv hK (.inl rfl) h3 h5
  ·exact Iv hK (.inr rfl) h4 h5
 ·cases h
end Ty
end
section
noncomputable def tmA:FT:=sd Kc
theorem Uj:OKA cx 42 210 1 tmA:=Uk (by kernel_rfl)
end
end Go.Proofs.YtkcfpgaepmllhaaGreatDoor
