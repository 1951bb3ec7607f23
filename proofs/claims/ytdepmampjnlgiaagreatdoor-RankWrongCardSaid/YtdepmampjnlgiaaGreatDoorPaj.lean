/- Part of the proof: symbolic execution of the program, its soundness, and the closing lemmas. No condition. -/
import Derived.Test.YtdepmampjnlgiaaGreatDoorPac
import Derived.Test.YtdepmampjnlgiaaGreatDoorPad
import Derived.Test.YtdepmampjnlgiaaGreatDoorPae
import Derived.Test.YtdepmampjnlgiaaGreatDoorPaf
import Derived.Test.YtdepmampjnlgiaaGreatDoorPag
import Derived.Test.YtdepmampjnlgiaaGreatDoorPah
import Derived.Test.YtdepmampjnlgiaaGreatDoorPai
import Derived.Test.YtdepmampjnlgiaaGreatDoorEah
import Derived.Test.YtdepmampjnlgiaaGreatDoorEag
import Derived.Test.YtdepmampjnlgiaaGreatDoorPab
import Init
import Derived.Shelf.SlSortCmp.NoneTotal
import Derived.Test.YtdepmampjnlgiaaGreatDoorEab
import Derived.Shelf.Sort.Plain
import Derived.Shelf.Slices.In.SortNone
namespace Go.Proofs.YtdepmampjnlgiaaGreatDoor
open Go.RowKit
set_option maxRecDepth 100000
set_option linter.all false
section
theorem Oy : tr.OI cx:=⟨⟨⟨⟨⟨⟨⟨WY,aa0⟩,⟨VC,aa1⟩⟩,⟨⟨VM,Q1⟩,⟨Q2,aa2⟩⟩⟩,⟨⟨⟨aa3,V7⟩,⟨aa4,We⟩⟩,⟨⟨aa5,Wq⟩,⟨aa6,⟨WB,aa7⟩⟩⟩⟩⟩,⟨⟨⟨⟨aa8,aa9⟩,⟨WV,Q3⟩⟩,⟨⟨WW,WX⟩,⟨KB,⟨Q4,aa'⟩⟩⟩⟩,⟨⟨⟨aa_,aba⟩,⟨WZ,W0⟩⟩,⟨⟨abb,abc⟩,⟨abd,⟨abe,abf⟩⟩⟩⟩⟩⟩,⟨⟨⟨⟨⟨W1,W2⟩,⟨W3,W4⟩⟩,⟨⟨W5,abg⟩,⟨abh,⟨W6,W7⟩⟩⟩⟩,⟨⟨⟨Q5,W8⟩,⟨abi,MB⟩⟩,⟨⟨HY,MC⟩,⟨Vu,⟨Vv,MD⟩⟩⟩⟩⟩,⟨⟨⟨⟨ME,MF⟩,⟨HZ,Vw⟩⟩,⟨⟨Vx,Vy⟩,⟨Vz,⟨MG,MH⟩⟩⟩⟩,⟨⟨⟨MI,MJ⟩,⟨MK,VA⟩⟩,⟨⟨VB,ML⟩,⟨mf,⟨VD,MM⟩⟩⟩⟩⟩⟩⟩,⟨⟨⟨⟨⟨⟨VF,VG⟩,⟨VH,VI⟩⟩,⟨⟨MN,VJ⟩,⟨VL,⟨VN,VO⟩⟩⟩⟩,⟨⟨⟨VP,VQ⟩,⟨MO,VS⟩⟩,⟨⟨VT,VU⟩,⟨VV,⟨VW,VX⟩⟩⟩⟩⟩,⟨⟨⟨⟨VY,VZ⟩,⟨V0,V1⟩⟩,⟨⟨V2,V3⟩,⟨V4,⟨V5,V6⟩⟩⟩⟩,⟨⟨⟨V8,V9⟩,⟨V_,Wa⟩⟩,⟨⟨Wb,Wc⟩,⟨Wd,⟨Wf,Wg⟩⟩⟩⟩⟩⟩,⟨⟨⟨⟨⟨Wh,Wi⟩,⟨Wj,Wk⟩⟩,⟨⟨Wl,Wm⟩,⟨Wn,⟨Wo,Wp⟩⟩⟩⟩,⟨⟨⟨Wr,Ws⟩,⟨Wt,Wu⟩⟩,⟨⟨Wv,Ww⟩,⟨Wx,⟨Wy,Wz⟩⟩⟩⟩⟩,⟨⟨⟨⟨WA,WC⟩,⟨WD,WE⟩⟩,⟨⟨WG,WH⟩,⟨WI,⟨WJ,WK⟩⟩⟩⟩,⟨⟨⟨WL,WM⟩,⟨WN,WO⟩⟩,⟨⟨WQ,WR⟩,⟨WS,⟨WT,WU⟩⟩⟩⟩⟩⟩⟩⟩
end
section
theorem IS:IG= .lets [.mk (.pk (.ibin .neq)) [.t 0, .t 0]] (.ret (.mk .aj [.t 1])):=by kernel_rfl
theorem Ld:RU= .lets [.mk (.call false 102) [.mk .aj [.t 0]]] (.lets [.mk (.call false 102) [.mk .aj [.t 1]]] (.ite (.t 2) (.ite (.t 3) (.ret (.mk .aj [.q (.v (.int .i64 0))])) (.ret (.mk .aj [.q (.v (.int .i64 (-1)))]))) (.ite (.t 3) (.ret (.mk .aj [.q (.v (.int .i64 1))])) (.lets [.mk (.pk (.ibin .lss)) [.t 0, .t 1]] (.ite (.t 4) (.ret (.mk .aj [.q (.v (.int .i64 (-1)))])) (.lets [.mk (.pk (.ibin .gtr)) [.t 0, .t 1]] (.ite (.t 5) (.ret (.mk .aj [.q (.v (.int .i64 1))])) (.ret (.mk .aj [.q (.v (.int .i64 0))]))))))))):=by kernel_rfl
theorem DW:Lb= .lets [.mk (.pk .llen) [.t 0]] (.loop [.q (.v (.int .i64 0)), .q (.v (.int .i64 0))] (.lets [.mk (.pk (.ibin .lss)) [.t 2, .t 1]] (.ite (.t 4) (.lets [.mk (.pk (.load 1 false)) [.mk (.pk (.idx 3 1)) [.t 0, .t 2]]] (.lets [.mk (.pk (.ibin .neq)) [.t 5, .q (.v (.int .i64 0))]] (.ite (.t 6) (.ret (.mk .aj [.t 5])) (.lets [.mk (.pk (.ibin .add)) [.t 2, .q (.v (.int .i64 1))]] (.next 0 [.t 7, .t 3]))))) (.ret (.mk .aj [.q (.v (.int .i64 0))]))))):=by kernel_rfl
theorem Lc:IH= .lets [.mk (.pk (.fbox 3)) [.t 1]] (.lets [.mk (.pk (.fbox 3)) [.t 0]] (.lets [.mk (.call false 53) [.mk .aj [.mk (.pk (.load 1 false)) [.mk (.pk (.fld 0)) [.t 3]]], .mk .aj [.mk (.pk (.load 1 false)) [.mk (.pk (.fld 0)) [.t 2]]]]] (.lets [.mk (.call false 53) [.mk .aj [.mk (.pk (.load 1 false)) [.mk (.pk (.fld 1)) [.t 3]]], .mk .aj [.mk (.pk (.load 1 false)) [.mk (.pk (.fld 1)) [.t 2]]]]] (.lets [.mk (.call false 53) [.mk .aj [.mk (.pk (.load 1 false)) [.mk (.pk (.fld 2)) [.t 3]]], .mk .aj [.mk (.pk (.load 1 false)) [.mk (.pk (.fld 2)) [.t 2]]]]] (.lets [.mk (.call true 52) [.mk (.lit 1 3 [(.v (.int .i64 0)),(.v (.int .i64 0)),(.v (.int .i64 0))] [(0,1),(1,1),(2,1)]) [.t 4, .t 5, .t 6]]] (.ret (.mk .aj [.t 7]))))))):=by kernel_rfl
theorem gn{C:Cx}{H:FP}{N f n:Nat}{t:FT}(ho:a_ C f n t){ds:List D}{d:D}(h0:H f ds=none)(hlt:f<1000000)(hl:ds.length=n)(hn:ds.all D.aK=true)(he:aa (GG C H N) N t [] ds=some d):GG C H N f ds=some d:=by
 obtain⟨t0,h1,h2⟩:=ho;exact Je h1 h0 hlt hl hn (wZ (q:=(n,t0)) hl (by rw[←h2]at he;exact he))
noncomputable abbrev GK:FP:=GG cx jj 10000
theorem JI(a:Int):GK 102 [iv a]=some (bv false):=by
 refine gn HY rfl (by decide) rfl rfl ?_;rw[IS];simp[aa,X.ev,X.bh,XK.run,PK.run,g_,cN,D.aK,D.aN,D.eF,bD,az,eR,D.flat,D.bB]
def er(a b:Int):Int:=if a<b then-1 else if b<a then 1 else 0
theorem PI(a b:Int):GK 53 [iv a,iv b]=some (iv (er a b)):=by
 refine gn Q4 rfl (by decide) rfl rfl ?_;rw[Ld];have h: ∀a,GG cx jj 10000 102 [iv a]=some (bv false):=JI;unfold er;by_cases h1:a<b
 ·simp[aa,X.ev,X.bh,XK.run,gU,h,D.bare,PK.run,g_,cN,D.aK,D.aN,D.eF,bD,az,eR,D.flat,D.bB,D.asBool,h1]
 ·by_cases h2:b<a
  ·simp[aa,X.ev,X.bh,XK.run,gU,h,D.bare,PK.run,g_,cN,D.aK,D.aN,D.eF,bD,az,eR,D.flat,D.bB,D.asBool,h1,h2]
  ·simp[aa,X.ev,X.bh,XK.run,gU,h,D.bare,PK.run,g_,cN,D.aK,D.aN,D.eF,bD,az,eR,D.flat,D.bB,D.asBool,h1,h2]
def eO(a b c:Int):Int:=if a≠0 then a else if b≠0 then b else c
def jy:FT:= .lets [.mk (.pk (.ibin .lss)) [.t 2, .t 1]] (.ite (.t 4) (.lets [.mk (.pk (.load 1 false)) [.mk (.pk (.idx 3 1)) [.t 0, .t 2]]] (.lets [.mk (.pk (.ibin .neq)) [.t 5, .q (.v (.int .i64 0))]] (.ite (.t 6) (.ret (.mk .aj [.t 5])) (.lets [.mk (.pk (.ibin .add)) [.t 2, .q (.v (.int .i64 1))]] (.next 0 [.t 7, .t 3]))))) (.ret (.mk .aj [.q (.v (.int .i64 0))])))
theorem Ca{G:FP}{N:Nat}{rec:List D→Option D}{es:List (List D)}{i j x:Int}(hx:qY 3 1 [.list es,iv i]=some (.lptr [iv x]))(hl:i<3)(hj:IntKind.wrap .i64 (i+1)=j):
  aa G N jy [rec] [.list es,iv 3,iv i,iv 0]=if x=0 then rec [iv j,iv 0]else some (iv x):=by
 unfold jy;by_cases h:x=0
 ·simp[aa,X.ev,X.bh,XK.run,PK.run,g_,cN,gC,D.aK,D.aN,D.eF,D.asBool,hx,hl,hj,h]
 ·have hb:(x !=0)=true:=by simpa using h
  simp[aa,X.ev,X.bh,XK.run,PK.run,g_,cN,gC,D.aK,D.aN,D.eF,D.asBool,bD,az,eR,D.flat,D.bB,hx,hl,hj,h];rw[hb];rfl
theorem QK{G:FP}{N:Nat}{rec:List D→Option D}{es:List (List D)}:aa G N jy [rec] [.list es,iv 3,iv 3,iv 0]=some (iv 0):=by
 unfold jy;simp[aa,X.ev,X.bh,XK.run,PK.run,g_,cN,D.aK,D.aN,D.eF,D.asBool,bD,az,eR,D.flat,D.bB]
theorem F8(G:FP)(n:Nat)(a b c:Int):aa G (n+4) (.lets [.mk (.pk .llen) [.t 0]] (.loop [.q (.v (.int .i64 0)), .q (.v (.int .i64 0))] jy)) [] [.list [[iv a],[iv b],[iv c]]]=some (iv (eO a b c)):=by
 have h1:X.bh G [.list [[iv a],[iv b],[iv c]]] [.mk (.pk .llen) [.t 0]]=some [iv 3]:=rfl;have h2: ∀ρ,X.bh G ρ [.q (.v (.int .i64 0)), .q (.v (.int .i64 0))]=some [iv 0,iv 0]:=fun ρ=>rfl;have s0: ∀rec,aa G (n+4) jy [rec] ([.list [[iv a],[iv b],[iv c]]]++ [iv 3]++ [iv 0,iv 0])=if a=0 then rec [iv 1,iv 0]else some (iv a):=fun rec=>Ca rfl (by decide) (by decide)
 have s1: ∀rec,aa G (n+4) jy [rec] ([.list [[iv a],[iv b],[iv c]]]++ [iv 3]++ [iv 1,iv 0])=if b=0 then rec [iv 2,iv 0]else some (iv b):=fun rec=>Ca rfl (by decide) (by decide)
 have s2: ∀rec,aa G (n+4) jy [rec] ([.list [[iv a],[iv b],[iv c]]]++ [iv 3]++ [iv 2,iv 0])=if c=0 then rec [iv 3,iv 0]else some (iv c):=fun rec=>Ca rfl (by decide) (by decide)
 have s3: ∀rec,aa G (n+4) jy [rec] ([.list [[iv a],[iv b],[iv c]]]++ [iv 3]++ [iv 3,iv 0])=some (iv 0):=fun rec=>QK;generalize jy=B at*;simp only[aa,h1,h2,Oz,iter];rw[s0];by_cases ha:a=0
 ·rw[if_pos ha,s1];by_cases hb:b=0
  ·rw[if_pos hb,s2];by_cases hc:c=0
   ·rw[if_pos hc,s3];simp[eO,ha,hb,hc]
   ·rw[if_neg hc];simp[eO,ha,hb]
  ·rw[if_neg hb];simp[eO,ha,hb]
 ·rw[if_neg ha];simp[eO,ha]
theorem PH(a b c:Int):GK 52 [.list [[iv a],[iv b],[iv c]]]=some (iv (eO a b c)):=by
 refine gn KB rfl (by decide) rfl rfl ?_;rw[DW];exact F8 (GG cx jj 10000) 9996 a b c
def QD(a b c:Int):D:= .agg [iv a,iv b,iv c]
theorem JJ(a b c x y z:Int):GK 105 [QD a b c,QD x y z]=some (iv (eO (er a x) (er b y) (er c z))):=by
 refine gn MC rfl (by decide) rfl rfl ?_;rw[Lc];have h: ∀a b,GG cx jj 10000 53 [iv a,iv b]=some (iv (er a b)):=PI;have k: ∀a b c,GG cx jj 10000 52 [.list [[iv a],[iv b],[iv c]]]=some (iv (eO a b c)):=PH;generalize GG cx jj 10000=G at*;simp[aa,QD,X.ev,X.bh,XK.run,gU,h,k,D.bare,PK.run,Gt,Gw,gC,D.aK,D.aN,D.eF,bD,az,eR,D.flat,D.bB,D.cells,D.gE,D.nz,nb,kL,bj,D.rG,D.SY,putAt]
end
section
def vN:List D→Bool
 | [.v (.int .i64 _), .v (.int .i64 _), .v (.int .i64 _)]=>true
 |_=>false
def TA:List D→List D→Int
 | [.v (.int .i64 a), .v (.int .i64 b), .v (.int .i64 c)],[.v (.int .i64 x), .v (.int .i64 y), .v (.int .i64 z)]=>eO (er a x) (er b y) (er c z)
 |_,_=>0
theorem dE{x:List D}(h:vN x=true): ∃a b c,x= [iv a,iv b,iv c]:=by
 unfold vN at h;split at h
 ·exact⟨_,_,_,rfl⟩
 ·cases h
theorem wX(a b c x y z:Int):TA [iv a,iv b,iv c] [iv x,iv y,iv z]<0↔a<x∨a=x∧(b<y∨b=y∧c<z):=by
 show eO (er a x) (er b y) (er c z)<0↔_;unfold eO er
 repeat' split
 all_goals omega
theorem QE:wK Tryz.prog 105 3 vN TA where
 len x h:=by obtain⟨a,b,c,rfl⟩:=dE h;rfl
 pl x h d hd:=by
  obtain⟨a,b,c,rfl⟩:=dE h;simp only[List.mem_cons,List.not_mem_nil,or_false]at hd;rcases hd with rfl|rfl|rfl<;>rfl
 ok x y hx hy:=by
  obtain⟨a,b,c,rfl⟩:=dE hx;obtain⟨a',b',c',rfl⟩:=dE hy;exact((jO (C:=cx) (N:=10000) rfl kK l_).p 105 _ _ (by decide) (JJ a b c a' b' c')).1
 body:=⟨Tryz.f105,Tryz.func105,rfl,by kernel_rfl⟩
 lt:=by decide
 irrefl x h:=by
  obtain⟨a,b,c,rfl⟩:=dE h;rw[wX];omega
 trans x y z hx hy hz:=by
  obtain⟨a,b,c,rfl⟩:=dE hx;obtain⟨a',b',c',rfl⟩:=dE hy;obtain⟨a2,b2,c2,rfl⟩:=dE hz;simp only[wX];omega
 ntrans x y z hx hy hz:=by
  obtain⟨a,b,c,rfl⟩:=dE hx;obtain⟨a',b',c',rfl⟩:=dE hy;obtain⟨a2,b2,c2,rfl⟩:=dE hz;simp only[wX];omega
 anti x y hx hy:=by
  obtain⟨a,b,c,rfl⟩:=dE hx;obtain⟨a',b',c',rfl⟩:=dE hy;simp only[wX];intro h1 h2;have e1:a=a':=by omega
  have e2:b=b':=by omega
  have e3:c=c':=by omega
  rw[e1,e2,e3]
theorem Kd{es:List (List D)}(hne:es≠ [])(hes: ∀x∈es,vN x=true)(hlen:es.length<4611686018427387904):OL Tryz.prog 0 104 [.list es, .clo 105 []] es (cL (ES TA) es) (.tup []):=
 QE.sort (ρ:=Tryz.qM) Tryz.K0 (fun w=>by rfl) (fun w=>by rfl) ⟨Tryz.f104,Tryz.func104,rfl,by kernel_rfl⟩ (x0:= [iv 0,iv 0,iv 0]) rfl hes hlen (fun h=>absurd h hne)
def aR:FP:=fun f ds=>if f=1000104 then(match ds with
  | [.list es, .clo 105 []]=>if es.isEmpty=false∧es.all vN=true∧es.length<65536 then some (.tup [.tup [], .list (cL (ES TA) es)])else none
  |_=>none)else jj f ds
theorem fS:Sound Tryz.prog (bg aR) where
 p f ds d hlt h:=by
  have h:aR f ds=some d:=h;unfold aR at h;rw[if_neg (by omega)]at h;exact kK.p f ds d hlt h
 e k f ds r hf h6 h:=by
  replace h:aR (1000000+(1000000*k+f)) ds=some r:=h
  unfold aR at h;split at h
  ·rename_i he;have hk:k=0:=by omega
   have hf7:f=104:=by omega
   rw[hk,hf7];split at h
   ·rename_i es;split at h<;>cases h;rename_i hc;exact⟨es,_,_,rfl,rfl,Kd (fun e=>by rw[e]at hc;cases hc.1) (fun x hx=>Tz.1 hc.2.1 x hx) (by omega)⟩
   ·cases h
  ·exact kK.e k f ds r hf h6 h
 q e f ds r hf h:=by
  obtain⟨d,hd,rfl⟩:=Mz.1 (show(aR (1000001000000+(1000000*e+f)) ds).map _=some r from h);unfold aR at hd;rw[if_neg (by omega)]at hd;exact kK.q e f ds _ hf (show Option.map _ _=_ by rw[hd];rfl)
end
section
namespace Ty
theorem nr{α:Type}{a b:α}(h:a=b):a=b:=h
def ob{α β:Type}(x:Option α)(f:α→Option β):Option β:=x.bind f
@[congr] theorem ac3{α β:Type}{x y:Option α}{f:α→Option β}(h:x=y):ob x f=ob y f:=by rw[h]
@[simp] theorem Q0{α β:Type}{a:α}{f:α→Option β}:ob (some a) f=f a:=nr rfl
section
variable {G : FP} {N : Nat} {E : List D} {L : List (List D → Option D)}
@[simp] theorem ε{x:X}:aa G N (.ret x) L E=ob (X.ev G E x) fun d=>if d.aK then some (eR x d)else none:=nr rfl
@[simp] theorem Z_{xs:List X}{k:FT}:aa G N (.bm xs k) L E=ob (X.bh G E xs) fun _=>aa G N k L E:=nr rfl
@[simp] theorem Y7{xs:List X}{k:FT}:aa G N (.lets xs k) L E=ob (X.bh G E xs) fun ds=>aa G N k L (E++ds):=nr rfl
@[simp] theorem δ{c:X}{a b:FT}:aa G N (.ite c a b) L E=ob (X.ev G E c) fun v=>ob v.asBool fun x=>if x=true then aa G N a L E else aa G N b L E:=by
 simp only[aa,ob];congr 1;funext v;congr 1;funext x;cases x<;>rfl
@[simp] theorem Y9{j:Nat}{xs:List X}:aa G N (.next j xs) L E=ob (X.bh G E xs) fun ds=>ob (L[j]?) fun f=>f ds:=nr rfl
@[simp] theorem LU{k b:FT}:aa G N (.jp k b) L E=aa G N b ((fun vs=>aa G N k L (E++vs))::L) E:=nr rfl
@[simp] theorem x_t{i:Nat}:X.ev G E (.t i)=E[i]?:=nr rfl
@[simp] theorem x_q{d:D}:X.ev G E (.q d)=some d:=nr rfl
@[simp] theorem SF{k:XK}{xs:List X}:X.ev G E (.mk k xs)=ob (X.bh G E xs) (k.run G):=nr rfl
@[simp] theorem adm{c a b:X}:X.ev G E (.ite c a b)=ob (X.ev G E c) fun v=>ob v.asBool fun x=>if x=true then X.ev G E a else X.ev G E b:=by
 simp only[X.ev,ob];congr 1;funext v;congr 1;funext x;cases x<;>rfl
@[simp] theorem I_:X.bh G E []=some []:=nr rfl
@[simp] theorem mW{x:X}{r:List X}:X.bh G E (x::r)=ob (X.ev G E x) fun d=>ob (X.bh G E r) fun ds=>some (d::ds):=by
 simp only[X.bh,ob];congr 1;funext d;cases X.bh G E r<;>rfl
noncomputable def gV(G:FP)(N:Nat)(b:FT)(L:List (List D→Option D))(E:List D)(n:Nat):List D→Option D:=iter (fun rec vs=>aa G N b (rec::L) (E++vs)) n
@[simp] theorem Y8{xs:List X}{b:FT}:aa G N (.loop xs b) L E=ob (X.bh G E xs) (gV G N b L E N):=nr rfl
theorem e6{b:FT}{n:Nat}{S:Type}(enc:S→List D)(res:S→D)(mes:S→Nat)(ok:S→Prop)
  (step: ∀(rec:List D→Option D) (s:S),ok s→(∀s',ok s'→mes s'<mes s→rec (enc s')=some (res s'))→aa G N b (rec::L) (E++enc s)=some (res s)) (s:S) (h:ok s) (hn:mes s<n):gV G N b L E n (enc s)=some (res s):=by
 induction n generalizing s with
 |zero=>omega
 |succ n ih=>
  show aa G N b (gV G N b L E n::L) (E++enc s)=_;exact step _ s h fun s' h' hm=>ih s' h' (by omega)
@[simp] theorem adp{b:Bool}:D.asBool (.v (.bool b))=some b:=nr rfl
@[simp] theorem Xh{k:IntKind}{a b:Int}:XK.run G (.pk (.ibin .add)) [.v (.int k a), .v (.int k b)]=some (.v (.int k (k.wrap (a+b)))):=by simp[XK.run,PK.run,g_,cN,D.aK,D.aN,D.eF]
@[simp] theorem adf{k:IntKind}{a b:Int}:XK.run G (.pk (.ibin .sub)) [.v (.int k a), .v (.int k b)]=some (.v (.int k (k.wrap (a-b)))):=by simp[XK.run,PK.run,g_,cN,D.aK,D.aN,D.eF]
@[simp] theorem Xo{k:IntKind}{a b:Int}:XK.run G (.pk (.ibin .mul)) [.v (.int k a), .v (.int k b)]=some (.v (.int k (k.wrap (a*b)))):=by simp[XK.run,PK.run,g_,cN,D.aK,D.aN,D.eF]
@[simp] theorem Xi{k:IntKind}{a b:Int}:XK.run G (.pk (.ibin .eql)) [.v (.int k a), .v (.int k b)]=some (.v (.bool (decide (a=b)))):=by simp[XK.run,PK.run,g_,cN,D.aK,D.aN,D.eF];rw[Bool.eq_iff_iff];simp
@[simp] theorem Xq{k:IntKind}{a b:Int}:XK.run G (.pk (.ibin .neq)) [.v (.int k a), .v (.int k b)]=some (.v (.bool (!decide (a=b)))):=by simp[XK.run,PK.run,g_,cN,D.aK,D.aN,D.eF,bne];rw[Bool.eq_iff_iff];simp
@[simp] theorem Xl{k:IntKind}{a b:Int}:XK.run G (.pk (.ibin .lss)) [.v (.int k a), .v (.int k b)]=some (.v (.bool (decide (a<b)))):=by simp[XK.run,PK.run,g_,cN,D.aK,D.aN,D.eF]
@[simp] theorem Xk{k:IntKind}{a b:Int}:XK.run G (.pk (.ibin .leq)) [.v (.int k a), .v (.int k b)]=some (.v (.bool (decide (a≤b)))):=by simp[XK.run,PK.run,g_,cN,D.aK,D.aN,D.eF]
@[simp] theorem Xj{k:IntKind}{a b:Int}:XK.run G (.pk (.ibin .gtr)) [.v (.int k a), .v (.int k b)]=some (.v (.bool (decide (b<a)))):=by simp[XK.run,PK.run,g_,cN,D.aK,D.aN,D.eF]
@[simp] theorem ac8{k:IntKind}{a b:Int}:XK.run G (.pk (.ibin .geq)) [.v (.int k a), .v (.int k b)]=some (.v (.bool (decide (b≤a)))):=by simp[XK.run,PK.run,g_,cN,D.aK,D.aN,D.eF]
@[simp] theorem Xr{k:IntKind}{a b:Int}:XK.run G (.pk (.ibin .quo)) [.v (.int k a), .v (.int k b)]=if b=0 then none else some (.v (.int k (k.wrap (a.tdiv b)))):=by
 simp only[XK.run,PK.run,g_,cN,if_true];split<;>simp[D.aK,D.aN,D.eF]
@[simp] theorem Xs{k:IntKind}{a b:Int}:XK.run G (.pk (.ibin .rem)) [.v (.int k a), .v (.int k b)]=if b=0 then none else some (.v (.int k (a.tmod b))):=by
 simp only[XK.run,PK.run,g_,cN,if_true];split<;>simp[D.aK,D.aN,D.eF]
@[simp] theorem ada{b:Bool}:XK.run G (.pk .inot) [.v (.bool b)]=some (.v (.bool (!b))):=nr rfl
@[simp] theorem Ib{k q:IntKind}{a:Int}:XK.run G (.pk (.conv k)) [.v (.int q a)]=some (.v (.int k (k.wrap a))):=nr rfl
@[simp] theorem ad4{w b:Bool}:XK.run G (.gv w) [.v (.bool b)]=some (.v (.bool (b==w))):=nr rfl
@[simp] theorem ac9{w:Bool}{xs:List D}:XK.run G (.gv w) [.tup xs]=some (.v (.bool false)):=nr rfl
@[simp] theorem adg{ds:List D}:XK.run G .tup ds=some (.tup ds):=nr rfl
@[simp] theorem Ic{es:List (List D)}:XK.run G (.pk .llen) [.list es]=some (.v (.int .i64 es.length)):=nr rfl
@[simp] theorem abw{v:Value}:XK.run G .aj [.v v]=some (.v v):=nr rfl
@[simp] theorem abu{es:List (List D)}:XK.run G .aj [.list es]=some (.list es):=nr rfl
@[simp] theorem abv:XK.run G .aj [.nil]=some (.list []):=nr rfl
@[simp] theorem Zt{v:Value}:XK.run G .aO [.v v]=some (.v v):=nr rfl
@[simp] theorem Zs{es:List (List D)}:XK.run G .aO [.list es]=some (.list es):=nr rfl
@[simp] theorem ac7{off:Nat}{xs:List D}:XK.run G (.pk (.fld off)) [.lptr xs]=some (.lptr (xs.drop off)):=nr rfl
@[simp] theorem aby{v:Value}:XK.run G .eV [.v v]=some (.v v):=nr rfl
@[simp] theorem abx{es:List (List D)}:XK.run G .eV [.list es]=some (.list es):=nr rfl
@[simp] theorem ac'{d:D}{r:List D}:XK.run G (.pk (.load 1 false)) [.lptr (d::r)]=if d.aK then some d else none:=by
 simp[XK.run,PK.run,gC]
@[simp] theorem ac2{v:Value}:D.aK (.v v)=true:=nr rfl
@[simp] theorem ac1{es:List (List D)}:D.aK (.list es)=true:=nr rfl
@[simp] theorem ac0{xs:List D}:D.aK (.agg xs)=xs.all D.aN:=nr rfl
@[simp] theorem aaY{v:Value}:D.aN (.v v)=true:=nr rfl
@[simp] theorem aaX{es:List (List D)}:D.aN (.list es)=true:=nr rfl
@[simp] theorem adk{x:X}{v:Value}:eR x (.v v)= .v v:=nr rfl
@[simp] theorem aq{k:Nat}{xs:List D}:XK.run G (.pk (.ext k)) [.tup xs]=(xs[k]?).bind fun d=>if d.aK then some d else none:=nr rfl
theorem ao{fl:Bool}{f:Nat}{ds:List D}{d:D}(h:G f ds=some d)(h1:d.eD=false)(h2:(if fl then d.flat else d.aK)=true):XK.run G (.call fl f) ds=some d:=by
 have hb:d.bare=d:=by
  unfold D.bare;unfold D.eD at h1;split at h1
  ·cases h1
  ·rfl
 show(G f ds).bind _=_;rw[h,Oz,hb];cases fl
 ·exact if_pos h2
 ·rw[if_pos (by simp[show d.flat=true from h2])]
@[simp] theorem qJ{ds:List D}:XK.run G .agg ds=if ds.all D.aN=true then some (.agg ds)else none:=nr rfl
@[simp] theorem wj{e size:Nat}{es:List (List D)}{k:IntKind}{i:Nat}:XK.run G (.pk (.idx e size)) [.list es, .v (.int k (i:Int))]=(es[i]?).bind fun c=>if c.length=size then some (.lptr c)else none:=by
 show(if(i:Int)<0 then none else(es[(i:Int).toNat]?).bind fun c=>if c.length=size then some (D.lptr c)else none).bind (fun d=>if d.aK then some d else none)=_;rw[if_neg (by omega),Int.toNat_natCast];cases es[i]? with
 |none=>rfl
 |some c=>simp only[Oz];split<;>rfl
@[simp] theorem abq{e size:Nat}{es:List (List D)}{k:IntKind}:XK.run G (.pk (.idx e size)) [.list es, .v (.int k 0)]=(es[0]?).bind fun c=>if c.length=size then some (.lptr c)else none:=wj (i:=0)
@[simp] theorem abt{e size:Nat}{es:List (List D)}{k:IntKind}{i:Nat}:XK.run G (.pk (.idx e size)) [.list es, .v (.int k ((i:Int)+1))]=(es[i+1]?).bind fun c=>if c.length=size then some (.lptr c)else none:=wj (i:=i+1)
@[simp] theorem ac_{ds:List D}:XK.run G .mkl ds=some (.list (ds.map fun d=> [d])):=nr rfl
@[simp] theorem mh{neg:Bool}{ks:List Nat}{xs ys:List D}:XK.run G (.pk (.aeq neg ks)) [.agg xs, .agg ys]=(ae ks xs ys).bind fun r=>some (.v (.bool (if neg then !r else r))):=by
 show((ae ks xs ys).map fun r=>bv (if neg then !r else r)).bind _=_;cases ae ks xs ys<;>rfl
@[simp] theorem Y6:ae [] [] []=some true:=nr rfl
theorem ZP{k:IntKind}{a b:Int}:lA (br k) (.v (.int k a)) (.v (.int k b))=some (decide (a=b)):=by
 have e:(a==b)=decide (a=b):=by rw[Bool.eq_iff_iff];simp
 simp[lA,ae,e]
@[simp] theorem LO{ks:List Nat}{xs ys:List D}{a b:Int}:ae (3::ks) (.v (.int .i64 a)::xs) (.v (.int .i64 b)::ys)=(ae ks xs ys).bind fun r=>some (decide (a=b)&&r):=by
 rw[sD,show lA 3 (.v (.int .i64 a)) (.v (.int .i64 b))=some (decide (a=b))from ZP (k:= .i64)];rfl
@[simp] theorem aat{p:Prop} [Decidable p]{a b:Bool}:(if p then D.v (.bool a)else D.v (.bool b))= .v (.bool (if p then a else b)):=by split<;>rfl
@[simp] theorem UP{α:Type}{p:Prop} [Decidable p]{a b:α}:(if p then some a else some b)=some (if p then a else b):=by split<;>rfl
@[simp] theorem aau{p:Prop} [Decidable p]{k:IntKind}{a b:Int}:(if p then D.v (.int k a)else D.v (.int k b))= .v (.int k (if p then a else b)):=by split<;>rfl
theorem Sx(i:Nat)(h:i<4611686018427387904):IntKind.i64.wrap (i:Int)=(i:Int):=mV .i64 _ (by show-(9223372036854775808:Int)≤_;omega) (by show _<(9223372036854775808:Int);omega)
theorem Sz(i:Nat)(h:i<4611686018427387904):IntKind.i64.wrap ((i:Int)+1)=((i+1:Nat):Int):=by
 rw[mV .i64 _ (by show-(9223372036854775808:Int)≤_;omega) (by show _<(9223372036854775808:Int);omega)];omega
end
end Ty
end
section
namespace Ty
abbrev uv(z:Int):D:= .v (.int .u8 z)
structure Ou where
 lv:Int
 dn:Int
 rk:Int
 dc:Int
 tr:Int
 wt:Int
def Ou.cells(x:Ou):List D:= [uv x.lv,uv x.dn,uv x.rk,uv x.dc,iv x.tr,iv x.wt]
section
variable {G : FP} {x : Ou}
@[simp] theorem Ou.fb:XK.run G (.pk (.fbox 6)) [.agg x.cells]=some (.lptr x.cells):=nr rfl
@[simp] theorem Ou.aj:XK.run G .aj [.agg x.cells]=some (.agg x.cells):=nr rfl
@[simp] theorem Ou.len:x.cells.length=6:=nr rfl
@[simp] theorem Ou.aK:(D.agg x.cells).aK=true:=nr rfl
@[simp] theorem Ou.rG:x.cells.all D.rG=true:=nr rfl
end
structure Rw where
 rd:Int
 tb:Int
 ns:Int
 ew:Int
 st:Int
def Rw.cells(x:Rw):List D:= [iv x.rd,iv x.tb,iv x.ns,iv x.ew,iv x.st]
section
variable {G : FP} {x : Rw}
@[simp] theorem Rw.cell0:XK.run G (.cell 0 5) [.agg x.cells]=some (iv x.rd):=nr rfl
@[simp] theorem Rw.Tw:XK.run G (.cell 2 5) [.agg x.cells]=some (iv x.ns):=nr rfl
@[simp] theorem Rw.acR:XK.run G (.cell 3 5) [.agg x.cells]=some (iv x.ew):=nr rfl
@[simp] theorem Rw.fb:XK.run G (.pk (.fbox 5)) [.agg x.cells]=some (.lptr x.cells):=nr rfl
@[simp] theorem Rw.SS:XK.run G (.pk (.load 5 true)) [.lptr x.cells]=some (.agg x.cells):=nr rfl
@[simp] theorem Rw.aj:XK.run G .aj [.agg x.cells]=some (.agg x.cells):=nr rfl
@[simp] theorem Rw.len:x.cells.length=5:=nr rfl
@[simp] theorem Rw.aK:(D.agg x.cells).aK=true:=nr rfl
@[simp] theorem Rw.rG:x.cells.all D.rG=true:=nr rfl
end
structure Ky where
 rd:Int
 tb:Int
 bd:Int
def Ky.cells(x:Ky):List D:= [iv x.rd,iv x.tb,iv x.bd]
section
variable {G : FP} {x : Ky}
@[simp] theorem Ky.fb:XK.run G (.pk (.fbox 3)) [.agg x.cells]=some (.lptr x.cells):=nr rfl
@[simp] theorem Ky.aj:XK.run G .aj [.agg x.cells]=some (.agg x.cells):=nr rfl
@[simp] theorem Ky.len:x.cells.length=3:=nr rfl
@[simp] theorem Ky.aK:(D.agg x.cells).aK=true:=nr rfl
@[simp] theorem Ky.rG:x.cells.all D.rG=true:=nr rfl
end
structure Ss where
 tb:Int
 rs:Int
 ss:Int
 cp:Int
 wn:Int
 rows:List Rw
 bs:Int
def Ss.cells(x:Ss):List D:= [iv x.tb,iv x.rs,iv x.ss,iv x.cp,iv x.wn, .list (x.rows.map Rw.cells),iv x.bs]
section
variable {G : FP} {x : Ss}
@[simp] theorem Ss.cell0:XK.run G (.cell 0 7) [.agg x.cells]=some (iv x.tb):=nr rfl
@[simp] theorem Ss.lA:XK.run G (.cell 1 7) [.agg x.cells]=some (iv x.rs):=nr rfl
@[simp] theorem Ss.Tw:XK.run G (.cell 2 7) [.agg x.cells]=some (iv x.ss):=nr rfl
@[simp] theorem Ss.acS:XK.run G (.cell 4 7) [.agg x.cells]=some (iv x.wn):=nr rfl
@[simp] theorem Ss.acT:XK.run G (.cell 5 7) [.agg x.cells]=some (.list (x.rows.map Rw.cells)):=nr rfl
@[simp] theorem Ss.acU:XK.run G (.cell 6 7) [.agg x.cells]=some (iv x.bs):=nr rfl
@[simp] theorem Ss.Vf:XK.run G (.pk (.load 1 false)) [.lptr (x.cells.drop 6)]=some (iv x.bs):=nr rfl
@[simp] theorem Ss.fb:XK.run G (.pk (.fbox 7)) [.agg x.cells]=some (.lptr x.cells):=nr rfl
@[simp] theorem Ss.SS:XK.run G (.pk (.load 7 true)) [.lptr x.cells]=some (.agg x.cells):=nr rfl
@[simp] theorem Ss.aj:XK.run G .aj [.agg x.cells]=some (.agg x.cells):=nr rfl
@[simp] theorem Ss.len:x.cells.length=7:=nr rfl
@[simp] theorem Ss.aK:(D.agg x.cells).aK=true:=nr rfl
@[simp] theorem Ss.rG:x.cells.all D.rG=true:=nr rfl
end
structure En where
 rd:Int
 tb:Int
 bd:Int
 vs:Int
 kd:Int
 fl:Int
 tu:Bool
 o0:Ou
 o1:Ou
 o2:Ou
 o3:Ou
 a0:Int
 a1:Int
def En.outs(x:En):List D:=x.o0.cells++(x.o1.cells++(x.o2.cells++x.o3.cells))
def En.cells(x:En):List D:=iv x.rd::iv x.tb::iv x.bd::iv x.vs::uv x.kd::uv x.fl::bv x.tu::(x.outs++ [iv x.a0,iv x.a1])
section
variable {G : FP} {x : En}
@[simp] theorem En.ld2:XK.run G (.pk (.load 1 false)) [.lptr (x.cells.drop 2)]=some (iv x.bd):=nr rfl
@[simp] theorem En.ldz:XK.run G (.pk (.load 1 false)) [.lptr x.cells]=some (iv x.rd):=nr rfl
@[simp] theorem En.Zf:XK.run G (.pk (.load 1 false)) [.lptr x.cells.tail]=some (iv x.tb):=nr rfl
@[simp] theorem En.fb:XK.run G (.pk (.fbox 33)) [.agg x.cells]=some (.lptr x.cells):=nr rfl
@[simp] theorem En.SS:XK.run G (.pk (.load 33 true)) [.lptr x.cells]=some (.agg x.cells):=nr rfl
@[simp] theorem En.aj:XK.run G .aj [.agg x.cells]=some (.agg x.cells):=nr rfl
@[simp] theorem En.len:x.cells.length=33:=nr rfl
@[simp] theorem En.aK:(D.agg x.cells).aK=true:=nr rfl
@[simp] theorem En.rG:x.cells.all D.rG=true:=nr rfl
end
end Ty
end
section
namespace Ty
def Dd:List Nat:= [185,186,46,94,209,210,211,150,26,12,22,23]
def Fr(H:FP):Prop:= ∀f ds,f<1000000→Dd.contains f=false→H f ds=none
theorem JL:Fr jj:=fun f ds _ h=>by
 have h1:f≠185:=fun e=>by subst e;exact absurd h (by decide)
 have h2:f≠186:=fun e=>by subst e;exact absurd h (by decide)
 unfold jj;rw[if_neg h1,if_neg h2]
theorem C7:Fr aR:=fun f ds h h1=>by unfold aR;rw[if_neg (by omega)];exact JL f ds h h1
noncomputable abbrev GK(H:FP):FP:=GG cx H 10000
variable {H : FP}
theorem aJ(hF:Fr H){f n:Nat}{t:FT}(ho:a_ cx f n t){ds:List D}{d:D}(he:aa (GK H) 10000 t [] ds=some d)(hlt:f<1000000:=by decide)(h1:Dd.contains f=false:=by decide)(hl:ds.length=n:=by rfl)(hn:ds.all D.aK=true:=by rfl):GK H f ds=some d:=gn ho (hF f ds hlt h1) hlt hl hn he
theorem aaC(hF:Fr H)(a:Int):GK H 102 [iv a]=some (bv false):=by
 refine aJ hF HY ?_
 conv=>enter [1,3];cbv
 simp
theorem l96(hF:Fr H)(a b:Int):GK H 53 [iv a,iv b]=some (iv (er a b)):=by
 refine aJ hF Q4 ?_
 conv=>enter [1,3];cbv
 have k: ∀a,XK.run (GK H) (.call false 102) [iv a]=some (bv false):=fun a=>ao (aaC hF a) rfl rfl;simp[k];unfold er;by_cases h1:a<b
 ·simp[h1]
 ·by_cases h2:b<a<;>simp[h1,h2]
theorem l95(hF:Fr H)(a b c:Int):GK H 52 [.list [[iv a],[iv b],[iv c]]]=some (iv (eO a b c)):=by
 refine aJ hF KB ?_;rw[DW];exact F8 (GK H) 9996 a b c
def En.yU(e x:En):Int:=eO (er e.rd x.rd) (er e.tb x.tb) (er e.bd x.bd)
theorem l82(hF:Fr H)(e x:En):GK H 109 [.agg e.cells, .agg x.cells]=some (iv (e.yU x)):=by
 refine aJ hF MD ?_
 conv=>enter [1,3];cbv
 have k: ∀a b,XK.run (GK H) (.call false 53) [iv a,iv b]=some (iv (er a b)):=fun a b=>ao (l96 hF a b) rfl rfl;have k2: ∀a b c,XK.run (GK H) (.call true 52) [.list [[iv a],[iv b],[iv c]]]=some (iv (eO a b c)):=fun a b c=>ao (l95 hF a b c) rfl rfl;have k3: ∀a b c,XK.run (GK H) (.lit 1 3 [iv 0,iv 0,iv 0] [(0,1),(1,1),(2,1)]) [iv a,iv b,iv c]=some (.list [[iv a],[iv b],[iv c]]):=fun a b c=>rfl;simp[k,k2,k3,En.yU]
def Ky.cmp(e x:Ky):Int:=eO (er e.rd x.rd) (er e.tb x.tb) (er e.bd x.bd)
def Ou.bN(o:Ou):List Int:= [IntKind.i64.wrap o.lv,IntKind.i64.wrap o.dn,IntKind.i64.wrap o.rk,IntKind.i64.wrap o.dc,o.tr,o.wt]
def En.bN(e:En):List Int:=e.rd::e.tb::e.bd::e.vs::IntKind.i64.wrap e.kd::IntKind.i64.wrap e.fl::(bif e.tu then 1 else 0)::(e.o0.bN++(e.o1.bN++(e.o2.bN++(e.o3.bN++ [e.a0,e.a1]))))
theorem l83(hF:Fr H)(e:En):GK H 110 [.agg e.cells]=some (.agg (e.bN.map iv)):=by
 refine aJ hF ME ?_;rw[←Bg];obtain⟨rd,tb,bd,vs,kd,fl,tu,o0,o1,o2,o3,a0,a1⟩:=e;cases tu<;>kernel_rfl
section
variable {G : FP} {x : En}
@[simp] theorem En.nc0:XK.run G (.cell 0 33) [.agg (x.bN.map iv)]=some (iv (x.rd)):=nr rfl
@[simp] theorem En.nc1:XK.run G (.cell 1 33) [.agg (x.bN.map iv)]=some (iv (x.tb)):=nr rfl
@[simp] theorem En.nc2:XK.run G (.cell 2 33) [.agg (x.bN.map iv)]=some (iv (x.bd)):=nr rfl
@[simp] theorem En.nc3:XK.run G (.cell 3 33) [.agg (x.bN.map iv)]=some (iv (x.vs)):=nr rfl
@[simp] theorem En.nc4:XK.run G (.cell 4 33) [.agg (x.bN.map iv)]=some (iv (IntKind.i64.wrap x.kd)):=nr rfl
@[simp] theorem En.nc5:XK.run G (.cell 5 33) [.agg (x.bN.map iv)]=some (iv (IntKind.i64.wrap x.fl)):=nr rfl
@[simp] theorem En.nc6:XK.run G (.cell 6 33) [.agg (x.bN.map iv)]=some (iv (bif x.tu then 1 else 0)):=nr rfl
@[simp] theorem En.nc7:XK.run G (.cell 7 33) [.agg (x.bN.map iv)]=some (iv (IntKind.i64.wrap x.o0.lv)):=nr rfl
@[simp] theorem En.nc8:XK.run G (.cell 8 33) [.agg (x.bN.map iv)]=some (iv (IntKind.i64.wrap x.o0.dn)):=nr rfl
@[simp] theorem En.nc9:XK.run G (.cell 9 33) [.agg (x.bN.map iv)]=some (iv (IntKind.i64.wrap x.o0.rk)):=nr rfl
@[simp] theorem En.adD:XK.run G (.cell 10 33) [.agg (x.bN.map iv)]=some (iv (IntKind.i64.wrap x.o0.dc)):=nr rfl
@[simp] theorem En.adE:XK.run G (.cell 11 33) [.agg (x.bN.map iv)]=some (iv (x.o0.tr)):=nr rfl
@[simp] theorem En.adF:XK.run G (.cell 12 33) [.agg (x.bN.map iv)]=some (iv (x.o0.wt)):=nr rfl
@[simp] theorem En.adG:XK.run G (.cell 13 33) [.agg (x.bN.map iv)]=some (iv (IntKind.i64.wrap x.o1.lv)):=nr rfl
@[simp] theorem En.adH:XK.run G (.cell 14 33) [.agg (x.bN.map iv)]=some (iv (IntKind.i64.wrap x.o1.dn)):=nr rfl
@[simp] theorem En.adI:XK.run G (.cell 15 33) [.agg (x.bN.map iv)]=some (iv (IntKind.i64.wrap x.o1.rk)):=nr rfl
@[simp] theorem En.adJ:XK.run G (.cell 16 33) [.agg (x.bN.map iv)]=some (iv (IntKind.i64.wrap x.o1.dc)):=nr rfl
@[simp] theorem En.adK:XK.run G (.cell 17 33) [.agg (x.bN.map iv)]=some (iv (x.o1.tr)):=nr rfl
@[simp] theorem En.adL:XK.run G (.cell 18 33) [.agg (x.bN.map iv)]=some (iv (x.o1.wt)):=nr rfl
@[simp] theorem En.adM:XK.run G (.cell 19 33) [.agg (x.bN.map iv)]=some (iv (IntKind.i64.wrap x.o2.lv)):=nr rfl
@[simp] theorem En.adN:XK.run G (.cell 20 33) [.agg (x.bN.map iv)]=some (iv (IntKind.i64.wrap x.o2.dn)):=nr rfl
@[simp] theorem En.adO:XK.run G (.cell 21 33) [.agg (x.bN.map iv)]=some (iv (IntKind.i64.wrap x.o2.rk)):=nr rfl
@[simp] theorem En.adP:XK.run G (.cell 22 33) [.agg (x.bN.map iv)]=some (iv (IntKind.i64.wrap x.o2.dc)):=nr rfl
@[simp] theorem En.adQ:XK.run G (.cell 23 33) [.agg (x.bN.map iv)]=some (iv (x.o2.tr)):=nr rfl
@[simp] theorem En.adR:XK.run G (.cell 24 33) [.agg (x.bN.map iv)]=some (iv (x.o2.wt)):=nr rfl
@[simp] theorem En.adS:XK.run G (.cell 25 33) [.agg (x.bN.map iv)]=some (iv (IntKind.i64.wrap x.o3.lv)):=nr rfl
@[simp] theorem En.adT:XK.run G (.cell 26 33) [.agg (x.bN.map iv)]=some (iv (IntKind.i64.wrap x.o3.dn)):=nr rfl
@[simp] theorem En.adU:XK.run G (.cell 27 33) [.agg (x.bN.map iv)]=some (iv (IntKind.i64.wrap x.o3.rk)):=nr rfl
@[simp] theorem En.adV:XK.run G (.cell 28 33) [.agg (x.bN.map iv)]=some (iv (IntKind.i64.wrap x.o3.dc)):=nr rfl
@[simp] theorem En.adW:XK.run G (.cell 29 33) [.agg (x.bN.map iv)]=some (iv (x.o3.tr)):=nr rfl
@[simp] theorem En.adX:XK.run G (.cell 30 33) [.agg (x.bN.map iv)]=some (iv (x.o3.wt)):=nr rfl
@[simp] theorem En.adY:XK.run G (.cell 31 33) [.agg (x.bN.map iv)]=some (iv (x.a0)):=nr rfl
@[simp] theorem En.adZ:XK.run G (.cell 32 33) [.agg (x.bN.map iv)]=some (iv (x.a1)):=nr rfl
end
def eK:List Int→List Int→Int
 | [],[]=>0
 | [],_::_=> -1
 |_::_,[]=>1
 |a::r,b::s=>if er a b=0 then eK r s else er a b
theorem fB{a b:Int}:er a b=0↔a=b:=by unfold er;repeat' split<;>omega
theorem kO{α:Type}{l:List α}{i:Nat}{a:α}(h:l[i]?=some a):l.drop i=a::l.drop (i+1):=by
 obtain⟨hi,rfl⟩:=Gz.1 h;exact List.drop_eq_getElem_cons hi
theorem jY{α:Type}{l:List α}{i:Nat}(h:l[i]?=none):l.drop i= []:=by simpa using h
theorem l84(hF:Fr H)(xs ys:List Int)(hx:xs.length<9999):GK H 111 [.list (xs.map fun z=> [iv z]), .list (ys.map fun z=> [iv z])]=some (iv (eK xs ys)):=by
 refine aJ hF MF ?_
 conv=>enter [1,3];cbv
 have k: ∀a b,XK.run (GK H) (.call false 53) [iv a,iv b]=some (iv (er a b)):=fun a b=>ao (l96 hF a b) rfl rfl;simp;refine e6 (S:=Nat) (enc:=fun i=> [iv (i:Int),iv 0]) (res:=fun i=>iv (eK (xs.drop i) (ys.drop i))) (mes:=fun i=>xs.length-i) (ok:=fun i=>i≤xs.length∧i≤ys.length) ?_ 0 ⟨by omega,by omega⟩ (by omega);rintro rec i ⟨h1,h2⟩ ih;cases h3:xs[i]? with
 |some a=>
  have l3:=(Gz.1 h3).1;rw[kO h3];cases h4:ys[i]? with
  |some b=>
   have l4:=(Gz.1 h4).1;have ih:=ih (i+1) ⟨l3,l4⟩ (by omega);rw[kO h4];have e3:xs[i]=a:=(Gz.1 h3).2;have e4:ys[i]=b:=(Gz.1 h4).2;simp[k,l3,l4,e3,e4,Int.not_le.2 (Int.ofNat_lt.2 l4),eK,Sz i (by omega)];by_cases h5:er a b=0
   ·simpa[h5]using ih
   ·simp[h5]
  |none=>
   have l4:=List.getElem?_eq_none_iff.1 h4;rw[jY h4];simp[h3,l3,Int.ofNat_le.2 l4,eK]
 |none=>
  have l3:=List.getElem?_eq_none_iff.1 h3;rw[jY h3];cases h4:ys[i]? with
  |some b=>
   have l4:=(Gz.1 h4).1;rw[kO h4];have e:xs.length=i:=by omega
   simp[e,l4,eK]
  |none=>
   have l4:=List.getElem?_eq_none_iff.1 h4;rw[jY h4];have e:xs.length=i:=by omega
   have e':ys.length=i:=by omega
   simp[e,e',eK]
theorem zg: ∀(ks:List Nat) (xs ys:List Int),(∀k∈ks,k=3)→ks.length=xs.length→ys.length=xs.length→ae ks (xs.map iv) (ys.map iv)=some (decide (xs=ys))
 | [],[],[],_,_,_=>rfl
 |k::ks,a::xs,b::ys,h,h1,h2=>by
  obtain rfl:=h k (List.mem_cons_self ..);rw[List.map_cons,List.map_cons,LO,zg ks xs ys (fun k hk=>h k (Cz _ hk)) (by simpa using h1) (by simpa using h2)];simp[Bool.decide_and]
 | [],_::_,_,_,h,_=>by simp at h
 |_::_,[],_,_,h,_=>by simp at h
 |_,[],_::_,_,_,h=>by simp at h
 |_,_::_,[],_,_,h=>by simp at h
def En.lex(e x:En):Int:=eK e.bN x.bN
def En.cmp(e x:En):Int:=if e.yU x≠0 then e.yU x else e.lex x
theorem pT: ∀l,eK l l=0
 | []=>rfl
 |a::r=>by simp[eK,fB,pT r]
theorem l44(hF:Fr H)(e x:En):GK H 62 [.agg e.cells, .agg x.cells]=some (iv (e.cmp x)):=by
 refine aJ hF WZ ?_
 conv=>enter [1,3];cbv
 have k: ∀e x:En,XK.run (GK H) (.call false 109) [.agg e.cells, .agg x.cells]=some (iv (e.yU x)):=fun e x=>ao (l82 hF e x) rfl rfl;have k2: ∀e:En,XK.run (GK H) (.call false 110) [.agg e.cells]=some (.agg (e.bN.map iv)):=fun e=>ao (l83 hF e) rfl rfl;have k3: ∀e x:En,XK.run (GK H) (.call true 111) [.list (e.bN.map fun z=> [iv z]), .list (x.bN.map fun z=> [iv z])]=some (iv (e.lex x)):=fun e x=>ao (l84 hF e.bN x.bN (by show 33<9999;decide)) rfl rfl;have k4:=zg [3,3,3,3,3,3,3,3,3,3,3,3,3,3,3,3,3,3,3,3,3,3,3,3,3,3,3,3,3,3,3,3,3] e.bN x.bN (by decide) rfl rfl;simp[En.bN,Ou.bN]at k3;simp[k,k2,k4];by_cases h1:e.yU x=0
 ·by_cases h2:e.bN=x.bN
  ·have:e.lex x=0:=by unfold En.lex;rw[h2,pT]
   simp[h1,h2,En.cmp,this]
  ·simp[h1,h2,En.cmp,k3]
 ·simp[h1,En.cmp]
end Ty
end
section
namespace Ty
variable {H : FP}
@[simp] theorem aaZ{a b:Value}:D.aK (.tup [.v a, .v b])=true:=nr rfl
@[simp] theorem abF{x:X}{a b:Value}:eR x (.tup [.v a, .v b])= .tup [.v a, .v b]:=nr rfl
theorem wr{z:Int}(h1: -9223372036854775808≤z)(h2:z<9223372036854775808):IntKind.i64.wrap z=z:=mV .i64 z h1 h2
def oX:List En→Bool
 |a::b::r=>if a.cmp b<0 then oX (b::r)else false
 |_=>true
theorem l55(hF:Fr H)(l:List En)(hl:l.length<9999):GK H 75 [.list (l.map En.cells)]=some (bv (oX l)):=by
 refine aJ hF W5 ?_
 conv=>enter [1,3];cbv
 have k: ∀e x:En,XK.run (GK H) (.call false 62) [.agg e.cells, .agg x.cells]=some (iv (e.cmp x)):=fun e x=>ao (l44 hF e x) rfl rfl;simp;refine e6 (S:=Nat) (enc:=fun j=> [iv ((j:Int)+1),bv false]) (res:=fun j=>bv (oX (l.drop j))) (mes:=fun j=>l.length-j) (ok:=fun j=>j≤l.length) ?_ 0 (by omega) (by omega);intro rec j h1 ih;cases h3:l[j+1]? with
 |some b=>
  have l3:=(Gz.1 h3).1;have e3:l[j+1]=b:=(Gz.1 h3).2;have h2:l[j]?=some l[j]:=Ez (by omega);generalize l[j]=a at h2;have e2:l[j]=a:=by rw[Ez (by omega)]at h2;exact Option.some.inj h2
  have ih:=ih (j+1) (by omega) (by omega);rw[kO h2,kO h3];rw[kO h3]at ih;have l3':(j:Int)+1<l.length:=by omega
  have l2':j<l.length:=by omega
  simp[k,l3,l3',l2',e3,e2,oX,Sx j (by omega),wr (z:=(j:Int)+1+1) (by omega) (by omega)];by_cases h5:a.cmp b<0
  ·simpa[h5,Int.not_le.2 h5]using ih
  ·simp[h5,Int.not_lt.1 h5]
 |none=>
  have l3:=List.getElem?_eq_none_iff.1 h3;have l3': ¬(j:Int)+1<l.length:=by omega
  have:oX (l.drop j)=true:=by
   cases h2:l[j]? with
   |none=>rw[jY h2];rfl
   |some a=>rw[kO h2,jY h3];rfl
  simp[l3',this]
def Ou.xK(o:Ou):Bool:=if o.lv=0 then(decide (o.lv=0)&&(decide (o.dn=0)&&(decide (o.rk=0)&&decide (o.dc=0))))&&decide (o.tr=0)
 else decide (o.lv≤7)&&decide (o.dn≤4)&&decide (o.rk≤2)&&decide (o.dc≤3)&&decide (0≤o.tr)&&decide (o.tr≤13)
def Gu(rd tb:Int):List Rw→Option Nat
 | []=>none
 |r::s=>if r.rd=rd∧r.tb=tb then some 0 else(Gu rd tb s).map (· +1)
section
variable {G : FP} {N : Nat} {b : FT} {L : List (List D → Option D)} {E ds : List D} {x : En}
theorem Zi:gV G N b L E 10000 ds=aa G N b (gV G N b L E 9999::L) (E++ds):=rfl
theorem SU:gV G N b L E 9999 ds=aa G N b (gV G N b L E 9998::L) (E++ds):=rfl
theorem Ja:gV G N b L E 9998 ds=aa G N b (gV G N b L E 9997::L) (E++ds):=rfl
@[simp] theorem wr1:IntKind.i64.wrap 1=1:=nr rfl
@[simp] theorem wr2:IntKind.i64.wrap 2=2:=nr rfl
@[simp] theorem wr3:IntKind.i64.wrap 3=3:=nr rfl
@[simp] theorem wr4:IntKind.i64.wrap 4=4:=nr rfl
@[simp] theorem abr{e size:Nat}{es:List (List D)}:XK.run G (.pk (.idx e size)) [.list es,iv 1]=(es[1]?).bind fun c=>if c.length=size then some (.lptr c)else none:=wj (i:=1)
end
def Ou.wOK(o:Ou):Bool:= !(decide (o.wt<1)||decide (99<o.wt))&&o.xK
def AK:List Ou→Int→Nat→Int×Bool
 | [],s,n=>((n:Int),decide (2≤n)&&decide (s=100))
 |o::r,s,n=>if o.wt=0 then((n:Int),decide (2≤n)&&decide (s=100))else if o.wOK then AK r (IntKind.i64.wrap (s+o.wt)) (n+1)else(0,false)
def En.used(e:En):Int×Bool:=
 if e.kd=1 then(if e.o0.xK=true∧e.o0.wt=0 then(1,true)else(0,false))
 else if e.kd=3 then(if(e.o0.xK=true∧e.o0.wt=0)∧(e.o1.xK=true∧e.o1.wt=0)then(2,true)else(0,false))
 else if e.kd=2 then AK [e.o0,e.o1,e.o2,e.o3] 0 0
 else(0,true)
end Ty
end
section
namespace Ty
variable {H : FP}
def Ou.isZ(o:Ou):Bool:=decide (o.lv=0)&&(decide (o.dn=0)&&(decide (o.rk=0)&&(decide (o.dc=0)&&(decide (o.tr=0)&&decide (o.wt=0)))))
def awd(a:Int):Bool:=decide (a=0)||decide (a=30)||decide (a=40)||decide (a=50)||decide (a=60)||decide (a=70)||decide (a=100)
def En.ol(e:En):List Ou:= [e.o0,e.o1,e.o2,e.o3]
def En.aOK(e:En):Bool:=if e.kd=4 then awd e.a0&&awd e.a1 else decide (e.a0=0)&&decide (e.a1=0)
def En.right(e:En):Bool:=
 if 4<e.kd∨3<e.fl then false
 else if e.used.2=false then false
 else if e.used.1=0∧(e.fl≠0∨e.tu=true)then false
 else(e.ol.drop e.used.1.toNat).all Ou.isZ&&e.aOK
section
variable {G : FP} {x : En}
@[simp] theorem acO{a b:Int}:XK.run G (.pk (.aix 2 1 false)) [.agg [iv a,iv b],iv 0]=some (iv a):=nr rfl
@[simp] theorem acP{a b:Int}:XK.run G (.pk (.aix 2 1 false)) [.agg [iv a,iv b],iv 1]=some (iv b):=nr rfl
end
def Ss.bm(s:Ss)(e:En):Int:=match Gu e.rd e.tb s.rows with
 |none=>310
 |some i=>match s.rows[i]? with
  |none=>0
  |some r=>if r.ns≤0∨r.ew≤0 then 310
   else if s.bs<1∨e.bd<1∨128<e.bd∨IntKind.i64.wrap ((IntKind.i64.wrap (e.bd-1)).tdiv s.bs)≠r.st then 311
   else if e.vs<1∨99<e.vs then 312
   else if e.right=false then 313 else 0
end Ty
end
section
namespace Ty
theorem lV{a b:Int}:er a b<0↔a<b:=by unfold er;repeat' split<;>omega
theorem F7{a b:Int}:0<er a b↔b<a:=by unfold er;repeat' split<;>omega
theorem pU: ∀{xs ys:List Int},eK xs ys=0↔xs=ys
 | [],[]=>by simp[eK]
 | [],_::_=>by simp[eK]
 |_::_,[]=>by simp[eK]
 |a::r,b::s=>by
  unfold eK;by_cases h:er a b=0
  ·rw[if_pos h,pU,fB.1 h];simp
  ·rw[if_neg h];have:a≠b:=fun e=>h (fB.2 e);simp[h,this]
theorem tj: ∀{xs ys:List Int},eK xs ys<0↔0<eK ys xs
 | [],[]=>by simp[eK]
 | [],_::_=>by simp[eK]
 |_::_,[]=>by simp[eK]
 |a::r,b::s=>by
  unfold eK;by_cases h:a=b
  ·rw[if_pos (fB.2 h),if_pos (fB.2 h.symm),tj]
  ·rw[if_neg (fun e=>h (fB.1 e)),if_neg (fun e=>h (fB.1 e).symm),lV,F7]
theorem nQ: ∀{xs ys zs:List Int},eK xs ys<0→eK ys zs<0→eK xs zs<0
 | [],[],_,h,_=>by simp[eK]at h
 | [],_::_,[],_,h=>by simp[eK]at h
 | [],_::_,_::_,_,_=>by simp[eK]
 |_::_,[],_,h,_=>by simp[eK]at h
 |_::_,_::_,[],_,h=>by simp[eK]at h
 |a::r,b::s,c::t,h,k=>by
  unfold eK at h k⊢;by_cases h1:a=b
  ·subst h1;rw[if_pos (fB.2 rfl)]at h;by_cases h2:a=c
   ·subst h2;rw[if_pos (fB.2 rfl)]at k⊢;exact nQ h k
   ·rw[if_neg (fun e=>h2 (fB.1 e))]at k⊢;exact k
  ·rw[if_neg (fun e=>h1 (fB.1 e)),lV]at h;by_cases h2:b=c
   ·subst h2;rw[if_neg (fun e=>h1 (fB.1 e)),lV];exact h
   ·rw[if_neg (fun e=>h2 (fB.1 e)),lV]at k;rw[if_neg (fun e=>by have:=fB.1 e;omega),lV];omega
theorem ry(e x:En):e.cmp x=e.lex x:=by
 unfold En.cmp;split
 ·rename_i h;unfold En.yU at h⊢;unfold En.lex En.bN;simp only[eK];unfold eO at h⊢;by_cases h1:er e.rd x.rd=0
  ·by_cases h2:er e.tb x.tb=0
   ·by_cases h3:er e.bd x.bd=0
    ·simp[h1,h2,h3]at h
    ·simp[h1,h2,h3]
   ·simp[h1,h2]
  ·simp[h1]
 ·rfl
theorem vC{a b c:En}(h:a.cmp b<0)(k:b.cmp c<0):a.cmp c<0:=by
 rw[ry]at h k⊢;exact nQ h k
theorem sr(a:En): ¬a.cmp a<0:=by rw[ry];unfold En.lex;rw[pT];omega
theorem A4{a b c:En}(h: ¬a.cmp b<0)(k: ¬b.cmp c<0): ¬a.cmp c<0:=by
 rw[ry]at h k⊢;unfold En.lex at h k⊢
 have e: ∀{x y:List Int},¬eK x y<0↔eK y x<0∨x=y:=fun{x y}=>by
  rw[tj (xs:=y),←pU];omega
 rw[e]at h k⊢;rcases h with h|h
 ·rcases k with k|k
  ·exact .inl (nQ k h)
  ·rw[←k];exact .inl h
 ·rw[h];exact k
def u8(z:Int):Bool:=decide (0≤z)&&decide (z<256)
def Ou.okB(o:Ou):Bool:=u8 o.lv&&u8 o.dn&&u8 o.rk&&u8 o.dc
def En.okB(e:En):Bool:=u8 e.kd&&u8 e.fl&&e.o0.okB&&e.o1.okB&&e.o2.okB&&e.o3.okB
theorem Lf{z:Int}(h:u8 z=true):IntKind.i64.wrap z=z:=by
 simp[u8]at h;exact wr (by omega) (by omega)
theorem HV{e x:En}(he:e.okB=true)(hx:x.okB=true)(h:e.bN=x.bN):e=x:=by
 obtain⟨rd,tb,bd,vs,kd,fl,tu,⟨l0,d0,r0,c0,t0,w0⟩,⟨l1,d1,r1,c1,t1,w1⟩,⟨l2,d2,r2,c2,t2,w2⟩,⟨l3,d3,r3,c3,t3,w3⟩,a0,a1⟩:=e;obtain⟨rd',tb',bd',vs',kd',fl',tu',⟨l0',d0',r0',c0',t0',w0'⟩,⟨l1',d1',r1',c1',t1',w1'⟩,⟨l2',d2',r2',c2',t2',w2'⟩,⟨l3',d3',r3',c3',t3',w3'⟩,a0',a1'⟩:=x;simp[En.okB,Ou.okB,Az]at he hx;simp[En.bN,Ou.bN]at h
 have e1:tu=tu':=by
  have:=h.2.2.2.2.2.2.1;cases tu<;>cases tu'<;>simp at this⊢
 simp[Lf,he,hx]at h;simp[h,e1]
end Ty
end
section
namespace Ty
def tI{α:Type}(k:IntKind)(f:Int→List D→Option α):List D→Option α
 | .v (.int q z)::r=>if q=k then f z r else none
 |_=>none
def tB{α:Type}(f:Bool→List D→Option α):List D→Option α
 | .v (.bool b)::r=>f b r
 |_=>none
theorem ek{α:Type}{k:IntKind}{f:Int→List D→Option α}{l:List D}{a:α}(h:tI k f l=some a): ∃z r,l= .v (.int k z)::r∧f z r=some a:=by
 unfold tI at h;split at h
 ·split at h
  ·rename_i e;subst e;exact⟨_,_,rfl,h⟩
  ·cases h
 ·cases h
theorem K8{α:Type}{f:Bool→List D→Option α}{l:List D}{a:α}(h:tB f l=some a): ∃z r,l= .v (.bool z)::r∧f z r=some a:=by
 unfold tB at h;split at h
 ·exact⟨_,_,rfl,h⟩
 ·cases h
def tO{α:Type}(f:Ou→List D→Option α):List D→Option α:=
 tI .u8 fun a=>tI .u8 fun b=>tI .u8 fun c=>tI .u8 fun d=>tI .i64 fun e=>tI .i64 fun g=>f ⟨a,b,c,d,e,g⟩
theorem rR{α:Type}{f:Ou→List D→Option α}{l:List D}{a:α}(h:tO f l=some a): ∃o r,l=o.cells++r∧f o r=some a:=by
 unfold tO at h;obtain⟨z1,r1,rfl,h1⟩:=ek h;obtain⟨z2,r2,rfl,h2⟩:=ek h1;obtain⟨z3,r3,rfl,h3⟩:=ek h2;obtain⟨z4,r4,rfl,h4⟩:=ek h3;obtain⟨z5,r5,rfl,h5⟩:=ek h4;obtain⟨z6,r6,rfl,h6⟩:=ek h5;exact⟨_,r6,rfl,h6⟩
def RH{α:Type}(a:α):List D→Option α
 | []=>some a
 |_=>none
def Eb:List D→Option En:=
 tI .i64 fun rd=>tI .i64 fun tb=>tI .i64 fun bd=>tI .i64 fun vs=>tI .u8 fun kd=>tI .u8 fun fl=>tB fun tu=>tO fun o0=>tO fun o1=>tO fun o2=>tO fun o3=>tI .i64 fun a0=>tI .i64 fun a1=>RH ⟨rd,tb,bd,vs,kd,fl,tu,o0,o1,o2,o3,a0,a1⟩
theorem Ec{l:List D}{e:En}(h:Eb l=some e):l=e.cells:=by
 unfold Eb at h;obtain⟨z1,r1,rfl,h1⟩:=ek h;obtain⟨z2,r2,rfl,h2⟩:=ek h1;obtain⟨z3,r3,rfl,h3⟩:=ek h2;obtain⟨z4,r4,rfl,h4⟩:=ek h3;obtain⟨z5,r5,rfl,h5⟩:=ek h4;obtain⟨z6,r6,rfl,h6⟩:=ek h5;obtain⟨z7,r7,rfl,h7⟩:=K8 h6;obtain⟨o0,r8,rfl,h8⟩:=rR h7;obtain⟨o1,r9,rfl,h9⟩:=rR h8;obtain⟨o2,ra,rfl,h10⟩:=rR h9;obtain⟨o3,rb,rfl,h11⟩:=rR h10;obtain⟨z8,rc,rfl,h12⟩:=ek h11;obtain⟨z9,rd,rfl,h13⟩:=ek h12;unfold RH at h13;split at h13
 ·cases h13;rfl
 ·cases h13
theorem A7(e:En):Eb e.cells=some e:=rfl
def vM(l:List D):Bool:=match Eb l with
 |some e=>e.okB
 |none=>false
theorem dC{l:List D}(h:vM l=true): ∃e:En,l=e.cells∧e.okB=true:=by
 unfold vM at h;split at h
 ·rename_i e he;exact⟨e,Ec he,h⟩
 ·cases h
def SL(l m:List D):Int:=match Eb l,Eb m with
 |some e,some x=>e.cmp x
 |_,_=>0
theorem jX(e x:En):SL e.cells x.cells=e.cmp x:=by simp[SL,A7]
theorem PD:wK Tryz.prog 62 33 vM SL where
 len x h:=by obtain⟨e,rfl,_⟩:=dC h;rfl
 pl x h d hd:=by
  obtain⟨e,rfl,_⟩:=dC h;have:e.cells.all jG=true:=rfl;exact Tz.1 this d hd
 ok x y hx hy:=by
  obtain⟨e,rfl,_⟩:=dC hx;obtain⟨e',rfl,_⟩:=dC hy;rw[jX];exact((jO (C:=cx) (N:=10000) rfl fS l_).p 62 _ _ (by decide) (l44 C7 e e')).1
 body:=⟨Tryz.f62,Tryz.func62,rfl,by kernel_rfl⟩
 lt:=by decide
 irrefl x h:=by
  obtain⟨e,rfl,_⟩:=dC h;rw[jX];exact sr e
 trans x y z hx hy hz:=by
  obtain⟨a,rfl,_⟩:=dC hx;obtain⟨b,rfl,_⟩:=dC hy;obtain⟨c,rfl,_⟩:=dC hz;simp only[jX];exact vC
 ntrans x y z hx hy hz:=by
  obtain⟨a,rfl,_⟩:=dC hx;obtain⟨b,rfl,_⟩:=dC hy;obtain⟨c,rfl,_⟩:=dC hz;simp only[jX];exact A4
 anti x y hx hy:=by
  obtain⟨a,rfl,ha⟩:=dC hx;obtain⟨b,rfl,hb⟩:=dC hy;simp only[jX];intro h k;rw[ry]at h k;unfold En.lex at h k
  have h1:eK a.bN b.bN=0:=by
   rw[tj]at k;omega
  rw[HV ha hb (pU.1 h1)]
theorem JE{es:List (List D)}(P7:es= []→wM Tryz.prog 61 [.list [], .clo 62 []] (.tup []))(hes: ∀x∈es,vM x=true)(hlen:es.length<4611686018427387904):OL Tryz.prog 0 61 [.list es, .clo 62 []] es (cL (ES SL) es) (.tup []):=
 PD.sort (ρ:=Tryz.nq) Tryz.wy (fun w=>by rfl) (fun w=>by rfl) ⟨Tryz.f61,Tryz.func61,rfl,by kernel_rfl⟩ (x0:=(⟨0,0,0,0,0,0,false,⟨0,0,0,0,0,0⟩,⟨0,0,0,0,0,0⟩,⟨0,0,0,0,0,0⟩,⟨0,0,0,0,0,0⟩,0,0⟩:En).cells) rfl hes hlen P7
end Ty
end
section
open Go.RowKit Go.Sort
namespace Ty
end Ty
end
section
namespace Ty
theorem As: ∀l:List En,oX l=true↔l.Pairwise (fun a b=>a.cmp b<0)
 | []=>by simp[oX]
 | [a]=>by simp[oX]
 |a::b::r=>by
  have ih:=As (b::r);unfold oX;rw[List.pairwise_cons,←ih];constructor
  ·intro h;split at h
   ·rename_i h1;refine⟨fun x hx=> ?_,h⟩;rcases List.mem_cons.1 hx with rfl|hx
    ·exact h1
    ·exact vC h1 ((List.pairwise_cons.1 (ih.1 h)).1 x hx)
   ·cases h
  ·rintro⟨h1,h2⟩;rw[if_pos (h1 b (List.mem_cons_self ..))];exact h2
theorem B7(l:List En)(z:En):oX (l++ [z,z])=false:=by
 cases h:oX (l++ [z,z])with
 |false=>rfl
 |true=>
  have h1:=List.pairwise_append.1 ((As _).1 h);have h2:=(List.pairwise_cons.1 h1.2.1).1 z (by simp);exact absurd h2 (sr z)
def runK(k:En):List En→Nat
 | []=>0
 |a::r=>if a.yU k=0 then runK k r+1 else 0
end Ty
end
section
namespace Ty
variable {H : FP}
theorem e7{G:FP}{fl:Bool}{f:Nat}{ds:List D}{d:D}(h:G f ds=some d.own)(h2:d.aK=true):XK.run G (.call fl f) ds=some d:=by
 show(G f ds).bind _=_;rw[h,Oz];show(if(if fl then d.flat||true&&d.aK else d.aK)=true then some d else none)=_;rw[h2];cases fl<;>simp
theorem rM{G:FP}{f:Nat}{ds:List D}{r d:D}(h:G f ds=some r)(hb:r.bare=d)(h2:d.aK=true):XK.run G (.call false f) ds=some d:=by
 show(G f ds).bind _=_;rw[h,Oz];show(if r.bare.aK=true then some r.bare else none)=_;rw[hb,h2];rfl
end Ty
end
section
namespace Ty
variable {H : FP}
def sub:List Nat→FT→FT
 | [],t=>t
 |_::p, .bm _ k=>sub p k
 |_::p, .lets _ k=>sub p k
 |_::p, .loop _ k=>sub p k
 |0::p, .ite _ a _=>sub p a
 |_::p, .ite _ _ b=>sub p b
 |0::p, .jp k _=>sub p k
 |_::p, .jp _ b=>sub p b
 |_,t=>t
end Ty
end
section
namespace Ty
variable {H : FP}
section
variable {G : FP}
end
end Ty
end
section
namespace Ty
variable {H : FP}
@[simp] theorem adb{G:FP}{d:D}:XK.run G .own [d]=some d:=nr rfl
theorem oN{x:X}{es:List (List D)}(h:es.all (fun c=>c.all D.bB)=true):lJ (.mk .own [x]) (.list es)=true:=by
 cases es with
 |nil=>rfl
 |cons a r=>exact h
@[simp] theorem Zn{es:List (List D)}{v:Value}:D.aK (.tup [.list es, .v v])=true:=nr rfl
theorem ZS{G:FP}{a:D}{xs:List D}:XK.run G (.capc 123 0 2) [.clo 123 [.lptr xs,a]]=some (.lptr xs):=rfl
theorem ZT{G:FP}{a:D}{xs:List D}:XK.run G (.capc 123 1 2) [.clo 123 [a, .lptr xs]]=some (.lptr xs):=rfl
end Ty
end
section
namespace Ty
def cs(v n c m:Nat):List X:=(List.range m).map fun j=>X.mk (.cell (c+j) n) [.t v]
theorem abJ:RL= .lets [.mk (.pk (.fbox 7)) [.t 0]] (.lets [.mk (.call false 65) [.mk .aj [.mk (.pk (.load 7 true)) [.t 2]], .mk .aj [.t 1]]] (.lets [.mk (.pk (.ext 1)) [.t 3]] (.lets [.mk (.pk (.ext 0)) [.t 3]] (.lets [.mk (.pk (.ibin .neq)) [.t 4, .q (iv 0)]] (.ite (.t 6) (.bm [.mk .eV [.q .nil], .mk .eV [.t 4]] (.ret (.mk .tup [.mk .aj [.q .nil], .mk .aj [.t 4]]))) (.lets [.mk (.call false 66) [.mk .aj [.mk (.pk (.load 7 true)) [.t 2]]]] (.bm [.mk .eV [.t 7]] (.lets [.mk (.call false 67) [.mk .aj [.mk (.pk (.load 7 true)) [.t 2]], .mk .aj [.t 5]]] (.bm [.mk (.isc 113 2) [.t 8]] (.lets [.mk (.capc 113 0 2) [.t 8]] (.lets [.mk (.capc 113 1 2) [.t 8]] (.lets [.mk (.pk .llen) [.mk (.pk (.load 1 false)) [.t 9]]] (.lets [.mk (.pk (.load 1 false)) [.t 9]] (.loop [.q (iv 0), .q (.list [])] (.lets [.mk (.pk (.ibin .lss)) [.t 13, .t 11]] (.ite (.t 15) (.bm [.mk (.cell 0 33) [.mk (.pk (.load 33 true)) [.mk (.pk (.idx 69 33)) [.t 12, .t 13]]]] (.lets [.mk (.pk (.load 33 true)) [.mk (.pk (.idx 69 33)) [.t 12, .t 13]]] (.lets [.mk (.mapp [3] 33) [.t 14, .mk (.cell 2 33) [.t 16], .mk (.lit 33 1 [iv 0,iv 0,iv 0,iv 0,uv 0,uv 0,bv false,uv 0,uv 0,uv 0,uv 0,iv 0,iv 0,uv 0,uv 0,uv 0,uv 0,iv 0,iv 0,uv 0,uv 0,uv 0,uv 0,iv 0,iv 0,uv 0,uv 0,uv 0,uv 0,iv 0,iv 0,iv 0,iv 0] [(0,33)]) [.t 16]]] (.lets [.mk (.pk (.ibin .add)) [.t 13, .q (iv 1)]] (.next 0 [.t 18, .t 17]))))) (.loop [.q (iv 1), .q (.list [])] (.lets [.mk (.pk (.ibin .leq)) [.t 16, .mk (.pk (.ibin .mul)) [.mk (.pk (.load 1 false)) [.mk (.pk (.fld 2)) [.mk (.pk (.fld 0)) [.t 10]]], .mk (.pk (.load 1 false)) [.mk (.pk (.fld 6)) [.t 10]]]]] (.ite (.t 18) (.bm [.mk (.mget [3] .nil false) [.t 14, .t 16]] (.lets [.mk (.mget [3] .nil false) [.t 14, .t 16]] (.lets [.mk (.call false 68) [.mk .aj [.t 7], .mk .aj [.t 16], .mk .aj [.t 19]]] (.lets [.mk (.pk (.ext 1)) [.t 20]] (.lets [.mk (.pk (.ext 0)) [.t 20]] (.lets [.mk (.pk (.ibin .neq)) [.t 21, .q (iv 0)]] (.ite (.t 23) (.bm [.mk .eV [.q .nil], .mk .eV [.t 21]] (.ret (.mk .tup [.mk .aj [.q .nil], .mk .aj [.t 21]]))) (.lets [.mk (.app 11) [.t 17, .t 22]] (.lets [.mk (.pk (.ibin .add)) [.t 16, .q (iv 1)]] (.next 0 [.t 25, .t 24])))))))))) (.bm [.mk .eV [.q (iv 0)]] (.ret (.mk .tup [.mk .own [.t 17], .mk .aj [.q (iv 0)]])))))))))))))))))))))):=by kernel_rfl
theorem OA:II= .bm [.mk (.cell 0 7) [.t 0]] (.lets [.mk (.call false 46) [.mk .aj [.t 0]]] (.lets [.mk (.pk (.ibin .neq)) [.t 2, .q (iv 0)]] (.ite (.t 3) (.ret (.mk .tup [.mk .aj [.q .nil], .mk .aj [.q .nil], .mk .aj [.t 2]])) (.lets [.mk (.call false 31) [.mk .aj [.t 1]]] (.bm [.mk (.pk (.ext 0)) [.t 4]] (.lets [.mk (.pk (.ext 1)) [.t 4]] (.lets [.mk (.pk (.ibin .neq)) [.t 5, .q (iv 0)]] (.ite (.t 6) (.ret (.mk .tup [.mk .aj [.q .nil], .mk .aj [.q .nil], .mk .aj [.t 5]])) (.lets [.mk (.pk .llen) [.mk (.cell 5 7) [.t 0]]] (.loop [.q (iv 0), .q (.list [])] (.lets [.mk (.pk (.ibin .lss)) [.t 8, .t 7]] (.ite (.t 10) (.bm [.mk (.cell 0 5) [.mk (.pk (.load 5 true)) [.mk (.pk (.idx 109 5)) [.mk (.cell 5 7) [.t 0], .t 8]]]] (.lets [.mk (.pk (.load 5 true)) [.mk (.pk (.idx 109 5)) [.mk (.cell 5 7) [.t 0], .t 8]]] (.bm [.mk .eV [.mk (.cell 0 5) [.t 11]], .mk .eV [.mk (.cell 1 5) [.t 11]]] (.lets [.mk (.mset [99,3,3]) [.t 9, .mk .agg [.mk (.cell 0 5) [.t 11], .mk (.cell 1 5) [.t 11]], .t 11]] (.lets [.mk (.pk (.ibin .add)) [.t 8, .q (iv 1)]] (.next 0 [.t 13, .t 12])))))) (.lets [.mk (.pk .llen) [.t 1]] (.loop [.q (iv 0), .q (.list []), .q (.list [])] (.lets [.mk (.pk (.ibin .lss)) [.t 12, .t 11]] (.ite (.t 15) (.jp (.lets [.mk (.pk (.ibin .add)) [.t 12, .q (iv 1)]] (.next 0 [.t 60, .t 20, .t 16])) (.bm [.mk (.cell 0 33) [.mk (.pk (.load 33 true)) [.mk (.pk (.idx 69 33)) [.t 1, .t 12]]]] (.lets [.mk (.pk (.load 33 true)) [.mk (.pk (.idx 69 33)) [.t 1, .t 12]]] (.bm [.mk .eV [.mk (.cell 6 7) [.t 0]]] (.jp (.lets [.mk (.call true 25) [.mk .agg [.mk .aO [.q (iv 0)], .mk .aO [.q (iv 0)], .mk .aO [.q (iv 0)], .mk .aO [.q (iv 0)], .mk .aO [.q (iv 0)], .t 19, .mk .aO [.mk (.cell 6 7) [.t 0]]], .mk .aj [.t 16]]] (.lets [.mk (.pk (.ibin .eql)) [.t 25, .q (iv 0)]] (.ite (.t 26) (.lets [.mk (.app 33) [.t 14, .mk (.lit 33 1 [iv 0,iv 0,iv 0,iv 0,uv 0,uv 0,bv false,uv 0,uv 0,uv 0,uv 0,iv 0,iv 0,uv 0,uv 0,uv 0,uv 0,iv 0,iv 0,uv 0,uv 0,uv 0,uv 0,iv 0,iv 0,uv 0,uv 0,uv 0,uv 0,iv 0,iv 0,iv 0,iv 0] [(0,33)]) [.t 16]]] (.next 0 ([.t 27, .t 26, .t 17, .t 18, .t 13, .t 20, .t 21, .t 22, .t 23, .t 24]++cs 16 33 0 33++ [.t 19]))) (.lets [.mk (.app 33) [.t 13, .mk (.lit 33 1 [iv 0,iv 0,iv 0,iv 0,uv 0,uv 0,bv false,uv 0,uv 0,uv 0,uv 0,iv 0,iv 0,uv 0,uv 0,uv 0,uv 0,iv 0,iv 0,uv 0,uv 0,uv 0,uv 0,iv 0,iv 0,uv 0,uv 0,uv 0,uv 0,iv 0,iv 0,iv 0,iv 0] [(0,33)]) [.t 16]]] (.next 0 ([.t 14, .t 26, .t 17, .t 18, .t 27, .t 20, .t 21, .t 22, .t 23, .t 24]++cs 16 33 0 33++ [.t 19])))))) (.bm [.mk .eV [.mk (.cell 0 33) [.t 16]], .mk .eV [.mk (.cell 1 33) [.t 16]], .mk (.cell 0 5) [.mk (.pk (.ext 0)) [.mk (.mget [99,3,3] (.agg [iv 0,iv 0,iv 0,iv 0,iv 0]) true) [.t 9, .mk .agg [.mk (.cell 0 33) [.t 16], .mk (.cell 1 33) [.t 16]]]]]] (.lets [.mk (.pk (.ext 1)) [.mk (.mget [99,3,3] (.agg [iv 0,iv 0,iv 0,iv 0,iv 0]) true) [.t 9, .mk .agg [.mk (.cell 0 33) [.t 16], .mk (.cell 1 33) [.t 16]]]]] (.lets [.mk (.pk (.ext 0)) [.mk (.mget [99,3,3] (.agg [iv 0,iv 0,iv 0,iv 0,iv 0]) true) [.t 9, .mk .agg [.mk (.cell 0 33) [.t 16], .mk (.cell 1 33) [.t 16]]]]] (.ite (.t 17) (.lets [.mk (.lit 5 1 [iv 0,iv 0,iv 0,iv 0,iv 0] [(0,5)]) [.t 18]] (.next 0 [.t 17, .t 17, .t 19, .mk (.cell 0 5) [.t 18], .mk (.cell 1 5) [.t 18], .mk (.cell 2 5) [.t 18], .mk (.cell 3 5) [.t 18], .mk (.cell 4 5) [.t 18]])) (.next 0 [.t 17, .t 17, .q (.list []), .mk (.cell 0 5) [.t 18], .mk (.cell 1 5) [.t 18], .mk (.cell 2 5) [.t 18], .mk (.cell 3 5) [.t 18], .mk (.cell 4 5) [.t 18]])))))))))) (.ret (.mk .tup [.mk .own [.t 14], .mk .own [.t 13], .mk .aj [.q (iv 0)]])))))))))))))))))):=by kernel_rfl
theorem abM:RP= .lets [.mk (.call false 93) [.mk .aj [.mk (.pk (.ibin .rem)) [.t 0, .q (uv 4)]], .mk .aj [.t 1], .mk .aj [.mk (.pk (.aix 5 1 false)) [.mk .agg [.q (uv 0), .q (uv 1), .q (uv 2), .q (uv 3), .q (uv 7)], .mk (.pk (.ibin .rem)) [.t 2, .q (uv 5)]]]]] (.bm [.mk .eV [.q (uv 0)], .mk .eV [.q (uv 1)], .mk .eV [.q (uv 2)], .mk .eV [.q (uv 3)], .mk .eV [.q (uv 7)], .mk (.cell 0 6) [.t 4]] (.bm [.mk .eV [.mk (.pk (.ibin .add)) [.q (iv 1), .mk (.pk (.ibin .rem)) [.mk (.pk (.conv .i64)) [.t 3], .q (iv 2)]]]] (.lets [.mk (.pk (.ibin .add)) [.q (iv 1), .mk (.pk (.ibin .rem)) [.mk (.pk (.conv .i64)) [.t 3], .q (iv 2)]]] (.ret (.mk .agg [.mk .aO [.mk (.cell 0 6) [.t 4]], .mk .aO [.mk (.cell 1 6) [.t 4]], .mk .aO [.mk (.cell 2 6) [.t 4]], .mk .aO [.mk (.cell 3 6) [.t 4]], .mk .aO [.mk (.cell 4 6) [.t 4]], .mk .aO [.mk (.cell 5 6) [.t 4]], .mk .aO [.t 5]]))))):=by kernel_rfl
theorem abQ:RV= .lets [.mk (.pk (.fbox 7)) [.t 0]] (.lets [.mk (.call false 112) [.mk .aj [.mk (.pk (.load 7 true)) [.t 2]], .mk .aj [.t 1]]] (.bm [.mk (.pk (.ext 1)) [.t 3]] (.lets [.mk (.pk (.ext 2)) [.t 3]] (.lets [.mk (.pk (.ext 0)) [.t 3]] (.lets [.mk (.pk (.ibin .neq)) [.t 4, .q (iv 0)]] (.ite (.t 6) (.ret (.mk .tup [.mk .aj [.q .nil], .mk .aj [.t 4]])) (.lets [.mk (.call false 31) [.mk .aj [.t 5]]] (.lets [.mk (.pk (.ext 1)) [.t 7]] (.lets [.mk (.pk (.ext 0)) [.t 7]] (.ret (.mk .tup [.mk .aj [.t 9], .mk .aj [.t 8]]))))))))))):=by kernel_rfl
theorem Ym:R6= .lets [.mk (.pk (.ibin .rem)) [.t 2, .q (uv 8)]] (.jp (.ite (.t 4) (.lets [.mk (.call false 148) [.mk .aj [.t 0], .mk .aj [.t 1], .mk .aj [.mk (.pk (.ibin .rem)) [.t 2, .q (uv 4)]]]] (.bm [.mk (.cell 0 6) [.t 5]] (.ret (.mk .aj [.t 5])))) (.jp (.ite (.t 5) (.lets [.mk (.call false 149) [.mk .aj [.t 0], .mk .aj [.t 1], .mk .aj [.mk (.pk (.ibin .sub)) [.mk (.pk (.ibin .rem)) [.t 2, .q (uv 8)], .q (uv 4)]]]] (.bm [.mk (.pk (.ext 1)) [.t 6], .mk (.cell 0 6) [.mk (.pk (.ext 0)) [.t 6]]] (.lets [.mk (.pk (.ext 0)) [.t 6]] (.ret (.mk .aj [.t 7]))))) (.lets [.mk (.pk (.ibin .add)) [.q (iv 2), .mk (.pk (.ibin .rem)) [.mk (.pk (.conv .i64)) [.t 0], .q (iv 23)]]] (.lets [.mk (.call false 150) [.mk .aj [.t 6], .mk .aj [.mk (.pk (.ibin .add)) [.q (iv 1), .mk (.pk (.ibin .rem)) [.mk (.pk (.conv .i64)) [.t 1], .mk (.pk (.ibin .sub)) [.mk (.pk (.ibin .mul)) [.q (iv 2), .t 6], .q (iv 1)]]]]]] (.bm [.mk (.pk (.ext 1)) [.t 7], .mk (.cell 0 6) [.mk (.pk (.ext 0)) [.t 7]]] (.lets [.mk (.pk (.ext 0)) [.t 7]] (.ret (.mk .aj [.t 8]))))))) (.lets [.mk (.pk (.ibin .eql)) [.t 3, .q (uv 4)]] (.ite (.t 5) (.next 0 [.t 5]) (.lets [.mk (.pk (.ibin .eql)) [.t 3, .q (uv 5)]] (.ite (.t 6) (.next 0 [.t 6]) (.lets [.mk (.pk (.ibin .eql)) [.t 3, .q (uv 6)]] (.next 0 [.t 7])))))))) (.lets [.mk (.pk (.ibin .eql)) [.t 3, .q (uv 0)]] (.ite (.t 4) (.next 0 [.t 4]) (.lets [.mk (.pk (.ibin .eql)) [.t 3, .q (uv 1)]] (.ite (.t 5) (.next 0 [.t 5]) (.lets [.mk (.pk (.ibin .eql)) [.t 3, .q (uv 2)]] (.ite (.t 6) (.next 0 [.t 6]) (.lets [.mk (.pk (.ibin .eql)) [.t 3, .q (uv 3)]] (.next 0 [.t 7]))))))))):=by kernel_rfl
theorem Yg:IQ= .lets [.mk (.pk (.ibin .add)) [.q (iv 2), .mk (.pk (.ibin .rem)) [.mk (.pk (.conv .i64)) [.t 0], .q (iv 23)]]] (.lets [.mk (.pk (.ibin .rem)) [.t 2, .q (uv 4)]] (.jp (.lets [.mk (.call false 209) [.mk .aj [.t 6], .mk .aj [.mk (.pk (.mx2 true)) [.t 5, .q (uv 1)]]]] (.bm [.mk (.pk (.ext 1)) [.t 7]] (.lets [.mk (.pk (.ext 0)) [.t 7]] (.lets [.mk (.pk (.ibin .add)) [.q (iv 1), .mk (.pk (.ibin .rem)) [.mk (.pk (.conv .i64)) [.t 1], .mk (.pk (.mx2 true)) [.t 8, .q (iv 1)]]]] (.jp (.bm [.mk .eV [.t 10], .mk .eV [.t 11], .mk .eV [.t 12], .mk .eV [.t 13], .mk .eV [.t 14], .mk .eV [.t 15]] (.ret (.mk .agg [.mk .aO [.t 10], .mk .aO [.t 11], .mk .aO [.t 12], .mk .aO [.t 13], .mk .aO [.t 14], .mk .aO [.t 15]]))) (.lets [.mk (.pk (.ibin .eql)) [.t 5, .q (uv 0)]] (.ite (.t 10) (.lets [.mk (.call false 210) [.mk .aj [.t 6], .mk .aj [.t 9]]] (.bm [.mk (.pk (.ext 1)) [.t 11], .mk (.cell 0 6) [.mk (.pk (.ext 0)) [.t 11]]] (.lets [.mk (.pk (.ext 0)) [.t 11]] (.next 0 (cs 12 6 0 6))))) (.lets [.mk (.call false 211) [.mk .aj [.t 6], .mk .aj [.t 9], .mk .aj [.t 5]]] (.bm [.mk (.pk (.ext 1)) [.t 11], .mk (.cell 0 6) [.mk (.pk (.ext 0)) [.t 11]]] (.lets [.mk (.pk (.ext 0)) [.t 11]] (.next 0 (cs 12 6 0 6)))))))))))) (.jp (.jp (.next 0 [.t 5, .t 6]) (.lets [.mk (.pk (.ibin .or)) [.t 3, .q (iv 1)]] (.lets [.mk (.pk (.ibin .gtr)) [.t 6, .q (iv 24)]] (.ite (.t 7) (.lets [.mk (.pk (.ibin .sub)) [.t 6, .q (iv 2)]] (.next 0 [.t 8])) (.next 0 [.t 6]))))) (.bm [.ite (.mk (.gv true) [.mk (.pk (.ibin .eql)) [.t 4, .q (uv 0)]]) (.mk (.pk (.ibin .rem)) [.t 3, .q (iv 6)]) (.q (.tup [])), .ite (.mk (.gv true) [.mk (.pk (.ibin .eql)) [.t 4, .q (uv 0)]]) (.mk (.pk (.ibin .neq)) [.mk (.pk (.ibin .rem)) [.t 3, .q (iv 6)], .q (iv 1)]) (.q (.tup []))] (.lets [.ite (.ite (.mk (.pk (.ibin .eql)) [.t 4, .q (uv 0)]) (.mk (.pk (.ibin .neq)) [.mk (.pk (.ibin .rem)) [.t 3, .q (iv 6)], .q (iv 1)]) (.q (bv false))) (.mk (.pk (.ibin .neq)) [.mk (.pk (.ibin .rem)) [.t 3, .q (iv 6)], .q (iv 5)]) (.q (bv false))] (.ite (.t 5) (.next 0 [.q (uv 1)]) (.lets [.mk (.pk (.ibin .eql)) [.t 4, .q (uv 1)]] (.ite (.t 6) (.next 0 [.t 4]) (.lets [.mk (.pk (.ibin .gtr)) [.t 4, .q (uv 1)]] (.ite (.t 7) (.lets [.mk (.pk (.ibin .andNot)) [.t 3, .q (iv 1)]] (.next 1 [.t 4, .t 8])) (.next 1 [.t 4, .t 3]))))))))))):=by kernel_rfl
theorem Yl:RQ= .lets [.mk (.pk (.fbox 7)) [.t 0]] (.bm [.mk (.cell 0 6) [.mk (.pk (.load 6 true)) [.mk (.pk (.fld 0)) [.t 1]]]] (.lets [.mk (.pk (.load 6 true)) [.mk (.pk (.fld 0)) [.t 1]]] (.lets [.mk (.call false 94) [.mk .aj [.t 2], .mk .aj [.q (iv 9223372036854775807)]]] (.lets [.mk (.pk (.ext 1)) [.t 3]] (.lets [.mk (.pk (.ext 0)) [.t 3]] (.lets [.mk (.pk (.ibin .neq)) [.t 4, .q (iv 0)]] (.ite (.t 6) (.ret (.mk .aj [.t 4])) (.lets [.mk (.pk .inot) [.t 5]] (.ite (.t 7) (.ret (.mk .aj [.q (iv 281)])) (.lets [.ite (.mk (.pk (.ibin .lss)) [.mk (.pk (.load 1 false)) [.mk (.pk (.fld 6)) [.t 1]], .q (iv 1)]) (.q (bv true)) (.mk (.pk (.ibin .gtr)) [.mk (.pk (.load 1 false)) [.mk (.pk (.fld 6)) [.t 1]], .mk (.pk (.ibin .quo)) [.q (iv 128), .mk (.cell 2 6) [.t 2]]])] (.ite (.t 8) (.ret (.mk .aj [.q (iv 282)])) (.lets [.mk (.pk .llen) [.mk (.cell 5 6) [.t 2]]] (.loop [.q (iv 0), .q (iv 0), .q (.list [])] (.lets [.mk (.pk (.ibin .lss)) [.t 10, .t 9]] (.ite (.t 13) (.jp (.lets [.mk (.pk (.ibin .add)) [.t 10, .q (iv 1)]] (.next 0 [.t 21, .t 11, .t 15])) (.bm [.mk (.cell 0 5) [.mk (.pk (.load 5 true)) [.mk (.pk (.idx 109 5)) [.mk (.cell 5 6) [.t 2], .t 10]]]] (.lets [.mk (.pk (.load 5 true)) [.mk (.pk (.idx 109 5)) [.mk (.cell 5 6) [.t 2], .t 10]]] (.lets [.mk (.call false 95) [.mk .aj [.t 14]]] (.ite (.t 15) (.lets [.mk (.mset [3]) [.t 12, .mk (.cell 4 5) [.t 14], .mk (.pk (.ibin .add)) [.mk (.mget [3] (iv 0) false) [.t 12, .mk (.cell 4 5) [.t 14]], .q (iv 1)]]] (.lets [.mk (.pk (.ibin .gtr)) [.mk (.mget [3] (iv 0) false) [.t 16, .mk (.cell 4 5) [.t 14]], .q (iv 24)]] (.ite (.t 17) (.ret (.mk .aj [.q (iv 5)])) (.next 0 [.t 15, .t 16, .mk (.cell 0 5) [.t 14], .mk (.cell 1 5) [.t 14], .mk (.cell 2 5) [.t 14], .mk (.cell 3 5) [.t 14], .mk (.cell 4 5) [.t 14]])))) (.next 0 [.t 15, .t 12, .mk (.cell 0 5) [.t 14], .mk (.cell 1 5) [.t 14], .mk (.cell 2 5) [.t 14], .mk (.cell 3 5) [.t 14], .mk (.cell 4 5) [.t 14]])))))) (.ret (.mk .aj [.q (iv 0)]))))))))))))))))):=by kernel_rfl
end Ty
end
section
namespace Ty
variable {H : FP}
section
variable {G : FP} {E : List D}
end
def Rw.pr(r:Rw):D×D:=(.agg [iv r.rd,iv r.tb], .agg r.cells)
def AZ:List Rw→Bool
 | []=>true
 |r::s=>s.all (fun q=> !(decide (q.rd=r.rd)&&decide (q.tb=r.tb)))&&AZ s
section
variable {G : FP}
@[simp] theorem Zo{a b:List (List D)}{v:Value}:D.aK (.tup [.list a, .list b, .v v])=true:=nr rfl
end
theorem aaJ(hF:Fr H)(l:List En)(hl:l.length<9999)(hs:oX l=false):GK H 31 [.list (l.map En.cells)]=some (D.own (.tup [.list [],iv 314])):=by
 refine aJ hF Wq ?_
 conv=>enter [1,3];cbv
 have k1:XK.run (GK H) (.call false 75) [.list (l.map En.cells)]=some (bv false):=ao (by rw[l55 hF l hl,hs]) rfl rfl;simp[k1];rfl
theorem aaH(hF:Fr H)(s:Ss)(l:List En){c:Int}(h54:GK H 46 [.agg s.cells]=some (iv c))(h:c≠0):GK H 112 [.agg s.cells, .list (l.map En.cells)]=some (D.own (.tup [.list [], .list [],iv c])):=by
 refine aJ hF HZ ?_;rw[OA];have k:XK.run (GK H) (.call false 46) [.agg s.cells]=some (iv c):=ao h54 rfl rfl;simp[k,h];rfl
theorem aaI(hF:Fr H)(s:Ss)(l:List En)(hl:l.length<9999)(h54:GK H 46 [.agg s.cells]=some (iv 0))(hs:oX l=false):GK H 112 [.agg s.cells, .list (l.map En.cells)]=some (D.own (.tup [.list [], .list [],iv 314])):=by
 refine aJ hF HZ ?_;rw[OA];have k:XK.run (GK H) (.call false 46) [.agg s.cells]=some (iv 0):=ao h54 rfl rfl;have k2:XK.run (GK H) (.call false 31) [.list (l.map En.cells)]=some (.tup [.list [],iv 314]):=e7 (aaJ hF l hl hs) rfl;simp[k,k2];rfl
end Ty
end
section
namespace Ty
variable {H : FP}
theorem aaq(s:Ss)(l:List En){c:Int}(h:GK H 112 [.agg s.cells, .list (l.map En.cells)]=some (D.own (.tup [.list [], .list [],iv c]))):XK.run (GK H) (.call false 112) [.agg s.cells, .list (l.map En.cells)]=some (.tup [.list [], .list [],iv c]):=e7 h rfl
theorem aaO(hF:Fr H)(s:Ss)(l:List En){c:Int}(hc:c≠0)(h:GK H 112 [.agg s.cells, .list (l.map En.cells)]=some (D.own (.tup [.list [], .list [],iv c]))):GK H 65 [.agg s.cells, .list (l.map En.cells)]=some (D.own (.tup [.list [],iv c])):=by
 refine aJ hF W0 ?_;rw[abQ];have k:=aaq s l h;simp[k,hc];rfl
theorem aaG(hF:Fr H)(s:Ss)(l:List En){c:Int}(hc:c≠0)(h47:GK H 65 [.agg s.cells, .list (l.map En.cells)]=some (D.own (.tup [.list [],iv c]))):GK H 27 [.agg s.cells, .list (l.map En.cells)]=some (D.own (.tup [.list [],iv c])):=by
 refine aJ hF V7 ?_;rw[abJ];have k:XK.run (GK H) (.call false 65) [.agg s.cells, .list (l.map En.cells)]=some (.tup [.list [],iv c]):=e7 h47 rfl;have k4:XK.run (GK H) .eV [.nil]=some .nil:=rfl;simp[k,k4,hc];rfl
end Ty
end
section
open Go.RowKit Go.Sort
namespace Ty
variable {H : FP}
structure Hd(H:FP):Prop where
 fr:Fr H
 k57: ∀es:List (List D),es.isEmpty=false→es.all vN=true→es.length<65536→H 1000104 [.list es, .clo 105 []]=some (.tup [.tup [], .list (cL (ES TA) es)])
 k43: ∀es:List (List D),es.all vM=true→es.length<65536→H 1000061 [.list es, .clo 62 []]=some (.tup [.tup [], .list (cL (ES SL) es)])
def UX(bs:Int)(r:Rw)(i:Nat):Ky:=⟨r.rd,r.tb,IntKind.i64.wrap (IntKind.i64.wrap (IntKind.i64.wrap (r.st*bs)+i)+1)⟩
def UZ(bs:Nat)(r:Rw):List Ky:=if r.ns≤0∨r.ew≤0 then []else(List.range bs).map (UX bs r)
def Ss.keys(s:Ss):List Ky:=s.rows.flatMap (UZ s.bs.toNat)
def SX(a b:Ky):Bool:=decide (a.cmp b<0)
end Ty
end
section
namespace Ty
theorem uy{z:Int}(h:u8 z=true):0≤z∧z<256:=by simpa[u8]using h
theorem Yo{z:Int}(h1:0≤z)(h2:z<256):u8 z=true:=by simp[u8,h1,h2]
theorem tm{a b:Int}(h:0≤a):a.tmod b=a%b:=Int.tmod_eq_emod_of_nonneg h
theorem td{a b:Int}(h:0≤a):a.tdiv b=a/b:=Int.tdiv_eq_ediv_of_nonneg h
variable {G : FP}
def YZ(n c m:Nat)(d:D):Option (List D):=if d.cells.length=n∧d.cells.all D.gE=true∧d.cells.all D.aN=true then some ((d.cells.drop c).take m)else none
theorem ZV{E:List D}{v n c m:Nat}(hm:0<m)(hc:c+m≤n):X.bh G E (cs v n c m)=ob (E[v]?) (YZ n c m):=by
 cases hv:E[v]? with
 |none=>
  obtain⟨k,rfl⟩: ∃k,m=k+1:=⟨m-1,by omega⟩;rw[cs,List.range_succ_eq_map,List.map_cons,mW,SF,mW,x_t,hv];rfl
 |some d=>
  rw[Q0];unfold YZ;split
  ·rename_i hd
   have key: ∀l:List Nat,(∀j∈l,j<m)→X.bh G E (l.map fun j=>X.mk (.cell (c+j) n) [.t v])=some (l.map fun j=>d.cells.getD (c+j) .nil):=fun l hl=>by
    induction l with
    |nil=>rfl
    |cons j r ih=>
     have hj:=hl j (List.mem_cons_self ..)
     have h2:X.ev G E (X.mk (.cell (c+j) n) [.t v])=some (d.cells.getD (c+j) .nil):=by
      rw[SF,mW,x_t,hv];simp only[Q0,I_];show(if d.cells.length=n∧d.cells.all D.gE=true∧d.cells.all D.aN=true then d.cells[c+j]? else none)=_;rw[if_pos hd,List.getD_eq_getElem?_getD,Ez (by omega)];rfl
     rw[List.map_cons,mW,h2,ih fun k hk=>hl k (Cz _ hk)];rfl
   rw[cs,key _ fun j hj=>List.mem_range.1 hj];congr 1;apply List.ext_getElem
   ·simp;omega
   ·intro i h1 h2;have h3:c+i<d.cells.length:=by simp at h1;omega
    simp[List.getD_eq_getElem?_getD,h3]
  ·rename_i hd;obtain⟨k,rfl⟩: ∃k,m=k+1:=⟨m-1,by omega⟩;rw[cs,List.range_succ_eq_map,List.map_cons,mW,SF,mW,x_t,hv];simp only[Q0,I_];show ob (if d.cells.length=n∧d.cells.all D.gE=true∧d.cells.all D.aN=true then d.cells[c+0]? else none) _=none;rw[if_neg hd];rfl
theorem Xn{a b:Int}:XK.run G (.pk (.mx2 false)) [iv a,iv b]=some (iv (if b<a then b else a)):=nr rfl
end Ty
end
section
open Go.RowKit Go.Sort
namespace Ty
variable {H : FP}
def kOK(s:Ss)(k:Ky):Bool:=match Gu k.rd k.tb s.rows with
 |none=>false
 |some i=>match s.rows[i]? with
  |none=>false
  |some r=>decide (0<r.ns)&&(decide (0<r.ew)&&(decide (1≤s.bs)&&(decide (1≤k.bd)&&(decide (k.bd≤128)&&decide (IntKind.i64.wrap ((IntKind.i64.wrap (k.bd-1)).tdiv s.bs)=r.st)))))
def LV(s:Ss):Bool:=s.keys.all (kOK s)&&(s.rows.all (fun r=>Nat.ble (s.rows.filter fun q=>decide (q.st=r.st)).length 24)&&decide (s.ss*s.bs≤128))
def H8(r:Rw):Bool:=decide (0<r.ns)&&decide (0<r.ew)
def OP(r q:Rw):Bool:= !Nat.beq r.st.toNat q.st.toNat||(!H8 r||(!H8 q||(!Nat.beq r.ns.toNat q.ns.toNat&&(!Nat.beq r.ns.toNat q.ew.toNat&&(!Nat.beq r.ew.toNat q.ns.toNat&& !Nat.beq r.ew.toNat q.ew.toNat)))))
def XB(r:Rw):Bool:= !H8 r|| !Nat.beq r.ns.toNat r.ew.toNat
def GO:List Rw→Bool
 | []=>true
 |r::t=>XB r&&(t.all (OP r)&&GO t)
structure lM(H:FP)(s:Ss):Prop where
 len:s.rows.length<4999
 ap:AZ s.rows=true
 ok:GK H 46 [.agg s.cells]=some (iv 0)
 pb: ∀r∈s.rows,r.ns<1000∧r.ew<1000
 cpb: ∀c:Int,c≤0→GK H 46 [.agg ({s with cp:=c}:Ss).cells]=some (iv 280)
 bad: ∀b:Int,b≤0→GK H 46 [.agg ({s with bs:=b}:Ss).cells]=some (iv 282)
 nat: ∃b:Nat,s.bs=b∧b<9999
 ne:s.keys≠ []
 ln:s.keys.length<65536
 mul:0≤s.ss*s.bs∧s.ss*s.bs<10000
 od:LV s=true
 pd:GO s.rows=true
 kb:s.keys.length<9999∧ ∀k∈s.keys,k.bd≤s.ss*s.bs
def zE:En:=⟨0,0,0,0,0,0,false,⟨0,0,0,0,0,0⟩,⟨0,0,0,0,0,0⟩,⟨0,0,0,0,0,0⟩,⟨0,0,0,0,0,0⟩,0,0⟩
section
variable {G : FP}
theorem Vg:XK.run G (.lit 33 2 [iv 0,iv 0,iv 0,iv 0,uv 0,uv 0,bv false,uv 0,uv 0,uv 0,uv 0,iv 0,iv 0,uv 0,uv 0,uv 0,uv 0,iv 0,iv 0,uv 0,uv 0,uv 0,uv 0,iv 0,iv 0,uv 0,uv 0,uv 0,uv 0,iv 0,iv 0,iv 0,iv 0,iv 0,iv 0,iv 0,iv 0,uv 0,uv 0,bv false,uv 0,uv 0,uv 0,uv 0,iv 0,iv 0,uv 0,uv 0,uv 0,uv 0,iv 0,iv 0,uv 0,uv 0,uv 0,uv 0,iv 0,iv 0,uv 0,uv 0,uv 0,uv 0,iv 0,iv 0,iv 0,iv 0] [(0,33),(33,33)]) [.agg [iv 0,iv 0,iv 0,iv 0,uv 0,uv 0,bv false,uv 0,uv 0,uv 0,uv 0,iv 0,iv 0,uv 0,uv 0,uv 0,uv 0,iv 0,iv 0,uv 0,uv 0,uv 0,uv 0,iv 0,iv 0,uv 0,uv 0,uv 0,uv 0,iv 0,iv 0,iv 0,iv 0], .agg [iv 0,iv 0,iv 0,iv 0,uv 0,uv 0,bv false,uv 0,uv 0,uv 0,uv 0,iv 0,iv 0,uv 0,uv 0,uv 0,uv 0,iv 0,iv 0,uv 0,uv 0,uv 0,uv 0,iv 0,iv 0,uv 0,uv 0,uv 0,uv 0,iv 0,iv 0,iv 0,iv 0]]=some (.list [zE.cells,zE.cells]):=nr rfl
theorem Xm{a b:Int}:XK.run G (.pk (.mx2 true)) [iv a,iv b]=some (iv (if a<b then b else a)):=nr rfl
end
section
variable {G : FP} {E : List D}
end
end Ty
end
section
namespace Ty
theorem abR:RW= .lets [.mk (.pk (.fbox 2)) [.t 0]] (.lets [.ite (.mk (.pk (.ibin .gtr)) [.mk (.pk (.load 1 false)) [.mk (.pk (.fld 1)) [.t 1]], .q (iv 0)]) (.mk (.pk (.ibin .eql)) [.mk (.call false 118) [.mk .aj [.mk (.call false 74) [.mk .aj [.mk (.pk (.load 1 false)) [.mk (.pk (.fld 0)) [.t 1]]]]], .mk .aj [.mk (.call false 74) [.mk .aj [.mk (.pk (.load 1 false)) [.mk (.pk (.fld 1)) [.t 1]]]]]], .q (.v (.int .u64 1))]) (.q (bv false))] (.ret (.mk .aj [.t 2]))):=by kernel_rfl
theorem abS:RX= .lets [.mk (.pk (.fbox 2)) [.t 1]] (.lets [.mk (.pk (.fbox 2)) [.t 0]] (.lets [.mk (.call false 74) [.mk .aj [.mk (.pk (.load 1 false)) [.mk (.pk (.fld 1)) [.t 3]]]]] (.lets [.mk (.call false 74) [.mk .aj [.mk (.pk (.load 1 false)) [.mk (.pk (.fld 1)) [.t 4]]]]] (.lets [.mk (.call false 118) [.mk .aj [.t 6], .mk .aj [.t 5]]] (.lets [.mk (.call false 74) [.mk .aj [.mk (.pk (.load 1 false)) [.mk (.pk (.fld 0)) [.t 4]]]]] (.lets [.mk (.call false 78) [.mk .aj [.t 8], .mk .aj [.mk (.pk (.ibin .quo)) [.t 5, .t 7]]]] (.bm [.mk (.cell 0 2) [.t 9]] (.lets [.mk (.call false 74) [.mk .aj [.mk (.pk (.load 1 false)) [.mk (.pk (.fld 0)) [.t 3]]]]] (.lets [.mk (.call false 78) [.mk .aj [.t 10], .mk .aj [.mk (.pk (.ibin .quo)) [.t 6, .t 7]]]] (.bm [.mk (.cell 0 2) [.t 11]] (.lets [.mk (.pk (.ibin .lss)) [.mk (.pk (.load 1 false)) [.mk (.pk (.fld 0)) [.t 4]], .q (iv 0)]] (.jp (.lets [.mk (.call false 121) [.mk .agg [.mk .aO [.t 14], .mk .aO [.t 15]], .mk .aj [.t 7]]] (.bm [.mk (.cell 0 2) [.mk (.pk (.ext 0)) [.t 16]]] (.lets [.mk (.pk (.ext 1)) [.t 16]] (.lets [.mk (.call false 118) [.mk .aj [.t 7], .mk .aj [.t 17]]] (.lets [.mk (.call false 121) [.mk .agg [.mk .aO [.t 14], .mk .aO [.t 15]], .mk .aj [.t 18]]] (.bm [.mk (.pk (.ext 1)) [.t 19], .mk (.cell 0 2) [.mk (.pk (.ext 0)) [.t 19]]] (.lets [.mk (.pk (.ext 0)) [.t 19]] (.lets [.mk (.call false 78) [.mk .aj [.mk (.pk (.ibin .quo)) [.t 6, .t 7]], .mk .aj [.mk (.pk (.ibin .quo)) [.t 5, .t 18]]]] (.lets [.mk (.call false 122) [.mk .aj [.t 13], .mk .aj [.t 20], .mk .aj [.t 21]]] (.bm [.mk (.cell 0 2) [.mk (.pk (.ext 0)) [.t 22]]] (.lets [.mk (.pk (.ext 1)) [.t 22]] (.lets [.mk (.pk (.ext 0)) [.t 22]] (.ret (.mk .tup [.mk .aj [.t 24], .mk .aj [.t 23]])))))))))))))) (.lets [.mk (.pk (.beq false)) [.t 12, .t 2]] (.ite (.t 13) (.lets [.mk (.call false 119) [.mk .aj [.t 9], .mk .aj [.t 11]]] (.bm [.mk (.cell 0 2) [.t 14]] (.next 0 [.t 12, .mk (.cell 0 2) [.t 14], .mk (.cell 1 2) [.t 14]]))) (.lets [.mk (.call false 79) [.mk .aj [.t 9], .mk .aj [.t 11]]] (.lets [.mk (.pk (.ibin .geq)) [.t 14, .q (iv 0)]] (.ite (.t 15) (.lets [.mk (.call false 120) [.mk .aj [.t 9], .mk .aj [.t 11]]] (.bm [.mk (.cell 0 2) [.t 16]] (.next 0 [.t 12, .mk (.cell 0 2) [.t 16], .mk (.cell 1 2) [.t 16]]))) (.lets [.mk (.call false 120) [.mk .aj [.t 11], .mk .aj [.t 9]]] (.bm [.mk (.cell 0 2) [.t 16]] (.next 0 [.t 2, .mk (.cell 0 2) [.t 16], .mk (.cell 1 2) [.t 16]])))))))))))))))))))):=by kernel_rfl
theorem abK:RM= .lets [.mk (.pk (.fbox 2)) [.t 1]] (.lets [.mk (.pk (.fbox 2)) [.t 0]] (.lets [.mk (.call false 71) [.mk .aj [.mk (.pk (.load 2 true)) [.t 3]]]] (.lets [.ite (.mk (.pk .inot) [.t 4]) (.q (bv true)) (.mk (.pk .inot) [.mk (.call false 71) [.mk .aj [.mk (.pk (.load 2 true)) [.t 2]]]])] (.ite (.t 5) (.ret (.mk .tup [.mk .agg [.mk .aO [.q (iv 0)], .mk .aO [.q (iv 0)]], .mk .aj [.q (iv 2)]])) (.lets [.mk (.call false 72) [.mk .aj [.mk (.pk (.load 2 true)) [.t 3]], .mk .aj [.mk (.pk (.load 2 true)) [.t 2]], .mk .aj [.mk (.pk (.ibin .lss)) [.mk (.pk (.load 1 false)) [.mk (.pk (.fld 0)) [.t 2]], .q (iv 0)]]]] (.bm [.mk (.cell 0 2) [.mk (.pk (.ext 0)) [.t 6]]] (.lets [.mk (.pk (.ext 1)) [.t 6]] (.lets [.mk (.pk (.ext 0)) [.t 6]] (.ret (.mk .tup [.mk .aj [.t 8], .mk .aj [.t 7]])))))))))):=by kernel_rfl
theorem X_:IJ= .loop [.t 0, .t 1] (.lets [.mk (.pk (.ibin .neq)) [.t 3, .q (.v (.int .u64 0))]] (.ite (.t 4) (.lets [.mk (.pk (.ibin .rem)) [.t 2, .t 3]] (.next 0 [.t 3, .t 5])) (.ret (.mk .aj [.t 2])))):=by kernel_rfl
theorem abU:RZ= .lets [.mk (.pk (.ibin .lss)) [.t 0, .q (iv 0)]] (.ite (.t 1) (.lets [.mk (.pk .ineg) [.mk (.pk (.conv .u64)) [.t 0]]] (.ret (.mk .aj [.t 2]))) (.lets [.mk (.pk (.conv .u64)) [.t 0]] (.ret (.mk .aj [.t 2])))):=by kernel_rfl
theorem abV:R4= .lets [.mk (.call false 126) [.mk .aj [.t 0], .mk .aj [.t 1]]] (.lets [.mk (.pk (.ext 1)) [.t 2]] (.lets [.mk (.pk (.ext 0)) [.t 2]] (.bm [.mk (.cell 0 1) [.t 4], .mk (.cell 0 1) [.t 3]] (.ret (.mk .agg [.mk .aO [.mk (.cell 0 1) [.t 4]], .mk .aO [.mk (.cell 0 1) [.t 3]]]))))):=by kernel_rfl
theorem abW:R5= .lets [.mk (.pk (.fbox 2)) [.t 1]] (.lets [.mk (.pk (.fbox 2)) [.t 0]] (.lets [.mk (.pk (.load 2 true)) [.t 3]] (.lets [.mk (.pk (.aix 2 1 false)) [.t 4, .q (iv 0)]] (.lets [.mk (.pk (.ibin .lss)) [.t 5, .mk (.pk (.load 1 false)) [.mk (.pk (.aidx 2 1)) [.t 2, .q (iv 0)]]]] (.ite (.t 6) (.ret (.mk .aj [.q (iv (-1))])) (.lets [.mk (.pk (.ibin .gtr)) [.t 5, .mk (.pk (.load 1 false)) [.mk (.pk (.aidx 2 1)) [.t 2, .q (iv 0)]]]] (.ite (.t 7) (.ret (.mk .aj [.q (iv 1)])) (.lets [.mk (.pk (.aix 2 1 false)) [.t 4, .q (iv 1)]] (.lets [.mk (.pk (.ibin .lss)) [.t 8, .mk (.pk (.load 1 false)) [.mk (.pk (.aidx 2 1)) [.t 2, .q (iv 1)]]]] (.ite (.t 9) (.ret (.mk .aj [.q (iv (-1))])) (.lets [.mk (.pk (.ibin .gtr)) [.t 8, .mk (.pk (.load 1 false)) [.mk (.pk (.aidx 2 1)) [.t 2, .q (iv 1)]]]] (.ite (.t 10) (.ret (.mk .aj [.q (iv 1)])) (.ret (.mk .aj [.q (iv 0)])))))))))))))):=by kernel_rfl
theorem Yb:IK= .lets [.mk (.pk (.fbox 2)) [.t 1]] (.lets [.mk (.pk (.fbox 2)) [.t 0]] (.lets [.mk (.call false 185) [.mk .aj [.mk (.pk (.load 1 false)) [.mk (.pk (.aidx 2 1)) [.t 3, .q (iv 1)]]], .mk .aj [.mk (.pk (.load 1 false)) [.mk (.pk (.aidx 2 1)) [.t 2, .q (iv 1)]]], .mk .aj [.q (.v (.int .u64 0))]]] (.lets [.mk (.pk (.ext 1)) [.t 4]] (.lets [.mk (.pk (.ext 0)) [.t 4]] (.lets [.mk (.call false 185) [.mk .aj [.mk (.pk (.load 1 false)) [.mk (.pk (.aidx 2 1)) [.t 3, .q (iv 0)]]], .mk .aj [.mk (.pk (.load 1 false)) [.mk (.pk (.aidx 2 1)) [.t 2, .q (iv 0)]]], .mk .aj [.t 5]]] (.bm [.mk (.pk (.ext 1)) [.t 7]] (.lets [.mk (.pk (.ext 0)) [.t 7]] (.bm [.mk (.cell 0 1) [.t 8], .mk (.cell 0 1) [.t 6]] (.ret (.mk .agg [.mk .aO [.mk (.cell 0 1) [.t 8]], .mk .aO [.mk (.cell 0 1) [.t 6]]])))))))))):=by kernel_rfl
theorem Yc:IL= .lets [.mk (.pk (.fbox 2)) [.t 1]] (.lets [.mk (.pk (.fbox 2)) [.t 0]] (.lets [.mk (.call false 186) [.mk .aj [.mk (.pk (.load 1 false)) [.mk (.pk (.aidx 2 1)) [.t 3, .q (iv 1)]]], .mk .aj [.mk (.pk (.load 1 false)) [.mk (.pk (.aidx 2 1)) [.t 2, .q (iv 1)]]], .mk .aj [.q (.v (.int .u64 0))]]] (.lets [.mk (.pk (.ext 1)) [.t 4]] (.lets [.mk (.pk (.ext 0)) [.t 4]] (.lets [.mk (.call false 186) [.mk .aj [.mk (.pk (.load 1 false)) [.mk (.pk (.aidx 2 1)) [.t 3, .q (iv 0)]]], .mk .aj [.mk (.pk (.load 1 false)) [.mk (.pk (.aidx 2 1)) [.t 2, .q (iv 0)]]], .mk .aj [.t 5]]] (.bm [.mk (.pk (.ext 1)) [.t 7]] (.lets [.mk (.pk (.ext 0)) [.t 7]] (.bm [.mk (.cell 0 1) [.t 8], .mk (.cell 0 1) [.t 6]] (.ret (.mk .agg [.mk .aO [.mk (.cell 0 1) [.t 8]], .mk .aO [.mk (.cell 0 1) [.t 6]]])))))))))):=by kernel_rfl
theorem Yd:IM= .lets [.mk (.pk (.fbox 2)) [.t 0]] (.lets [.mk (.pk (.ibin .rem)) [.mk (.pk (.load 1 false)) [.mk (.pk (.aidx 2 1)) [.t 2, .q (iv 0)]], .t 1]] (.lets [.mk (.pk (.ibin .quo)) [.mk (.pk (.load 1 false)) [.mk (.pk (.aidx 2 1)) [.t 2, .q (iv 0)]], .t 1]] (.lets [.mk (.call false 187) [.mk .aj [.t 3], .mk .aj [.mk (.pk (.load 1 false)) [.mk (.pk (.aidx 2 1)) [.t 2, .q (iv 1)]]], .mk .aj [.t 1]]] (.lets [.mk (.pk (.ext 1)) [.t 5]] (.lets [.mk (.pk (.ext 0)) [.t 5]] (.bm [.mk (.cell 0 1) [.t 4], .mk (.cell 0 1) [.t 7]] (.ret (.mk .tup [.mk .agg [.mk .aO [.mk (.cell 0 1) [.t 4]], .mk .aO [.mk (.cell 0 1) [.t 7]]], .mk .aj [.t 6]])))))))):=by kernel_rfl
theorem Ye:IN= .lets [.mk (.pk (.fbox 2)) [.t 2]] (.lets [.mk (.pk (.fbox 2)) [.t 1]] (.jp (.bm [.ite (.mk (.gv false) [.mk (.pk (.ibin .neq)) [.mk (.pk (.load 1 false)) [.mk (.pk (.aidx 2 1)) [.t 4, .q (iv 0)]], .q (.v (.int .u64 0))]]) (.mk (.pk (.aidx 2 1)) [.t 4, .q (iv 1)]) (.q (.tup [])), .ite (.mk (.gv false) [.mk (.pk (.ibin .neq)) [.mk (.pk (.load 1 false)) [.mk (.pk (.aidx 2 1)) [.t 4, .q (iv 0)]], .q (.v (.int .u64 0))]]) (.mk (.pk (.load 1 false)) [.mk (.pk (.aidx 2 1)) [.t 4, .q (iv 1)]]) (.q (.tup [])), .ite (.mk (.gv false) [.mk (.pk (.ibin .neq)) [.mk (.pk (.load 1 false)) [.mk (.pk (.aidx 2 1)) [.t 4, .q (iv 0)]], .q (.v (.int .u64 0))]]) (.mk (.pk (.ibin .gtr)) [.mk (.pk (.load 1 false)) [.mk (.pk (.aidx 2 1)) [.t 4, .q (iv 1)]], .t 5]) (.q (.tup [])), .ite (.mk (.gv false) [.ite (.mk (.pk (.ibin .neq)) [.mk (.pk (.load 1 false)) [.mk (.pk (.aidx 2 1)) [.t 4, .q (iv 0)]], .q (.v (.int .u64 0))]) (.q (bv true)) (.mk (.pk (.ibin .gtr)) [.mk (.pk (.load 1 false)) [.mk (.pk (.aidx 2 1)) [.t 4, .q (iv 1)]], .t 5])]) (.mk (.pk (.aidx 2 1)) [.t 3, .q (iv 0)]) (.q (.tup [])), .ite (.mk (.gv false) [.ite (.mk (.pk (.ibin .neq)) [.mk (.pk (.load 1 false)) [.mk (.pk (.aidx 2 1)) [.t 4, .q (iv 0)]], .q (.v (.int .u64 0))]) (.q (bv true)) (.mk (.pk (.ibin .gtr)) [.mk (.pk (.load 1 false)) [.mk (.pk (.aidx 2 1)) [.t 4, .q (iv 1)]], .t 5])]) (.mk (.pk (.load 1 false)) [.mk (.pk (.aidx 2 1)) [.t 3, .q (iv 0)]]) (.q (.tup [])), .ite (.mk (.gv false) [.ite (.mk (.pk (.ibin .neq)) [.mk (.pk (.load 1 false)) [.mk (.pk (.aidx 2 1)) [.t 4, .q (iv 0)]], .q (.v (.int .u64 0))]) (.q (bv true)) (.mk (.pk (.ibin .gtr)) [.mk (.pk (.load 1 false)) [.mk (.pk (.aidx 2 1)) [.t 4, .q (iv 1)]], .t 5])]) (.mk (.pk (.ibin .neq)) [.mk (.pk (.load 1 false)) [.mk (.pk (.aidx 2 1)) [.t 3, .q (iv 0)]], .q (.v (.int .u64 0))]) (.q (.tup []))] (.lets [.ite (.ite (.ite (.mk (.pk (.ibin .neq)) [.mk (.pk (.load 1 false)) [.mk (.pk (.aidx 2 1)) [.t 4, .q (iv 0)]], .q (.v (.int .u64 0))]) (.q (bv true)) (.mk (.pk (.ibin .gtr)) [.mk (.pk (.load 1 false)) [.mk (.pk (.aidx 2 1)) [.t 4, .q (iv 1)]], .t 5])) (.q (bv true)) (.mk (.pk (.ibin .neq)) [.mk (.pk (.load 1 false)) [.mk (.pk (.aidx 2 1)) [.t 3, .q (iv 0)]], .q (.v (.int .u64 0))])) (.q (bv true)) (.mk (.pk (.ibin .gtr)) [.mk (.pk (.load 1 false)) [.mk (.pk (.aidx 2 1)) [.t 3, .q (iv 1)]], .q (.v (.int .u64 9223372036854775807))])] (.ite (.t 6) (.ret (.mk .tup [.mk .agg [.mk .aO [.q (iv 0)], .mk .aO [.q (iv 0)]], .mk .aj [.q (iv 3)]])) (.ite (.t 0) (.bm [.mk .eV [.mk (.pk (.conv .i64)) [.mk (.pk .ineg) [.mk (.pk (.load 1 false)) [.mk (.pk (.aidx 2 1)) [.t 4, .q (iv 1)]]]]], .mk .eV [.mk (.pk (.conv .i64)) [.mk (.pk (.load 1 false)) [.mk (.pk (.aidx 2 1)) [.t 3, .q (iv 1)]]]]] (.lets [.mk (.pk (.conv .i64)) [.mk (.pk .ineg) [.mk (.pk (.load 1 false)) [.mk (.pk (.aidx 2 1)) [.t 4, .q (iv 1)]]]]] (.lets [.mk (.pk (.conv .i64)) [.mk (.pk (.load 1 false)) [.mk (.pk (.aidx 2 1)) [.t 3, .q (iv 1)]]]] (.ret (.mk .tup [.mk .agg [.mk .aO [.t 7], .mk .aO [.t 8]], .mk .aj [.q (iv 0)]]))))) (.bm [.mk .eV [.mk (.pk (.conv .i64)) [.mk (.pk (.load 1 false)) [.mk (.pk (.aidx 2 1)) [.t 4, .q (iv 1)]]]], .mk .eV [.mk (.pk (.conv .i64)) [.mk (.pk (.load 1 false)) [.mk (.pk (.aidx 2 1)) [.t 3, .q (iv 1)]]]]] (.lets [.mk (.pk (.conv .i64)) [.mk (.pk (.load 1 false)) [.mk (.pk (.aidx 2 1)) [.t 4, .q (iv 1)]]]] (.lets [.mk (.pk (.conv .i64)) [.mk (.pk (.load 1 false)) [.mk (.pk (.aidx 2 1)) [.t 3, .q (iv 1)]]]] (.ret (.mk .tup [.mk .agg [.mk .aO [.t 7], .mk .aO [.t 8]], .mk .aj [.q (iv 0)]]))))))))) (.ite (.t 0) (.next 0 [.q (.v (.int .u64 9223372036854775808))]) (.next 0 [.q (.v (.int .u64 9223372036854775807))])))):=by kernel_rfl
theorem Yf:IP= .lets [.mk (.pk (.ibin .and)) [.t 0, .q (.v (.int .u64 4294967295))]] (.lets [.mk (.pk (.ishift .shr)) [.t 0, .q (.v (.int .u64 32))]] (.lets [.mk (.pk (.ibin .and)) [.t 1, .q (.v (.int .u64 4294967295))]] (.lets [.mk (.pk (.ishift .shr)) [.t 1, .q (.v (.int .u64 32))]] (.lets [.mk (.pk (.ibin .mul)) [.t 2, .t 4]] (.lets [.mk (.pk (.ibin .add)) [.mk (.pk (.ibin .mul)) [.t 3, .t 4], .mk (.pk (.ishift .shr)) [.t 6, .q (.v (.int .u64 32))]]] (.lets [.mk (.pk (.ibin .and)) [.t 7, .q (.v (.int .u64 4294967295))]] (.lets [.mk (.pk (.ishift .shr)) [.t 7, .q (.v (.int .u64 32))]] (.lets [.mk (.pk (.ibin .add)) [.t 8, .mk (.pk (.ibin .mul)) [.t 2, .t 5]]] (.lets [.mk (.pk (.ibin .add)) [.mk (.pk (.ibin .add)) [.mk (.pk (.ibin .mul)) [.t 3, .t 5], .t 9], .mk (.pk (.ishift .shr)) [.t 10, .q (.v (.int .u64 32))]]] (.lets [.mk (.pk (.ibin .mul)) [.t 0, .t 1]] (.ret (.mk .tup [.mk .aj [.t 11], .mk .aj [.t 12]])))))))))))):=by kernel_rfl
theorem abT:RY= .lets [.mk (.call false 118) [.mk .aj [.t 3], .mk .aj [.t 2]]] (.lets [.mk (.call false 118) [.mk .aj [.t 1], .mk .aj [.t 4]]] (.lets [.mk (.call false 78) [.mk .aj [.mk (.pk (.ibin .quo)) [.t 1, .t 6]], .mk .aj [.mk (.pk (.ibin .quo)) [.t 3, .t 5]]]] (.lets [.mk (.call false 78) [.mk .aj [.mk (.pk (.ibin .quo)) [.t 2, .t 5]], .mk .aj [.mk (.pk (.ibin .quo)) [.t 4, .t 6]]]] (.lets [.mk (.call false 122) [.mk .aj [.t 0], .mk .aj [.t 7], .mk .aj [.t 8]]] (.bm [.mk (.cell 0 2) [.mk (.pk (.ext 0)) [.t 9]]] (.lets [.mk (.pk (.ext 1)) [.t 9]] (.lets [.mk (.pk (.ext 0)) [.t 9]] (.ret (.mk .tup [.mk .aj [.t 11], .mk .aj [.t 10]]))))))))):=by kernel_rfl
theorem X':IF= .lets [.mk (.pk (.fbox 2)) [.t 1]] (.lets [.mk (.pk (.fbox 2)) [.t 0]] (.bm [.mk .eV [.q (iv 0)], .mk .eV [.q (iv 1)]] (.lets [.mk (.call false 71) [.mk .aj [.mk (.pk (.load 2 true)) [.t 3]]]] (.bm [.ite (.mk (.gv false) [.mk (.pk .inot) [.t 4]]) (.mk (.pk (.load 2 true)) [.t 2]) (.q (.tup [])), .ite (.mk (.gv false) [.mk (.pk .inot) [.t 4]]) (.mk (.call false 71) [.mk .aj [.mk (.pk (.load 2 true)) [.t 2]]]) (.q (.tup [])), .ite (.mk (.gv false) [.mk (.pk .inot) [.t 4]]) (.mk (.pk .inot) [.mk (.call false 71) [.mk .aj [.mk (.pk (.load 2 true)) [.t 2]]]]) (.q (.tup []))] (.lets [.ite (.ite (.mk (.pk .inot) [.t 4]) (.q (bv true)) (.mk (.pk .inot) [.mk (.call false 71) [.mk .aj [.mk (.pk (.load 2 true)) [.t 2]]]])) (.q (bv true)) (.mk (.pk (.aeq false [3,3])) [.mk (.pk (.load 2 true)) [.t 2], .mk .agg [.q (iv 0), .q (iv 1)]])] (.ite (.t 5) (.ret (.mk .tup [.mk .agg [.mk .aO [.q (iv 0)], .mk .aO [.q (iv 0)]], .mk .aj [.q (iv 2)]])) (.lets [.mk (.call false 74) [.mk .aj [.mk (.pk (.load 1 false)) [.mk (.pk (.fld 0)) [.t 3]]]]] (.lets [.mk (.call false 74) [.mk .aj [.mk (.pk (.load 1 false)) [.mk (.pk (.fld 1)) [.t 3]]]]] (.lets [.mk (.call false 74) [.mk .aj [.mk (.pk (.load 1 false)) [.mk (.pk (.fld 1)) [.t 2]]]]] (.lets [.mk (.call false 74) [.mk .aj [.mk (.pk (.load 1 false)) [.mk (.pk (.fld 0)) [.t 2]]]]] (.lets [.mk (.call false 73) [.mk .aj [.mk (.pk (.beq true)) [.mk (.pk (.ibin .lss)) [.mk (.pk (.load 1 false)) [.mk (.pk (.fld 0)) [.t 3]], .q (iv 0)], .mk (.pk (.ibin .lss)) [.mk (.pk (.load 1 false)) [.mk (.pk (.fld 0)) [.t 2]], .q (iv 0)]]], .mk .aj [.t 6], .mk .aj [.t 7], .mk .aj [.t 8], .mk .aj [.t 9]]] (.bm [.mk (.cell 0 2) [.mk (.pk (.ext 0)) [.t 10]]] (.lets [.mk (.pk (.ext 1)) [.t 10]] (.lets [.mk (.pk (.ext 0)) [.t 10]] (.ret (.mk .tup [.mk .aj [.t 12], .mk .aj [.t 11]])))))))))))))))):=by kernel_rfl
theorem abL:RN= .lets [.mk (.pk (.fbox 2)) [.t 1]] (.lets [.mk (.pk (.fbox 2)) [.t 0]] (.lets [.mk (.call false 71) [.mk .aj [.mk (.pk (.load 2 true)) [.t 3]]]] (.lets [.ite (.mk (.pk .inot) [.t 4]) (.q (bv true)) (.mk (.pk .inot) [.mk (.call false 71) [.mk .aj [.mk (.pk (.load 2 true)) [.t 2]]]])] (.ite (.t 5) (.ret (.mk .tup [.mk .aj [.q (iv 0)], .mk .aj [.q (iv 2)]])) (.lets [.mk (.pk (.aeq false [3,3])) [.mk (.pk (.load 2 true)) [.t 3], .mk (.pk (.load 2 true)) [.t 2]]] (.ite (.t 6) (.ret (.mk .tup [.mk .aj [.q (iv 0)], .mk .aj [.q (iv 0)]])) (.lets [.mk (.pk (.beq true)) [.mk (.pk (.ibin .lss)) [.mk (.pk (.load 1 false)) [.mk (.pk (.fld 0)) [.t 3]], .q (iv 0)], .mk (.pk (.ibin .lss)) [.mk (.pk (.load 1 false)) [.mk (.pk (.fld 0)) [.t 2]], .q (iv 0)]]] (.ite (.t 7) (.lets [.mk (.pk (.ibin .lss)) [.mk (.pk (.load 1 false)) [.mk (.pk (.fld 0)) [.t 3]], .q (iv 0)]] (.ite (.t 8) (.ret (.mk .tup [.mk .aj [.q (iv (-1))], .mk .aj [.q (iv 0)]])) (.ret (.mk .tup [.mk .aj [.q (iv 1)], .mk .aj [.q (iv 0)]])))) (.lets [.mk (.call false 74) [.mk .aj [.mk (.pk (.load 1 false)) [.mk (.pk (.fld 0)) [.t 3]]]]] (.lets [.mk (.call false 74) [.mk .aj [.mk (.pk (.load 1 false)) [.mk (.pk (.fld 1)) [.t 2]]]]] (.lets [.mk (.call false 78) [.mk .aj [.t 8], .mk .aj [.t 9]]] (.lets [.mk (.call false 74) [.mk .aj [.mk (.pk (.load 1 false)) [.mk (.pk (.fld 0)) [.t 2]]]]] (.lets [.mk (.call false 74) [.mk .aj [.mk (.pk (.load 1 false)) [.mk (.pk (.fld 1)) [.t 3]]]]] (.lets [.mk (.call false 78) [.mk .aj [.t 11], .mk .aj [.t 12]]] (.lets [.mk (.call false 79) [.mk .aj [.t 10], .mk .aj [.t 13]]] (.jp (.ret (.mk .tup [.mk .aj [.t 15], .mk .aj [.q (iv 0)]])) (.lets [.mk (.pk (.ibin .lss)) [.mk (.pk (.load 1 false)) [.mk (.pk (.fld 0)) [.t 3]], .q (iv 0)]] (.ite (.t 15) (.lets [.mk (.pk .ineg) [.t 14]] (.next 0 [.t 16])) (.next 0 [.t 14]))))))))))))))))))):=by kernel_rfl
theorem abN:RR= .lets [.mk (.pk (.fbox 9)) [.t 1]] (.lets [.mk (.pk (.fbox 9)) [.t 0]] (.lets [.mk (.pk (.beq true)) [.mk (.pk (.load 1 false)) [.mk (.pk (.fld 2)) [.t 3]], .mk (.pk (.load 1 false)) [.mk (.pk (.fld 2)) [.t 2]]]] (.ite (.t 4) (.lets [.mk (.call false 51) [.mk .aj [.mk (.pk (.load 1 false)) [.mk (.pk (.fld 2)) [.t 2]]]]] (.ret (.mk .aj [.t 5]))) (.lets [.mk (.pk (.beq true)) [.mk (.pk (.ibin .eql)) [.mk (.pk (.load 1 false)) [.mk (.pk (.fld 3)) [.t 3]], .q (iv 0)], .mk (.pk (.ibin .eql)) [.mk (.pk (.load 1 false)) [.mk (.pk (.fld 3)) [.t 2]], .q (iv 0)]]] (.ite (.t 5) (.lets [.mk (.call false 51) [.mk .aj [.mk (.pk (.ibin .eql)) [.mk (.pk (.load 1 false)) [.mk (.pk (.fld 3)) [.t 2]], .q (iv 0)]]]] (.ret (.mk .aj [.t 6]))) (.lets [.mk (.call false 33) [.mk .aj [.mk (.pk (.load 2 true)) [.mk (.pk (.fld 7)) [.t 2]]], .mk .aj [.mk (.pk (.load 2 true)) [.mk (.pk (.fld 7)) [.t 3]]]]] (.bm [.mk (.pk (.ext 1)) [.t 6]] (.lets [.mk (.pk (.ext 0)) [.t 6]] (.lets [.mk (.call false 53) [.mk .aj [.mk (.pk (.load 1 false)) [.mk (.pk (.fld 0)) [.t 3]]], .mk .aj [.mk (.pk (.load 1 false)) [.mk (.pk (.fld 0)) [.t 2]]]]] (.lets [.mk (.call true 52) [.mk (.lit 1 2 [iv 0,iv 0] [(0,1),(1,1)]) [.t 7, .t 8]]] (.ret (.mk .aj [.t 9])))))))))))):=by kernel_rfl
theorem abO:RT= .ite (.t 0) (.ret (.mk .aj [.q (iv (-1))])) (.ret (.mk .aj [.q (iv 1)])):=by kernel_rfl
theorem abP:Lb= .lets [.mk (.pk .llen) [.t 0]] (.loop [.q (iv 0), .q (iv 0)] (.lets [.mk (.pk (.ibin .lss)) [.t 2, .t 1]] (.ite (.t 4) (.lets [.mk (.pk (.load 1 false)) [.mk (.pk (.idx 3 1)) [.t 0, .t 2]]] (.lets [.mk (.pk (.ibin .neq)) [.t 5, .q (iv 0)]] (.ite (.t 6) (.ret (.mk .aj [.t 5])) (.lets [.mk (.pk (.ibin .add)) [.t 2, .q (iv 1)]] (.next 0 [.t 7, .t 3]))))) (.ret (.mk .aj [.q (iv 0)]))))):=by kernel_rfl
theorem Yj:K_= .lets [.mk (.pk (.fbox 7)) [.t 0]] (.lets [.mk (.call false 46) [.mk .aj [.mk (.pk (.load 7 true)) [.t 1]]]] (.lets [.mk (.pk (.ibin .neq)) [.t 2, .q (iv 0)]] (.ite (.t 3) (.ret (.mk .tup [.mk .aj [.q .nil], .mk .aj [.t 2]])) (.bm [.mk (.pk (.fld 0)) [.t 1]] (.bm [.mk (.pk (.load 6 true)) [.mk (.pk (.fld 0)) [.t 1]]] (.lets [.mk (.pk (.load 6 true)) [.mk (.pk (.fld 0)) [.t 1]]] (.lets [.mk (.pk (.fld 0)) [.t 1]] (.bm [.mk (.cell 0 6) [.t 4]] (.lets [.mk (.pk .llen) [.mk (.cell 5 6) [.t 4]]] (.loop [.q (iv 0), .q (.list [])] (.lets [.mk (.pk (.ibin .lss)) [.t 7, .t 6]] (.ite (.t 9) (.bm [.mk (.cell 0 5) [.mk (.pk (.load 5 true)) [.mk (.pk (.idx 109 5)) [.mk (.cell 5 6) [.t 4], .t 7]]]] (.lets [.mk (.pk (.load 5 true)) [.mk (.pk (.idx 109 5)) [.mk (.cell 5 6) [.t 4], .t 7]]] (.bm [.mk .eV [.mk (.cell 2 5) [.t 10]], .mk .eV [.mk (.cell 3 5) [.t 10]]] (.loop [.q (iv 0), .t 8] (.lets [.mk (.pk (.ibin .lss)) [.t 11, .q (iv 2)]] (.ite (.t 13) (.jp (.lets [.mk (.pk (.ibin .add)) [.t 11, .q (iv 1)]] (.next 0 [.t 18, .t 17])) (.lets [.mk (.pk (.aix 2 1 false)) [.mk .agg [.mk (.cell 2 5) [.t 10], .mk (.cell 3 5) [.t 10]], .t 11]] (.bm [.mk (.pk (.ext 0)) [.mk (.mget [3] (bv false) true) [.t 12, .t 14]]] (.lets [.mk (.pk (.ext 1)) [.mk (.mget [3] (bv false) true) [.t 12, .t 14]]] (.lets [.ite (.mk (.pk (.ibin .gtr)) [.t 14, .q (iv 0)]) (.mk (.pk .inot) [.t 15]) (.q (bv false))] (.ite (.t 16) (.bm [.ite (.mk (.gv true) [.mk (.pk (.ibin .eql)) [.t 11, .q (iv 1)]]) (.mk (.pk (.ibin .eql)) [.mk (.cell 4 6) [.t 4], .q (iv 2)]) (.q (.tup []))] (.lets [.mk (.mset [3]) [.t 12, .t 14, .ite (.mk (.pk (.ibin .eql)) [.t 11, .q (iv 1)]) (.mk (.pk (.ibin .eql)) [.mk (.cell 4 6) [.t 4], .q (iv 2)]) (.q (bv false))]] (.next 0 [.t 16, .t 15, .t 14, .t 17]))) (.next 0 [.t 16, .t 15, .t 14, .t 12]))))))) (.lets [.mk (.pk (.ibin .add)) [.t 7, .q (iv 1)]] (.next 1 [.t 14, .t 12])))))))) (.bm [.mk (.pm 0 [] 0 0) [.t 8]] (.lets [.mk (.pm 0 [] 0 0) [.t 8]] (.loop [.q (.list []), .t 10] (.any (.t 12) (.lets [.mk (.ecall 0 48 1) [.t 11]] (.bm [.mk (.pk (.ext 0)) [.t 13]] (.lets [.mk (.pk (.ext 1)) [.t 13]] (.ret (.mk .tup [.mk .own [.t 14], .mk .aj [.q (iv 0)]]))))) (.bm [.mk (.pm 2 [] 0 0) [.t 8, .mk (.pm 8 [] 0 0) [.t 13]]] (.lets [.mk (.pm 1 [] 0 0) [.t 8, .mk (.pm 8 [] 0 0) [.t 13]]] (.lets [.mk (.app 1) [.t 11, .mk (.lit 1 1 [iv 0] [(0,1)]) [.t 14]]] (.next 0 [.t 15, .t 13])))))))))))))))))))):=by kernel_rfl
theorem abH:RJ= .lets [.mk (.pk (.fbox 7)) [.t 0]] (.lets [.mk (.call false 27) [.mk .aj [.mk (.pk (.load 7 true)) [.t 2]], .mk .aj [.t 1]]] (.lets [.mk (.pk (.ext 1)) [.t 3]] (.lets [.mk (.pk (.ext 0)) [.t 3]] (.lets [.mk (.pk (.ibin .neq)) [.t 4, .q (iv 0)]] (.ite (.t 6) (.ret (.mk .tup [.mk .aj [.q .nil], .mk .aj [.t 4]])) (.lets [.mk (.call false 23) [.mk .aj [.mk (.pk (.load 7 true)) [.t 2]], .mk .aj [.t 5]]] (.lets [.mk (.pk (.ext 1)) [.t 7]] (.lets [.mk (.pk (.ext 0)) [.t 7]] (.ret (.mk .tup [.mk .aj [.t 9], .mk .aj [.t 8]])))))))))):=by kernel_rfl
theorem tx6:tm6= .bm [.mk (.cell 0 4) [.t 0]] (.lets [.mk (.call false 21) [.mk .aj [.t 0]]] (.bm [.mk (.cell 0 7) [.t 3]] (.lets [.mk (.call false 22) [.mk .aj [.t 3]]] (.lets [.mk (.pk (.ext 1)) [.t 4]] (.lets [.mk (.pk (.ext 0)) [.t 4]] (.lets [.mk (.pk (.ibin .neq)) [.t 5, .q (iv 0)]] (.ite (.t 7) (.ret (.mk .aj [.q (bv false)])) (.lets [.mk (.pk (.ibin .lss)) [.mk (.pk .llen) [.t 6], .q (iv 2)]] (.ite (.t 8) (.lets [.mk (.call false 12) []] (.ret (.mk .aj [.t 9]))) (.bm [.mk .eV [.q (iv 1)], .mk (.cell 0 1) [.mk (.pk (.load 1 false)) [.mk (.pk (.idx 3 1)) [.t 6, .q (iv 0)]]], .mk (.cell 0 1) [.mk (.pk (.load 1 false)) [.mk (.pk (.idx 3 1)) [.t 6, .q (iv 1)]]], .mk .eV [.q (iv 2)], .mk .eV [.q (bv true)]] (.lets [.mk (.pk (.load 1 false)) [.mk (.pk (.idx 3 1)) [.t 6, .q (iv 0)]]] (.lets [.mk (.pk (.load 1 false)) [.mk (.pk (.idx 3 1)) [.t 6, .q (iv 1)]]] (.lets [.mk (.call true 23) [.mk .aj [.t 3], .mk (.lit 11 1 [iv 0,iv 0,iv 0,iv 0,iv 0,iv 0,iv 0,iv 0,iv 0,iv 0,bv false] [(0,11)]) [.mk .agg [.q (iv 0), .q (iv 0), .q (iv 0), .mk (.cell 0 1) [.t 9], .mk (.cell 0 1) [.t 10], .q (iv 1), .q (iv 1), .q (iv 1), .q (iv 1), .q (iv 2), .q (bv true)]]]] (.bm [.mk (.pk (.ext 0)) [.t 11]] (.lets [.mk (.pk (.ext 1)) [.t 11]] (.lets [.mk (.pk (.ibin .neq)) [.t 12, .q (iv 0)]] (.ite (.t 13) (.ret (.mk .aj [.q (bv false)])) (.jp (.lets [.mk (.call true 23) [.mk .aj [.t 3], .mk (.lit 11 2 [iv 0,iv 0,iv 0,iv 0,iv 0,iv 0,iv 0,iv 0,iv 0,iv 0,bv false,iv 0,iv 0,iv 0,iv 0,iv 0,iv 0,iv 0,iv 0,iv 0,iv 0,bv false] [(0,11),(11,11)]) [.mk .agg [.q (iv 0), .q (iv 0), .q (iv 0), .q (iv 0), .q (iv 0), .q (iv 0), .q (iv 0), .q (iv 0), .q (iv 0), .q (iv 0), .q (bv false)], .mk .agg [.q (iv 0), .q (iv 0), .q (iv 0), .t 14, .t 15, .t 16, .q (iv 1), .t 17, .q (iv 1), .t 18, .q (bv true)]]]] (.lets [.mk (.pk (.ext 1)) [.t 19]] (.lets [.mk (.pk (.ext 0)) [.t 19]] (.lets [.mk (.call true 15) [.mk .aj [.t 3], .mk (.lit 33 2 [iv 0,iv 0,iv 0,iv 0,uv 0,uv 0,bv false,uv 0,uv 0,uv 0,uv 0,iv 0,iv 0,uv 0,uv 0,uv 0,uv 0,iv 0,iv 0,uv 0,uv 0,uv 0,uv 0,iv 0,iv 0,uv 0,uv 0,uv 0,uv 0,iv 0,iv 0,iv 0,iv 0,iv 0,iv 0,iv 0,iv 0,uv 0,uv 0,bv false,uv 0,uv 0,uv 0,uv 0,iv 0,iv 0,uv 0,uv 0,uv 0,uv 0,iv 0,iv 0,uv 0,uv 0,uv 0,uv 0,iv 0,iv 0,uv 0,uv 0,uv 0,uv 0,iv 0,iv 0,iv 0,iv 0] [(0,33),(33,33)]) [.mk .agg [.q (iv 0), .q (iv 0), .q (iv 0), .q (iv 0), .q (uv 0), .q (uv 0), .q (bv false), .q (uv 0), .q (uv 0), .q (uv 0), .q (uv 0), .q (iv 0), .q (iv 0), .q (uv 0), .q (uv 0), .q (uv 0), .q (uv 0), .q (iv 0), .q (iv 0), .q (uv 0), .q (uv 0), .q (uv 0), .q (uv 0), .q (iv 0), .q (iv 0), .q (uv 0), .q (uv 0), .q (uv 0), .q (uv 0), .q (iv 0), .q (iv 0), .q (iv 0), .q (iv 0)], .mk .agg [.q (iv 0), .q (iv 0), .q (iv 0), .q (iv 0), .q (uv 0), .q (uv 0), .q (bv false), .q (uv 0), .q (uv 0), .q (uv 0), .q (uv 0), .q (iv 0), .q (iv 0), .q (uv 0), .q (uv 0), .q (uv 0), .q (uv 0), .q (iv 0), .q (iv 0), .q (uv 0), .q (uv 0), .q (uv 0), .q (uv 0), .q (iv 0), .q (iv 0), .q (uv 0), .q (uv 0), .q (uv 0), .q (uv 0), .q (iv 0), .q (iv 0), .q (iv 0), .q (iv 0)]]]] (.lets [.mk (.pk (.ext 1)) [.t 22]] (.lets [.mk (.pk (.ext 0)) [.t 22]] (.bm [.mk .eV [.mk (.pk (.mx2 false)) [.t 1, .q (iv 0)]]] (.lets [.mk (.pk (.mx2 false)) [.t 1, .q (iv 0)]] (.lets [.mk (.call false 22) [.mk .agg [.mk .aO [.mk (.cell 0 7) [.t 3]], .mk .aO [.mk (.cell 1 7) [.t 3]], .mk .aO [.mk (.cell 2 7) [.t 3]], .mk .aO [.t 25], .mk .aO [.mk (.cell 4 7) [.t 3]], .mk .aO [.mk (.cell 5 7) [.t 3]], .mk .aO [.mk (.cell 6 7) [.t 3]]]]] (.lets [.mk (.pk (.ext 1)) [.t 26]] (.lets [.mk (.pk (.ext 0)) [.t 26]] (.lets [.mk (.call true 23) [.mk .agg [.mk .aO [.mk (.cell 0 7) [.t 3]], .mk .aO [.mk (.cell 1 7) [.t 3]], .mk .aO [.mk (.cell 2 7) [.t 3]], .mk .aO [.t 25], .mk .aO [.mk (.cell 4 7) [.t 3]], .mk .aO [.mk (.cell 5 7) [.t 3]], .mk .aO [.mk (.cell 6 7) [.t 3]]], .mk (.lit 11 1 [iv 0,iv 0,iv 0,iv 0,iv 0,iv 0,iv 0,iv 0,iv 0,iv 0,bv false] [(0,11)]) [.mk .agg [.q (iv 0), .q (iv 0), .q (iv 0), .t 14, .t 15, .t 16, .q (iv 1), .t 17, .q (iv 1), .t 18, .q (bv true)]]]] (.lets [.mk (.pk (.ext 1)) [.t 29]] (.lets [.mk (.pk (.ext 0)) [.t 29]] (.lets [.mk (.call true 15) [.mk .agg [.mk .aO [.mk (.cell 0 7) [.t 3]], .mk .aO [.mk (.cell 1 7) [.t 3]], .mk .aO [.mk (.cell 2 7) [.t 3]], .mk .aO [.t 25], .mk .aO [.mk (.cell 4 7) [.t 3]], .mk .aO [.mk (.cell 5 7) [.t 3]], .mk .aO [.mk (.cell 6 7) [.t 3]]], .mk (.lit 33 2 [iv 0,iv 0,iv 0,iv 0,uv 0,uv 0,bv false,uv 0,uv 0,uv 0,uv 0,iv 0,iv 0,uv 0,uv 0,uv 0,uv 0,iv 0,iv 0,uv 0,uv 0,uv 0,uv 0,iv 0,iv 0,uv 0,uv 0,uv 0,uv 0,iv 0,iv 0,iv 0,iv 0,iv 0,iv 0,iv 0,iv 0,uv 0,uv 0,bv false,uv 0,uv 0,uv 0,uv 0,iv 0,iv 0,uv 0,uv 0,uv 0,uv 0,iv 0,iv 0,uv 0,uv 0,uv 0,uv 0,iv 0,iv 0,uv 0,uv 0,uv 0,uv 0,iv 0,iv 0,iv 0,iv 0] [(0,33),(33,33)]) [.mk .agg [.q (iv 0), .q (iv 0), .q (iv 0), .q (iv 0), .q (uv 0), .q (uv 0), .q (bv false), .q (uv 0), .q (uv 0), .q (uv 0), .q (uv 0), .q (iv 0), .q (iv 0), .q (uv 0), .q (uv 0), .q (uv 0), .q (uv 0), .q (iv 0), .q (iv 0), .q (uv 0), .q (uv 0), .q (uv 0), .q (uv 0), .q (iv 0), .q (iv 0), .q (uv 0), .q (uv 0), .q (uv 0), .q (uv 0), .q (iv 0), .q (iv 0), .q (iv 0), .q (iv 0)], .mk .agg [.q (iv 0), .q (iv 0), .q (iv 0), .q (iv 0), .q (uv 0), .q (uv 0), .q (bv false), .q (uv 0), .q (uv 0), .q (uv 0), .q (uv 0), .q (iv 0), .q (iv 0), .q (uv 0), .q (uv 0), .q (uv 0), .q (uv 0), .q (iv 0), .q (iv 0), .q (uv 0), .q (uv 0), .q (uv 0), .q (uv 0), .q (iv 0), .q (iv 0), .q (uv 0), .q (uv 0), .q (uv 0), .q (uv 0), .q (iv 0), .q (iv 0), .q (iv 0), .q (iv 0)]]]] (.lets [.mk (.pk (.ext 1)) [.t 32]] (.lets [.mk (.pk (.ext 0)) [.t 32]] (.bm [.ite (.mk (.gv true) [.mk (.pk (.ibin .eql)) [.mk (.pk (.ibin .add)) [.mk (.pk (.ibin .add)) [.mk (.pk (.ibin .add)) [.mk (.pk (.ibin .add)) [.mk (.pk .llen) [.t 21], .mk (.pk .llen) [.t 24]], .mk (.pk .llen) [.t 28]], .mk (.pk .llen) [.t 31]], .mk (.pk .llen) [.t 34]], .q (iv 0)]]) (.mk (.pk (.ibin .eql)) [.t 20, .q (iv 330)]) (.q (.tup [])), .ite (.mk (.gv true) [.ite (.mk (.pk (.ibin .eql)) [.mk (.pk (.ibin .add)) [.mk (.pk (.ibin .add)) [.mk (.pk (.ibin .add)) [.mk (.pk (.ibin .add)) [.mk (.pk .llen) [.t 21], .mk (.pk .llen) [.t 24]], .mk (.pk .llen) [.t 28]], .mk (.pk .llen) [.t 31]], .mk (.pk .llen) [.t 34]], .q (iv 0)]) (.mk (.pk (.ibin .eql)) [.t 20, .q (iv 330)]) (.q (bv false))]) (.mk (.pk (.ibin .eql)) [.t 23, .q (iv 314)]) (.q (.tup [])), .ite (.mk (.gv true) [.ite (.ite (.mk (.pk (.ibin .eql)) [.mk (.pk (.ibin .add)) [.mk (.pk (.ibin .add)) [.mk (.pk (.ibin .add)) [.mk (.pk (.ibin .add)) [.mk (.pk .llen) [.t 21], .mk (.pk .llen) [.t 24]], .mk (.pk .llen) [.t 28]], .mk (.pk .llen) [.t 31]], .mk (.pk .llen) [.t 34]], .q (iv 0)]) (.mk (.pk (.ibin .eql)) [.t 20, .q (iv 330)]) (.q (bv false))) (.mk (.pk (.ibin .eql)) [.t 23, .q (iv 314)]) (.q (bv false))]) (.mk (.pk (.ibin .eql)) [.t 27, .q (iv 280)]) (.q (.tup [])), .ite (.mk (.gv true) [.ite (.ite (.ite (.mk (.pk (.ibin .eql)) [.mk (.pk (.ibin .add)) [.mk (.pk (.ibin .add)) [.mk (.pk (.ibin .add)) [.mk (.pk (.ibin .add)) [.mk (.pk .llen) [.t 21], .mk (.pk .llen) [.t 24]], .mk (.pk .llen) [.t 28]], .mk (.pk .llen) [.t 31]], .mk (.pk .llen) [.t 34]], .q (iv 0)]) (.mk (.pk (.ibin .eql)) [.t 20, .q (iv 330)]) (.q (bv false))) (.mk (.pk (.ibin .eql)) [.t 23, .q (iv 314)]) (.q (bv false))) (.mk (.pk (.ibin .eql)) [.t 27, .q (iv 280)]) (.q (bv false))]) (.mk (.pk (.ibin .eql)) [.t 30, .q (iv 280)]) (.q (.tup [])), .ite (.mk (.gv true) [.ite (.ite (.ite (.ite (.mk (.pk (.ibin .eql)) [.mk (.pk (.ibin .add)) [.mk (.pk (.ibin .add)) [.mk (.pk (.ibin .add)) [.mk (.pk (.ibin .add)) [.mk (.pk .llen) [.t 21], .mk (.pk .llen) [.t 24]], .mk (.pk .llen) [.t 28]], .mk (.pk .llen) [.t 31]], .mk (.pk .llen) [.t 34]], .q (iv 0)]) (.mk (.pk (.ibin .eql)) [.t 20, .q (iv 330)]) (.q (bv false))) (.mk (.pk (.ibin .eql)) [.t 23, .q (iv 314)]) (.q (bv false))) (.mk (.pk (.ibin .eql)) [.t 27, .q (iv 280)]) (.q (bv false))) (.mk (.pk (.ibin .eql)) [.t 30, .q (iv 280)]) (.q (bv false))]) (.mk (.pk (.ibin .eql)) [.t 33, .q (iv 280)]) (.q (.tup []))] (.lets [.ite (.ite (.ite (.ite (.ite (.ite (.mk (.pk (.ibin .eql)) [.mk (.pk (.ibin .add)) [.mk (.pk (.ibin .add)) [.mk (.pk (.ibin .add)) [.mk (.pk (.ibin .add)) [.mk (.pk .llen) [.t 21], .mk (.pk .llen) [.t 24]], .mk (.pk .llen) [.t 28]], .mk (.pk .llen) [.t 31]], .mk (.pk .llen) [.t 34]], .q (iv 0)]) (.mk (.pk (.ibin .eql)) [.t 20, .q (iv 330)]) (.q (bv false))) (.mk (.pk (.ibin .eql)) [.t 23, .q (iv 314)]) (.q (bv false))) (.mk (.pk (.ibin .eql)) [.t 27, .q (iv 280)]) (.q (bv false))) (.mk (.pk (.ibin .eql)) [.t 30, .q (iv 280)]) (.q (bv false))) (.mk (.pk (.ibin .eql)) [.t 33, .q (iv 280)]) (.q (bv false))) (.mk (.call false 12) []) (.q (bv false))] (.ret (.mk .aj [.t 35]))))))))))))))))))))) (.lets [.mk (.pk (.ibin .rem)) [.t 2, .q (uv 6)]] (.lets [.mk (.pk (.ibin .eql)) [.t 14, .q (uv 0)]] (.ite (.t 15) (.bm [.mk .eV [.mk (.pk (.mx2 false)) [.t 1, .q (iv 0)]]] (.lets [.mk (.pk (.mx2 false)) [.t 1, .q (iv 0)]] (.next 0 [.t 16, .mk (.cell 0 1) [.t 10], .q (iv 1), .q (iv 1), .q (iv 2)]))) (.lets [.mk (.pk (.ibin .eql)) [.t 14, .q (uv 1)]] (.ite (.t 16) (.bm [.mk .eV [.mk (.pk (.mx2 true)) [.t 1, .mk (.pk (.ibin .add)) [.mk (.pk (.load 1 false)) [.mk (.pk (.idx 3 1)) [.t 6, .mk (.pk (.ibin .sub)) [.mk (.pk .llen) [.t 6], .q (iv 1)]]], .q (iv 1)]]]] (.lets [.mk (.pk (.mx2 true)) [.t 1, .mk (.pk (.ibin .add)) [.mk (.pk (.load 1 false)) [.mk (.pk (.idx 3 1)) [.t 6, .mk (.pk (.ibin .sub)) [.mk (.pk .llen) [.t 6], .q (iv 1)]]], .q (iv 1)]]] (.next 0 [.mk (.cell 0 1) [.t 9], .t 17, .q (iv 1), .q (iv 1), .q (iv 2)]))) (.lets [.mk (.pk (.ibin .eql)) [.t 14, .q (uv 2)]] (.ite (.t 17) (.bm [.mk .eV [.mk (.pk (.mx2 false)) [.t 1, .q (iv 0)]]] (.lets [.mk (.pk (.mx2 false)) [.t 1, .q (iv 0)]] (.next 0 [.mk (.cell 0 1) [.t 9], .mk (.cell 0 1) [.t 10], .q (iv 1), .q (iv 1), .t 18]))) (.lets [.mk (.pk (.ibin .eql)) [.t 14, .q (uv 3)]] (.ite (.t 18) (.bm [.mk .eV [.mk (.pk (.mx2 true)) [.t 1, .q (iv 3)]]] (.lets [.mk (.pk (.mx2 true)) [.t 1, .q (iv 3)]] (.next 0 [.mk (.cell 0 1) [.t 9], .mk (.cell 0 1) [.t 10], .q (iv 1), .t 19, .q (iv 2)]))) (.lets [.mk (.pk (.ibin .eql)) [.t 14, .q (uv 4)]] (.ite (.t 19) (.bm [.mk (.cell 0 1) [.mk (.pk (.mx2 false)) [.t 1, .q (iv (-1))]], .mk .eV [.q (iv 1)]] (.lets [.mk (.pk (.mx2 false)) [.t 1, .q (iv (-1))]] (.next 0 [.mk (.cell 0 1) [.t 9], .mk (.cell 0 1) [.t 10], .mk (.cell 0 1) [.t 20], .q (iv 1), .q (iv 2)]))) (.lets [.mk (.pk (.ibin .eql)) [.t 14, .q (uv 5)]] (.ite (.t 20) (.bm [.mk .eV [.mk (.cell 0 1) [.t 10]]] (.next 0 [.mk (.cell 0 1) [.t 10], .mk (.cell 0 1) [.t 10], .q (iv 1), .q (iv 1), .q (iv 2)])) (.next 0 [.mk (.cell 0 1) [.t 9], .mk (.cell 0 1) [.t 10], .q (iv 1), .q (iv 1), .q (iv 2)])))))))))))))))))))))))))))))))):=by kernel_rfl
theorem abI:RK= .bm [.mk (.cell 0 4) [.t 0]] (.lets [.mk (.call false 45) [.mk .aj [.mk (.cell 0 4) [.t 0]], .mk .aj [.mk (.cell 1 4) [.t 0]], .mk .aj [.mk (.cell 2 4) [.t 0]], .mk .aj [.mk (.cell 3 4) [.t 0]]]] (.bm [.mk (.cell 0 7) [.t 1]] (.ret (.mk .aj [.t 1])))):=by kernel_rfl
theorem abX:R7= .lets [.mk (.pk (.fbox 6)) [.t 0]] (.lets [.mk (.call false 151) [.mk .aj [.mk (.pk (.load 6 true)) [.t 2]], .mk .aj [.t 1]]] (.lets [.mk (.pk (.ext 1)) [.t 3]] (.lets [.mk (.pk (.ext 0)) [.t 3]] (.lets [.ite (.mk (.pk (.ibin .eql)) [.t 4, .q (iv 0)]) (.mk (.pk (.ibin .eql)) [.mk (.pk .llen) [.t 5], .q (iv 0)]) (.q (bv false))] (.ret (.mk .tup [.mk .aj [.t 6], .mk .aj [.t 4]])))))):=by kernel_rfl
theorem Yi:IT= .lets [.mk (.pk (.fbox 6)) [.t 0]] (.bm [.ite (.mk (.gv true) [.mk (.pk (.ibin .geq)) [.mk (.pk (.load 1 false)) [.mk (.pk (.fld 0)) [.t 1]], .q (iv 1)]]) (.mk (.pk (.fld 0)) [.t 1]) (.q (.tup [])), .ite (.mk (.gv true) [.mk (.pk (.ibin .geq)) [.mk (.pk (.load 1 false)) [.mk (.pk (.fld 0)) [.t 1]], .q (iv 1)]]) (.mk (.pk (.load 1 false)) [.mk (.pk (.fld 0)) [.t 1]]) (.q (.tup [])), .ite (.mk (.gv true) [.mk (.pk (.ibin .geq)) [.mk (.pk (.load 1 false)) [.mk (.pk (.fld 0)) [.t 1]], .q (iv 1)]]) (.mk (.pk (.ibin .leq)) [.mk (.pk (.load 1 false)) [.mk (.pk (.fld 0)) [.t 1]], .q (iv 24)]) (.q (.tup [])), .ite (.mk (.gv true) [.ite (.mk (.pk (.ibin .geq)) [.mk (.pk (.load 1 false)) [.mk (.pk (.fld 0)) [.t 1]], .q (iv 1)]) (.mk (.pk (.ibin .leq)) [.mk (.pk (.load 1 false)) [.mk (.pk (.fld 0)) [.t 1]], .q (iv 24)]) (.q (bv false))]) (.mk (.pk (.fld 1)) [.t 1]) (.q (.tup [])), .ite (.mk (.gv true) [.ite (.mk (.pk (.ibin .geq)) [.mk (.pk (.load 1 false)) [.mk (.pk (.fld 0)) [.t 1]], .q (iv 1)]) (.mk (.pk (.ibin .leq)) [.mk (.pk (.load 1 false)) [.mk (.pk (.fld 0)) [.t 1]], .q (iv 24)]) (.q (bv false))]) (.mk (.pk (.load 1 false)) [.mk (.pk (.fld 1)) [.t 1]]) (.q (.tup [])), .ite (.mk (.gv true) [.ite (.mk (.pk (.ibin .geq)) [.mk (.pk (.load 1 false)) [.mk (.pk (.fld 0)) [.t 1]], .q (iv 1)]) (.mk (.pk (.ibin .leq)) [.mk (.pk (.load 1 false)) [.mk (.pk (.fld 0)) [.t 1]], .q (iv 24)]) (.q (bv false))]) (.mk (.pk (.ibin .geq)) [.mk (.pk (.load 1 false)) [.mk (.pk (.fld 1)) [.t 1]], .q (iv 1)]) (.q (.tup [])), .ite (.mk (.gv true) [.ite (.ite (.mk (.pk (.ibin .geq)) [.mk (.pk (.load 1 false)) [.mk (.pk (.fld 0)) [.t 1]], .q (iv 1)]) (.mk (.pk (.ibin .leq)) [.mk (.pk (.load 1 false)) [.mk (.pk (.fld 0)) [.t 1]], .q (iv 24)]) (.q (bv false))) (.mk (.pk (.ibin .geq)) [.mk (.pk (.load 1 false)) [.mk (.pk (.fld 1)) [.t 1]], .q (iv 1)]) (.q (bv false))]) (.mk (.pk (.fld 1)) [.t 1]) (.q (.tup [])), .ite (.mk (.gv true) [.ite (.ite (.mk (.pk (.ibin .geq)) [.mk (.pk (.load 1 false)) [.mk (.pk (.fld 0)) [.t 1]], .q (iv 1)]) (.mk (.pk (.ibin .leq)) [.mk (.pk (.load 1 false)) [.mk (.pk (.fld 0)) [.t 1]], .q (iv 24)]) (.q (bv false))) (.mk (.pk (.ibin .geq)) [.mk (.pk (.load 1 false)) [.mk (.pk (.fld 1)) [.t 1]], .q (iv 1)]) (.q (bv false))]) (.mk (.pk (.load 1 false)) [.mk (.pk (.fld 1)) [.t 1]]) (.q (.tup [])), .ite (.mk (.gv true) [.ite (.ite (.mk (.pk (.ibin .geq)) [.mk (.pk (.load 1 false)) [.mk (.pk (.fld 0)) [.t 1]], .q (iv 1)]) (.mk (.pk (.ibin .leq)) [.mk (.pk (.load 1 false)) [.mk (.pk (.fld 0)) [.t 1]], .q (iv 24)]) (.q (bv false))) (.mk (.pk (.ibin .geq)) [.mk (.pk (.load 1 false)) [.mk (.pk (.fld 1)) [.t 1]], .q (iv 1)]) (.q (bv false))]) (.mk (.pk (.ibin .leq)) [.mk (.pk (.load 1 false)) [.mk (.pk (.fld 1)) [.t 1]], .q (iv 47)]) (.q (.tup [])), .ite (.mk (.gv true) [.ite (.ite (.ite (.mk (.pk (.ibin .geq)) [.mk (.pk (.load 1 false)) [.mk (.pk (.fld 0)) [.t 1]], .q (iv 1)]) (.mk (.pk (.ibin .leq)) [.mk (.pk (.load 1 false)) [.mk (.pk (.fld 0)) [.t 1]], .q (iv 24)]) (.q (bv false))) (.mk (.pk (.ibin .geq)) [.mk (.pk (.load 1 false)) [.mk (.pk (.fld 1)) [.t 1]], .q (iv 1)]) (.q (bv false))) (.mk (.pk (.ibin .leq)) [.mk (.pk (.load 1 false)) [.mk (.pk (.fld 1)) [.t 1]], .q (iv 47)]) (.q (bv false))]) (.mk (.pk (.fld 2)) [.t 1]) (.q (.tup [])), .ite (.mk (.gv true) [.ite (.ite (.ite (.mk (.pk (.ibin .geq)) [.mk (.pk (.load 1 false)) [.mk (.pk (.fld 0)) [.t 1]], .q (iv 1)]) (.mk (.pk (.ibin .leq)) [.mk (.pk (.load 1 false)) [.mk (.pk (.fld 0)) [.t 1]], .q (iv 24)]) (.q (bv false))) (.mk (.pk (.ibin .geq)) [.mk (.pk (.load 1 false)) [.mk (.pk (.fld 1)) [.t 1]], .q (iv 1)]) (.q (bv false))) (.mk (.pk (.ibin .leq)) [.mk (.pk (.load 1 false)) [.mk (.pk (.fld 1)) [.t 1]], .q (iv 47)]) (.q (bv false))]) (.mk (.pk (.load 1 false)) [.mk (.pk (.fld 2)) [.t 1]]) (.q (.tup [])), .ite (.mk (.gv true) [.ite (.ite (.ite (.mk (.pk (.ibin .geq)) [.mk (.pk (.load 1 false)) [.mk (.pk (.fld 0)) [.t 1]], .q (iv 1)]) (.mk (.pk (.ibin .leq)) [.mk (.pk (.load 1 false)) [.mk (.pk (.fld 0)) [.t 1]], .q (iv 24)]) (.q (bv false))) (.mk (.pk (.ibin .geq)) [.mk (.pk (.load 1 false)) [.mk (.pk (.fld 1)) [.t 1]], .q (iv 1)]) (.q (bv false))) (.mk (.pk (.ibin .leq)) [.mk (.pk (.load 1 false)) [.mk (.pk (.fld 1)) [.t 1]], .q (iv 47)]) (.q (bv false))]) (.mk (.pk (.ibin .geq)) [.mk (.pk (.load 1 false)) [.mk (.pk (.fld 2)) [.t 1]], .q (iv 1)]) (.q (.tup [])), .ite (.mk (.gv true) [.ite (.ite (.ite (.ite (.mk (.pk (.ibin .geq)) [.mk (.pk (.load 1 false)) [.mk (.pk (.fld 0)) [.t 1]], .q (iv 1)]) (.mk (.pk (.ibin .leq)) [.mk (.pk (.load 1 false)) [.mk (.pk (.fld 0)) [.t 1]], .q (iv 24)]) (.q (bv false))) (.mk (.pk (.ibin .geq)) [.mk (.pk (.load 1 false)) [.mk (.pk (.fld 1)) [.t 1]], .q (iv 1)]) (.q (bv false))) (.mk (.pk (.ibin .leq)) [.mk (.pk (.load 1 false)) [.mk (.pk (.fld 1)) [.t 1]], .q (iv 47)]) (.q (bv false))) (.mk (.pk (.ibin .geq)) [.mk (.pk (.load 1 false)) [.mk (.pk (.fld 2)) [.t 1]], .q (iv 1)]) (.q (bv false))]) (.mk (.pk (.fld 2)) [.t 1]) (.q (.tup [])), .ite (.mk (.gv true) [.ite (.ite (.ite (.ite (.mk (.pk (.ibin .geq)) [.mk (.pk (.load 1 false)) [.mk (.pk (.fld 0)) [.t 1]], .q (iv 1)]) (.mk (.pk (.ibin .leq)) [.mk (.pk (.load 1 false)) [.mk (.pk (.fld 0)) [.t 1]], .q (iv 24)]) (.q (bv false))) (.mk (.pk (.ibin .geq)) [.mk (.pk (.load 1 false)) [.mk (.pk (.fld 1)) [.t 1]], .q (iv 1)]) (.q (bv false))) (.mk (.pk (.ibin .leq)) [.mk (.pk (.load 1 false)) [.mk (.pk (.fld 1)) [.t 1]], .q (iv 47)]) (.q (bv false))) (.mk (.pk (.ibin .geq)) [.mk (.pk (.load 1 false)) [.mk (.pk (.fld 2)) [.t 1]], .q (iv 1)]) (.q (bv false))]) (.mk (.pk (.load 1 false)) [.mk (.pk (.fld 2)) [.t 1]]) (.q (.tup [])), .ite (.mk (.gv true) [.ite (.ite (.ite (.ite (.mk (.pk (.ibin .geq)) [.mk (.pk (.load 1 false)) [.mk (.pk (.fld 0)) [.t 1]], .q (iv 1)]) (.mk (.pk (.ibin .leq)) [.mk (.pk (.load 1 false)) [.mk (.pk (.fld 0)) [.t 1]], .q (iv 24)]) (.q (bv false))) (.mk (.pk (.ibin .geq)) [.mk (.pk (.load 1 false)) [.mk (.pk (.fld 1)) [.t 1]], .q (iv 1)]) (.q (bv false))) (.mk (.pk (.ibin .leq)) [.mk (.pk (.load 1 false)) [.mk (.pk (.fld 1)) [.t 1]], .q (iv 47)]) (.q (bv false))) (.mk (.pk (.ibin .geq)) [.mk (.pk (.load 1 false)) [.mk (.pk (.fld 2)) [.t 1]], .q (iv 1)]) (.q (bv false))]) (.mk (.pk (.ibin .leq)) [.mk (.pk (.load 1 false)) [.mk (.pk (.fld 2)) [.t 1]], .q (iv 128)]) (.q (.tup [])), .ite (.mk (.gv true) [.ite (.ite (.ite (.ite (.ite (.mk (.pk (.ibin .geq)) [.mk (.pk (.load 1 false)) [.mk (.pk (.fld 0)) [.t 1]], .q (iv 1)]) (.mk (.pk (.ibin .leq)) [.mk (.pk (.load 1 false)) [.mk (.pk (.fld 0)) [.t 1]], .q (iv 24)]) (.q (bv false))) (.mk (.pk (.ibin .geq)) [.mk (.pk (.load 1 false)) [.mk (.pk (.fld 1)) [.t 1]], .q (iv 1)]) (.q (bv false))) (.mk (.pk (.ibin .leq)) [.mk (.pk (.load 1 false)) [.mk (.pk (.fld 1)) [.t 1]], .q (iv 47)]) (.q (bv false))) (.mk (.pk (.ibin .geq)) [.mk (.pk (.load 1 false)) [.mk (.pk (.fld 2)) [.t 1]], .q (iv 1)]) (.q (bv false))) (.mk (.pk (.ibin .leq)) [.mk (.pk (.load 1 false)) [.mk (.pk (.fld 2)) [.t 1]], .q (iv 128)]) (.q (bv false))]) (.mk (.pk (.fld 3)) [.t 1]) (.q (.tup [])), .ite (.mk (.gv true) [.ite (.ite (.ite (.ite (.ite (.mk (.pk (.ibin .geq)) [.mk (.pk (.load 1 false)) [.mk (.pk (.fld 0)) [.t 1]], .q (iv 1)]) (.mk (.pk (.ibin .leq)) [.mk (.pk (.load 1 false)) [.mk (.pk (.fld 0)) [.t 1]], .q (iv 24)]) (.q (bv false))) (.mk (.pk (.ibin .geq)) [.mk (.pk (.load 1 false)) [.mk (.pk (.fld 1)) [.t 1]], .q (iv 1)]) (.q (bv false))) (.mk (.pk (.ibin .leq)) [.mk (.pk (.load 1 false)) [.mk (.pk (.fld 1)) [.t 1]], .q (iv 47)]) (.q (bv false))) (.mk (.pk (.ibin .geq)) [.mk (.pk (.load 1 false)) [.mk (.pk (.fld 2)) [.t 1]], .q (iv 1)]) (.q (bv false))) (.mk (.pk (.ibin .leq)) [.mk (.pk (.load 1 false)) [.mk (.pk (.fld 2)) [.t 1]], .q (iv 128)]) (.q (bv false))]) (.mk (.pk (.load 1 false)) [.mk (.pk (.fld 3)) [.t 1]]) (.q (.tup [])), .ite (.mk (.gv true) [.ite (.ite (.ite (.ite (.ite (.mk (.pk (.ibin .geq)) [.mk (.pk (.load 1 false)) [.mk (.pk (.fld 0)) [.t 1]], .q (iv 1)]) (.mk (.pk (.ibin .leq)) [.mk (.pk (.load 1 false)) [.mk (.pk (.fld 0)) [.t 1]], .q (iv 24)]) (.q (bv false))) (.mk (.pk (.ibin .geq)) [.mk (.pk (.load 1 false)) [.mk (.pk (.fld 1)) [.t 1]], .q (iv 1)]) (.q (bv false))) (.mk (.pk (.ibin .leq)) [.mk (.pk (.load 1 false)) [.mk (.pk (.fld 1)) [.t 1]], .q (iv 47)]) (.q (bv false))) (.mk (.pk (.ibin .geq)) [.mk (.pk (.load 1 false)) [.mk (.pk (.fld 2)) [.t 1]], .q (iv 1)]) (.q (bv false))) (.mk (.pk (.ibin .leq)) [.mk (.pk (.load 1 false)) [.mk (.pk (.fld 2)) [.t 1]], .q (iv 128)]) (.q (bv false))]) (.mk (.pk (.ibin .geq)) [.mk (.pk (.load 1 false)) [.mk (.pk (.fld 3)) [.t 1]], .q (iv 1)]) (.q (.tup [])), .ite (.mk (.gv true) [.ite (.ite (.ite (.ite (.ite (.ite (.mk (.pk (.ibin .geq)) [.mk (.pk (.load 1 false)) [.mk (.pk (.fld 0)) [.t 1]], .q (iv 1)]) (.mk (.pk (.ibin .leq)) [.mk (.pk (.load 1 false)) [.mk (.pk (.fld 0)) [.t 1]], .q (iv 24)]) (.q (bv false))) (.mk (.pk (.ibin .geq)) [.mk (.pk (.load 1 false)) [.mk (.pk (.fld 1)) [.t 1]], .q (iv 1)]) (.q (bv false))) (.mk (.pk (.ibin .leq)) [.mk (.pk (.load 1 false)) [.mk (.pk (.fld 1)) [.t 1]], .q (iv 47)]) (.q (bv false))) (.mk (.pk (.ibin .geq)) [.mk (.pk (.load 1 false)) [.mk (.pk (.fld 2)) [.t 1]], .q (iv 1)]) (.q (bv false))) (.mk (.pk (.ibin .leq)) [.mk (.pk (.load 1 false)) [.mk (.pk (.fld 2)) [.t 1]], .q (iv 128)]) (.q (bv false))) (.mk (.pk (.ibin .geq)) [.mk (.pk (.load 1 false)) [.mk (.pk (.fld 3)) [.t 1]], .q (iv 1)]) (.q (bv false))]) (.mk (.pk (.fld 4)) [.t 1]) (.q (.tup [])), .ite (.mk (.gv true) [.ite (.ite (.ite (.ite (.ite (.ite (.mk (.pk (.ibin .geq)) [.mk (.pk (.load 1 false)) [.mk (.pk (.fld 0)) [.t 1]], .q (iv 1)]) (.mk (.pk (.ibin .leq)) [.mk (.pk (.load 1 false)) [.mk (.pk (.fld 0)) [.t 1]], .q (iv 24)]) (.q (bv false))) (.mk (.pk (.ibin .geq)) [.mk (.pk (.load 1 false)) [.mk (.pk (.fld 1)) [.t 1]], .q (iv 1)]) (.q (bv false))) (.mk (.pk (.ibin .leq)) [.mk (.pk (.load 1 false)) [.mk (.pk (.fld 1)) [.t 1]], .q (iv 47)]) (.q (bv false))) (.mk (.pk (.ibin .geq)) [.mk (.pk (.load 1 false)) [.mk (.pk (.fld 2)) [.t 1]], .q (iv 1)]) (.q (bv false))) (.mk (.pk (.ibin .leq)) [.mk (.pk (.load 1 false)) [.mk (.pk (.fld 2)) [.t 1]], .q (iv 128)]) (.q (bv false))) (.mk (.pk (.ibin .geq)) [.mk (.pk (.load 1 false)) [.mk (.pk (.fld 3)) [.t 1]], .q (iv 1)]) (.q (bv false))]) (.mk (.pk (.load 1 false)) [.mk (.pk (.fld 4)) [.t 1]]) (.q (.tup [])), .ite (.mk (.gv false) [.ite (.mk (.gv true) [.ite (.ite (.ite (.ite (.ite (.ite (.mk (.pk (.ibin .geq)) [.mk (.pk (.load 1 false)) [.mk (.pk (.fld 0)) [.t 1]], .q (iv 1)]) (.mk (.pk (.ibin .leq)) [.mk (.pk (.load 1 false)) [.mk (.pk (.fld 0)) [.t 1]], .q (iv 24)]) (.q (bv false))) (.mk (.pk (.ibin .geq)) [.mk (.pk (.load 1 false)) [.mk (.pk (.fld 1)) [.t 1]], .q (iv 1)]) (.q (bv false))) (.mk (.pk (.ibin .leq)) [.mk (.pk (.load 1 false)) [.mk (.pk (.fld 1)) [.t 1]], .q (iv 47)]) (.q (bv false))) (.mk (.pk (.ibin .geq)) [.mk (.pk (.load 1 false)) [.mk (.pk (.fld 2)) [.t 1]], .q (iv 1)]) (.q (bv false))) (.mk (.pk (.ibin .leq)) [.mk (.pk (.load 1 false)) [.mk (.pk (.fld 2)) [.t 1]], .q (iv 128)]) (.q (bv false))) (.mk (.pk (.ibin .geq)) [.mk (.pk (.load 1 false)) [.mk (.pk (.fld 3)) [.t 1]], .q (iv 1)]) (.q (bv false))]) (.mk (.pk (.ibin .eql)) [.mk (.pk (.load 1 false)) [.mk (.pk (.fld 4)) [.t 1]], .q (iv 1)]) (.q (.tup []))]) (.mk (.pk (.fld 4)) [.t 1]) (.q (.tup [])), .ite (.mk (.gv false) [.ite (.mk (.gv true) [.ite (.ite (.ite (.ite (.ite (.ite (.mk (.pk (.ibin .geq)) [.mk (.pk (.load 1 false)) [.mk (.pk (.fld 0)) [.t 1]], .q (iv 1)]) (.mk (.pk (.ibin .leq)) [.mk (.pk (.load 1 false)) [.mk (.pk (.fld 0)) [.t 1]], .q (iv 24)]) (.q (bv false))) (.mk (.pk (.ibin .geq)) [.mk (.pk (.load 1 false)) [.mk (.pk (.fld 1)) [.t 1]], .q (iv 1)]) (.q (bv false))) (.mk (.pk (.ibin .leq)) [.mk (.pk (.load 1 false)) [.mk (.pk (.fld 1)) [.t 1]], .q (iv 47)]) (.q (bv false))) (.mk (.pk (.ibin .geq)) [.mk (.pk (.load 1 false)) [.mk (.pk (.fld 2)) [.t 1]], .q (iv 1)]) (.q (bv false))) (.mk (.pk (.ibin .leq)) [.mk (.pk (.load 1 false)) [.mk (.pk (.fld 2)) [.t 1]], .q (iv 128)]) (.q (bv false))) (.mk (.pk (.ibin .geq)) [.mk (.pk (.load 1 false)) [.mk (.pk (.fld 3)) [.t 1]], .q (iv 1)]) (.q (bv false))]) (.mk (.pk (.ibin .eql)) [.mk (.pk (.load 1 false)) [.mk (.pk (.fld 4)) [.t 1]], .q (iv 1)]) (.q (.tup []))]) (.mk (.pk (.load 1 false)) [.mk (.pk (.fld 4)) [.t 1]]) (.q (.tup [])), .ite (.mk (.gv false) [.ite (.mk (.gv true) [.ite (.ite (.ite (.ite (.ite (.ite (.mk (.pk (.ibin .geq)) [.mk (.pk (.load 1 false)) [.mk (.pk (.fld 0)) [.t 1]], .q (iv 1)]) (.mk (.pk (.ibin .leq)) [.mk (.pk (.load 1 false)) [.mk (.pk (.fld 0)) [.t 1]], .q (iv 24)]) (.q (bv false))) (.mk (.pk (.ibin .geq)) [.mk (.pk (.load 1 false)) [.mk (.pk (.fld 1)) [.t 1]], .q (iv 1)]) (.q (bv false))) (.mk (.pk (.ibin .leq)) [.mk (.pk (.load 1 false)) [.mk (.pk (.fld 1)) [.t 1]], .q (iv 47)]) (.q (bv false))) (.mk (.pk (.ibin .geq)) [.mk (.pk (.load 1 false)) [.mk (.pk (.fld 2)) [.t 1]], .q (iv 1)]) (.q (bv false))) (.mk (.pk (.ibin .leq)) [.mk (.pk (.load 1 false)) [.mk (.pk (.fld 2)) [.t 1]], .q (iv 128)]) (.q (bv false))) (.mk (.pk (.ibin .geq)) [.mk (.pk (.load 1 false)) [.mk (.pk (.fld 3)) [.t 1]], .q (iv 1)]) (.q (bv false))]) (.mk (.pk (.ibin .eql)) [.mk (.pk (.load 1 false)) [.mk (.pk (.fld 4)) [.t 1]], .q (iv 1)]) (.q (.tup []))]) (.mk (.pk (.ibin .eql)) [.mk (.pk (.load 1 false)) [.mk (.pk (.fld 4)) [.t 1]], .q (iv 2)]) (.q (.tup [])), .ite (.mk (.gv true) [.ite (.ite (.ite (.ite (.ite (.ite (.mk (.pk (.ibin .geq)) [.mk (.pk (.load 1 false)) [.mk (.pk (.fld 0)) [.t 1]], .q (iv 1)]) (.mk (.pk (.ibin .leq)) [.mk (.pk (.load 1 false)) [.mk (.pk (.fld 0)) [.t 1]], .q (iv 24)]) (.q (bv false))) (.mk (.pk (.ibin .geq)) [.mk (.pk (.load 1 false)) [.mk (.pk (.fld 1)) [.t 1]], .q (iv 1)]) (.q (bv false))) (.mk (.pk (.ibin .leq)) [.mk (.pk (.load 1 false)) [.mk (.pk (.fld 1)) [.t 1]], .q (iv 47)]) (.q (bv false))) (.mk (.pk (.ibin .geq)) [.mk (.pk (.load 1 false)) [.mk (.pk (.fld 2)) [.t 1]], .q (iv 1)]) (.q (bv false))) (.mk (.pk (.ibin .leq)) [.mk (.pk (.load 1 false)) [.mk (.pk (.fld 2)) [.t 1]], .q (iv 128)]) (.q (bv false))) (.mk (.pk (.ibin .geq)) [.mk (.pk (.load 1 false)) [.mk (.pk (.fld 3)) [.t 1]], .q (iv 1)]) (.q (bv false))]) (.ite (.mk (.pk (.ibin .eql)) [.mk (.pk (.load 1 false)) [.mk (.pk (.fld 4)) [.t 1]], .q (iv 1)]) (.q (bv true)) (.ite (.mk (.gv false) [.ite (.mk (.gv true) [.ite (.ite (.ite (.ite (.ite (.ite (.mk (.pk (.ibin .geq)) [.mk (.pk (.load 1 false)) [.mk (.pk (.fld 0)) [.t 1]], .q (iv 1)]) (.mk (.pk (.ibin .leq)) [.mk (.pk (.load 1 false)) [.mk (.pk (.fld 0)) [.t 1]], .q (iv 24)]) (.q (bv false))) (.mk (.pk (.ibin .geq)) [.mk (.pk (.load 1 false)) [.mk (.pk (.fld 1)) [.t 1]], .q (iv 1)]) (.q (bv false))) (.mk (.pk (.ibin .leq)) [.mk (.pk (.load 1 false)) [.mk (.pk (.fld 1)) [.t 1]], .q (iv 47)]) (.q (bv false))) (.mk (.pk (.ibin .geq)) [.mk (.pk (.load 1 false)) [.mk (.pk (.fld 2)) [.t 1]], .q (iv 1)]) (.q (bv false))) (.mk (.pk (.ibin .leq)) [.mk (.pk (.load 1 false)) [.mk (.pk (.fld 2)) [.t 1]], .q (iv 128)]) (.q (bv false))) (.mk (.pk (.ibin .geq)) [.mk (.pk (.load 1 false)) [.mk (.pk (.fld 3)) [.t 1]], .q (iv 1)]) (.q (bv false))]) (.mk (.pk (.ibin .eql)) [.mk (.pk (.load 1 false)) [.mk (.pk (.fld 4)) [.t 1]], .q (iv 1)]) (.q (.tup []))]) (.mk (.pk (.ibin .eql)) [.mk (.pk (.load 1 false)) [.mk (.pk (.fld 4)) [.t 1]], .q (iv 2)]) (.q (.tup [])))) (.q (.tup []))] (.lets [.ite (.ite (.ite (.ite (.ite (.ite (.ite (.ite (.mk (.pk (.ibin .geq)) [.mk (.pk (.load 1 false)) [.mk (.pk (.fld 0)) [.t 1]], .q (iv 1)]) (.mk (.pk (.ibin .leq)) [.mk (.pk (.load 1 false)) [.mk (.pk (.fld 0)) [.t 1]], .q (iv 24)]) (.q (bv false))) (.mk (.pk (.ibin .geq)) [.mk (.pk (.load 1 false)) [.mk (.pk (.fld 1)) [.t 1]], .q (iv 1)]) (.q (bv false))) (.mk (.pk (.ibin .leq)) [.mk (.pk (.load 1 false)) [.mk (.pk (.fld 1)) [.t 1]], .q (iv 47)]) (.q (bv false))) (.mk (.pk (.ibin .geq)) [.mk (.pk (.load 1 false)) [.mk (.pk (.fld 2)) [.t 1]], .q (iv 1)]) (.q (bv false))) (.mk (.pk (.ibin .leq)) [.mk (.pk (.load 1 false)) [.mk (.pk (.fld 2)) [.t 1]], .q (iv 128)]) (.q (bv false))) (.mk (.pk (.ibin .geq)) [.mk (.pk (.load 1 false)) [.mk (.pk (.fld 3)) [.t 1]], .q (iv 1)]) (.q (bv false))) (.ite (.mk (.pk (.ibin .eql)) [.mk (.pk (.load 1 false)) [.mk (.pk (.fld 4)) [.t 1]], .q (iv 1)]) (.q (bv true)) (.ite (.mk (.gv false) [.ite (.mk (.gv true) [.ite (.ite (.ite (.ite (.ite (.ite (.mk (.pk (.ibin .geq)) [.mk (.pk (.load 1 false)) [.mk (.pk (.fld 0)) [.t 1]], .q (iv 1)]) (.mk (.pk (.ibin .leq)) [.mk (.pk (.load 1 false)) [.mk (.pk (.fld 0)) [.t 1]], .q (iv 24)]) (.q (bv false))) (.mk (.pk (.ibin .geq)) [.mk (.pk (.load 1 false)) [.mk (.pk (.fld 1)) [.t 1]], .q (iv 1)]) (.q (bv false))) (.mk (.pk (.ibin .leq)) [.mk (.pk (.load 1 false)) [.mk (.pk (.fld 1)) [.t 1]], .q (iv 47)]) (.q (bv false))) (.mk (.pk (.ibin .geq)) [.mk (.pk (.load 1 false)) [.mk (.pk (.fld 2)) [.t 1]], .q (iv 1)]) (.q (bv false))) (.mk (.pk (.ibin .leq)) [.mk (.pk (.load 1 false)) [.mk (.pk (.fld 2)) [.t 1]], .q (iv 128)]) (.q (bv false))) (.mk (.pk (.ibin .geq)) [.mk (.pk (.load 1 false)) [.mk (.pk (.fld 3)) [.t 1]], .q (iv 1)]) (.q (bv false))]) (.mk (.pk (.ibin .eql)) [.mk (.pk (.load 1 false)) [.mk (.pk (.fld 4)) [.t 1]], .q (iv 1)]) (.q (.tup []))]) (.mk (.pk (.ibin .eql)) [.mk (.pk (.load 1 false)) [.mk (.pk (.fld 4)) [.t 1]], .q (iv 2)]) (.q (.tup [])))) (.q (bv false))) (.mk (.pk (.ibin .leq)) [.mk (.pk .llen) [.mk (.pk (.load 1 false)) [.mk (.pk (.fld 5)) [.t 1]]], .mk (.pk (.ibin .mul)) [.mk (.pk (.load 1 false)) [.mk (.pk (.fld 0)) [.t 1]], .mk (.pk (.load 1 false)) [.mk (.pk (.fld 1)) [.t 1]]]]) (.q (bv false))] (.ret (.mk .aj [.t 2])))):=by kernel_rfl
end Ty
end
section
open Go.RowKit Go.Sort
namespace Ty
variable {H : FP}
structure Mv where
 tb:Int
 rs:Int
 ss:Int
 cp:Int
 wn:Int
 rows:List Rw
def Mv.cells(m:Mv):List D:= [iv m.tb,iv m.rs,iv m.ss,iv m.cp,iv m.wn, .list (m.rows.map Rw.cells)]
def Mv.Iu(m:Mv)(b:Int):Ss:=⟨m.tb,m.rs,m.ss,m.cp,m.wn,m.rows,b⟩
def Mk(H:FP)(f:Nat)(ds:List D):Prop:= ∃m:Mv,XK.run (GK H) (.call false f) ds=some (.tup [.agg m.cells,iv 0])∧ ∀b:Int,(b=1∨b=2)→lM H (m.Iu b)
def SJ(H:FP)(f:Nat)(ds:List D):Prop:= ∃m:Mv,XK.run (GK H) (.call false f) ds=some (.agg m.cells)∧ ∀b:Int,(b=1∨b=2)→lM H (m.Iu b)
structure YU(H:FP):Prop where
 q22:XK.run (GK H) (.call false 209) [iv 2,uv 2]=some (.tup [iv 1,iv 0])
 m22: ∀n:Int,1≤n→n≤1→Mk H 211 [iv 2,iv n,uv 2]
 q42:XK.run (GK H) (.call false 209) [iv 4,uv 2]=some (.tup [iv 3,iv 0])
 Zl: ∀n:Int,1≤n→n≤3→Mk H 211 [iv 4,iv n,uv 2]
 q23:XK.run (GK H) (.call false 209) [iv 2,uv 3]=some (.tup [iv 2,iv 0])
 m23: ∀n:Int,1≤n→n≤2→Mk H 211 [iv 2,iv n,uv 3]
 q43:XK.run (GK H) (.call false 209) [iv 4,uv 3]=some (.tup [iv 4,iv 0])
 Zm: ∀n:Int,1≤n→n≤4→Mk H 211 [iv 4,iv n,uv 3]
 q31:XK.run (GK H) (.call false 209) [iv 3,uv 1]=some (.tup [iv 3,iv 0])
 Zk: ∀n:Int,1≤n→n≤3→Mk H 211 [iv 3,iv n,uv 1]
 q51:XK.run (GK H) (.call false 209) [iv 5,uv 1]=some (.tup [iv 5,iv 0])
 QQ: ∀n:Int,1≤n→n≤5→Mk H 211 [iv 5,iv n,uv 1]
 r5: ∀n:Int,1≤n→n≤5→Mk H 210 [iv 5,iv n]
 h2: ∀n:Int,1≤n→n≤3→Mk H 150 [iv 2,iv n]
 h3: ∀n:Int,1≤n→n≤5→Mk H 150 [iv 3,iv n]
 h4: ∀n:Int,1≤n→n≤7→Mk H 150 [iv 4,iv n]
 h5: ∀n:Int,1≤n→n≤9→Mk H 150 [iv 5,iv n]
section
variable {G : FP} {m : Mv}
@[simp] theorem Mv.c0:XK.run G (.cell 0 6) [.agg m.cells]=some (iv m.tb):=nr rfl
@[simp] theorem Mv.c1:XK.run G (.cell 1 6) [.agg m.cells]=some (iv m.rs):=nr rfl
@[simp] theorem Mv.c2:XK.run G (.cell 2 6) [.agg m.cells]=some (iv m.ss):=nr rfl
@[simp] theorem Mv.c3:XK.run G (.cell 3 6) [.agg m.cells]=some (iv m.cp):=nr rfl
@[simp] theorem Mv.c4:XK.run G (.cell 4 6) [.agg m.cells]=some (iv m.wn):=nr rfl
@[simp] theorem Mv.c5:XK.run G (.cell 5 6) [.agg m.cells]=some (.list (m.rows.map Rw.cells)):=nr rfl
@[simp] theorem Mv.e0{d:D}:XK.run G (.pk (.ext 0)) [.tup [.agg m.cells,d]]=some (.agg m.cells):=nr rfl
@[simp] theorem Mv.e1{v:Value}:XK.run G (.pk (.ext 1)) [.tup [.agg m.cells, .v v]]=some (.v v):=nr rfl
@[simp] theorem acW{a b:Value}:XK.run G (.pk (.ext 0)) [.tup [.v a, .v b]]=some (.v a):=nr rfl
@[simp] theorem acY{a b:Value}:XK.run G (.pk (.ext 1)) [.tup [.v a, .v b]]=some (.v b):=nr rfl
@[simp] theorem Mv.aj:XK.run G .aj [.agg m.cells]=some (.agg m.cells):=nr rfl
@[simp] theorem Mv.aK:(D.agg m.cells).aK=true:=nr rfl
@[simp] theorem adq{E:List D}{v:Nat}:X.bh G E (cs v 6 0 6)=ob (E[v]?) (YZ 6 0 6):=ZV (by omega) (by omega)
@[simp] theorem acV:YZ 6 0 6 (.agg m.cells)=some [iv m.tb,iv m.rs,iv m.ss,iv m.cp,iv m.wn, .list (m.rows.map Rw.cells)]:=nr rfl
theorem or_:XK.run G (.pk (.ibin .or)) [iv 2,iv 1]=some (iv 3)∧XK.run G (.pk (.ibin .or)) [iv 3,iv 1]=some (iv 3)∧XK.run G (.pk (.ibin .or)) [iv 4,iv 1]=some (iv 5)∧XK.run G (.pk (.ibin .or)) [iv 5,iv 1]=some (iv 5):=⟨rfl,rfl,rfl,rfl⟩
theorem an_:XK.run G (.pk (.ibin .andNot)) [iv 2,iv 1]=some (iv 2)∧XK.run G (.pk (.ibin .andNot)) [iv 3,iv 1]=some (iv 2)∧XK.run G (.pk (.ibin .andNot)) [iv 4,iv 1]=some (iv 4)∧XK.run G (.pk (.ibin .andNot)) [iv 5,iv 1]=some (iv 4):=⟨rfl,rfl,rfl,rfl⟩
theorem mx_{k:IntKind}{a b:Int}:XK.run G (.pk (.mx2 true)) [.v (.int k a), .v (.int k b)]=some (.v (.int k (if a<b then b else a))):=nr rfl
end
theorem Mv.all(m:Mv): ∀x,x∈m.cells→x.aN=true:=by simp[Mv.cells]
theorem Ss.all(s:Ss): ∀x,x∈s.cells→x.aN=true:=by simp[Ss.cells]
theorem pw{x:X}{xs:List D}:(eR x (.agg xs)).bare= .agg xs:=by
 unfold eR;split
 ·rfl
 ·split<;>rfl
abbrev xT:X:= .mk .agg [.mk .aO [.t 10], .mk .aO [.t 11], .mk .aO [.t 12], .mk .aO [.t 13], .mk .aO [.t 14], .mk .aO [.t 15]]
theorem ewL{r n:Int}(h:u8 r=true)(h1:0<n)(h2:n<99):IntKind.i64.wrap (1+(IntKind.i64.wrap r).tmod n)=1+r%n:=by
 have h:=uy h;have:=Int.emod_nonneg r (show n≠0 by omega);have:=Int.emod_lt_of_pos r h1;rw[wr (z:=r) (by omega) (by omega),tm h.1,wr (by omega) (by omega)]
theorem md{p:Int→Prop}{r d:Int}(hr:u8 r=true)(hd:0<d)(h: ∀n,1≤n→n≤d→p n):p (1+r%d):=by
 have:=Int.emod_nonneg r (show d≠0 by omega);have:=Int.emod_lt_of_pos r hd;exact h _ (by omega) (by omega)
theorem ets:(IntKind.i64.wrap (2+(IntKind.i64.wrap 0).tmod 23)=2∧IntKind.i64.wrap (2+(IntKind.i64.wrap 1).tmod 23)=3∧IntKind.i64.wrap (2+(IntKind.i64.wrap 2).tmod 23)=4∧IntKind.i64.wrap (2+(IntKind.i64.wrap 3).tmod 23)=5)∧IntKind.i64.wrap 2=2∧IntKind.i64.wrap 3=3∧IntKind.i64.wrap 4=4∧IntKind.i64.wrap 5=5:=by decide
theorem gP(hF:Fr H){f n:Nat}{t:FT}(ho:a_ cx f n t){ds:List D}{m:Mv}{x:X}(hg: ∀b:Int,(b=1∨b=2)→lM H (m.Iu b))(he:aa (GK H) 10000 t [] ds=some (eR x (.agg m.cells)))(hlt:f<1000000:=by decide)(h1:Dd.contains f=false:=by decide)(hl:ds.length=n:=by rfl)(hn:ds.all D.aK=true:=by rfl):SJ H f ds:=
 ⟨m,rM (aJ hF ho he hlt h1 hl hn) pw rfl,hg⟩
set_option maxHeartbeats 4000000 in
theorem aaB(hF:Fr H)(hM:YU H){r:Int}(hr:u8 r=true): ∀t k:Int,(t=0∨t=1∨t=2∨t=3)→(k=0∨k=1∨k=2∨k=3)→SJ H 148 [uv t,uv r,uv k]:=by
 obtain⟨_,a31,b31⟩:=md hr (by decide) hM.Zk;obtain⟨_,a22,b22⟩:=md hr (by decide) hM.m22;obtain⟨_,a23,b23⟩:=md hr (by decide) hM.m23;obtain⟨_,a51,b51⟩:=md hr (by decide) hM.QQ;obtain⟨_,a42,b42⟩:=md hr (by decide) hM.Zl;obtain⟨_,a43,b43⟩:=md hr (by decide) hM.Zm;obtain⟨_,a5,b5⟩:=md hr (by decide) hM.r5;rw[show 1+r%1=1 by omega]at a22;have ew:=fun n=>ewL (n:=n) hr;have w1:=ew 1 (by decide) (by decide);have w2:=ew 2 (by decide) (by decide);have w3:=ew 3 (by decide) (by decide);have w4:=ew 4 (by decide) (by decide);have w5:=ew 5 (by decide) (by decide);clear ew;rintro t k (rfl|rfl|rfl|rfl) (rfl|rfl|rfl|rfl)
 iterate 2
  iterate 2
   refine gP hF mf (x:=xT) b31 ?_
   rotate_left
  refine gP hF mf (x:=xT) b22 ?_
  rotate_left
  refine gP hF mf (x:=xT) b23 ?_
  rotate_left
 iterate 2
  refine gP hF mf (x:=xT) b51 ?_
  rotate_left
 refine gP hF mf (x:=xT) b42 ?_
 rotate_left
 refine gP hF mf (x:=xT) b43 ?_
 rotate_left
 refine gP hF mf (x:=xT) b5 ?_
 rotate_left
 refine gP hF mf (x:=xT) b51 ?_
 rotate_left
 refine gP hF mf (x:=xT) b42 ?_
 rotate_left
 refine gP hF mf (x:=xT) b43 ?_
 rotate_left
 all_goals
  rw[Yg];simp[-aq,ets,or_,an_,mx_,hM.q31,hM.q22,hM.q23,hM.q51,hM.q42,hM.q43,w1,w2,w3,w4,w5,a31,a22,a23,a51,a42,a43,a5];rfl
theorem Vc (hF : Fr H) {t r k : Int} (hk : k = 0 ∨ k = 1 ∨ k = 2 ∨ k = 3) (h : SJ H 148 [uv t, uv r, uv k]) : SJ H 93 [uv t, uv r, uv k] := by
  obtain ⟨m, hm, hg⟩ := h
  refine gP hF Q5 (x := .mk .aj [.t 5]) hg ?_
  rw [Ym]
  rcases hk with rfl | rfl | rfl | rfl <;> (simp [-aq, hm]; exact Mv.all m)
theorem Dk(hF:Fr H){t0 t w d r:Int}(hr:u8 r=true)(hd:0<d∧d<99)(h: ∀n:Int,1≤n→n≤d→Mk H 150 [iv t,iv n])(et:IntKind.i64.wrap (2+(IntKind.i64.wrap t0).tmod 23)=t)(ev:IntKind.i64.wrap t=t)(e1:IntKind.i64.wrap (2*t)=w)(e2:IntKind.i64.wrap (w-1)=d):SJ H 93 [uv t0,uv r,uv 7]:=by
 obtain⟨m,hm,hg⟩:=md hr hd.1 h;refine gP hF Q5 (x:= .mk .aj [.t 8]) hg ?_;rw[Ym];have ew:=ewL (n:=d) hr hd.1 hd.2;have d0: ¬d=0:=by omega
 simp[-aq,et,ev,e1,e2,ew,hm,d0];exact Mv.all m
theorem Vb(hF:Fr H){n1 n2 n3 n4 a c kd:Int}(h4:u8 n4=true)(ha:n1.tmod 4=a)(hc:n3.tmod 5=c)(hx:XK.run (GK H) (.pk (.aix 5 1 false)) [.agg [uv 0,uv 1,uv 2,uv 3,uv 7],uv c]=some (uv kd))(hm:SJ H 93 [uv a,uv n2,uv kd]):
  ∃s:Ss,lM H s∧XK.run (GK H) (.call false 45) [uv n1,uv n2,uv n3,uv n4]=some (.agg s.cells):=by
 obtain⟨m,hm,hg⟩:=hm;have h:=uy h4;have e:IntKind.i64.wrap (1+(IntKind.i64.wrap n4).tmod 2)=1+n4%2:=by rw[wr (z:=n4) (by omega) (by omega),tm h.1,wr (by omega) (by omega)]
 refine⟨m.Iu (1+n4%2),hg _ (by omega),rM (r:=eR (.mk .agg [.mk .aO [.mk (.cell 0 6) [.t 4]], .mk .aO [.mk (.cell 1 6) [.t 4]], .mk .aO [.mk (.cell 2 6) [.t 4]], .mk .aO [.mk (.cell 3 6) [.t 4]], .mk .aO [.mk (.cell 4 6) [.t 4]], .mk .aO [.mk (.cell 5 6) [.t 4]], .mk .aO [.t 5]]) (.agg (m.Iu (1+n4%2)).cells)) (aJ hF WV ?_) pw rfl⟩;rw[abM];simp[-aq,ha,hc,hx,hm,e];rfl
theorem l21(hF:Fr H){n1 n2 n3 n4:Int}{s:Ss}(h:XK.run (GK H) (.call false 45) [uv n1,uv n2,uv n3,uv n4]=some (.agg s.cells)):XK.run (GK H) (.call false 21) [.agg [uv n1,uv n2,uv n3,uv n4]]=some (.agg s.cells):=by
 refine rM (r:=eR (.mk .aj [.t 1]) (.agg s.cells)) (aJ hF VM ?_) pw rfl;rw[abI];have c0:XK.run (GK H) (.cell 0 4) [.agg [uv n1,uv n2,uv n3,uv n4]]=some (uv n1):=rfl;have c1:XK.run (GK H) (.cell 1 4) [.agg [uv n1,uv n2,uv n3,uv n4]]=some (uv n2):=rfl;have c2:XK.run (GK H) (.cell 2 4) [.agg [uv n1,uv n2,uv n3,uv n4]]=some (uv n3):=rfl;have c3:XK.run (GK H) (.cell 3 4) [.agg [uv n1,uv n2,uv n3,uv n4]]=some (uv n4):=rfl;simp[-aq,c0,c1,c2,c3,h];exact Ss.all s
theorem Vt (hF : Fr H) (hM : YU H) {n1 n2 n3 n4 : Int} (h1 : u8 n1 = true) (h2 : u8 n2 = true) (h3 : u8 n3 = true) (h4 : u8 n4 = true) : ∃ s : Ss, lM H s ∧ XK.run (GK H) (.call false 21) [.agg [uv n1, uv n2, uv n3, uv n4]] = some (.agg s.cells) := by
  have r1 := uy h1
  have r3 := uy h3
  have e1 : n1.tmod 4 = n1 % 4 := tm r1.1
  have e3 : n3.tmod 5 = n3 % 5 := tm r3.1
  have c1 : n1 % 4 = 0 ∨ n1 % 4 = 1 ∨ n1 % 4 = 2 ∨ n1 % 4 = 3 := by omega
  have c3 : n3 % 5 = 0 ∨ n3 % 5 = 1 ∨ n3 % 5 = 2 ∨ n3 % 5 = 3 ∨ n3 % 5 = 4 := by omega
  have key : ∃ s : Ss, lM H s ∧ XK.run (GK H) (.call false 45) [uv n1, uv n2, uv n3, uv n4] = some (.agg s.cells) := by
    rcases c1 with c1 | c1 | c1 | c1 <;> rcases c3 with c3 | c3 | c3 | c3 | c3
    all_goals first
      | exact Vb hF h4 (e1.trans c1) (e3.trans c3) rfl (Vc hF (by decide) (aaB hF hM h2 _ _ (by decide) (by decide)))
      | exact Vb hF h4 (e1.trans c1) (e3.trans c3) rfl (Dk (w := 4) hF h2 (by decide) hM.h2 (by decide) (by decide) (by decide) (by decide))
      | exact Vb hF h4 (e1.trans c1) (e3.trans c3) rfl (Dk (w := 6) hF h2 (by decide) hM.h3 (by decide) (by decide) (by decide) (by decide))
      | exact Vb hF h4 (e1.trans c1) (e3.trans c3) rfl (Dk (w := 8) hF h2 (by decide) hM.h4 (by decide) (by decide) (by decide) (by decide))
      | exact Vb hF h4 (e1.trans c1) (e3.trans c3) rfl (Dk (w := 10) hF h2 (by decide) hM.h5 (by decide) (by decide) (by decide) (by decide))
  obtain ⟨s, hs, h⟩ := key
  exact ⟨s, hs, l21 hF h⟩
end Ty
end
section
namespace Ty
structure Fq where
 n:Int
 d:Int
def Fq.ok(f:Fq):Prop:=0<f.d∧Nat.gcd f.n.natAbs f.d.natAbs=1
def red(n d:Int):Fq:=⟨n/(Nat.gcd n.natAbs d.natAbs:Nat),d/(Nat.gcd n.natAbs d.natAbs:Nat)⟩
theorem GL(n d:Int):((Nat.gcd n.natAbs d.natAbs:Nat):Int)∣n:=Int.ofNat_dvd_left.2 (Nat.gcd_dvd_left ..)
theorem GM(n d:Int):((Nat.gcd n.natAbs d.natAbs:Nat):Int)∣d:=Int.ofNat_dvd_left.2 (Nat.gcd_dvd_right ..)
theorem xq{n d:Int}(hd:0<d):0<Nat.gcd n.natAbs d.natAbs:=Nat.gcd_pos_of_pos_right _ (by omega)
theorem DG{n d:Int}:(red n d).n*(Nat.gcd n.natAbs d.natAbs:Nat)=n:=Int.ediv_mul_cancel (GL n d)
theorem DF{n d:Int}:(red n d).d*(Nat.gcd n.natAbs d.natAbs:Nat)=d:=Int.ediv_mul_cancel (GM n d)
theorem k_{n d:Int}(hd:0<d):(red n d).ok:=by
 have hg:=xq (n:=n) hd;have h1:= @DG n d;have h2:= @DF n d;generalize hgg:Nat.gcd n.natAbs d.natAbs=g at*;generalize red n d=f at*;refine⟨?_, ?_⟩
 ·refine Int.pos_of_mul_pos_left (b:=(g:Int)) (by rw[h2];exact hd) (by omega)
 ·have e1:n.natAbs=f.n.natAbs*g:=by rw[←h1,Int.natAbs_mul];rfl
  have e2:d.natAbs=f.d.natAbs*g:=by rw[←h2,Int.natAbs_mul];rfl
  rw[e1,e2,Nat.gcd_mul_right]at hgg;exact Nat.eq_of_mul_eq_mul_right hg (by rw[hgg,Nat.one_mul])
theorem PR{f g:Fq}(h1:f.n=g.n)(h2:f.d=g.d):f=g:=by cases f;cases g;cases h1;cases h2;rfl
theorem EW{f g:Fq}(hf:f.ok)(hg:g.ok)(e:f.n*g.d=g.n*f.d):f=g:=by
 obtain⟨f1,f2⟩:=hf;obtain⟨g1,g2⟩:=hg;have en:f.n.natAbs*g.d.natAbs=g.n.natAbs*f.d.natAbs:=by rw[←Int.natAbs_mul,e,Int.natAbs_mul]
 have d1:f.d.natAbs∣g.d.natAbs:=(Nat.Coprime.symm f2).dvd_of_dvd_mul_left (m:=f.n.natAbs) ⟨g.n.natAbs,by rw[en,Nat.mul_comm]⟩;have d2:g.d.natAbs∣f.d.natAbs:=(Nat.Coprime.symm g2).dvd_of_dvd_mul_left (m:=g.n.natAbs) ⟨f.n.natAbs,by rw[←en,Nat.mul_comm]⟩;have h:=Nat.dvd_antisymm d1 d2;have hd:f.d=g.d:=by omega
 refine PR ?_ hd;rw[hd]at e;exact Int.eq_of_mul_eq_mul_right (by omega) e
theorem p9{n d:Int}(hd:0<d):(red n d).n*d=n*(red n d).d:=by
 have h1:= @DG n d;have h2:= @DF n d;generalize Nat.gcd n.natAbs d.natAbs=g at*;generalize red n d=f at*;rw[←h1,←h2,Int.mul_comm f.d,←Int.mul_assoc]
theorem iZ{f:Fq}(h:f.ok){n d:Int}(hd:0<d)(e:f.n*d=n*f.d):f=red n d:=by
 have hr:=k_ (n:=n) hd;refine EW h hr ?_;have h2:= @DF n d;have h1:= @DG n d;have hg:=xq (n:=n) hd;generalize Nat.gcd n.natAbs d.natAbs=g at*;generalize red n d=r at*;refine Int.eq_of_mul_eq_mul_right (a:=(g:Int)) (by omega) ?_;rw[Int.mul_assoc,h2,e,Int.mul_right_comm,h1]
theorem Rp{n d n' d':Int}(hd:0<d)(hd':0<d')(e:n*d'=n'*d):red n d=red n' d':=by
 refine iZ (k_ hd) hd' ?_;have h:=p9 (n:=n) hd;refine Int.eq_of_mul_eq_mul_right (a:=d) (by omega) ?_;rw[Int.mul_right_comm,h,Int.mul_right_comm,e,Int.mul_right_comm]
theorem E5{f:Fq}(h:f.ok):red f.n f.d=f:=(iZ h h.1 rfl).symm
theorem OM{a b c d k:Nat}(hb:0<b)(hd:0<d)(h1:Nat.gcd a b=1)(h2:Nat.gcd c d=1)(hk:k=Nat.gcd b d){t:Nat}(ht:(∃x y,t=x+y∧x=a*(d/k)∧y=c*(b/k))∨(∃x y,x=a*(d/k)∧y=c*(b/k)∧(t+y=x∨t+x=y))):
  Nat.gcd (t/Nat.gcd k t) ((b/k)*(d/Nat.gcd k t))=1:=by
 have hk0:0<k:=by rw[hk];exact Nat.gcd_pos_of_pos_left _ hb
 obtain⟨b',hb'⟩:k∣b:=hk▸Nat.gcd_dvd_left ..;obtain⟨d',hd'⟩:k∣d:=hk▸Nat.gcd_dvd_right ..;have eb:b/k=b':=by rw[hb',Nat.mul_div_cancel_left _ hk0]
 have ed:d/k=d':=by rw[hd',Nat.mul_div_cancel_left _ hk0]
 have hbd:Nat.Coprime b' d':=by
  have:Nat.gcd (k*b') (k*d')=k:=by rw[←hb',←hd',←hk]
  rw[Nat.gcd_mul_left]at this;exact Nat.eq_of_mul_eq_mul_left hk0 (by rw[this,Nat.mul_one])
 have hab:Nat.Coprime a b':=Nat.Coprime.coprime_dvd_right ⟨k,by rw[hb',Nat.mul_comm]⟩ h1;have hcd:Nat.Coprime c d':=Nat.Coprime.coprime_dvd_right ⟨k,by rw[hd',Nat.mul_comm]⟩ h2;rw[eb,ed]at ht;rw[eb];have q1:Nat.Coprime (a*d') b':=Nat.Coprime.mul_left hab hbd.symm;have q2:Nat.Coprime (c*b') d':=Nat.Coprime.mul_left hcd hbd
 have dx: ∀g,g∣t→g∣c*b'→g∣a*d':=fun g g1 g2=>by
  rcases ht with⟨x,y,rfl,rfl,rfl⟩|⟨x,y,rfl,rfl,h|h⟩
  ·exact(Nat.dvd_add_left g2).1 g1
  ·rw[←h];exact Nat.dvd_add g1 g2
  ·exact(Nat.dvd_add_right g1).1 (by rw[h];exact g2)
 have dy: ∀g,g∣t→g∣a*d'→g∣c*b':=fun g g1 g2=>by
  rcases ht with⟨x,y,rfl,rfl,rfl⟩|⟨x,y,rfl,rfl,h|h⟩
  ·exact(Nat.dvd_add_right g2).1 g1
  ·exact(Nat.dvd_add_right g1).1 (by rw[h];exact g2)
  ·rw[←h];exact Nat.dvd_add g1 g2
 have tb:Nat.Coprime t b':=by
  have g1:Nat.gcd t b'∣t:=Nat.gcd_dvd_left ..;have g2:Nat.gcd t b'∣b':=Nat.gcd_dvd_right ..;have g3:=dx _ g1 (Nat.dvd_trans g2 (Nat.dvd_mul_left ..));exact Nat.eq_one_of_dvd_one (by rw[←show Nat.gcd (a*d') b'=1 from q1];exact Nat.dvd_gcd g3 g2)
 have td:Nat.Coprime t d':=by
  have g1:Nat.gcd t d'∣t:=Nat.gcd_dvd_left ..;have g2:Nat.gcd t d'∣d':=Nat.gcd_dvd_right ..;have g3:=dy _ g1 (Nat.dvd_trans g2 (Nat.dvd_mul_left ..));exact Nat.eq_one_of_dvd_one (by rw[←show Nat.gcd (c*b') d'=1 from q2];exact Nat.dvd_gcd g3 g2)
 have hg0:0<Nat.gcd k t:=Nat.gcd_pos_of_pos_left _ hk0;obtain⟨k2,e1⟩:Nat.gcd k t∣k:=Nat.gcd_dvd_left ..;obtain⟨t2,e2⟩:Nat.gcd k t∣t:=Nat.gcd_dvd_right ..
 have hk2:Nat.Coprime t2 k2:=by
  have h:Nat.gcd (Nat.gcd k t*k2) (Nat.gcd k t*t2)=Nat.gcd k t:=by rw[←e1,←e2]
  rw[Nat.gcd_mul_left]at h;exact(show Nat.Coprime k2 t2 from Nat.eq_of_mul_eq_mul_left hg0 (by rw[h,Nat.mul_one])).symm
 have et:t/Nat.gcd k t=t2:=by
  generalize Nat.gcd k t=g at*;rw[e2,Nat.mul_div_cancel_left _ hg0]
 have edd:d/Nat.gcd k t=k2*d':=by
  generalize Nat.gcd k t=g at*;rw[hd',e1,Nat.mul_assoc,Nat.mul_div_cancel_left _ hg0]
 rw[et,edd];have t2d:t2∣t:=⟨Nat.gcd k t,by rw[Nat.mul_comm];exact e2⟩;exact Nat.Coprime.mul_right (Nat.Coprime.coprime_dvd_left t2d tb) (Nat.Coprime.mul_right hk2 (Nat.Coprime.coprime_dvd_left t2d td))
theorem QV{a b c d:Nat}(hb:0<b)(hd:0<d)(h1:Nat.gcd a b=1)(h2:Nat.gcd c d=1):
  Nat.gcd (a/Nat.gcd a d*(c/Nat.gcd c b)) (b/Nat.gcd c b*(d/Nat.gcd a d))=1:=by
 have hg:0<Nat.gcd a d:=Nat.gcd_pos_of_pos_right _ hd;have hh:0<Nat.gcd c b:=Nat.gcd_pos_of_pos_right _ hb;have cop: ∀{x y:Nat},0<Nat.gcd x y→Nat.Coprime (x/Nat.gcd x y) (y/Nat.gcd x y):=fun h=>Nat.coprime_div_gcd_div_gcd h
 have dv: ∀{x y:Nat},y∣x→x/y∣x:=fun{x y} ⟨k,hk⟩=>by
  subst hk;rcases Nat.eq_zero_or_pos y with rfl|hy
  ·simp
  ·rw[Nat.mul_div_cancel_left _ hy];exact Nat.dvd_mul_left ..
 have a1:a/Nat.gcd a d∣a:=dv (Nat.gcd_dvd_left ..);have c1:c/Nat.gcd c b∣c:=dv (Nat.gcd_dvd_left ..);have b1:b/Nat.gcd c b∣b:=dv (Nat.gcd_dvd_right ..);have d1:d/Nat.gcd a d∣d:=dv (Nat.gcd_dvd_right ..);have ab:Nat.Coprime (a/Nat.gcd a d) (b/Nat.gcd c b):=Nat.Coprime.coprime_dvd_left a1 (Nat.Coprime.coprime_dvd_right b1 h1);have cd:Nat.Coprime (c/Nat.gcd c b) (d/Nat.gcd a d):=Nat.Coprime.coprime_dvd_left c1 (Nat.Coprime.coprime_dvd_right d1 h2);exact Nat.Coprime.mul_left (Nat.Coprime.mul_right ab (cop hg)) (Nat.Coprime.mul_right (cop hh) cd)
theorem Jj{f g:Fq}(hf:f.ok)(hg:g.ok){k t:Nat}(hk:k=Nat.gcd f.d.natAbs g.d.natAbs){s m:Int}(hs:s=f.n*((g.d.natAbs/k:Nat):Int)+g.n*((f.d.natAbs/k:Nat):Int))(ht:s.natAbs=t)(hm:m*(Nat.gcd k t:Nat)=s):
  (⟨m,((f.d.natAbs/k*(g.d.natAbs/Nat.gcd k t):Nat):Int)⟩:Fq)=red (f.n*g.d+g.n*f.d) (f.d*g.d):=by
 obtain⟨f1,f2⟩:=hf;obtain⟨g1,g2⟩:=hg;have hb:0<f.d.natAbs:=by omega
 have hd:0<g.d.natAbs:=by omega
 have hk0:0<k:=by rw[hk];exact Nat.gcd_pos_of_pos_left _ hb
 have hx:(f.n*((g.d.natAbs/k:Nat):Int)).natAbs=f.n.natAbs*(g.d.natAbs/k):=by rw[Int.natAbs_mul,Int.natAbs_natCast]
 have hy:(g.n*((f.d.natAbs/k:Nat):Int)).natAbs=g.n.natAbs*(f.d.natAbs/k):=by rw[Int.natAbs_mul,Int.natAbs_natCast]
 have hgt:0<Nat.gcd k t:=Nat.gcd_pos_of_pos_left _ hk0
 have hmt:m.natAbs=t/Nat.gcd k t:=by
  have h:=congrArg Int.natAbs hm;rw[Int.natAbs_mul,Int.natAbs_natCast,ht]at h;exact(Nat.div_eq_of_eq_mul_left hgt h.symm).symm
 have hco:=OM hb hd f2 g2 hk (t:=t) (by
  rw[←hx,←hy];generalize f.n*((g.d.natAbs/k:Nat):Int)=x at*;generalize g.n*((f.d.natAbs/k:Nat):Int)=y at*;by_cases hxy:t=x.natAbs+y.natAbs
  ·exact .inl ⟨_,_,hxy,rfl,rfl⟩
  ·exact .inr ⟨_,_,rfl,rfl,by omega⟩)
 obtain⟨b',hb'⟩:k∣f.d.natAbs:=hk▸Nat.gcd_dvd_left ..;obtain⟨d',hd'⟩:k∣g.d.natAbs:=hk▸Nat.gcd_dvd_right ..;obtain⟨k2,e1⟩:Nat.gcd k t∣k:=Nat.gcd_dvd_left ..;have eb:f.d.natAbs/k=b':=by rw[hb',Nat.mul_div_cancel_left _ hk0]
 have ed:g.d.natAbs/k=d':=by rw[hd',Nat.mul_div_cancel_left _ hk0]
 have edd:g.d.natAbs/Nat.gcd k t=k2*d':=by
  rw[hd'];generalize Nat.gcd k t=q at*;rw[e1,Nat.mul_assoc,Nat.mul_div_cancel_left _ hgt]
 have b0:0<b':=Nat.pos_of_ne_zero fun h=>by subst h;omega
 have d0:0<d':=Nat.pos_of_ne_zero fun h=>by subst h;omega
 have k0:0<k2:=Nat.pos_of_ne_zero fun h=>by subst h;omega
 have hfd:f.d=(k:Int)*b':=by
  have:(f.d.natAbs:Int)=f.d:=by omega
  rw[←this,hb'];simp
 have hgd:g.d=(k:Int)*d':=by
  have:(g.d.natAbs:Int)=g.d:=by omega
  rw[←this,hd'];simp
 refine iZ ⟨?_, ?_⟩ (Int.mul_pos f1 g1) ?_
 ·show(0:Int)<((_:Nat):Int);rw[eb,edd];exact Int.natCast_pos.2 (Nat.mul_pos b0 (Nat.mul_pos k0 d0))
 ·show Nat.gcd m.natAbs (((_:Nat):Int)).natAbs=1;rw[Int.natAbs_natCast,hmt];exact hco
 ·show m*(f.d*g.d)=(f.n*g.d+g.n*f.d)*((_:Nat):Int);rw[eb,edd];rw[eb,ed]at hs
  have hk':(k:Int)=(Nat.gcd k t:Nat)*(k2:Int):=by
   rw[←Int.natCast_mul,←e1]
  generalize((Nat.gcd k t:Nat):Int)=q at*;rw[hfd,hgd,Int.natCast_mul,Int.natCast_mul];clear eb ed edd hb' hd' hco hmt hx hy ht e1 hfd hgd;generalize(k:Int)=K at*;generalize(b':Int)=B at*;generalize(d':Int)=E at*;generalize(k2:Int)=L at*
  grind
theorem Kw{f g:Fq}(hf:f.ok)(hg:g.ok){m:Int}(hm:m.natAbs=f.n.natAbs/Nat.gcd f.n.natAbs g.d.natAbs*(g.n.natAbs/Nat.gcd g.n.natAbs f.d.natAbs))(hs:m*((Nat.gcd f.n.natAbs g.d.natAbs:Nat):Int)*((Nat.gcd g.n.natAbs f.d.natAbs:Nat):Int)=f.n*g.n):
  (⟨m,((f.d.natAbs/Nat.gcd g.n.natAbs f.d.natAbs*(g.d.natAbs/Nat.gcd f.n.natAbs g.d.natAbs):Nat):Int)⟩:Fq)=red (f.n*g.n) (f.d*g.d):=by
 obtain⟨f1,f2⟩:=hf;obtain⟨g1,g2⟩:=hg;have hb:0<f.d.natAbs:=by omega
 have hd:0<g.d.natAbs:=by omega
 have hco:=QV hb hd f2 g2;have hfd:(f.d.natAbs:Int)=f.d:=by omega
 have hgd:(g.d.natAbs:Int)=g.d:=by omega
 obtain⟨d',hd'⟩:Nat.gcd f.n.natAbs g.d.natAbs∣g.d.natAbs:=Nat.gcd_dvd_right ..;obtain⟨b',hb'⟩:Nat.gcd g.n.natAbs f.d.natAbs∣f.d.natAbs:=Nat.gcd_dvd_right ..;have hp:0<Nat.gcd f.n.natAbs g.d.natAbs:=Nat.gcd_pos_of_pos_right _ hd;have hq:0<Nat.gcd g.n.natAbs f.d.natAbs:=Nat.gcd_pos_of_pos_right _ hb;generalize Nat.gcd f.n.natAbs g.d.natAbs=p at*;generalize Nat.gcd g.n.natAbs f.d.natAbs=q at*;have ed:g.d.natAbs/p=d':=by rw[hd',Nat.mul_div_cancel_left _ hp]
 have eb:f.d.natAbs/q=b':=by rw[hb',Nat.mul_div_cancel_left _ hq]
 have d0:0<d':=Nat.pos_of_ne_zero fun h=>by subst h;omega
 have b0:0<b':=Nat.pos_of_ne_zero fun h=>by subst h;omega
 refine iZ ⟨?_, ?_⟩ (Int.mul_pos f1 g1) ?_
 ·show(0:Int)<((_:Nat):Int);rw[eb,ed];exact Int.natCast_pos.2 (Nat.mul_pos b0 d0)
 ·show Nat.gcd m.natAbs (((_:Nat):Int)).natAbs=1;rw[Int.natAbs_natCast,hm];exact hco
 ·show m*(f.d*g.d)=f.n*g.n*((_:Nat):Int);rw[eb,ed,←hfd,←hgd,hb',hd',←hs];simp only[Int.natCast_mul]
  grind
end Ty
end
section
namespace Ty
variable {H : FP}
structure Fb(H:FP):Prop where
 fr:Fr H
 a: ∀ds,H 185 ds=po ds
 s: ∀ds,H 186 ds=qh ds
def uw(a:Nat):D:= .v (.int .u64 ((a:Nat):Int))
def gm(a b:Nat):Nat:=if b=0 then 0 else Nat.log2 (a*b)+1+(if a<b then 1 else 0)
theorem PS{a b:Nat}(hb:b≠0):gm b (a%b)<gm a b:=by
 have hr:=Nat.mod_lt a (Nat.pos_of_ne_zero hb);unfold gm;rw[if_neg hb];by_cases h0:a%b=0
 ·rw[if_pos h0];omega
 ·rw[if_neg h0,if_neg (by omega)];by_cases h1:a<b
  ·rw[if_pos h1,Nat.mod_eq_of_lt h1,Nat.mul_comm];omega
  ·rw[if_neg h1]
   have h2:2*(a%b)≤a:=by
    have:=Nat.div_add_mod a b;have:1≤a/b:=(Nat.one_le_div_iff (Nat.pos_of_ne_zero hb)).2 (by omega);have:b*1≤b*(a/b):=Nat.mul_le_mul_left _ this;omega
   have h3:2*(b*(a%b))≤a*b:=by
    have:=Nat.mul_le_mul_left b h2;rw[Nat.mul_comm a b,Nat.mul_left_comm];exact this
   have h4:b*(a%b)≠0:=Nat.mul_ne_zero hb h0
   have h5:Nat.log2 (b*(a%b))+1≤Nat.log2 (a*b):=by
    rw[←Nat.log2_two_mul h4];exact(Nat.le_log2 (by omega)).2 (Nat.le_trans (Nat.log2_self_le (by omega)) h3)
   omega
theorem TL{a b:Nat}(ha:a<18446744073709551616)(hb:b<18446744073709551616):gm a b<200:=by
 unfold gm;split
 ·omega
 ·have:Nat.log2 (a*b)<128:=by
   by_cases h:a*b=0
   ·rw[h];decide
   ·refine(Nat.log2_lt h).2 ?_;have:=Nat.mul_lt_mul'' ha hb;exact Nat.lt_of_lt_of_le this (by decide)
  split<;>omega
theorem wu{z:Int}(h1:0≤z)(h2:z<18446744073709551616):IntKind.u64.wrap z=z:=mV .u64 z (by show-(0:Int)≤z;omega) h2
theorem ZG{a:Nat}(h:a<18446744073709551616):IntKind.u64.wrap (a:Int)=(a:Int):=wu (by omega) (by omega)
section
variable {G : FP} {f : Fq} {a b c : Nat}
def Fq.cells(f:Fq):List D:= [iv f.n,iv f.d]
@[simp] theorem Fq.cell0:XK.run G (.cell 0 2) [.agg f.cells]=some (iv f.n):=nr rfl
@[simp] theorem Fq.fb:XK.run G (.pk (.fbox 2)) [.agg f.cells]=some (.lptr f.cells):=nr rfl
@[simp] theorem Fq.SS:XK.run G (.pk (.load 2 true)) [.lptr f.cells]=some (.agg f.cells):=nr rfl
@[simp] theorem Fq.ldz:XK.run G (.pk (.load 1 false)) [.lptr f.cells]=some (iv f.n):=nr rfl
@[simp] theorem Fq.Zf:XK.run G (.pk (.load 1 false)) [.lptr f.cells.tail]=some (iv f.d):=nr rfl
@[simp] theorem Fq.aj:XK.run G .aj [.agg f.cells]=some (.agg f.cells):=nr rfl
@[simp] theorem Fq.aK:(D.agg f.cells).aK=true:=nr rfl
@[simp] theorem Fq.e0{v:Value}:XK.run G (.pk (.ext 0)) [.tup [.agg f.cells, .v v]]=some (.agg f.cells):=nr rfl
@[simp] theorem Fq.e1{v:Value}:XK.run G (.pk (.ext 1)) [.tup [.agg f.cells, .v v]]=some (.v v):=nr rfl
@[simp] theorem Fq.ad2{v:Value}:(D.tup [.agg f.cells, .v v]).aK=true:=nr rfl
@[simp] theorem Fq.tag{x:X}{v:Value}:eR x (.tup [.agg f.cells, .v v])= .tup [.agg f.cells, .v v]:=nr rfl
def W(a b:Nat):List D:= [uw a,uw b]
@[simp] theorem W.cell0:XK.run G (.cell 0 2) [.agg (W a b)]=some (uw a):=nr rfl
@[simp] theorem W.lA:XK.run G (.cell 1 2) [.agg (W a b)]=some (uw b):=nr rfl
@[simp] theorem W.fb:XK.run G (.pk (.fbox 2)) [.agg (W a b)]=some (.lptr (W a b)):=nr rfl
@[simp] theorem W.SS:XK.run G (.pk (.load 2 true)) [.lptr (W a b)]=some (.agg (W a b)):=nr rfl
@[simp] theorem W.aj:XK.run G .aj [.agg (W a b)]=some (.agg (W a b)):=nr rfl
@[simp] theorem W.aK:(D.agg (W a b)).aK=true:=nr rfl
@[simp] theorem W.ad6{x:X}:eR x (.agg (W a b))= .agg (W a b):=nr rfl
@[simp] theorem W.ai0:XK.run G (.pk (.aidx 2 1)) [.lptr (W a b),iv 0]=some (.lptr (W a b)):=nr rfl
@[simp] theorem W.ai1:XK.run G (.pk (.aidx 2 1)) [.lptr (W a b),iv 1]=some (.lptr ((W a b).drop 1)):=nr rfl
@[simp] theorem W.ld0:XK.run G (.pk (.load 1 false)) [.lptr (W a b)]=some (uw a):=nr rfl
@[simp] theorem W.Zf:XK.run G (.pk (.load 1 false)) [.lptr (W a b).tail]=some (uw b):=nr rfl
@[simp] theorem W.ax0:XK.run G (.pk (.aix 2 1 false)) [.agg (W a b),iv 0]=some (uw a):=nr rfl
@[simp] theorem W.ax1:XK.run G (.pk (.aix 2 1 false)) [.agg (W a b),iv 1]=some (uw b):=nr rfl
@[simp] theorem W.mk:XK.run G .agg [uw a,uw b]=some (.agg (W a b)):=nr rfl
@[simp] theorem ZU{v:Value}:XK.run G (.cell 0 1) [.v v]=some (.v v):=nr rfl
@[simp] theorem Xp{k:IntKind}{z:Int}:XK.run G (.pk .ineg) [.v (.int k z)]=some (.v (.int k (k.wrap (0-z)))):=nr rfl
@[simp] theorem uw.aj:XK.run G .aj [uw a]=some (uw a):=nr rfl
@[simp] theorem uw.aO:XK.run G .aO [uw a]=some (uw a):=nr rfl
@[simp] theorem uw.eV:XK.run G .eV [uw a]=some (uw a):=nr rfl
@[simp] theorem uw.cell:XK.run G (.cell 0 1) [uw a]=some (uw a):=nr rfl
@[simp] theorem uw.aK:(uw a).aK=true:=nr rfl
@[simp] theorem uw.aN:(uw a).aN=true:=nr rfl
@[simp] theorem uw.tag{x:X}:eR x (uw a)=uw a:=nr rfl
@[simp] theorem uw.adB:D.v (.int .u64 0)=uw 0:=nr rfl
@[simp] theorem uw.adC:D.v (.int .u64 1)=uw 1:=nr rfl
@[simp] theorem uw.ad1{b:Nat}:(D.tup [uw a,uw b]).aK=true:=nr rfl
@[simp] theorem uw.ad7{x:X}{b:Nat}:eR x (.tup [uw a,uw b])= .tup [uw a,uw b]:=nr rfl
@[simp] theorem W.e1':XK.run G (.pk (.ext 1)) [.tup [.agg (W a b),uw c]]=some (uw c):=nr rfl
@[simp] theorem W.e0':XK.run G (.pk (.ext 0)) [.tup [.agg (W a b),uw c]]=some (.agg (W a b)):=nr rfl
@[simp] theorem W.ad0:(D.tup [.agg (W a b),uw c]).aK=true:=nr rfl
@[simp] theorem W.ad5{x:X}:eR x (.tup [.agg (W a b),uw c])= .tup [.agg (W a b),uw c]:=nr rfl
@[simp] theorem ac5:XK.run G (.pk (.ibin .and)) [uw a, .v (.int .u64 4294967295)]=some (uw (a%4294967296)):=by
 have e:bits .and .u64 (a:Int) 4294967295=((a%4294967296:Nat):Int):=by
  show IntKind.u64.wrap (((BitVec.ofInt 64 (a:Int))&&&(BitVec.ofInt 64 4294967295)).toNat:Int)=_;rw[BitVec.toNat_and,BitVec.ofInt_natCast,BitVec.toNat_ofNat,show(BitVec.ofInt 64 4294967295).toNat=2^32-1 from by decide,Nat.and_two_pow_sub_one_eq_mod,ZG (by omega)];omega
 show(if true=true then some (D.v (.int .u64 (bits .and .u64 (a:Int) 4294967295)))else none).bind _=_;rw[e];rfl
@[simp] theorem ade:XK.run G (.pk (.ishift .shr)) [uw a, .v (.int .u64 32)]=some (uw (a/4294967296)):=by
 have e:(a:Int).fdiv (2^(min (32:Int).toNat IntKind.u64.bits))=((a/4294967296:Nat):Int):=by
  show(a:Int).fdiv 4294967296=_;rw[Int.fdiv_eq_ediv_of_nonneg _ (by omega)];omega
 show(if(32:Int)<0 then none else some (D.v (.int .u64 ((a:Int).fdiv (2^(min (32:Int).toNat IntKind.u64.bits)))))).bind _=_;rw[e];rfl
theorem tdn:(a:Int).tdiv (b:Int)=((a/b:Nat):Int):=(Int.ofNat_tdiv a b).symm
theorem tmn:(a:Int).tmod (b:Int)=((a%b:Nat):Int):=(Int.ofNat_tmod a b).symm
theorem uw.quo(hb:b≠0)(ha:a<18446744073709551616):XK.run G (.pk (.ibin .quo)) [uw a,uw b]=some (uw (a/b)):=by
 unfold uw;rw[Xr,if_neg (by omega),tdn,ZG (Nat.lt_of_le_of_lt (Nat.div_le_self ..) ha)]
theorem uw.rem(hb:b≠0):XK.run G (.pk (.ibin .rem)) [uw a,uw b]=some (uw (a%b)):=by
 unfold uw;rw[Xs,if_neg (by omega),tmn]
theorem uw.mul(h:a*b<18446744073709551616):XK.run G (.pk (.ibin .mul)) [uw a,uw b]=some (uw (a*b)):=by
 unfold uw;rw[Xo,←Int.natCast_mul,ZG h]
theorem uw.add(h:a+b<18446744073709551616):XK.run G (.pk (.ibin .add)) [uw a,uw b]=some (uw (a+b)):=by
 unfold uw;rw[Xh,←Int.natCast_add,ZG h]
@[simp] theorem uw.eql:XK.run G (.pk (.ibin .eql)) [uw a,uw b]=some (bv (decide (a=b))):=by unfold uw;rw[Xi];congr 3;rw[Bool.eq_iff_iff];simp;omega
@[simp] theorem uw.neq:XK.run G (.pk (.ibin .neq)) [uw a,uw b]=some (bv (!decide (a=b))):=by unfold uw;rw[Xq];congr 4;rw[Bool.eq_iff_iff];simp;omega
@[simp] theorem uw.lss:XK.run G (.pk (.ibin .lss)) [uw a,uw b]=some (bv (decide (a<b))):=by unfold uw;rw[Xl];congr 3;rw[Bool.eq_iff_iff];simp
@[simp] theorem uw.gtr:XK.run G (.pk (.ibin .gtr)) [uw a,uw b]=some (bv (decide (b<a))):=by unfold uw;rw[Xj];congr 3;rw[Bool.eq_iff_iff];simp
@[simp] theorem uw.leq:XK.run G (.pk (.ibin .leq)) [uw a,uw b]=some (bv (decide (a≤b))):=by unfold uw;rw[Xk];congr 3;rw[Bool.eq_iff_iff];simp
@[simp] theorem uw.gtm:XK.run G (.pk (.ibin .gtr)) [uw a, .v (.int .u64 9223372036854775807)]=some (bv (decide (9223372036854775807<a))):=uw.gtr (b:=9223372036854775807)
theorem W.all: ∀x,x∈W a b→x.aN=true:=fun x hx=>by
 simp[W]at hx;rcases hx with rfl|rfl<;>rfl
@[simp] theorem uw.ads:XK.run G (.pk (.ibin .gtr)) [uw a, .v (.int .u64 9223372036854775808)]=some (bv (decide (9223372036854775808<a))):=uw.gtr (b:=9223372036854775808)
theorem uw.int(h:a<9223372036854775808):XK.run G (.pk (.conv .i64)) [uw a]=some (iv a):=by
 unfold uw;rw[Ib,wr (by omega) (by omega)]
theorem uw.neg(h:a<18446744073709551616)(h0:0<a):XK.run G (.pk .ineg) [uw a]=some (uw (18446744073709551616-a)):=by
 unfold uw;rw[Xp]
 have e:IntKind.u64.wrap (0-(a:Int))=((18446744073709551616-a:Nat):Int):=by
  simp only[IntKind.wrap,IntKind.bits,IntKind.signed,Bool.false_and];simp;omega
 rw[e]
theorem uw.aaV:XK.run G (.pk .ineg) [uw 0]=some (uw 0):=rfl
theorem uw.aas(h:a≤9223372036854775808)(h0:0<a):XK.run G (.pk (.conv .i64)) [uw (18446744073709551616-a)]=some (iv (-(a:Int))):=by
 unfold uw;rw[Ib]
 have e:IntKind.i64.wrap ((18446744073709551616-a:Nat):Int)= -(a:Int):=by
  simp only[IntKind.wrap,IntKind.bits,IntKind.signed,Bool.true_and,decide_eq_true_eq];split<;>rename_i h<;>simp at h⊢ <;>omega
 rw[e]
@[simp] theorem ac6{p q:Bool}:XK.run G (.pk (.beq false)) [bv p,bv q]=some (bv (p==q)):=nr rfl
end
theorem HB(hF:Fr H)(a b:Nat)(ha:a<18446744073709551616)(hb:b<18446744073709551616):GK H 118 [uw a,uw b]=some (uw (Nat.gcd a b)):=by
 refine aJ hF MG ?_;rw[X_];simp;refine e6 (S:=Nat×Nat) (enc:=fun s=> [uw s.1,uw s.2]) (res:=fun s=>uw (Nat.gcd s.1 s.2)) (mes:=fun s=>gm s.1 s.2) (ok:=fun s=>s.1<18446744073709551616∧s.2<18446744073709551616) ?_ (a,b) ⟨ha,hb⟩ (by have:=TL ha hb;show gm a b<10000;omega);rintro rec ⟨a,b⟩ ⟨ha,hb⟩ ih;simp only[]at ha hb;by_cases h:b=0
 ·subst h;simp
 ·have ih:=ih (b,a%b) ⟨hb,by have:=Nat.mod_lt a (Nat.pos_of_ne_zero h);show a%b<_;omega⟩ (PS h);have k:=uw.rem (G:=GK H) (a:=a) h;have e:Nat.gcd b (a%b)=Nat.gcd a b:=by rw[Nat.gcd_comm a b,Nat.gcd_rec b a,Nat.gcd_comm]
  simp only[e]at ih;simp[h,k];exact ih
theorem oG(hF:Fr H){z:Int}(h1: -9223372036854775808≤z)(h2:z<9223372036854775808):GK H 74 [iv z]=some (uw z.natAbs):=by
 refine aJ hF W4 ?_;rw[abU];by_cases h:z<0
 ·have e:IntKind.u64.wrap (-IntKind.u64.wrap z)=(z.natAbs:Int):=by
   simp only[IntKind.wrap,IntKind.bits,IntKind.signed,Bool.false_and];simp;omega
  simp[h,e];rfl
 ·have e:IntKind.u64.wrap z=(z.natAbs:Int):=by rw[wu (by omega) (by omega)];omega
  simp[h];rw[e];rfl
theorem JR{a b:Nat}(h:a*b<18446744073709551616):(a/4294967296)*(b/4294967296)+((a/4294967296)*(b%4294967296)+(a%4294967296)*(b%4294967296)/4294967296)/4294967296+(((a/4294967296)*(b%4294967296)+(a%4294967296)*(b%4294967296)/4294967296)%4294967296+(a%4294967296)*(b/4294967296))/4294967296=0:=by
 have e:a*b=(a/4294967296)*(b/4294967296)*18446744073709551616+((a/4294967296)*(b%4294967296)+(a%4294967296)*(b/4294967296))*4294967296+(a%4294967296)*(b%4294967296):=by
  have ea:=Nat.div_add_mod a 4294967296;have eb:=Nat.div_add_mod b 4294967296;generalize a/4294967296=a1 at*;generalize a%4294967296=a0 at*;generalize b/4294967296=b1 at*;generalize b%4294967296=b0 at*;subst ea eb
  grind
 rw[e]at h;generalize(a/4294967296)*(b/4294967296)=p11 at*;generalize(a/4294967296)*(b%4294967296)=p10 at*;generalize(a%4294967296)*(b/4294967296)=p01 at*;generalize(a%4294967296)*(b%4294967296)=p00 at*;omega
theorem Du{a b:Nat}(ha:a<4294967296)(hb:b<4294967296):a*b≤18446744065119617025:=by
 have:a*b≤4294967295*4294967295:=Nat.mul_le_mul (by omega) (by omega);omega
theorem aaD(hF:Fr H)(a b:Nat)(h:a*b<18446744073709551616)(ha:a<18446744073709551616)(hb:b<18446744073709551616):GK H 126 [uw a,uw b]=some (.tup [uw 0,uw (a*b)]):=by
 refine aJ hF ML ?_;rw[Yf];have hz:=JR h;have q11:=Du (a:=a/4294967296) (b:=b/4294967296) (by omega) (by omega);have q10:=Du (a:=a/4294967296) (b:=b%4294967296) (by omega) (by omega);have q01:=Du (a:=a%4294967296) (b:=b/4294967296) (by omega) (by omega);have q00:=Du (a:=a%4294967296) (b:=b%4294967296) (by omega) (by omega);have k1:=uw.mul (G:=GK H) (a:=a%4294967296) (b:=b%4294967296) (by omega);have k2:=uw.mul (G:=GK H) (a:=a/4294967296) (b:=b%4294967296) (by omega);have k3:=uw.add (G:=GK H) (a:=a/4294967296*(b%4294967296)) (b:=a%4294967296*(b%4294967296)/4294967296) (by omega);have k4:=uw.mul (G:=GK H) (a:=a%4294967296) (b:=b/4294967296) (by omega);have k5:=uw.add (G:=GK H) (a:=(a/4294967296*(b%4294967296)+a%4294967296*(b%4294967296)/4294967296)%4294967296) (b:=a%4294967296*(b/4294967296)) (by omega);have k6:=uw.mul (G:=GK H) (a:=a/4294967296) (b:=b/4294967296) (by omega);have k7:=uw.add (G:=GK H) (a:=a/4294967296*(b/4294967296)) (b:=(a/4294967296*(b%4294967296)+a%4294967296*(b%4294967296)/4294967296)/4294967296) (by omega);have k8:=uw.add (G:=GK H) (a:=a/4294967296*(b/4294967296)+(a/4294967296*(b%4294967296)+a%4294967296*(b%4294967296)/4294967296)/4294967296) (b:=((a/4294967296*(b%4294967296)+a%4294967296*(b%4294967296)/4294967296)%4294967296+a%4294967296*(b/4294967296))/4294967296) (by omega);have k9:=uw.mul (G:=GK H) (a:=a) (b:=b) h;rw[hz]at k8;simp[k1,k2,k3,k4,k5,k6,k7,k8,k9]
theorem BI(hF:Fr H)(a b:Nat)(h:a*b<18446744073709551616)(ha:a<18446744073709551616)(hb:b<18446744073709551616):GK H 78 [uw a,uw b]=some (.agg (W 0 (a*b))):=by
 refine aJ hF W6 ?_;rw[abV];have k:XK.run (GK H) (.call false 126) [uw a,uw b]=some (.tup [uw 0,uw (a*b)]):=ao (aaD hF a b h ha hb) rfl rfl;simp[-qJ,k];exact W.all
theorem U9(hB:Fb H)(a b:Nat)(h:a+b<18446744073709551616):XK.run (GK H) (.call false 185) [uw a,uw b,uw 0]=some (.tup [uw (a+b),uw 0]):=by
 refine ao (dL ?_) rfl rfl;rw[hB.a];show(if 0≤(a:Int)∧0≤(b:Int)∧0≤((0:Nat):Int)∧((0:Nat):Int)≤1 then some (D.tup [.v (.int .u64 (((a:Int)+b+((0:Nat):Int))%eX)), .v (.int .u64 (((a:Int)+b+((0:Nat):Int))/eX))])else none)=_;rw[if_pos (by omega),show((a:Int)+b+((0:Nat):Int))%eX=((a+b:Nat):Int) by unfold eX;omega,show((a:Int)+b+((0:Nat):Int))/eX=((0:Nat):Int) by unfold eX;omega];rfl
theorem U_(hB:Fb H)(a b:Nat)(h:b≤a)(ha:a<18446744073709551616):XK.run (GK H) (.call false 186) [uw a,uw b,uw 0]=some (.tup [uw (a-b),uw 0]):=by
 refine ao (dL ?_) rfl rfl;rw[hB.s];show(if(0≤(a:Int)∧0≤(b:Int)∧(b:Int)<eX)∧0≤((0:Nat):Int)∧((0:Nat):Int)≤1 then some (D.tup [.v (.int .u64 (((a:Int)+eX-b-((0:Nat):Int))%eX)), .v (.int .u64 (if(a:Int)<b+((0:Nat):Int)then 1 else 0))])else none)=_;rw[if_pos (by unfold eX;omega),if_neg (by omega),show((a:Int)+eX-b-((0:Nat):Int))%eX=((a-b:Nat):Int) by unfold eX;omega];rfl
theorem aaz(hB:Fb H)(a b:Nat)(h:a+b<18446744073709551616):GK H 119 [.agg (W 0 a), .agg (W 0 b)]=some (.agg (W 0 (a+b))):=by
 refine aJ hB.fr MH ?_;rw[Yb];have k1:=U9 hB a b h;have k2:=U9 hB 0 0 (by omega);simp[-qJ,k1,k2];exact W.all
theorem aaA(hB:Fb H)(a b:Nat)(h:b≤a)(ha:a<18446744073709551616):GK H 120 [.agg (W 0 a), .agg (W 0 b)]=some (.agg (W 0 (a-b))):=by
 refine aJ hB.fr MI ?_;rw[Yc];have k1:=U_ hB a b h ha;have k2:=U_ hB 0 0 (by omega) (by omega);simp[-qJ,k1,k2];exact W.all
theorem U5(hF:Fr H)(a b:Nat):GK H 79 [.agg (W 0 a), .agg (W 0 b)]=some (iv (if a<b then-1 else if b<a then 1 else 0)):=by
 refine aJ hF W7 ?_;rw[abW];by_cases h1:a<b
 ·simp[h1]
 ·by_cases h2:b<a
  ·simp[h1,h2]
  ·simp[h1,h2]
theorem GD:DV= .lets [.mk (.pk (.ibin .eql)) [.t 2, .q (.v (.int .u64 0))]] (.ite (.t 3) (.bad 2 none) (.lets [.mk (.pk (.ibin .leq)) [.t 2, .t 0]] (.ite (.t 4) (.bad 4 none) (.lets [.mk (.pk (.ibin .eql)) [.t 0, .q (.v (.int .u64 0))]] (.ite (.t 5) (.lets [.mk (.pk (.ibin .rem)) [.t 1, .t 2]] (.lets [.mk (.pk (.ibin .quo)) [.t 1, .t 2]] (.ret (.mk .tup [.mk .aj [.t 7], .mk .aj [.t 6]])))) (sub [0,1,0,1,0,1] DV)))))):=by kernel_rfl
theorem aaE(hF:Fr H)(a d:Nat)(ha:a<18446744073709551616)(hd:d≠0):GK H 187 [uw 0,uw a,uw d]=some (.tup [uw (a/d),uw (a%d)]):=by
 refine aJ hF MN ?_;rw[GD];have k1:=uw.rem (G:=GK H) (a:=a) hd;have k2:=uw.quo (G:=GK H) (a:=a) hd ha;simp[hd,k1,k2]
theorem U6(hF:Fr H)(a d:Nat)(ha:a<18446744073709551616)(hd:d≠0):GK H 121 [.agg (W 0 a),uw d]=some (.tup [.agg (W 0 (a/d)),uw (a%d)]):=by
 refine aJ hF MJ ?_;rw[Yd];have k:XK.run (GK H) (.call false 187) [uw 0,uw a,uw d]=some (.tup [uw (a/d),uw (a%d)]):=ao (aaE hF a d ha hd) rfl rfl;have k1:=uw.rem (G:=GK H) (a:=0) hd;have k2:=uw.quo (G:=GK H) (a:=0) hd (by omega);rw[Nat.zero_mod]at k1;rw[Nat.zero_div]at k2;simp[-qJ,k,k1,k2]
theorem U7(hF:Fr H)(m:Bool)(n d:Nat)(hn:n<9223372036854775808)(hd:d<9223372036854775808):GK H 122 [bv m, .agg (W 0 n), .agg (W 0 d)]=some (.tup [.agg (Fq.cells ⟨if m then-(n:Int)else n,d⟩),iv 0]):=by
 refine aJ hF MK ?_;rw[Ye];have k1:=uw.int (G:=GK H) (a:=d) hd;have k2:=uw.int (G:=GK H) (a:=n) hn;have hn1: ¬9223372036854775807<n:=by omega
 have hn2: ¬9223372036854775808<n:=by omega
 have hd1: ¬9223372036854775807<d:=by omega
 cases m with
 |true=>
  by_cases h0:n=0
  ·subst h0;have k3:=uw.aaV (G:=GK H);have k4:=uw.int (G:=GK H) (a:=0) (by omega);simp[k1,k3,k4,hd1];exact⟨rfl,rfl⟩
  ·have k3:=uw.neg (G:=GK H) (a:=n) (by omega) (by omega);have k4:=uw.aas (G:=GK H) (a:=n) (by omega) (by omega);simp[k1,k3,k4,hn2,hd1];exact⟨rfl,rfl⟩
 |false=>
  simp[k1,k2,hn1,hd1];exact⟨rfl,rfl⟩
def Fq.rg(f:Fq):Prop:=(-9223372036854775808≤f.n∧f.n<9223372036854775808)∧(-9223372036854775808≤f.d∧f.d<9223372036854775808)
theorem l62(hF:Fr H)(f:Fq)(hr:f.rg):GK H 71 [.agg f.cells]=some (bv (decide (0<f.d)&&decide (Nat.gcd f.n.natAbs f.d.natAbs=1))):=by
 refine aJ hF W1 ?_;rw[abR];obtain⟨⟨a1,a2⟩,a3,a4⟩:=hr;have k1:XK.run (GK H) (.call false 74) [iv f.n]=some (uw f.n.natAbs):=ao (oG hF a1 a2) rfl rfl;have k2:XK.run (GK H) (.call false 74) [iv f.d]=some (uw f.d.natAbs):=ao (oG hF a3 a4) rfl rfl;have k3:XK.run (GK H) (.call false 118) [uw f.n.natAbs,uw f.d.natAbs]=some (uw (Nat.gcd f.n.natAbs f.d.natAbs)):=ao (HB hF _ _ (by omega) (by omega)) rfl rfl;by_cases h:0<f.d
 ·simp[h,k1,k2,k3]
 ·simp[h]
theorem vR(hF:Fr H)(f:Fq)(hr:f.rg)(hf:f.ok):XK.run (GK H) (.call false 71) [.agg f.cells]=some (bv true):=by
 have h:=l62 hF f hr;rw[decide_eq_true hf.1,decide_eq_true hf.2]at h;exact ao h rfl rfl
theorem dX{a b N:Nat}(h:a*b<N)(hb:0<b):a<N:=Nat.lt_of_le_of_lt (Nat.le_mul_of_pos_right _ hb) h
theorem l63(hB:Fb H)(f g:Fq)(hf:f.ok)(hg:g.ok)(h1:f.n.natAbs*g.d.natAbs+g.n.natAbs*f.d.natAbs<9223372036854775808)(h2:f.d.natAbs*g.d.natAbs<9223372036854775808):
  GK H 72 [.agg f.cells, .agg g.cells,bv (decide (g.n<0))]=some (.tup [.agg (red (f.n*g.d+g.n*f.d) (f.d*g.d)).cells,iv 0]):=by
 have hF:=hB.fr;refine aJ hF W2 ?_;rw[abS];have f1:=hf.1;have g1:=hg.1;have fd0:0<f.d.natAbs:=by omega
 have gd0:0<g.d.natAbs:=by omega
 have b1:f.n.natAbs<9223372036854775808:=dX (b:=g.d.natAbs) (by omega) gd0;have b2:g.n.natAbs<9223372036854775808:=dX (b:=f.d.natAbs) (by omega) fd0;have b3:f.d.natAbs<9223372036854775808:=dX h2 gd0;have b4:g.d.natAbs<9223372036854775808:=dX (b:=f.d.natAbs) (by rw[Nat.mul_comm];exact h2) fd0;have k1:XK.run (GK H) (.call false 74) [iv f.n]=some (uw f.n.natAbs):=ao (oG hF (by omega) (by omega)) rfl rfl;have k2:XK.run (GK H) (.call false 74) [iv f.d]=some (uw f.d.natAbs):=ao (oG hF (by omega) (by omega)) rfl rfl;have k3:XK.run (GK H) (.call false 74) [iv g.n]=some (uw g.n.natAbs):=ao (oG hF (by omega) (by omega)) rfl rfl;have k4:XK.run (GK H) (.call false 74) [iv g.d]=some (uw g.d.natAbs):=ao (oG hF (by omega) (by omega)) rfl rfl;have k5:XK.run (GK H) (.call false 118) [uw f.d.natAbs,uw g.d.natAbs]=some (uw (Nat.gcd f.d.natAbs g.d.natAbs)):=ao (HB hF _ _ (by omega) (by omega)) rfl rfl;generalize hk:Nat.gcd f.d.natAbs g.d.natAbs=k at k5;have hk0:0<k:=by rw[←hk];exact Nat.gcd_pos_of_pos_left _ fd0
 have hk1:k≤f.d.natAbs:=by rw[←hk];exact Nat.gcd_le_left _ fd0
 have k6:=uw.quo (G:=GK H) (a:=g.d.natAbs) (b:=k) (by omega) (by omega);have k7:=uw.quo (G:=GK H) (a:=f.d.natAbs) (b:=k) (by omega) (by omega);have c1:f.n.natAbs*(g.d.natAbs/k)≤f.n.natAbs*g.d.natAbs:=Nat.mul_le_mul_left _ (Nat.div_le_self ..);have c2:g.n.natAbs*(f.d.natAbs/k)≤g.n.natAbs*f.d.natAbs:=Nat.mul_le_mul_left _ (Nat.div_le_self ..);have k8:XK.run (GK H) (.call false 78) [uw f.n.natAbs,uw (g.d.natAbs/k)]=some (.agg (W 0 (f.n.natAbs*(g.d.natAbs/k)))):=ao (BI hF _ _ (by omega) (by omega) (by have:=Nat.div_le_self g.d.natAbs k;omega)) rfl rfl;have k9:XK.run (GK H) (.call false 78) [uw g.n.natAbs,uw (f.d.natAbs/k)]=some (.agg (W 0 (g.n.natAbs*(f.d.natAbs/k)))):=ao (BI hF _ _ (by omega) (by omega) (by have:=Nat.div_le_self f.d.natAbs k;omega)) rfl rfl
 have fin: ∀(m:Bool) (t:Nat) (s:Int),s=f.n*((g.d.natAbs/k:Nat):Int)+g.n*((f.d.natAbs/k:Nat):Int)→s.natAbs=t→s=(if m then-(t:Int)else t)→t<9223372036854775808→
   XK.run (GK H) (.call false 121) [.agg (W 0 t),uw k]=some (.tup [.agg (W 0 (t/k)),uw (t%k)])∧XK.run (GK H) (.call false 118) [uw k,uw (t%k)]=some (uw (Nat.gcd k t))∧
   XK.run (GK H) (.call false 121) [.agg (W 0 t),uw (Nat.gcd k t)]=some (.tup [.agg (W 0 (t/Nat.gcd k t)),uw (t%Nat.gcd k t)])∧XK.run (GK H) (.pk (.ibin .quo)) [uw g.d.natAbs,uw (Nat.gcd k t)]=some (uw (g.d.natAbs/Nat.gcd k t))∧
   XK.run (GK H) (.call false 78) [uw (f.d.natAbs/k),uw (g.d.natAbs/Nat.gcd k t)]=some (.agg (W 0 (f.d.natAbs/k*(g.d.natAbs/Nat.gcd k t))))∧
   XK.run (GK H) (.call false 122) [bv m, .agg (W 0 (t/Nat.gcd k t)), .agg (W 0 (f.d.natAbs/k*(g.d.natAbs/Nat.gcd k t)))]=some (.tup [.agg (red (f.n*g.d+g.n*f.d) (f.d*g.d)).cells,iv 0]):=fun m t s hs ht hm htl=>by
  have hg0:0<Nat.gcd k t:=Nat.gcd_pos_of_pos_left _ hk0;have hgk:Nat.gcd k t≤k:=Nat.gcd_le_left _ hk0;have d1:f.d.natAbs/k*(g.d.natAbs/Nat.gcd k t)≤f.d.natAbs*g.d.natAbs:=Nat.mul_le_mul (Nat.div_le_self ..) (Nat.div_le_self ..);have d2:=Nat.div_le_self f.d.natAbs k;have d3:=Nat.div_le_self g.d.natAbs (Nat.gcd k t);have d4:=Nat.mod_lt t hk0;have d5:=Nat.div_le_self t (Nat.gcd k t);have e1:Nat.gcd k (t%k)=Nat.gcd k t:=by rw[Nat.gcd_comm k (t%k),←Nat.gcd_rec]
  refine⟨ao (U6 hF t k (by omega) (by omega)) rfl rfl, ?_,ao (U6 hF t _ (by omega) (by omega)) rfl rfl,uw.quo (by omega) (by omega),ao (BI hF _ _ (by omega) (by omega) (by omega)) rfl rfl, ?_⟩
  ·rw[←e1];exact ao (HB hF _ _ (by omega) (by omega)) rfl rfl
  ·have e2:=Jj hf hg hk.symm hs ht (m:=if m then-((t/Nat.gcd k t:Nat):Int)else((t/Nat.gcd k t:Nat):Int)) (by
    have h3:t/Nat.gcd k t*Nat.gcd k t=t:=Nat.div_mul_cancel (Nat.gcd_dvd_right ..);have h4:((t/Nat.gcd k t:Nat):Int)*((Nat.gcd k t:Nat):Int)=(t:Int):=by rw[←Int.natCast_mul,h3]
    rw[hm];split
    ·rw[Int.neg_mul,h4]
    ·exact h4)
   rw[←e2];exact ao (U7 hF m _ _ (by omega) (by omega)) rfl rfl
 have KY: ∀(z:Int) (p:Nat),z*(p:Int)=if z<0 then-((z.natAbs*p:Nat):Int)else((z.natAbs*p:Nat):Int):=fun z p=>by
  rw[Int.natCast_mul];split
  ·rw[show((z.natAbs:Nat):Int)= -z by omega,Int.neg_mul,Int.neg_neg]
  ·rw[show((z.natAbs:Nat):Int)=z by omega]
 have sx:=KY f.n (g.d.natAbs/k);have sy:=KY g.n (f.d.natAbs/k);have k10: ∀a b:Nat,a+b<9223372036854775808→XK.run (GK H) (.call false 119) [.agg (W 0 a), .agg (W 0 b)]=some (.agg (W 0 (a+b))):=fun a b h=>ao (aaz hB a b (by omega)) rfl rfl;have k11: ∀a b:Nat,XK.run (GK H) (.call false 79) [.agg (W 0 a), .agg (W 0 b)]=some (iv (if a<b then-1 else if b<a then 1 else 0)):=fun a b=>ao (U5 hF a b) rfl rfl;have SQ: ∀a b:Nat,b≤a→a<9223372036854775808→XK.run (GK H) (.call false 120) [.agg (W 0 a), .agg (W 0 b)]=some (.agg (W 0 (a-b))):=fun a b h h'=>ao (aaA hB a b h (by omega)) rfl rfl;generalize f.n.natAbs*(g.d.natAbs/k)=x at*;generalize g.n.natAbs*(f.d.natAbs/k)=y at*;generalize f.n*((g.d.natAbs/k:Nat):Int)=X at*;generalize g.n*((f.d.natAbs/k:Nat):Int)=Y at*;by_cases hs:decide (f.n<0)=decide (g.n<0)
 ·obtain⟨q1,q2,q3,q4,q5,q6⟩:=fin (decide (g.n<0)) (x+y) (X+Y) rfl (by
   rw[sx,sy];by_cases h:g.n<0<;>simp only[h,decide_true,decide_false,decide_eq_true_eq,decide_eq_false_iff_not]at hs<;>simp only[hs,h,if_true,if_false]<;>omega) (by
   rw[sx,sy];by_cases h:g.n<0<;>simp only[h,decide_true,decide_false,decide_eq_true_eq,decide_eq_false_iff_not]at hs<;>simp[hs,h]<;>omega) (by omega)
  have q:=k10 x y (by omega);simp[-qJ,-aq,k1,k2,k3,k4,k5,k6,k7,k8,k9,hs,q,q1,q2,q3,q4,q5,q6]
 ·by_cases hxy:x<y
  ·obtain⟨q1,q2,q3,q4,q5,q6⟩:=fin (decide (g.n<0)) (y-x) (X+Y) rfl (by
    rw[sx,sy];by_cases h:g.n<0<;>simp only[h,decide_true,decide_false,decide_eq_true_eq,decide_eq_false_iff_not]at hs<;>simp only[h,if_true,if_false]<;>split<;>first|omega|contradiction) (by
    rw[sx,sy];by_cases h:g.n<0<;>simp[h]at hs⊢ <;>split<;>omega) (by omega)
   have q:=SQ y x (by omega) (by omega);have q0:=k11 x y;rw[if_pos hxy]at q0;simp[-qJ,-aq,k1,k2,k3,k4,k5,k6,k7,k8,k9,hs,q,q0,q1,q2,q3,q4,q5,q6]
  ·obtain⟨q1,q2,q3,q4,q5,q6⟩:=fin (decide (f.n<0)) (x-y) (X+Y) rfl (by
    rw[sx,sy];by_cases h:g.n<0<;>simp only[h,decide_true,decide_false,decide_eq_true_eq,decide_eq_false_iff_not]at hs<;>simp only[h,if_true,if_false]<;>split<;>first|omega|contradiction) (by
    rw[sx,sy];by_cases h:g.n<0<;>simp[h]at hs⊢ <;>split<;>omega) (by omega)
   have q:=SQ x y (by omega) (by omega);have q0:=k11 x y;rw[if_neg hxy]at q0;by_cases hyx:y<x
   ·rw[if_pos hyx]at q0;simp[-qJ,-aq,k1,k2,k3,k4,k5,k6,k7,k8,k9,hs,q,q0,q1,q2,q3,q4,q5,q6]
   ·rw[if_neg hyx]at q0;simp[-qJ,-aq,k1,k2,k3,k4,k5,k6,k7,k8,k9,hs,q,q0,q1,q2,q3,q4,q5,q6]
theorem C6{f:Fq}(hf:f.ok)(h1:f.n.natAbs<9223372036854775808)(h2:f.d.natAbs<9223372036854775808):f.rg:=⟨by omega,by have:=hf.1;omega⟩
theorem l25(hB:Fb H)(f g:Fq)(hf:f.ok)(hg:g.ok)(h1:f.n.natAbs*g.d.natAbs+g.n.natAbs*f.d.natAbs<9223372036854775808)(h2:f.d.natAbs*g.d.natAbs<9223372036854775808):
  GK H 29 [.agg f.cells, .agg g.cells]=some (.tup [.agg (red (f.n*g.d+g.n*f.d) (f.d*g.d)).cells,iv 0]):=by
 refine aJ hB.fr We ?_;rw[abK];have f1:=hf.1;have g1:=hg.1;have fd0:0<f.d.natAbs:=by omega
 have gd0:0<g.d.natAbs:=by omega
 have b1:f.n.natAbs<9223372036854775808:=dX (b:=g.d.natAbs) (by omega) gd0;have b2:g.n.natAbs<9223372036854775808:=dX (b:=f.d.natAbs) (by omega) fd0;have b3:f.d.natAbs<9223372036854775808:=dX h2 gd0;have b4:g.d.natAbs<9223372036854775808:=dX (b:=f.d.natAbs) (by rw[Nat.mul_comm];exact h2) fd0;have k1:=vR hB.fr f (C6 hf b1 b3) hf;have k2:=vR hB.fr g (C6 hg b2 b4) hg;have k3:XK.run (GK H) (.call false 72) [.agg f.cells, .agg g.cells,bv (decide (g.n<0))]=some (.tup [.agg (red (f.n*g.d+g.n*f.d) (f.d*g.d)).cells,iv 0]):=ao (l63 hB f g hf hg h1 h2) rfl rfl;simp[-aq,k1,k2,k3]
theorem aaM(hF:Fr H)(m:Bool)(a b c d:Nat)(hb:0<b)(hd:0<d)(h1:a*c<9223372036854775808)(h2:b*d<9223372036854775808)(ha:a<9223372036854775808)(hc:c<9223372036854775808):
  GK H 73 [bv m,uw a,uw b,uw c,uw d]=some (.tup [.agg (Fq.cells ⟨if m then-((a/Nat.gcd a d*(c/Nat.gcd c b):Nat):Int)else((a/Nat.gcd a d*(c/Nat.gcd c b):Nat):Int),((b/Nat.gcd c b*(d/Nat.gcd a d):Nat):Int)⟩),iv 0]):=by
 refine aJ hF W3 ?_;rw[abT];have b3:b<9223372036854775808:=dX h2 hd;have b4:d<9223372036854775808:=dX (b:=b) (by rw[Nat.mul_comm];exact h2) hb;have hg:0<Nat.gcd a d:=Nat.gcd_pos_of_pos_right _ hd;have hh:0<Nat.gcd c b:=Nat.gcd_pos_of_pos_right _ hb;have k1:XK.run (GK H) (.call false 118) [uw c,uw b]=some (uw (Nat.gcd c b)):=ao (HB hF _ _ (by omega) (by omega)) rfl rfl;have k2:XK.run (GK H) (.call false 118) [uw a,uw d]=some (uw (Nat.gcd a d)):=ao (HB hF _ _ (by omega) (by omega)) rfl rfl;generalize Nat.gcd a d=g at*;generalize Nat.gcd c b=h at*;have q1:=uw.quo (G:=GK H) (a:=a) (b:=g) (by omega) (by omega);have q2:=uw.quo (G:=GK H) (a:=c) (b:=h) (by omega) (by omega);have q3:=uw.quo (G:=GK H) (a:=b) (b:=h) (by omega) (by omega);have q4:=uw.quo (G:=GK H) (a:=d) (b:=g) (by omega) (by omega);have p1:a/g*(c/h)≤a*c:=Nat.mul_le_mul (Nat.div_le_self ..) (Nat.div_le_self ..);have p2:b/h*(d/g)≤b*d:=Nat.mul_le_mul (Nat.div_le_self ..) (Nat.div_le_self ..);have s1:=Nat.div_le_self a g;have s2:=Nat.div_le_self c h;have s3:=Nat.div_le_self b h;have s4:=Nat.div_le_self d g;have k3:XK.run (GK H) (.call false 78) [uw (a/g),uw (c/h)]=some (.agg (W 0 (a/g*(c/h)))):=ao (BI hF _ _ (by omega) (by omega) (by omega)) rfl rfl;have k4:XK.run (GK H) (.call false 78) [uw (b/h),uw (d/g)]=some (.agg (W 0 (b/h*(d/g)))):=ao (BI hF _ _ (by omega) (by omega) (by omega)) rfl rfl;have k5:XK.run (GK H) (.call false 122) [bv m, .agg (W 0 (a/g*(c/h))), .agg (W 0 (b/h*(d/g)))]=some (.tup [.agg (Fq.cells ⟨if m then-((a/g*(c/h):Nat):Int)else((a/g*(c/h):Nat):Int),((b/h*(d/g):Nat):Int)⟩),iv 0]):=ao (U7 hF m _ _ (by omega) (by omega)) rfl rfl;simp[-aq,-Int.natCast_mul,k1,k2,q1,q2,q3,q4,k3,k4,k5]
end Ty
end
section
open Go.Sort
namespace Ty
structure Ln where
 pr:Int
 pl:Int
 ew:Bool
 bs:Int
 tp:Int
 pt:Fq
 sh:Fq
def cI(a b:Int):Int:=if a<b then-1 else if b<a then 1 else 0
def KY(b:Bool):Int:=if b then-1 else 1
def lH(f g:Fq):Int:=cI (f.n*g.d) (g.n*f.d)
def Ln.cmp(a b:Ln):Int:=
 if a.ew≠b.ew then KY b.ew
 else if decide (a.bs=0)≠decide (b.bs=0)then KY (decide (b.bs=0))
 else if lH b.sh a.sh≠0 then lH b.sh a.sh else cI a.pr b.pr
theorem ZQ{a b:Int}:cI a b=0↔a=b:=by unfold cI;repeat' split<;>omega
theorem Mo (a b c : Fq) (ha : 0 < a.d) (hb : 0 < b.d) (hc : 0 < c.d) : ∃ x y z : Int,
    ((b.n * a.d < a.n * b.d ↔ y < x) ∧ (b.n * a.d = a.n * b.d ↔ y = x)) ∧ ((c.n * b.d < b.n * c.d ↔ z < y) ∧ (c.n * b.d = b.n * c.d ↔ z = y)) ∧ ((c.n * a.d < a.n * c.d ↔ z < x) ∧ (c.n * a.d = a.n * c.d ↔ z = x)) := by
  refine ⟨a.n * (b.d * c.d), b.n * (a.d * c.d), c.n * (a.d * b.d), ?_, ?_, ?_⟩
  · rw [show b.n * (a.d * c.d) = (b.n * a.d) * c.d by ac_rfl, show a.n * (b.d * c.d) = (a.n * b.d) * c.d by ac_rfl]
    exact ⟨(Int.mul_lt_mul_right hc).symm, ⟨fun h => by rw [h], fun h => Int.eq_of_mul_eq_mul_right (by omega) h⟩⟩
  · rw [show b.n * (a.d * c.d) = (b.n * c.d) * a.d by ac_rfl, show c.n * (a.d * b.d) = (c.n * b.d) * a.d by ac_rfl]
    exact ⟨(Int.mul_lt_mul_right ha).symm, ⟨fun h => by rw [h], fun h => Int.eq_of_mul_eq_mul_right (by omega) h⟩⟩
  · rw [show a.n * (b.d * c.d) = (a.n * c.d) * b.d by ac_rfl, show c.n * (a.d * b.d) = (c.n * a.d) * b.d by ac_rfl]
    exact ⟨(Int.mul_lt_mul_right hb).symm, ⟨fun h => by rw [h], fun h => Int.eq_of_mul_eq_mul_right (by omega) h⟩⟩
def Dp(e z:Bool)(s p:Int)(e' z':Bool)(s' p':Int):Prop:=(e=false∧e'=true)∨(e=e'∧((z=false∧z'=true)∨(z=z'∧(s'<s∨(s'=s∧p<p')))))
theorem ER{e z e1 z1 e2 z2:Bool}{s p s1 p1 s2 p2:Int}(h:Dp e z s p e1 z1 s1 p1)(k:Dp e1 z1 s1 p1 e2 z2 s2 p2):Dp e z s p e2 z2 s2 p2:=by
 unfold Dp at*;cases e<;>cases z<;>cases e1<;>cases z1<;>cases e2<;>cases z2<;>simp at h k⊢ <;>omega
theorem BL{e z e1 z1 e2 z2:Bool}{s p s1 p1 s2 p2:Int}(h: ¬Dp e z s p e1 z1 s1 p1)(k: ¬Dp e1 z1 s1 p1 e2 z2 s2 p2): ¬Dp e z s p e2 z2 s2 p2:=by
 unfold Dp at*;cases e<;>cases z<;>cases e1<;>cases z1<;>cases e2<;>cases z2<;>simp at h k⊢ <;>omega
theorem HN{e z e1 z1:Bool}{s p s1 p1:Int}(h: ¬Dp e z s p e1 z1 s1 p1)(k: ¬Dp e1 z1 s1 p1 e z s p):p=p1:=by
 unfold Dp at*;cases e<;>cases z<;>cases e1<;>cases z1<;>simp at h k⊢ <;>omega
theorem Tu{a b x y:Int}(h:(a<b↔x<y)∧(a=b↔x=y)):cI a b=cI x y:=by
 unfold cI;repeat' split
 all_goals omega
theorem oJ{a b:Ln}{x y:Int}(h:(b.sh.n*a.sh.d<a.sh.n*b.sh.d↔y<x)∧(b.sh.n*a.sh.d=a.sh.n*b.sh.d↔y=x)):a.cmp b<0↔Dp a.ew (decide (a.bs=0)) x a.pr b.ew (decide (b.bs=0)) y b.pr:=by
 unfold Ln.cmp lH KY Dp;rw[Tu h];clear h;cases a.ew<;>cases b.ew<;>cases decide (a.bs=0)<;>cases decide (b.bs=0)<;>simp<;>unfold cI<;>(repeat' split)<;>omega
theorem vU(a:Ln): ¬a.cmp a<0:=by
 rw[oJ (x:=0) (y:=0) (by simp)];simp[Dp]
theorem zS{a b c:Ln}(ha:0<a.sh.d)(hb:0<b.sh.d)(hc:0<c.sh.d)(h:a.cmp b<0)(k:b.cmp c<0):a.cmp c<0:=by
 obtain⟨x,y,z,h1,h2,h3⟩:=Mo a.sh b.sh c.sh ha hb hc;rw[oJ h1]at h;rw[oJ h2]at k;rw[oJ h3];exact ER h k
theorem vV{a b c:Ln}(ha:0<a.sh.d)(hb:0<b.sh.d)(hc:0<c.sh.d)(h: ¬a.cmp b<0)(k: ¬b.cmp c<0): ¬a.cmp c<0:=by
 obtain⟨x,y,z,h1,h2,h3⟩:=Mo a.sh b.sh c.sh ha hb hc;rw[oJ h1]at h;rw[oJ h2]at k;rw[oJ h3];exact BL h k
theorem Dn{a b:Ln}(h: ¬a.cmp b<0)(k: ¬b.cmp a<0):a.pr=b.pr:=by
 rw[oJ (x:=a.sh.n*b.sh.d) (y:=b.sh.n*a.sh.d) ⟨Iff.rfl,Iff.rfl⟩]at h;rw[oJ (x:=b.sh.n*a.sh.d) (y:=a.sh.n*b.sh.d) ⟨Iff.rfl,Iff.rfl⟩]at k;exact HN h k
def zU(a b:Ln):Bool:=decide (a.cmp b<0)
structure Jf(F:Int→Ln):Prop where
 pr: ∀p,(F p).pr=p
 ds: ∀p,0<(F p).sh.d
theorem XI{F:Int→Ln}(hF:Jf F):SWO fun p q=>zU (F p) (F q):=
 ⟨fun x=>decide_eq_false (vU _),fun _ _ _ h1 h2=>decide_eq_true (zS (hF.ds _) (hF.ds _) (hF.ds _) (of_decide_eq_true h1) (of_decide_eq_true h2)),fun _ _ _ h1 h2=>decide_eq_false (vV (hF.ds _) (hF.ds _) (hF.ds _) (of_decide_eq_false h1) (of_decide_eq_false h2))⟩
theorem Tm{F:Int→Ln}(hF:Jf F){p q:Int}(h1:zU (F p) (F q)=false)(h2:zU (F q) (F p)=false):p=q:=by
 have:=Dn (of_decide_eq_false h1) (of_decide_eq_false h2)
 rwa[hF.pr,hF.pr]at this
theorem wA{F:Int→Ln}(hF:Jf F){ps qs:List Int}(h:qs.Perm ps):cL zU (qs.map F)=cL zU (ps.map F):=by
 rw[←kC (f:=F) (lt:=fun p q=>zU (F p) (F q)) (fun _ _=>rfl),←kC (f:=F) (lt:=fun p q=>zU (F p) (F q)) (fun _ _=>rfl)];congr 1;exact List.Perm.eq_of_pairwise (le:=fun a b=>zU (F b) (F a)=false) (fun a b _ _ h1 h2=>(Tm hF h1 h2).symm) (dm (XI hF) _) (dm (XI hF) _) (((b9 _ qs).trans h).trans (b9 _ ps).symm)
def cA:Option Ln→Nat→Nat→List Ln→List Ln
 |_,_,_,[]=> []
 |none,_,i,x::r=>
  let y:Ln:=if x.bs=0 then x else{x with pl:=i+1}
  y::cA (some y) 0 (i+1) r
 |some p,st,i,x::r=>
  let st':=if x.ew≠p.ew then i else st
  let y:Ln:=if x.bs=0 then x else if st'<i∧x.sh.n=p.sh.n∧x.sh.d=p.sh.d then{x with pl:=p.pl}else{x with pl:=(i:Int)-st'+1}
  y::cA (some y) st' (i+1) r
def lD(F:Int→Ln)(ps:List Int):List Ln:=cA none 0 0 (cL zU (ps.map F))
def q9(E:Int→Bool)(p:Int):Ln:=⟨p,0,E p,0,0,⟨0,1⟩,⟨0,1⟩⟩
def xo(f g:Fq):Fq:=red (f.n*g.d+g.n*f.d) (f.d*g.d)
def eE(F:Int→Ln)(p:Int)(g:Fq)(t:Int)(q:Int):Ln:=if q=p then{F p with bs:=(F p).bs+1,tp:=(F p).tp+t,pt:=xo (F p).pt g}else F q
def jD(l:Ln):Ln:=if l.bs=0 then l else{l with sh:=red l.pt.n (l.pt.d*l.tp)}
structure Sc where
 rd:Int
 tb:Int
 bd:Int
 ns:Int
 ew:Int
 f0:Fq
 f1:Fq
 tp:Int
 ct:Bool
def ml(F:Int→Ln)(x:Sc):Int→Ln:=if x.ct then eE (eE F x.ns x.f0 x.tp) x.ew x.f1 x.tp else F
def eH(F:Int→Ln)(l:List Sc):Int→Ln:=l.foldl ml F
def HI(E:Int→Bool)(ps:List Int)(l:List Sc):List Ln:=lD (fun p=>jD (eH (q9 E) l p)) ps
end Ty
end
section
namespace Ty
theorem Yk:La= .lets [.mk (.pk (.fbox 7)) [.t 0]] (.lets [.mk (.call false 46) [.mk .aj [.mk (.pk (.load 7 true)) [.t 2]]]] (.lets [.mk (.pk (.ibin .neq)) [.t 3, .q (iv 0)]] (.ite (.t 4) (.ret (.mk .tup [.mk .aj [.q .nil], .mk .aj [.t 3]])) (.bm [.mk (.pk (.load 7 true)) [.t 2]] (.lets [.mk (.pk (.load 7 true)) [.t 2]] (.lets [.mk (.pk (.fbox 7)) [.t 5]] (.bm [.mk (.pk (.load 7 true)) [.t 6]] (.lets [.mk (.pk (.load 7 true)) [.t 6]] (.lets [.mk (.pk (.fbox 7)) [.t 7]] (.bm [.mk .eV [.q (iv 0)], .mk .eV [.q (iv 1)]] (.bm [.mk (.pk (.fld 0)) [.t 8]] (.bm [.mk (.pk (.load 6 true)) [.mk (.pk (.fld 0)) [.t 8]]] (.lets [.mk (.pk (.load 6 true)) [.mk (.pk (.fld 0)) [.t 8]]] (.lets [.mk (.pk (.fld 0)) [.t 8]] (.bm [.mk (.cell 0 6) [.t 9]] (.lets [.mk (.pk .llen) [.mk (.cell 5 6) [.t 9]]] (.loop [.q (iv 0), .q (.list [])] FQ))))))))))))))))):=by kernel_rfl
theorem Pd:FQ= .lets [.mk (.pk (.ibin .lss)) [.t 12, .t 11]] (.ite (.t 14) (.bm [.mk (.cell 0 5) [.mk (.pk (.load 5 true)) [.mk (.pk (.idx 109 5)) [.mk (.cell 5 6) [.t 9], .t 12]]]] (.lets [.mk (.pk (.load 5 true)) [.mk (.pk (.idx 109 5)) [.mk (.cell 5 6) [.t 9], .t 12]]] (.bm [.mk .eV [.mk (.cell 2 5) [.t 15]], .mk .eV [.mk (.cell 3 5) [.t 15]]] (.loop [.q (iv 0), .t 13] FR)))) (.bm [.mk (.pm 0 [] 0 0) [.t 13]] (.lets [.mk (.pm 0 [] 0 0) [.t 13]] (.loop [.t 15, .q (.list [])] CK)))):=by kernel_rfl
theorem Pe:FR= .lets [.mk (.pk (.ibin .lss)) [.t 16, .q (iv 2)]] (.ite (.t 18) (.jp (.lets [.mk (.pk (.ibin .add)) [.t 16, .q (iv 1)]] (.next 0 [.t 23, .t 22])) (.lets [.mk (.pk (.aix 2 1 false)) [.mk .agg [.mk (.cell 2 5) [.t 15], .mk (.cell 3 5) [.t 15]], .t 16]] (.bm [.mk (.pk (.ext 0)) [.mk (.mget [3] (bv false) true) [.t 17, .t 19]]] (.lets [.mk (.pk (.ext 1)) [.mk (.mget [3] (bv false) true) [.t 17, .t 19]]] (.lets [.ite (.mk (.pk (.ibin .gtr)) [.t 19, .q (iv 0)]) (.mk (.pk .inot) [.t 20]) (.q (bv false))] (.ite (.t 21) (.bm [.ite (.mk (.gv true) [.mk (.pk (.ibin .eql)) [.t 16, .q (iv 1)]]) (.mk (.pk (.ibin .eql)) [.mk (.cell 4 6) [.t 9], .q (iv 2)]) (.q (.tup []))] (.lets [.mk (.mset [3]) [.t 17, .t 19, .ite (.mk (.pk (.ibin .eql)) [.t 16, .q (iv 1)]) (.mk (.pk (.ibin .eql)) [.mk (.cell 4 6) [.t 9], .q (iv 2)]) (.q (bv false))]] (.next 0 [.t 21, .t 20, .t 19, .t 22]))) (.next 0 [.t 21, .t 20, .t 19, .t 17]))))))) (.lets [.mk (.pk (.ibin .add)) [.t 12, .q (iv 1)]] (.next 1 [.t 19, .t 17]))):=by kernel_rfl
theorem Pf:CK= .any (.t 16) (.lets [.mk (.pk .llen) [.t 1]] (.loop [.q (iv 0), .q (iv 0), .q .nilmap] CL)) (.lets [.mk (.pm 2 [] 0 0) [.t 13, .mk (.pm 8 [] 0 0) [.t 18]]] (.lets [.mk (.pm 1 [] 0 0) [.t 13, .mk (.pm 8 [] 0 0) [.t 18]]] (.lets [.mk (.pm 7 [3] 0 0) [.t 17, .t 20, .mk .agg [.mk (.cell 0 1) [.t 20], .q (iv 0), .mk (.cell 0 1) [.t 19], .q (iv 0), .q (iv 0), .q (iv 0), .q (iv 1), .q (iv 0), .q (iv 1)]]] (.next 0 [.t 18, .t 21])))):=by kernel_rfl
theorem Pg:CL= .lets [.mk (.pk (.ibin .lss)) [.t 19, .t 18]] (.ite (.t 22) (.bm [.mk (.cell 0 11) [.mk (.pk (.load 11 true)) [.mk (.pk (.idx 52 11)) [.t 1, .t 19]]]] (.lets [.mk (.pk (.load 11 true)) [.mk (.pk (.idx 52 11)) [.t 1, .t 19]]] (.jp (.ite (.t 24) (.ret (.mk .tup [.mk .aj [.q .nil], .mk .aj [.q (iv 330)]])) (.lets [.mk (.pk (.ibin .add)) [.t 19, .q (iv 1)]] (.next 0 [.t 25, .t 20, .t 21]))) (.bm [.mk (.gv true) [.mk (.cell 10 11) [.t 23]]] (.bm [.mk (.gv true) [.mk (.cell 10 11) [.t 23]]] (.ite (.mk (.gv true) [.mk (.cell 10 11) [.t 23]]) (.lets [.mk (.pk (.fbox 11)) [.t 23]] (.bm [.ite (.mk (.gv false) [.mk (.pk (.ibin .lss)) [.mk (.pm 3 [3] 0 0) [.t 17, .mk (.pk (.load 1 false)) [.mk (.pk (.fld 3)) [.t 24]]], .q (iv 0)]]) (.mk (.pk (.fld 4)) [.t 24]) (.q (.tup [])), .ite (.mk (.gv false) [.mk (.pk (.ibin .lss)) [.mk (.pm 3 [3] 0 0) [.t 17, .mk (.pk (.load 1 false)) [.mk (.pk (.fld 3)) [.t 24]]], .q (iv 0)]]) (.mk (.pk (.load 1 false)) [.mk (.pk (.fld 4)) [.t 24]]) (.q (.tup [])), .ite (.mk (.gv false) [.mk (.pk (.ibin .lss)) [.mk (.pm 3 [3] 0 0) [.t 17, .mk (.pk (.load 1 false)) [.mk (.pk (.fld 3)) [.t 24]]], .q (iv 0)]]) (.mk (.pm 3 [3] 0 0) [.t 17, .mk (.pk (.load 1 false)) [.mk (.pk (.fld 4)) [.t 24]]]) (.q (.tup [])), .ite (.mk (.gv false) [.mk (.pk (.ibin .lss)) [.mk (.pm 3 [3] 0 0) [.t 17, .mk (.pk (.load 1 false)) [.mk (.pk (.fld 3)) [.t 24]]], .q (iv 0)]]) (.mk (.pk (.ibin .lss)) [.mk (.pm 3 [3] 0 0) [.t 17, .mk (.pk (.load 1 false)) [.mk (.pk (.fld 4)) [.t 24]]], .q (iv 0)]) (.q (.tup [])), .ite (.mk (.gv false) [.ite (.mk (.pk (.ibin .lss)) [.mk (.pm 3 [3] 0 0) [.t 17, .mk (.pk (.load 1 false)) [.mk (.pk (.fld 3)) [.t 24]]], .q (iv 0)]) (.q (bv true)) (.mk (.pk (.ibin .lss)) [.mk (.pm 3 [3] 0 0) [.t 17, .mk (.pk (.load 1 false)) [.mk (.pk (.fld 4)) [.t 24]]], .q (iv 0)])]) (.mk (.pk (.fld 3)) [.t 24]) (.q (.tup [])), .ite (.mk (.gv false) [.ite (.mk (.pk (.ibin .lss)) [.mk (.pm 3 [3] 0 0) [.t 17, .mk (.pk (.load 1 false)) [.mk (.pk (.fld 3)) [.t 24]]], .q (iv 0)]) (.q (bv true)) (.mk (.pk (.ibin .lss)) [.mk (.pm 3 [3] 0 0) [.t 17, .mk (.pk (.load 1 false)) [.mk (.pk (.fld 4)) [.t 24]]], .q (iv 0)])]) (.mk (.pk (.load 1 false)) [.mk (.pk (.fld 3)) [.t 24]]) (.q (.tup [])), .ite (.mk (.gv false) [.ite (.mk (.pk (.ibin .lss)) [.mk (.pm 3 [3] 0 0) [.t 17, .mk (.pk (.load 1 false)) [.mk (.pk (.fld 3)) [.t 24]]], .q (iv 0)]) (.q (bv true)) (.mk (.pk (.ibin .lss)) [.mk (.pm 3 [3] 0 0) [.t 17, .mk (.pk (.load 1 false)) [.mk (.pk (.fld 4)) [.t 24]]], .q (iv 0)])]) (.mk (.pk (.fld 4)) [.t 24]) (.q (.tup [])), .ite (.mk (.gv false) [.ite (.mk (.pk (.ibin .lss)) [.mk (.pm 3 [3] 0 0) [.t 17, .mk (.pk (.load 1 false)) [.mk (.pk (.fld 3)) [.t 24]]], .q (iv 0)]) (.q (bv true)) (.mk (.pk (.ibin .lss)) [.mk (.pm 3 [3] 0 0) [.t 17, .mk (.pk (.load 1 false)) [.mk (.pk (.fld 4)) [.t 24]]], .q (iv 0)])]) (.mk (.pk (.load 1 false)) [.mk (.pk (.fld 4)) [.t 24]]) (.q (.tup [])), .ite (.mk (.gv false) [.ite (.mk (.pk (.ibin .lss)) [.mk (.pm 3 [3] 0 0) [.t 17, .mk (.pk (.load 1 false)) [.mk (.pk (.fld 3)) [.t 24]]], .q (iv 0)]) (.q (bv true)) (.mk (.pk (.ibin .lss)) [.mk (.pm 3 [3] 0 0) [.t 17, .mk (.pk (.load 1 false)) [.mk (.pk (.fld 4)) [.t 24]]], .q (iv 0)])]) (.mk (.pk (.ibin .eql)) [.mk (.pk (.load 1 false)) [.mk (.pk (.fld 3)) [.t 24]], .mk (.pk (.load 1 false)) [.mk (.pk (.fld 4)) [.t 24]]]) (.q (.tup []))] (.lets [.ite (.ite (.ite (.mk (.pk (.ibin .lss)) [.mk (.pm 3 [3] 0 0) [.t 17, .mk (.pk (.load 1 false)) [.mk (.pk (.fld 3)) [.t 24]]], .q (iv 0)]) (.q (bv true)) (.mk (.pk (.ibin .lss)) [.mk (.pm 3 [3] 0 0) [.t 17, .mk (.pk (.load 1 false)) [.mk (.pk (.fld 4)) [.t 24]]], .q (iv 0)])) (.q (bv true)) (.mk (.pk (.ibin .eql)) [.mk (.pk (.load 1 false)) [.mk (.pk (.fld 3)) [.t 24]], .mk (.pk (.load 1 false)) [.mk (.pk (.fld 4)) [.t 24]]])) (.q (bv true)) (.mk (.pk (.ibin .lss)) [.mk (.pk (.load 1 false)) [.mk (.pk (.fld 9)) [.t 24]], .q (iv 1)])] (.ite (.t 25) (.next 0 [.q (bv true)]) (.lets [.mk (.pk (.load 4 true)) [.mk (.pk (.fld 5)) [.t 24]]] (.loop [.q (iv 0), .q (bv false)] FU)))))) (.bm [.mk (.gv true) [.mk (.cell 10 11) [.t 23]], .ite (.mk (.gv true) [.mk (.cell 10 11) [.t 23]]) (.mk (.pk .inot) [.q (.tup [])]) (.q (.tup []))] (.bm [.ite (.mk (.cell 10 11) [.t 23]) (.mk (.pk .inot) [.q (.tup [])]) (.q (bv false))] (.lets [.ite (.mk (.cell 10 11) [.t 23]) (.mk (.pk .inot) [.q (.tup [])]) (.q (bv false))] (.next 0 [.t 24])))))))))) (.lets [.mk (.pk .llen) [.t 1]] (.loop [.q (iv 0), .t 20, .t 21, .t 17] yI))):=by kernel_rfl
theorem Ph:FU= .lets [.mk (.pk (.ibin .lss)) [.t 27, .q (iv 2)]] (.ite (.t 29) (.bm [.mk (.cell 0 2) [.mk (.pk (.aix 2 2 true)) [.t 26, .t 27]]] (.lets [.mk (.pk (.aix 2 2 true)) [.t 26, .t 27]] (.lets [.mk (.call false 71) [.mk .aj [.t 30]]] (.lets [.ite (.mk (.pk .inot) [.t 31]) (.q (bv true)) (.mk (.pk (.ibin .lss)) [.mk (.cell 0 2) [.t 30], .q (iv 0)])] (.ite (.t 32) (.next 1 [.q (bv true)]) (.bm [.mk .eV [.q (iv 1)]] (.lets [.mk (.call false 33) [.mk .aj [.t 30], .mk .agg [.mk .aO [.mk (.cell 0 1) [.mk (.pk (.load 1 false)) [.mk (.pk (.fld 9)) [.t 24]]]], .mk .aO [.q (iv 1)]]]] (.lets [.mk (.pk (.ext 1)) [.t 33]] (.lets [.mk (.pk (.ext 0)) [.t 33]] (.lets [.ite (.mk (.pk (.ibin .neq)) [.t 34, .q (iv 0)]) (.q (bv true)) (.mk (.pk (.ibin .gtr)) [.t 35, .q (iv 0)])] (.ite (.t 36) (.next 1 [.q (bv true)]) (.lets [.mk (.pk (.ibin .add)) [.t 27, .q (iv 1)]] (.next 0 [.t 37, .t 28]))))))))))))) (.next 1 [.q (bv false)])):=by kernel_rfl
theorem Pj:yI= .lets [.mk (.pk (.ibin .lss)) [.t 24, .t 23]] (.ite (.t 28) (.bm [.mk (.cell 0 11) [.mk (.pk (.load 11 true)) [.mk (.pk (.idx 52 11)) [.t 1, .t 24]]]] (.lets [.mk (.pk (.load 11 true)) [.mk (.pk (.idx 52 11)) [.t 1, .t 24]]] (.lets [.mk (.pk .inot) [.mk (.cell 10 11) [.t 29]]] (.ite (.t 30) (.lets [.mk (.pk (.ibin .add)) [.t 24, .q (iv 1)]] (.next 0 [.t 31, .t 25, .t 26, .t 27])) (.bm [.mk .eV [.mk (.cell 3 11) [.t 29]], .mk .eV [.mk (.cell 4 11) [.t 29]]] (.bm [.mk (.pm 3 [3] 0 0) [.t 27, .mk (.cell 3 11) [.t 29]]] (.lets [.mk (.pm 3 [3] 0 0) [.t 27, .mk (.cell 3 11) [.t 29]]] (.jp (.lets [.mk (.pk (.ibin .neq)) [.t 32, .q (iv 0)]] (.ite (.t 34) (.lets [.mk (.pk (.ibin .neq)) [.t 32, .q (iv 0)]] (.ite (.t 35) (.ret (.mk .tup [.mk .aj [.q .nil], .mk .aj [.t 32]])) (.bad 8 none))) (.bm [.mk (.pm 3 [3] 0 0) [.t 33, .mk (.cell 4 11) [.t 29]]] (.lets [.mk (.pm 3 [3] 0 0) [.t 33, .mk (.cell 4 11) [.t 29]]] (.jp (.lets [.mk (.pk (.ibin .neq)) [.t 36, .q (iv 0)]] (.ite (.t 38) (.lets [.mk (.pk (.ibin .neq)) [.t 36, .q (iv 0)]] (.ite (.t 39) (.ret (.mk .tup [.mk .aj [.q .nil], .mk .aj [.t 36]])) (.bad 8 none))) (.lets [.mk (.pk (.ibin .add)) [.t 24, .q (iv 1)]] (.next 0 [.t 39, .t 25, .t 26, .t 37])))) (.lets [.mk (.pk (.fbox 2)) [.mk .agg [.mk (.cell 7 11) [.t 29], .mk (.cell 8 11) [.t 29]]]] (.lets [.mk (.call false 29) [.mk .aj [.mk (.pm 4 [] 5 2) [.t 33, .t 35]], .mk .aj [.mk (.pk (.load 2 true)) [.t 36]]]] (.bm [.mk (.pm 1 [] 0 0) [.t 33, .t 35], .mk (.cell 0 2) [.mk (.pk (.ext 0)) [.t 37]]] (.lets [.mk (.pk (.ext 1)) [.t 37]] (.lets [.mk (.pk (.ext 0)) [.t 37]] (.bm [.ite (.mk (.gv false) [.mk (.pk (.ibin .neq)) [.t 38, .q (iv 0)]]) (.mk (.pm 1 [] 0 0) [.t 33, .t 35]) (.q (.tup []))] (.lets [.ite (.mk (.pk (.ibin .neq)) [.t 38, .q (iv 0)]) (.q (bv true)) (.mk (.pk (.ibin .gtr)) [.mk (.cell 9 11) [.t 29], .mk (.pk (.ibin .sub)) [.q (iv 4611686018427387904), .mk (.pm 5 [] 4 1) [.t 33, .t 35]]])] (.ite (.t 40) (.next 0 [.q (iv 3), .t 33]) (.bm [.mk (.pm 1 [] 0 0) [.t 33, .t 35]] (.lets [.mk (.pm 6 [] 3 1) [.t 33, .t 35, .mk (.pk (.ibin .add)) [.mk (.pm 5 [] 3 1) [.t 33, .t 35], .q (iv 1)]]] (.bm [.mk (.pm 1 [] 0 0) [.t 41, .t 35]] (.lets [.mk (.pm 6 [] 5 2) [.t 41, .t 35, .t 39]] (.bm [.mk (.pm 1 [] 0 0) [.t 42, .t 35]] (.lets [.mk (.pm 6 [] 4 1) [.t 42, .t 35, .mk (.pk (.ibin .add)) [.mk (.pm 5 [] 4 1) [.t 42, .t 35], .mk (.cell 9 11) [.t 29]]]] (.next 0 [.q (iv 0), .t 43])))))))))))))))))))) (.lets [.mk (.pk (.fbox 2)) [.mk .agg [.mk (.cell 5 11) [.t 29], .mk (.cell 6 11) [.t 29]]]] (.lets [.mk (.call false 29) [.mk .aj [.mk (.pm 4 [] 5 2) [.t 27, .t 31]], .mk .aj [.mk (.pk (.load 2 true)) [.t 32]]]] (.bm [.mk (.pm 1 [] 0 0) [.t 27, .t 31], .mk (.cell 0 2) [.mk (.pk (.ext 0)) [.t 33]]] (.lets [.mk (.pk (.ext 1)) [.t 33]] (.lets [.mk (.pk (.ext 0)) [.t 33]] (.bm [.ite (.mk (.gv false) [.mk (.pk (.ibin .neq)) [.t 34, .q (iv 0)]]) (.mk (.pm 1 [] 0 0) [.t 27, .t 31]) (.q (.tup []))] (.lets [.ite (.mk (.pk (.ibin .neq)) [.t 34, .q (iv 0)]) (.q (bv true)) (.mk (.pk (.ibin .gtr)) [.mk (.cell 9 11) [.t 29], .mk (.pk (.ibin .sub)) [.q (iv 4611686018427387904), .mk (.pm 5 [] 4 1) [.t 27, .t 31]]])] (.ite (.t 36) (.next 0 [.q (iv 3), .t 27]) (.bm [.mk (.pm 1 [] 0 0) [.t 27, .t 31]] (.lets [.mk (.pm 6 [] 3 1) [.t 27, .t 31, .mk (.pk (.ibin .add)) [.mk (.pm 5 [] 3 1) [.t 27, .t 31], .q (iv 1)]]] (.bm [.mk (.pm 1 [] 0 0) [.t 37, .t 31]] (.lets [.mk (.pm 6 [] 5 2) [.t 37, .t 31, .t 35]] (.bm [.mk (.pm 1 [] 0 0) [.t 38, .t 31]] (.lets [.mk (.pm 6 [] 4 1) [.t 38, .t 31, .mk (.pk (.ibin .add)) [.mk (.pm 5 [] 4 1) [.t 38, .t 31], .mk (.cell 9 11) [.t 29]]]] (.next 0 [.q (iv 0), .t 39]))))))))))))))))))))))) (.bm [.mk (.pm 0 [] 0 0) [.t 27]] (.lets [.mk (.pm 0 [] 0 0) [.t 27]] (.loop [.t 25, .t 26, .t 29, .t 27] CM)))):=by kernel_rfl
theorem Pk:CM= .any (.t 32) (.bm [.mk (.pm 0 [] 0 0) [.t 33]] (.lets [.mk (.pm 0 [] 0 0) [.t 33]] (.loop [.q (.list []), .t 34] CN))) (.bm [.mk (.pm 1 [] 0 0) [.t 33, .mk (.pm 8 [] 0 0) [.t 34]]] (.lets [.mk (.pm 8 [] 0 0) [.t 34]] (.bm [.mk (.pm 1 [] 0 0) [.t 33, .t 35]] (.lets [.mk (.pk (.ibin .eql)) [.mk (.pm 5 [] 3 1) [.t 33, .t 35], .q (iv 0)]] (.ite (.t 36) (.next 0 [.t 30, .t 31, .t 34, .t 33]) (.lets [.mk (.call false 101) [.mk .aj [.mk (.pm 4 [] 5 2) [.t 33, .t 35]], .mk .agg [.mk .aO [.mk (.cell 0 1) [.mk (.pm 5 [] 4 1) [.t 33, .t 35]]], .mk .aO [.q (iv 1)]]]] (.bm [.mk (.pm 1 [] 0 0) [.t 33, .t 35], .mk .eV [.q (iv 1)], .mk (.cell 0 2) [.mk (.pk (.ext 0)) [.t 37]]] (.lets [.mk (.pk (.ext 1)) [.t 37]] (.lets [.mk (.pk (.ext 0)) [.t 37]] (.lets [.mk (.pk (.ibin .neq)) [.t 38, .q (iv 0)]] (.ite (.t 40) (.ret (.mk .tup [.mk .aj [.q .nil], .mk .aj [.q (iv 3)]])) (.bm [.mk (.pm 1 [] 0 0) [.t 33, .t 35]] (.lets [.mk (.pm 6 [] 7 2) [.t 33, .t 35, .t 39]] (.next 0 [.t 30, .t 31, .t 34, .t 41])))))))))))))):=by kernel_rfl
theorem Pl:CN= .any (.t 36) (.lets [.mk (.ecall 0 54 9) [.t 35, .q (.clo 50 [])]] (.bm [.mk (.pk (.ext 0)) [.t 37]] (.lets [.mk (.pk (.ext 1)) [.t 37]] (.lets [.mk (.pk .llen) [.t 38]] (.loop [.q (iv 0), .q (iv 0), .t 38] CO))))) (.bm [.mk (.pm 1 [] 0 0) [.t 33, .mk (.pm 8 [] 0 0) [.t 37]]] (.lets [.mk (.pm 8 [] 0 0) [.t 37]] (.bm [.mk (.pm 1 [] 0 0) [.t 33, .t 38]] (.lets [.mk (.app 9) [.t 35, .mk (.lit 9 1 [iv 0,iv 0,bv false,iv 0,iv 0,iv 0,iv 0,iv 0,iv 0] [(0,9)]) [.mk (.pm 4 [] 0 9) [.t 33, .t 38]]]] (.next 0 [.t 39, .t 37]))))):=by kernel_rfl
theorem Pm:CO= .lets [.mk (.pk (.ibin .lss)) [.t 40, .t 39]] (.ite (.t 43) (.jp (.lets [.mk (.pk (.ibin .add)) [.t 40, .q (iv 1)]] (.next 0 [.t 48, .t 45, .t 47])) (.jp (.lets [.mk (.pk (.ibin .eql)) [.mk (.pk (.load 1 false)) [.mk (.pk (.fld 3)) [.mk (.pk (.idx 0 9)) [.t 42, .t 40]]], .q (iv 0)]] (.ite (.t 46) (.next 0 [.t 46, .t 44, .t 45, .t 42]) (.lets [.ite (.mk (.pk (.ibin .gtr)) [.t 40, .t 44]) (.mk (.pk (.aeq false [3,3])) [.mk (.pk (.load 2 true)) [.mk (.pk (.fld 7)) [.mk (.pk (.idx 0 9)) [.t 42, .t 40]]], .mk (.pk (.load 2 true)) [.mk (.pk (.fld 7)) [.mk (.pk (.idx 0 9)) [.t 42, .mk (.pk (.ibin .sub)) [.t 40, .q (iv 1)]]]]]) (.q (bv false))] (.ite (.t 47) (.bm [.mk (.pk (.idx 0 9)) [.t 42, .t 40]] (.lets [.mk (.setl 9 1 1) [.t 42, .t 40, .mk (.pk (.load 1 false)) [.mk (.pk (.fld 1)) [.mk (.pk (.idx 0 9)) [.t 42, .mk (.pk (.ibin .sub)) [.t 40, .q (iv 1)]]]]]] (.next 0 [.t 46, .t 44, .t 45, .t 48]))) (.bm [.mk (.pk (.idx 0 9)) [.t 42, .t 40]] (.lets [.mk (.setl 9 1 1) [.t 42, .t 40, .mk (.pk (.ibin .add)) [.mk (.pk (.ibin .sub)) [.t 40, .t 44], .q (iv 1)]]] (.next 0 [.t 46, .t 44, .t 45, .t 48]))))))) (.lets [.ite (.mk (.pk (.ibin .gtr)) [.t 40, .q (iv 0)]) (.mk (.pk (.beq true)) [.mk (.pk (.load 1 false)) [.mk (.pk (.fld 2)) [.mk (.pk (.idx 0 9)) [.t 42, .t 40]]], .mk (.pk (.load 1 false)) [.mk (.pk (.fld 2)) [.mk (.pk (.idx 0 9)) [.t 42, .mk (.pk (.ibin .sub)) [.t 40, .q (iv 1)]]]]]) (.q (bv false))] (.ite (.t 44) (.next 0 [.t 40, .t 44]) (.next 0 [.t 41, .t 44]))))) (.ret (.mk .tup [.mk .own [.t 42], .mk .aj [.q (iv 0)]]))):=by kernel_rfl
end Ty
end
section
open Go.RowKit Go.Sort
namespace Ty
noncomputable def ON(G:FP)(N:Nat)(a b:FT)(L:List (List D→Option D))(E:List D):D→Option D:=qV (aa G N a L E) fun s=>aa G N b L (E++ [s])
section
variable {G : FP} {N : Nat} {E : List D} {L : List (List D → Option D)}
@[simp] theorem Z'{x:X}{a b:FT}:aa G N (.any x a b) L E=ob (X.ev G E x) (ON G N a b L E):=nr rfl
def pR(z:Int)(is:List Nat):D:= .list ([iv z]::is.map fun(i:Nat)=> [iv (i:Int)])
theorem vG{α β:Type}{f:α→β}: ∀(l:List α) (k:Nat),(l.map f).eraseIdx k=(l.eraseIdx k).map f
 | [],_=>rfl
 |_::_,0=>rfl
 |x::r,k+1=>by simp[vG r k]
theorem wN{a b:FT}{q:Int}{is:List Nat}{d:D}(h0:is= []→aa G N a L E=some d)(h1: ∀(k i:Nat),is[k]?=some i→aa G N b L (E++ [pR i (is.eraseIdx k)])=some d):ON G N a b L E (pR q is)=some d:=by
 unfold ON pR qV;by_cases h:is= []
 ·subst h;exact any_none.trans (h0 rfl)
 ·refine any_some (by simpa using h) fun k c hc=> ?_;rw[Dz]at hc;obtain⟨i,hi,rfl⟩:=Mz.1 hc;have:=h1 k i hi;unfold pR at this;rw[vG];exact this
theorem iM{α:Type}: ∀{l:List α} {k:Nat} {a:α},l[k]?=some a→(a::l.eraseIdx k).Perm l
 | [],_,_,h=>by simp at h
 |x::r,0,a,h=>by simp at h;subst h;exact .refl _
 |x::r,k+1,a,h=>by
  simp at h;exact(List.Perm.swap x a _).trans ((iM h).cons x)
@[simp] theorem pm0{rows:List (List D)}:XK.run G (.pm 0 [] 0 0) [.list rows]=some (pR (-1) (List.range rows.length)):=nr rfl
@[simp] theorem pm8{z:Int}{is:List Nat}:XK.run G (.pm 8 [] 0 0) [pR z is]=some (iv z):=nr rfl
end
def jg(a:Int):List Int→Option Nat
 | []=>none
 |b::r=>if b=a then some 0 else(jg a r).map (· +1)
theorem iE{a:Int}: ∀{l:List Int},jg a l=none↔a∉l
 | []=>by simp[jg]
 |b::r=>by
  unfold jg;by_cases h:b=a
  ·simp[h]
  ·rw[if_neg h,Option.map_eq_none_iff,iE,List.mem_cons];have: ¬a=b:=fun e=>h e.symm;simp[this]
theorem mI{a:Int}: ∀{l:List Int} {i:Nat},jg a l=some i→l[i]?=some a
 | [],_,h=>by simp[jg]at h
 |b::r,i,h=>by
  unfold jg at h;split at h
  ·rename_i e;cases h;simp[e]
  ·obtain⟨j,hj,rfl⟩:=Mz.1 h;simpa using mI hj
def ku(f:Int→D)(p:Int):D×D:=(iv p,f p)
def Dr(f:Int→D)(ps:List Int):D:= .list (aG (ps.map (ku f)))
theorem zh{a b:Int}:cj [3] (iv a) (iv b)=some (decide (a=b)):=by
 show ae [3] [iv a] [iv b]=_;rw[LO];simp
theorem zn{f:Int→D}{a:Int}: ∀(l:List Int) (i:Nat),bq [3] (iv a) (l.map (ku f)) i=some ((jg a l).map (· +i))
 | [],i=>rfl
 |b::s,i=>by
  rw[List.map_cons];unfold bq jg;show((cj [3] (iv a) (iv b)).bind _)=_;rw[zh,Oz];by_cases h:b=a
  ·rw[if_pos (by simpa using h.symm),if_pos h];simp
  ·rw[if_neg (by simpa using fun e=>h e.symm),if_neg h,zn s (i+1),Option.map_map];simp[Function.comp_def,Nat.add_assoc,Nat.add_comm 1]
section
variable {G : FP} {f : Int → D} {ps : List Int}
theorem Vo{a:Int}{d:D}(hd:d.rJ=true)(hl:ps.length<65536)(h:a∉ps):XK.run G (.mset [3]) [Dr f ps,iv a,d]=some (Dr (fun q=>if q=a then d else f q) (ps++ [a])):=by
 show((aB (aG (ps.map (ku f)))).bind fun es=>(lC [3] es (iv a) d).map fun es=>D.list (aG es))=_;rw[aQ,Oz];unfold lC;rw[if_pos ⟨hd,rfl,by rw[zh];simp⟩,zn,iE.2 h];simp only[Option.map_none,Oz];rw[if_pos (by simp[bx];omega)];unfold Dr;rw[List.map_append,Pz];congr 4
 ·refine List.map_congr_left fun q hq=> ?_;have hqa: ¬q=a:=fun e=>h (e▸hq);simp[ku,hqa]
 ·simp[ku]
theorem Vn{a:Int}{z:D}(hz: ∀q,(D.tup [f q,bv true]).aK=true)(hz2:(D.tup [z,bv false]).aK=true):XK.run G (.mget [3] z true) [Dr f ps,iv a]=some (if a∈ps then .tup [f a,bv true]else .tup [z,bv false]):=by
 show((aB (aG (ps.map (ku f)))).bind fun es=>(oM [3] z true es (iv a)).bind fun d=>if d.aK then some d else none)=_;rw[aQ,Oz];unfold oM;rw[if_pos ⟨rfl,by rw[zh];simp⟩,zn];cases h:jg a ps with
 |none=>
  rw[if_neg (iE.1 h)];simp[hz2]
 |some i=>
  have h1:=mI h;have h2:a∈ps:=Lz h1;rw[if_pos h2];simp[h1,ku,hz a]
theorem tS{i:Nat}{p:Int}(h:ps[i]?=some p):lb (aG (ps.map (ku f))) (i:Int)=some [iv p,f p]:=by
 unfold lb aG;rw[if_neg (by omega),Int.toNat_natCast];simp[h,ku]
theorem Rf:XK.run G (.pm 0 [] 0 0) [Dr f ps]=some (pR (-1) (List.range ps.length)):=by
 unfold Dr;rw[pm0];simp[aG]
theorem Rh{i:Nat}{p:Int}(h:ps[i]?=some p):XK.run G (.pm 1 [] 0 0) [Dr f ps,iv (i:Int)]=some (iv p):=by
 show((lb (aG (ps.map (ku f))) (i:Int)).bind _)=_;rw[tS h];rfl
theorem Xb{i:Nat}{p:Int}(h:ps[i]?=some p)(hn:(f p).aK=true):XK.run G (.pm 2 [] 0 0) [Dr f ps,iv (i:Int)]=some (f p):=by
 show((lb (aG (ps.map (ku f))) (i:Int)).bind _)=_;rw[tS h];show(if(f p).aK=true then _ else _)=_;rw[if_pos hn]
def tE:Option Nat→Int
 |some i=>i
 |none=> -1
theorem abm{a:Int}:XK.run G (.pm 3 [3] 0 0) [Dr f ps,iv a]=some (iv (tE (jg a ps))):=by
 show((aB (aG (ps.map (ku f)))).bind _)=_;rw[aQ,Oz,if_pos ⟨rfl,by rw[zh];simp⟩,zn];cases jg a ps<;>rfl
end
theorem we{l:List Int}(h:l.Nodup){i j:Nat}{hi:i<l.length}{hj:j<l.length}(e:l[i]=l[j]):i=j:=by
 rcases Nat.lt_trichotomy i j with k|k|k
 ·exact absurd e (List.pairwise_iff_getElem.1 h i j hi hj k)
 ·exact k
 ·exact absurd e.symm (List.pairwise_iff_getElem.1 h j i hj hi k)
def rq(C:Int→List D)(ps:List Int):D:=Dr (fun p=> .list [C p]) ps
section
variable {G : FP} {C : Int → List D} {ps : List Int}
theorem Xa:XK.run G (.pm 0 [] 0 0) [rq C ps]=some (pR (-1) (List.range ps.length)):=Rf
theorem Rg{i:Nat}{p:Int}(h:ps[i]?=some p):XK.run G (.pm 1 [] 0 0) [rq C ps,iv (i:Int)]=some (iv p):=Rh h
theorem abl{a:Int}:XK.run G (.pm 3 [3] 0 0) [rq C ps,iv a]=some (iv (tE (jg a ps))):=abm
theorem Ri{i a b:Nat}{p:Int}(h:ps[i]?=some p)(hl:a+b≤(C p).length)(ht:((C p).drop a|>.take b).all D.aN=true):XK.run G (.pm 4 [] a b) [rq C ps,iv (i:Int)]=some (.agg ((C p).drop a|>.take b)):=by
 show((lb (aG (ps.map (ku fun p=> .list [C p]))) (i:Int)).bind _)=_;rw[tS h];show(if _ then _ else _)=_;rw[if_pos ⟨hl,ht⟩]
theorem KF{i a b:Nat}{p:Int}{d:D}(h:ps[i]?=some p)(hl:(C p)[a]?=some d)(ht:d.aK=true):XK.run G (.pm 5 [] a b) [rq C ps,iv (i:Int)]=some d:=by
 show((lb (aG (ps.map (ku fun p=> .list [C p]))) (i:Int)).bind _)=_;rw[tS h];show((C p)[a]?).bind _=_;rw[hl];show(if _ then _ else _)=_;rw[if_pos ht]
theorem Xc{i a b:Nat}{p:Int}{v:D}(hn:ps.Nodup)(h:ps[i]?=some p)(h1:v.cells.length=b)(h2:a+b≤(C p).length)(h3:v.cells.all D.gE=true):XK.run G (.pm 6 [] a b) [rq C ps,iv (i:Int),v]=some (rq (fun q=>if q=p then putAt (C p) a v.cells else C q) ps):=by
 show((lb (aG (ps.map (ku fun p=> .list [C p]))) (i:Int)).bind _)=_;rw[tS h];show(if _ then _ else _)=_;rw[if_pos ⟨h1,h2,h3⟩,Int.toNat_natCast];unfold rq Dr;congr 2;have hi:=(Gz.1 h).1;have he:=(Gz.1 h).2;apply List.ext_getElem
 ·simp[aG]
 ·intro j h4 h5;have hj:j<ps.length:=by simpa[aG]using h4
  simp only[aG,List.getElem_set,List.getElem_map,ku];by_cases e:i=j
  ·subst e;simp[he]
  ·rw[if_neg e];have: ¬ps[j]=p:=fun e2=>e (we hn (he.trans e2.symm));simp[this]
theorem abn{a:Int}{cs:List D}(hc:cs.all D.gE=true)(hl:ps.length<65536)(h:a∉ps):XK.run G (.pm 7 [3] 0 0) [rq C ps,iv a, .agg cs]=some (rq (fun q=>if q=a then cs else C q) (ps++ [a])):=by
 show((aB (aG (ps.map (ku fun p=> .list [C p])))).bind _)=_;rw[aQ,Oz,if_pos ⟨rfl,by rw[zh];simp,by simp[bx];omega,hc⟩,zn,iE.2 h];show some (D.list _)=_;unfold rq Dr;rw[List.map_append];congr 4
 ·refine List.map_congr_left fun q hq=> ?_;have hqa: ¬q=a:=fun e=>h (e▸hq);simp[ku,hqa]
 ·simp[ku]
theorem D9{C':Int→List D}(h: ∀p∈ps,C p=C' p):rq C ps=rq C' ps:=by
 unfold rq Dr;congr 2;exact List.map_congr_left fun q hq=>by simp[ku,h q hq]
end
def Ln.cells(x:Ln):List D:= [iv x.pr,iv x.pl,bv x.ew,iv x.bs,iv x.tp,iv x.pt.n,iv x.pt.d,iv x.sh.n,iv x.sh.d]
def Sc.cells(x:Sc):List D:= [iv x.rd,iv x.tb,iv x.bd,iv x.ns,iv x.ew,iv x.f0.n,iv x.f0.d,iv x.f1.n,iv x.f1.d,iv x.tp,bv x.ct]
end Ty
end
section
open Go.RowKit Go.Sort
namespace Ty
def i_(st:List Int×(Int→Bool))(a:Int)(b:Bool):List Int×(Int→Bool):=if 0<a∧a∉st.1 then(st.1++ [a],fun q=>if q=a then b else st.2 q)else st
def Al(wn:Int)(st:List Int×(Int→Bool))(r:Rw):List Int×(Int→Bool):=i_ (i_ st r.ns false) r.ew (decide (wn=2))
def fY(wn:Int)(l:List Rw):List Int×(Int→Bool):=l.foldl (Al wn) ([],fun _=>false)
def Ss.au(s:Ss):List Int×(Int→Bool):=fY s.wn s.rows
def Ar(st:List Int×(Int→Bool)):D:=Dr (fun q=>bv (st.2 q)) st.1
theorem mT(st:List Int×(Int→Bool))(a:Int)(b:Bool):(i_ st a b).1.length≤st.1.length+1:=by
 unfold i_;split<;>simp
theorem Am{st:List Int×(Int→Bool)}{a:Int}{b:Bool}(h:st.1.Nodup):(i_ st a b).1.Nodup:=by
 unfold i_;split
 ·rename_i hc
  exact List.nodup_append.2 ⟨h,by simp,fun x hx y hy=>by
   simp at hy;subst hy;exact fun e=>hc.2 (e▸hx)⟩
 ·exact h
theorem Iq(wn:Int)(st:List Int×(Int→Bool))(r:Rw):(Al wn st r).1.length≤st.1.length+2:=by
 have h1:=mT st r.ns false;have h2:=mT (i_ st r.ns false) r.ew (decide (wn=2));unfold Al;omega
theorem jx(wn:Int)(l:List Rw)(r:Rw):fY wn (l++ [r])=Al wn (fY wn l) r:=by
 unfold fY;rw[List.foldl_append];rfl
theorem ja(wn:Int)(l:List Rw)(j:Nat)(hj:j≤l.length):(fY wn (l.take j)).1.length≤2*j:=by
 induction j with
 |zero=>simp[fY]
 |succ j ih=>
  have h3:l[j]?=some l[j]:=Ez (by omega);rw[List.take_add_one,h3,Option.toList_some,jx];have:=Iq wn (fY wn (l.take j)) l[j];have:=ih (by omega);omega
theorem Iw(wn:Int)(l:List Rw)(j:Nat)(hj:j≤l.length):(fY wn (l.take j)).1.Nodup:=by
 induction j with
 |zero=>simp[fY]
 |succ j ih=>
  have h3:l[j]?=some l[j]:=Ez (by omega);rw[List.take_add_one,h3,Option.toList_some,jx];exact Am (Am (ih (by omega)))
theorem Ss.B6(s:Ss):s.au.1.length≤2*s.rows.length:=by
 have:=ja s.wn s.rows s.rows.length (Nat.le_refl _)
 rwa[List.take_length]at this
theorem Ss.It(s:Ss):s.au.1.Nodup:=by
 have:=Iw s.wn s.rows s.rows.length (Nat.le_refl _)
 rwa[List.take_length]at this
section
variable {G : FP}
theorem gS{st:List Int×(Int→Bool)}{a:Int}:XK.run G (.mget [3] (bv false) true) [Ar st,iv a]=some (.tup [bv (decide (a∈st.1)&&st.2 a),bv (decide (a∈st.1))]):=by
 unfold Ar;rw[Vn (fun _=>rfl) rfl];by_cases h:a∈st.1<;>simp[h]
theorem qc{st:List Int×(Int→Bool)}{a:Int}{b:Bool}(hl:st.1.length<65536)(h:a∉st.1)(h0:0<a):XK.run G (.mset [3]) [Ar st,iv a,bv b]=some (Ar (i_ st a b)):=by
 unfold Ar i_;rw[Vo rfl hl h,if_pos ⟨h0,h⟩];congr 2;funext q
 dsimp only
 split<;>rfl
theorem qb{st:List Int×(Int→Bool)}{a:Int}{b:Bool}(h: ¬(0<a∧a∉st.1)):i_ st a b=st:=by
 unfold i_;rw[if_neg h]
theorem Vf{s:Ss}:XK.run G (.pk (.load 6 true)) [.lptr s.cells]=some (.agg (⟨s.tb,s.rs,s.ss,s.cp,s.wn,s.rows⟩:Mv).cells):=nr rfl
theorem Kf{s:Ss}:XK.run G (.pk (.load 6 true)) [.lptr (s.cells.drop 0)]=some (.agg (⟨s.tb,s.rs,s.ss,s.cp,s.wn,s.rows⟩:Mv).cells):=nr rfl
end
def lE(l:List Int):List Int:=cL (fun a b=>decide (a<b)) l
theorem K7:SWO fun a b:Int=>decide (a<b):=⟨fun x=>by simp,fun _ _ _ h k=>by simp at*;omega,fun _ _ _ h k=>by simp at*;omega⟩
theorem B_{l m:List Int}(h:l.Perm m):lE l=lE m:=
 List.Perm.eq_of_pairwise (le:=fun a b=>decide (b<a)=false) (fun a b _ _ h1 h2=>by simp at h1 h2;omega) (dm K7 l) (dm K7 m) (((b9 _ l).trans h).trans (b9 _ m).symm)
theorem zV(l:List Int):(l.mergeSort fun x y=>decide (x≤y))=lE l:=by
 refine List.Perm.eq_of_pairwise (le:=fun a b:Int=>a≤b) (fun a b _ _ h1 h2=>by omega) ?_ ?_ ((List.mergeSort_perm l _).trans (b9 _ l).symm)
 ·have:=List.pairwise_mergeSort (le:=fun x y:Int=>decide (x≤y)) (fun a b c h k=>by simp at*;omega) (fun a b=>by simp;omega) l;exact this.imp (fun h=>by simpa using h)
 ·exact(dm K7 l).imp (fun h=>by simpa using h)
def Ss.aV(s:Ss):List Int:=lE s.au.1
def bY(l:List Int):D:= .list (l.map fun z=> [iv z])
section
variable {G : FP}
theorem aaT{z:Int}:XK.run G (.lit 1 1 [iv 0] [(0,1)]) [iv z]=some (.list [[iv z]]):=nr rfl
theorem ZN{l:List Int}{z:Int}(h:l.length<65536):XK.run G (.app 1) [bY l, .list [[iv z]]]=some (bY (l++ [z])):=by
 show(if bj 1 [[iv z]]=true∧(l.map fun z=> [iv z]).length+1≤bx then some (D.list ((l.map fun z=> [iv z])++ [[iv z]]))else none)=_;rw[if_pos ⟨rfl,by simp[bx];omega⟩];simp[bY]
theorem TJ(l:List Int):(l.map fun z=> [iv z]).all (fun c=>c.all D.bB)=true:=by
 rw[Tz];intro c hc;obtain⟨e,_,rfl⟩:=List.mem_map.1 hc;rfl
theorem ID{x y:X}{l:List Int}{k:IntKind}{z:Int}:eR (.mk .tup [.mk .own [x],y]) (.tup [bY l, .v (.int k z)])=D.own (.tup [bY l, .v (.int k z)]):=by
 unfold bY
 have h:q_ (.mk .tup [.mk .own [x],y]) (.tup [.list (l.map fun z=> [iv z]), .v (.int k z)])=true:=by
  show(lJ _ _&&(lJ _ _&&true))=true;rw[oN (TJ l)];cases y<;>rfl
 show(if _ then _ else if q_ (.mk .tup [.mk .own [x],y]) (.tup [.list (l.map fun z=> [iv z]), .v (.int k z)])=true then _ else _)=_;rw[h];rfl
theorem W9{d:D}:XK.run G .own [d]=some d:=nr rfl
end
def FJ(G:FP):Prop:= ∀l:List Int,l.length<65536→XK.run G (.ecall 0 48 1) [bY l]=some (.tup [.tup [],bY (lE l)])
theorem Z5{G:FP}(hS:FJ G)(s:Ss)(hr:s.rows.length<4999)(Dc:XK.run G (.call false 46) [.agg s.cells]=some (iv 0)):aa G 10000 K_ [] [.agg s.cells]=some (D.own (.tup [bY s.aV,iv 0])):=by
 rw[Yj];simp[Dc,Vf,Kf];refine e6 (S:=Nat) (enc:=fun j=> [iv (j:Int),Ar (fY s.wn (s.rows.take j))]) (res:=fun _=>D.own (.tup [bY s.aV,iv 0])) (mes:=fun j=>s.rows.length-j) (ok:=fun j=>j≤s.rows.length) ?_ 0 (by omega) (by omega);intro rec j hj ih;cases h3:s.rows[j]? with
 |none=>
  have l3:=List.getElem?_eq_none_iff.1 h3;have l3': ¬(j:Int)<s.rows.length:=by omega
  rw[List.take_of_length_le l3];show aa G 10000 _ _ (_++ [iv (j:Int),Ar s.au])=_;have hn:=s.It;have hl:=s.B6;have k0:XK.run G (.pm 0 [] 0 0) [Ar s.au]=some (pR (-1) (List.range s.au.1.length)):=Rf;simp[l3',k0];refine e6 (S:=List Int×Int×List Nat) (enc:=fun q=> [bY q.1,pR q.2.1 q.2.2]) (res:=fun _=>D.own (.tup [bY s.aV,iv 0])) (mes:=fun q=>q.2.2.length) (ok:=fun q=>(q.1++q.2.2.map fun i=>s.au.1.getD i 0).Perm s.au.1∧ ∀i∈q.2.2,i<s.au.1.length) ?_ ([],-1,List.range s.au.1.length) ⟨?_,fun i hi=>List.mem_range.1 hi⟩ (by simp;omega)
  rotate_left
  ·have:(List.range s.au.1.length).map (fun i=>s.au.1.getD i 0)=s.au.1:=by
    apply List.ext_getElem
    ·simp
    ·intro i h1 h2;simp[List.getD_eq_getElem?_getD,h2]
   rw[List.nil_append,this]
  ·rintro rec ⟨out,z,is⟩ ⟨hp,hb⟩ ih
   have hol:out.length<65536:=by
    have:=hp.length_eq;simp at this;omega
   simp;refine wN (fun he=> ?_) (fun k i hi=> ?_)
   ·have he:is= []:=he;subst he;simp at hp;have hs:=hS out hol;rw[B_ hp]at hs;have kt:(D.tup []).aK=true:=rfl;have ke:XK.run G (.pk (.ext 1)) [.tup [.tup [],bY s.aV]]=some (bY s.aV):=rfl;have ke0:XK.run G (.pk (.ext 0)) [.tup [.tup [],bY s.aV]]=some (.tup []):=rfl;have kn:(D.tup [bY s.aV,iv 0]).aK=true:=rfl;rw[show lE s.au.1=s.aV from rfl]at hs;simp[hs,-aq,ke,ke0,W9,kn];rw[ID]
   ·have hil:=hb i (Lz hi);have hp1:s.au.1[i]?=some (s.au.1.getD i 0):=by simp[List.getD_eq_getElem?_getD,hil]
    have k1:XK.run G (.pm 1 [] 0 0) [Ar s.au,iv (i:Int)]=some (iv (s.au.1.getD i 0)):=Rh hp1;have k2:XK.run G (.pm 2 [] 0 0) [Ar s.au,iv (i:Int)]=some (bv (s.au.2 (s.au.1.getD i 0))):=Xb hp1 rfl
    have hpm:((out++ [s.au.1.getD i 0])++(is.eraseIdx k).map fun i=>s.au.1.getD i 0).Perm s.au.1:=by
     have h1:=(iM hi).map fun i=>s.au.1.getD i 0;rw[List.append_assoc];exact(List.Perm.append_left out h1).trans hp
    have ih:=ih (out++ [s.au.1.getD i 0],i,is.eraseIdx k) ⟨hpm,fun x hx=>hb x (List.mem_of_mem_eraseIdx hx)⟩ (by
     have:=(iM hi).length_eq;simp at this;show(is.eraseIdx k).length<is.length
     omega)
    have ka:=ZN (G:=G) (z:=s.au.1.getD i 0) hol;generalize s.au.1.getD i 0=p at*;simp[-aq,k1,k2,aaT,ka];exact ih
 |some r=>
  have l3:=(Gz.1 h3).1;have e3:=(Gz.1 h3).2;have ih:=ih (j+1) (by omega) (by omega);have hlen:=ja s.wn s.rows j hj;rw[List.take_add_one,h3,Option.toList_some,jx]at ih;generalize fY s.wn (s.rows.take j)=st at ih hlen;simp[l3,e3,-aq];have w1:IntKind.i64.wrap ((j:Int)+1)=(j:Int)+1:=wr (by omega) (by omega);have hl1:=mT st r.ns false;have hw:decide (s.wn=2)=(if s.wn=2 then true else false):=by split<;>simp_all
  unfold Al at ih;rw[Zi];by_cases h1:0<r.ns∧r.ns∉st.1
  ·simp[-aq,gS,h1,qc (G:=G) (b:=false) (show st.1.length<65536 by omega) h1.2 h1.1];generalize i_ st r.ns false=st1 at ih hl1;rw[SU];by_cases h2:0<r.ew∧r.ew∉st1.1
   ·simp[-aq,gS,h2,qc (G:=G) (b:=decide (s.wn=2)) (show st1.1.length<65536 by omega) h2.2 h2.1];rw[Ja];simp[-aq,w1];exact ih
   ·rw[qb h2]at ih;simp[-aq,gS,h2];rw[Ja];simp[-aq,w1];exact ih
  ·rw[qb h1]at ih hl1;simp[-aq,gS,h1];rw[SU];by_cases h2:0<r.ew∧r.ew∉st.1
   ·simp[-aq,gS,h2,qc (G:=G) (b:=decide (s.wn=2)) (show st.1.length<65536 by omega) h2.2 h2.1];rw[Ja];simp[-aq,w1];exact ih
   ·rw[qb h2]at ih;simp[-aq,gS,h2];rw[Ja];simp[-aq,w1];exact ih
end Ty
end
section
open Go.RowKit Go.Sort
namespace Ty
variable {H : FP}
theorem Pn{a b:Nat}:(if a<b then(-1:Int)else if b<a then 1 else 0)=cI (a:Int) (b:Int):=by
 unfold cI;repeat' split
 all_goals first|rfl|omega
theorem Jr{a b:Int}:cI (-a) (-b)= -cI a b:=by
 unfold cI;repeat' split
 all_goals first|rfl|omega
theorem ZR{a b:Int}:cI a b= -1∨cI a b=0∨cI a b=1:=by
 unfold cI;repeat' split
 all_goals simp
theorem LP{f g:Fq}:XK.run (GK H) (.pk (.aeq false [3,3])) [.agg f.cells, .agg g.cells]=some (bv (decide (f.n=g.n)&&decide (f.d=g.d))):=by
 rw[mh];unfold Fq.cells;simp
theorem n9{a b:Bool}{w:Bool}{G:FP}:XK.run G (.pk (.beq w)) [bv a,bv b]=some (bv (if w then a !=b else a==b)):=by
 cases a<;>cases b<;>cases w<;>rfl
theorem l33(hF:Fr H)(f g:Fq)(hf:f.ok)(hg:g.ok)(rf:f.rg)(rg:g.rg)(h1:f.n.natAbs*g.d.natAbs<18446744073709551616)(h2:g.n.natAbs*f.d.natAbs<18446744073709551616):
  GK H 33 [.agg f.cells, .agg g.cells]=some (.tup [iv (lH f g),iv 0]):=by
 refine aJ hF WB ?_;rw[abL];have f1:=hf.1;have g1:=hg.1;obtain⟨⟨a1,a2⟩,a3,a4⟩:=rf;obtain⟨⟨b1,b2⟩,b3,b4⟩:=rg;have k1:=vR hF f ⟨⟨a1,a2⟩,a3,a4⟩ hf;have k2:=vR hF g ⟨⟨b1,b2⟩,b3,b4⟩ hg;have k3:XK.run (GK H) (.call false 74) [iv f.n]=some (uw f.n.natAbs):=ao (oG hF a1 a2) rfl rfl;have k4:XK.run (GK H) (.call false 74) [iv f.d]=some (uw f.d.natAbs):=ao (oG hF a3 a4) rfl rfl;have k5:XK.run (GK H) (.call false 74) [iv g.n]=some (uw g.n.natAbs):=ao (oG hF b1 b2) rfl rfl;have k6:XK.run (GK H) (.call false 74) [iv g.d]=some (uw g.d.natAbs):=ao (oG hF b3 b4) rfl rfl;have k7:XK.run (GK H) (.call false 78) [uw f.n.natAbs,uw g.d.natAbs]=some (.agg (W 0 (f.n.natAbs*g.d.natAbs))):=ao (BI hF _ _ h1 (by omega) (by omega)) rfl rfl;have k8:XK.run (GK H) (.call false 78) [uw g.n.natAbs,uw f.d.natAbs]=some (.agg (W 0 (g.n.natAbs*f.d.natAbs))):=ao (BI hF _ _ h2 (by omega) (by omega)) rfl rfl
 have k9:XK.run (GK H) (.call false 79) [.agg (W 0 (f.n.natAbs*g.d.natAbs)), .agg (W 0 (g.n.natAbs*f.d.natAbs))]=some (iv (cI ((f.n.natAbs*g.d.natAbs:Nat):Int) ((g.n.natAbs*f.d.natAbs:Nat):Int))):=by
  rw[←Pn];exact ao (U5 hF _ _) rfl rfl
 have kn:XK.run (GK H) (.pk .ineg) [iv (-lH f g)]=some (iv (lH f g)):=by
  have hc: ∀c:Int,(c= -1∨c=0∨c=1)→XK.run (GK H) (.pk .ineg) [iv (-c)]=some (iv c):=by rintro c (rfl|rfl|rfl)<;>rfl
  exact hc _ ZR
 have fd:(f.d.natAbs:Int)=f.d:=by omega
 have gd:(g.d.natAbs:Int)=g.d:=by omega
 by_cases he:f.n=g.n∧f.d=g.d
 ·have:lH f g=0:=by unfold lH;rw[he.1,he.2];exact ZQ.2 rfl
  simp[-aq,-mh,k1,k2,LP,he,this]
 ·have he':(decide (f.n=g.n)&&decide (f.d=g.d))=false:=by simpa using he
  by_cases s1:f.n<0<;>by_cases s2:g.n<0
  ·have e:cI ((f.n.natAbs*g.d.natAbs:Nat):Int) ((g.n.natAbs*f.d.natAbs:Nat):Int)= -lH f g:=by
    unfold lH;rw[Int.natCast_mul,Int.natCast_mul,fd,gd,show(f.n.natAbs:Int)= -f.n by omega,show(g.n.natAbs:Int)= -g.n by omega,Int.neg_mul,Int.neg_mul,Jr]
   rw[e]at k9;simp[-aq,-mh,-Int.natCast_mul,k1,k2,LP,he',n9,s1,s2,k3,k4,k5,k6,k7,k8,k9,kn]
  ·have:lH f g= -1:=by
    have h3:f.n*g.d<0:=Int.mul_neg_of_neg_of_pos s1 g1;have h4:0≤g.n*f.d:=Int.mul_nonneg (by omega) (by omega);unfold lH cI;rw[if_pos (by omega)]
   simp[-aq,-mh,k1,k2,LP,he',n9,s1,s2,this]
  ·have:lH f g=1:=by
    have h3:g.n*f.d<0:=Int.mul_neg_of_neg_of_pos s2 f1;have h4:0≤f.n*g.d:=Int.mul_nonneg (by omega) (by omega);unfold lH cI;rw[if_neg (by omega),if_pos (by omega)]
   simp[-aq,-mh,k1,k2,LP,he',n9,s1,s2,this]
  ·have e:cI ((f.n.natAbs*g.d.natAbs:Nat):Int) ((g.n.natAbs*f.d.natAbs:Nat):Int)=lH f g:=by
    unfold lH;rw[Int.natCast_mul,Int.natCast_mul,fd,gd,show(f.n.natAbs:Int)=f.n by omega,show(g.n.natAbs:Int)=g.n by omega]
   rw[e]at k9;simp[-aq,-mh,-Int.natCast_mul,k1,k2,LP,he',n9,s1,s2,k3,k4,k5,k6,k7,k8,k9]
theorem U4(hF:Fr H)(f:Fq)(hf:f.ok)(t:Int)(h0:0≤f.n)(ht:0<t)(h1:f.n<9223372036854775808)(h2:f.d*t<9223372036854775808):
  GK H 101 [.agg f.cells, .agg (⟨t,1⟩:Fq).cells]=some (.tup [.agg (red f.n (f.d*t)).cells,iv 0]):=by
 refine aJ hF MB ?_;rw[X'];have f1:=hf.1;have hg:(⟨1,t⟩:Fq).ok:=⟨ht,by simp⟩;have hg':(⟨t,1⟩:Fq).ok:=⟨by show(0:Int)<1;decide,by simp⟩
 have d1:f.d<9223372036854775808:=by
  have:=Int.mul_le_mul_of_nonneg_left (show 1≤t by omega) (show 0≤f.d by omega);omega
 have t1:t<9223372036854775808:=by
  have:=Int.mul_le_mul_of_nonneg_right (show 1≤f.d by omega) (show 0≤t by omega);omega
 have k1:=vR hF f (C6 hf (by omega) (by omega)) hf;have k2:=vR hF ⟨t,1⟩ (C6 hg' (by show t.natAbs<_;omega) (by show(1:Nat)<_;omega)) hg';have k3:XK.run (GK H) (.call false 74) [iv f.n]=some (uw f.n.natAbs):=ao (oG hF (by omega) (by omega)) rfl rfl;have k4:XK.run (GK H) (.call false 74) [iv f.d]=some (uw f.d.natAbs):=ao (oG hF (by omega) (by omega)) rfl rfl;have k5:XK.run (GK H) (.call false 74) [iv t]=some (uw t.natAbs):=ao (oG hF (by omega) (by omega)) rfl rfl;have k6:XK.run (GK H) (.call false 74) [iv 1]=some (uw 1):=ao (oG hF (z:=1) (by omega) (by omega)) rfl rfl
 have hbd:f.d.natAbs*t.natAbs<9223372036854775808:=by
  rw[←Int.natAbs_mul];have:0≤f.d*t:=Int.mul_nonneg (by omega) (by omega);omega
 have k7:=aaM hF false f.n.natAbs f.d.natAbs 1 t.natAbs (by omega) (by omega) (by omega) hbd (by omega) (by omega)
 have e:=Kw hf hg (m:=((f.n.natAbs/Nat.gcd f.n.natAbs t.natAbs*(1/Nat.gcd 1 f.d.natAbs):Nat):Int)) (by
  rw[Int.natAbs_natCast];rfl) (by
  have d1:f.n.natAbs/Nat.gcd f.n.natAbs t.natAbs*Nat.gcd f.n.natAbs t.natAbs=f.n.natAbs:=Nat.div_mul_cancel (Nat.gcd_dvd_left ..);show((f.n.natAbs/Nat.gcd f.n.natAbs t.natAbs*(1/Nat.gcd 1 f.d.natAbs):Nat):Int)*((Nat.gcd f.n.natAbs t.natAbs:Nat):Int)*((Nat.gcd (1:Int).natAbs f.d.natAbs:Nat):Int)=f.n*1;rw[show(1:Int).natAbs=1 from rfl,Nat.gcd_one_left,Nat.div_one,Nat.mul_one,←Int.natCast_mul,d1]
  omega)
 rw[show((f.d.natAbs/Nat.gcd ((⟨1,t⟩:Fq).n).natAbs f.d.natAbs*((⟨1,t⟩:Fq).d.natAbs/Nat.gcd f.n.natAbs ((⟨1,t⟩:Fq).d).natAbs):Nat):Int)=((f.d.natAbs/Nat.gcd 1 f.d.natAbs*(t.natAbs/Nat.gcd f.n.natAbs t.natAbs):Nat):Int)from rfl]at e;rw[if_neg (by decide),e]at k7;rw[show f.n*(⟨1,t⟩:Fq).n=f.n from Int.mul_one _]at k7;have k8:XK.run (GK H) (.call false 73) [bv false,uw f.n.natAbs,uw f.d.natAbs,uw 1,uw t.natAbs]=some (.tup [.agg (red f.n (f.d*t)).cells,iv 0]):=ao k7 rfl rfl;have hz: ¬t=0:=by omega
 have hag:XK.run (GK H) (.pk (.aeq false [3,3])) [.agg (⟨t,1⟩:Fq).cells, .agg [iv 0,iv 1]]=some (bv false):=by
  show XK.run (GK H) (.pk (.aeq false [3,3])) [.agg (⟨t,1⟩:Fq).cells, .agg (⟨0,1⟩:Fq).cells]=_;rw[LP];simp[hz]
 have s1: ¬f.n<0:=by omega
 have s2: ¬t<0:=by omega
 simp[-aq,-mh,k1,k2,hag,n9,s1,s2,k3,k4,k5,k6,k8]
theorem aaP(hF:Fr H)(b:Bool):GK H 51 [bv b]=some (iv (KY b)):=by
 refine aJ hF WX ?_;rw[abO];cases b<;>simp[KY]
theorem aaR(hF:Fr H)(a b:Int):GK H 52 [.list [[iv a],[iv b]]]=some (iv (if a≠0 then a else b)):=by
 refine aJ hF KB ?_;rw[abP];simp[-aq];rw[Zi];by_cases ha:a=0
 ·simp[ha];rw[SU];by_cases hb:b=0
  ·simp[hb];rw[Ja];simp
  ·simp[hb]
 ·simp[ha]
section
variable {G : FP} {x : Ln}
@[simp] theorem Ln.fb:XK.run G (.pk (.fbox 9)) [.agg x.cells]=some (.lptr x.cells):=nr rfl
@[simp] theorem Ln.ldz:XK.run G (.pk (.load 1 false)) [.lptr x.cells]=some (iv x.pr):=nr rfl
@[simp] theorem Ln.Zf:XK.run G (.pk (.load 1 false)) [.lptr x.cells.tail]=some (iv x.pl):=nr rfl
@[simp] theorem Ln.ld2:XK.run G (.pk (.load 1 false)) [.lptr (x.cells.drop 2)]=some (bv x.ew):=nr rfl
@[simp] theorem Ln.ld3:XK.run G (.pk (.load 1 false)) [.lptr (x.cells.drop 3)]=some (iv x.bs):=nr rfl
@[simp] theorem Ln.ld7:XK.run G (.pk (.load 2 true)) [.lptr (x.cells.drop 7)]=some (.agg x.sh.cells):=nr rfl
@[simp] theorem Ln.aK:(D.agg x.cells).aK=true:=nr rfl
@[simp] theorem Ln.aj:XK.run G .aj [.agg x.cells]=some (.agg x.cells):=nr rfl
@[simp] theorem Ln.len:x.cells.length=9:=nr rfl
theorem QL{a b:Int}:XK.run G (.lit 1 2 [iv 0,iv 0] [(0,1),(1,1)]) [iv a,iv b]=some (.list [[iv a],[iv b]]):=nr rfl
end
def Fq.sm(f:Fq):Prop:=f.ok∧0≤f.n∧f.n<2147483648∧f.d<2147483648
theorem Fq.M7{f:Fq}(h:f.sm):f.rg:=by
 obtain⟨⟨h1,_⟩,h2,h3,h4⟩:=h;exact⟨⟨by omega,by omega⟩,by omega,by omega⟩
theorem Iy{a b:Nat}(ha:a<2147483648)(hb:b<2147483648):a*b<18446744073709551616:=by
 have:=Nat.mul_le_mul (Nat.le_of_lt ha) (Nat.le_of_lt hb);omega
theorem l50(hF:Fr H)(x y:Ln)(hx:x.sh.sm)(hy:y.sh.sm):GK H 50 [.agg x.cells, .agg y.cells]=some (iv (x.cmp y)):=by
 refine aJ hF WW ?_;rw[abN];have k1: ∀b,XK.run (GK H) (.call false 51) [bv b]=some (iv (KY b)):=fun b=>ao (aaP hF b) rfl rfl
 have k2:XK.run (GK H) (.call false 33) [.agg y.sh.cells, .agg x.sh.cells]=some (.tup [iv (lH y.sh x.sh),iv 0]):=by
  have h1:=hx.1.1;have h2:=hy.1.1;have h3:=hx.2;have h4:=hy.2;exact ao (l33 hF y.sh x.sh hy.1 hx.1 (Fq.M7 hy) (Fq.M7 hx) (Iy (by omega) (by omega)) (Iy (by omega) (by omega))) rfl rfl
 have k3: ∀a b,XK.run (GK H) (.call false 53) [iv a,iv b]=some (iv (cI a b)):=fun a b=>ao (l96 hF a b) rfl rfl;have k4: ∀a b,XK.run (GK H) (.call true 52) [.list [[iv a],[iv b]]]=some (iv (if a≠0 then a else b)):=fun a b=>ao (aaR hF a b) rfl rfl;unfold Ln.cmp;by_cases h1:x.ew=y.ew
 ·by_cases h2:(x.bs=0↔y.bs=0)
  ·simp[-aq,n9,h1,h2,k2,k3,k4,QL]
  ·simp[-aq,n9,h1,h2,k1]
 ·simp[-aq,n9,h1,k1]
end Ty
end
section
open Go.RowKit Go.Sort
namespace Ty
def fN(l:List Ln):D:= .list (l.map Ln.cells)
section
variable {G : FP}
theorem Qh{l:List Ln}{i:Nat}{x:Ln}(h:l[i]?=some x):XK.run G (.pk (.idx 0 9)) [fN l,iv (i:Int)]=some (.lptr x.cells):=by
 unfold fN;rw[wj];simp[h]
theorem MV{l:List Ln}{i:Nat}{x:Ln}{z:Int}(h:l[i]?=some x):XK.run G (.setl 9 1 1) [fN l,iv (i:Int),iv z]=some (fN (l.set i {x with pl:=z})):=by
 unfold fN;show(if(i:Int)<0 then none else((l.map Ln.cells)[(i:Int).toNat]?).bind fun c=>if [iv z].length=1∧1+1≤9∧c.length=9∧ [iv z].all D.gE=true∧ [iv z].all D.rG=true then some (D.list ((l.map Ln.cells).set (i:Int).toNat (putAt c 1 [iv z])))else none)=_;rw[if_neg (by omega),Int.toNat_natCast,Dz,h,Pz,Oz,if_pos ⟨rfl,by omega,rfl,rfl,rfl⟩,List.map_set];rfl
theorem TK(l:List Ln):(l.map Ln.cells).all (fun c=>c.all D.bB)=true:=by
 rw[Tz];intro c hc;obtain⟨e,_,rfl⟩:=List.mem_map.1 hc;rfl
theorem IE{x y:X}{l:List Ln}{k:IntKind}{z:Int}:eR (.mk .tup [.mk .own [x],y]) (.tup [fN l, .v (.int k z)])=D.own (.tup [fN l, .v (.int k z)]):=by
 unfold fN
 have h:q_ (.mk .tup [.mk .own [x],y]) (.tup [.list (l.map Ln.cells), .v (.int k z)])=true:=by
  show(lJ _ _&&(lJ _ _&&true))=true;rw[oN (TK l)];cases y<;>rfl
 show(if _ then _ else if q_ (.mk .tup [.mk .own [x],y]) (.tup [.list (l.map Ln.cells), .v (.int k z)])=true then _ else _)=_;rw[h];rfl
theorem lnT{l:List Ln}:(D.tup [fN l,iv 0]).aK=true:=nr rfl
end
theorem ev8{H:FP}(L:List (List D→Option D))(A:List D)(hA:A.length=39)(l:List Ln)(hl:l.length<9999):
  gV (GK H) 10000 CO L (A++ [iv (l.length:Int)]) 10000 [iv 0,iv 0,fN l]=some (D.own (.tup [fN (cA none 0 0 l),iv 0])):=by
 rw[Pm]
 refine e6 (S:=List Ln×List Ln×Nat) (enc:=fun q=> [iv (q.1.length:Int),iv (q.2.2:Int),fN (q.1++q.2.1)]) (res:=fun _=>D.own (.tup [fN (cA none 0 0 l),iv 0])) (mes:=fun q=>q.2.1.length)
  (ok:=fun q=>q.1.length+q.2.1.length=l.length∧q.2.2≤q.1.length∧(q.1= []→q.2.2=0)∧cA none 0 0 l=q.1++cA q.1.getLast? q.2.2 q.1.length q.2.1) ?_ ([],l,0) ⟨by simp,by simp,by simp,by simp⟩ (by show l.length<_;omega)
 rintro rec ⟨P,R,st⟩ ⟨h1,h2,h3,h4⟩ ih
 replace h1:P.length+R.length=l.length:=h1
 replace h2:st≤P.length:=h2
 replace h3:P= []→st=0:=h3
 replace h4:cA none 0 0 l=P++cA P.getLast? st P.length R:=h4
 rw[h4];rw[h4]at ih;have g:=fun i (x:List D)=>List.getElem?_append (l₁:=A) (l₂:=x) (i:=i);cases R with
 |nil=>
  simp at h1;have:cA P.getLast? st P.length []= []:=by cases P.getLast?<;>rfl
  rw[this];simp[-aq,g,hA,h1,W9,lnT];rw[IE]
 |cons x r=>
  simp at h1;have hlt:(P.length:Int)<l.length:=by omega
  have ix:(P++x::r)[P.length]?=some x:=by simp
  have ex:=Qh (G:=GK H) ix;have w1:IntKind.i64.wrap ((P.length:Int)+1)=(P.length:Int)+1:=wr (by omega) (by omega);have w2:IntKind.i64.wrap ((P.length:Int)-st)=(P.length:Int)-st:=wr (by omega) (by omega);have w3:IntKind.i64.wrap ((P.length:Int)-st+1)=(P.length:Int)-st+1:=wr (by omega) (by omega)
  have nx: ∀(st':Nat) (y:Ln),st'≤P.length→cA P.getLast? st P.length (x::r)=y::cA (some y) st' (P.length+1) r→rec [iv ((P.length:Int)+1),iv (st':Int),fN ((P++x::r).set P.length y)]=some (D.own (.tup [fN (P++cA P.getLast? st P.length (x::r)),iv 0])):=fun st' y hs hy=>by
   have:=ih (P++ [y],r,st') ⟨by simp;omega,by simp;omega,by simp,by simp[hy]⟩ (by simp);simpa using this
  rcases List.eq_nil_or_concat P with rfl|⟨P',p,rfl⟩
  ·obtain rfl:=h3 rfl;have ex:XK.run (GK H) (.pk (.idx 0 9)) [fN (x::r),iv 0]=some (.lptr x.cells):=ex;have hlt:(0:Int)<l.length:=hlt;have pP:0<l.length:=by omega
   have wz:IntKind.i64.wrap (IntKind.i64.wrap 0+1)=1:=rfl;by_cases hb:x.bs=0
   ·have n1:=nx 0 x (by simp) (by simp[cA,hb]);simp[-aq,g,hA,pP,ex,hb];simpa using n1
   ·have n1:=nx 0 {x with pl:=1} (by simp) (by simp[cA,hb]);have es: ∀z,XK.run (GK H) (.setl 9 1 1) [fN (x::r),iv 0,iv z]=some (fN ({x with pl:=z}::r)):=fun z=>MV (i:=0) (l:=x::r) rfl;simp[-aq,g,hA,pP,ex,hb,es,wz];simpa using n1
  ·have ep:XK.run (GK H) (.pk (.idx 0 9)) [fN (P'++p::x::r),iv (P'.length:Int)]=some (.lptr p.cells):=Qh (by simp);have ex:XK.run (GK H) (.pk (.idx 0 9)) [fN (P'++p::x::r),iv ((P'.length:Int)+1)]=some (.lptr x.cells):=Qh (i:=P'.length+1) (by simp);have es: ∀z,XK.run (GK H) (.setl 9 1 1) [fN (P'++p::x::r),iv ((P'.length:Int)+1),iv z]=some (fN ((P'++p::x::r).set (P'.length+1) {x with pl:=z})):=fun z=>MV (i:=P'.length+1) (by simp);simp only[List.concat_eq_append,List.length_append,List.length_cons,List.length_nil]at hlt w1 w2 w3 nx h2;have pP:P'.length+1<l.length:=by omega
   have Es:(P'.length:Int)+1<l.length:=by omega
   have Et:(0:Int)<(P'.length:Int)+1:=by omega
   have w0:IntKind.i64.wrap (P'.length:Int)=P'.length:=wr (by omega) (by omega);have w1:IntKind.i64.wrap ((P'.length:Int)+1+1)=(P'.length:Int)+1+1:=by simpa using w1
   have w2:IntKind.i64.wrap ((P'.length:Int)+1-st)=(P'.length:Int)+1-st:=by simpa using w2
   have w3:IntKind.i64.wrap ((P'.length:Int)+1-st+1)=(P'.length:Int)+1-st+1:=by simpa using w3
   have nx: ∀(st':Nat) (y:Ln),st'≤P'.length+1→cA (some p) st (P'.length+1) (x::r)=y::cA (some y) st' (P'.length+1+1) r→rec [iv ((P'.length:Int)+1+1),iv (st':Int),fN ((P'++p::x::r).set (P'.length+1) y)]=some (D.own (.tup [fN (P'.concat p++cA (P'.concat p).getLast? st (P'.concat p).length (x::r)),iv 0])):=fun st' y h1 h2=>by
    have:=nx st' y (by simpa using h1) (by rw[show(P'++ [p]).getLast?=some p by simp];simpa using h2);simpa using this
   have sx:(P'++p::x::r).set (P'.length+1) x=P'++p::x::r:=by simp
   by_cases he:x.ew=p.ew
   ·by_cases hb:x.bs=0
    ·have n1:=nx st x h2 (by simp[cA,hb,he]);rw[sx]at n1;simp[-aq,g,hA,pP,Es,Et,ex,ep,hb,he,n9,w0,w1]at n1⊢;exact n1
    ·by_cases hs:(st:Int)<(P'.length:Int)+1
     ·have hs':st<P'.length+1:=by omega
      by_cases hq:x.sh.n=p.sh.n∧x.sh.d=p.sh.d
      ·have n1:=nx st {x with pl:=p.pl} h2 (by simp[cA,hb,he,hs',hq]);simp[-aq,-mh,g,hA,pP,Es,Et,ex,ep,hb,he,n9,w0,w1,hs,LP,hq,es]at n1⊢;exact n1
      ·have n1:=nx st {x with pl:=(P'.length:Int)+1-st+1} h2 (by simp[cA,hb,he,hs',hq]);have hq':(decide (x.sh.n=p.sh.n)&&decide (x.sh.d=p.sh.d))=false:=by simpa using hq
       simp[-aq,-mh,g,hA,pP,Es,Et,ex,ep,hb,he,n9,w0,w1,hs,LP,hq',es,w2,w3]at n1⊢;exact n1
     ·have hs': ¬st<P'.length+1:=by omega
      have n1:=nx st {x with pl:=(P'.length:Int)+1-st+1} h2 (by simp[cA,hb,he,hs']);simp[-aq,-mh,g,hA,pP,Es,Et,ex,ep,hb,he,n9,w0,w1,hs,es,w2,w3]at n1⊢;exact n1
   ·have he2:(x.ew !=p.ew)=true:=by simpa using he
    have he3:(x.ew==p.ew)=false:=by simpa using he
    by_cases hb:x.bs=0
    ·have n1:=nx (P'.length+1) x (Nat.le_refl _) (by simp[cA,hb,he]);rw[sx]at n1;simp[-aq,g,hA,pP,Es,Et,ex,ep,hb,he,n9,w0,w1]at n1⊢;exact n1
    ·have n1:=nx (P'.length+1) {x with pl:=1} (Nat.le_refl _) (by simp[cA,hb,he]);have w4:IntKind.i64.wrap (IntKind.i64.wrap 0+1)=1:=rfl;have w5:IntKind.i64.wrap 0=0:=rfl;simp[-aq,-mh,g,hA,pP,Es,Et,ex,ep,hb,he,n9,w0,w1,es,w4,w5]at n1⊢;exact n1
end Ty
end
section
open Go.RowKit Go.Sort
namespace Ty
def wL(G:FP)(F:Int→Ln):Prop:= ∀ps:List Int,ps≠ []→ps.length<65536→XK.run G (.ecall 0 54 9) [fN (ps.map F), .clo 50 []]=some (.tup [.tup [],fN (cL zU (ps.map F))])
section
variable {G : FP}
theorem Vh{x:Ln}:XK.run G (.lit 9 1 [iv 0,iv 0,bv false,iv 0,iv 0,iv 0,iv 0,iv 0,iv 0] [(0,9)]) [.agg x.cells]=some (fN [x]):=nr rfl
theorem To{l:List Ln}{x:Ln}(h:l.length<65536):XK.run G (.app 9) [fN l,fN [x]]=some (fN (l++ [x])):=by
 show(if bj 9 [x.cells]=true∧(l.map Ln.cells).length+1≤bx then some (D.list (l.map Ln.cells++ [x.cells]))else none)=_;rw[if_pos ⟨rfl,by simp[bx];omega⟩];simp[fN]
theorem xr{qs:List Int}{i:Nat}(h:i<qs.length):qs[i]?=some (qs.getD i 0):=by simp[List.getD_eq_getElem?_getD,h]
theorem iX(qs:List Int):(List.range qs.length).map (fun i=>qs.getD i 0)=qs:=by
 apply List.ext_getElem
 ·simp
 ·intro i h1 h2;simp[List.getD_eq_getElem?_getD,h2]
theorem kE{qs done:List Int}{is:List Nat}{k i:Nat}(hi:is[k]?=some i)(hp:(done++is.map fun i=>qs.getD i 0).Perm qs):((done++ [qs.getD i 0])++(is.eraseIdx k).map fun i=>qs.getD i 0).Perm qs:=by
 have h1:=(iM hi).map fun i=>qs.getD i 0;rw[List.append_assoc];exact(List.Perm.append_left done h1).trans hp
theorem sF{is:List Nat}{k i:Nat}(hi:is[k]?=some i):(is.eraseIdx k).length<is.length:=by
 have:=(iM hi).length_eq;simp at this;omega
end
variable {H : FP}
theorem ev7{F:Int→Ln}(hF:Jf F)(hS:wL (GK H) F)(L:List (List D→Option D))(A:List D)(hA:A.length=33)(qs:List Int)(h0:qs≠ [])(hl:qs.length<9999):
  gV (GK H) 10000 CN L (A++ [rq (fun p=>(F p).cells) qs,pR (-1) (List.range qs.length)]) 10000 [.list [],pR (-1) (List.range qs.length)]=some (D.own (.tup [fN (lD F qs),iv 0])):=by
 rw[Pl];have g:=fun i (x:List D)=>List.getElem?_append (l₁:=A) (l₂:=x) (i:=i);refine e6 (S:=List Int×Int×List Nat) (enc:=fun q=> [fN (q.1.map F),pR q.2.1 q.2.2]) (res:=fun _=>D.own (.tup [fN (lD F qs),iv 0])) (mes:=fun q=>q.2.2.length) (ok:=fun q=>(q.1++q.2.2.map fun i=>qs.getD i 0).Perm qs∧ ∀i∈q.2.2,i<qs.length) ?_ ([],-1,List.range qs.length) ⟨by rw[List.nil_append,iX],fun i hi=>List.mem_range.1 hi⟩ (by simp;omega);rintro rec ⟨out,z,is⟩ ⟨hp,hb⟩ ih
 replace hp:(out++is.map fun i=>qs.getD i 0).Perm qs:=hp
 replace hb: ∀i∈is,i<qs.length:=hb
 have hol:out.length≤qs.length:=by
  have:=hp.length_eq;simp at this;omega
 simp[g,hA];refine wN (fun he=> ?_) (fun k i hi=> ?_)
 ·subst he;simp at hp;have hon:out≠ []:=fun e=>h0 (by subst e;exact hp.symm.eq_nil);have hs:=hS out hon (by omega);rw[wA hF hp]at hs;have kt:(D.tup []).aK=true:=rfl;generalize hT:cL zU (qs.map F)=T at hs;have hTl:T.length=qs.length:=by rw[←hT,(b9 _ _).length_eq];simp
  have ke:XK.run (GK H) (.pk (.ext 1)) [.tup [.tup [],fN T]]=some (fN T):=rfl;have ke0:XK.run (GK H) (.pk (.ext 0)) [.tup [.tup [],fN T]]=some (.tup []):=rfl;have kl:XK.run (GK H) (.pk .llen) [fN T]=some (iv (T.length:Int)):=by unfold fN;rw[Ic];simp
  have h8:=ev8 (H:=H) (L:=rec::L) (A:=A++ [rq (fun p=>(F p).cells) qs,pR (-1) (List.range qs.length),fN (out.map F),pR z [], .tup [.tup [],fN T],fN T]) (by simp[hA]) T (by omega);have hr:cA none 0 0 T=lD F qs:=by unfold lD;rw[hT]
  rw[hr]at h8;simp[-aq,g,hA,hs,ke,ke0,kl];simpa using h8
 ·have hil:=hb i (Lz hi);have hpi:=xr hil;have ih:=ih (out++ [qs.getD i 0],i,is.eraseIdx k) ⟨kE hi hp,fun x hx=>hb x (List.mem_of_mem_eraseIdx hx)⟩ (sF hi);have k1:=Rg (G:=GK H) (C:=fun p=>(F p).cells) hpi;have k4:=Ri (G:=GK H) (C:=fun p=>(F p).cells) (a:=0) (b:=9) hpi (by show 0+9≤9;omega) rfl;rw[show(((F (qs.getD i 0)).cells.drop 0).take 9)=(F (qs.getD i 0)).cells from rfl]at k4;generalize qs.getD i 0=p at*;have ka:=To (G:=GK H) (l:=out.map F) (x:=F p) (by simp;omega);simp[-aq,g,hA,k1,k4,Vh,ka];simpa using ih
def Ln.XC(l:Ln):Prop:=l.pt.ok∧0≤l.pt.n∧l.pt.n<9223372036854775808∧0<l.tp∧l.pt.d*l.tp<9223372036854775808
def ji(F:Int→Ln)(done:List Int)(q:Int):Ln:=if q∈done then jD (F q)else F q
theorem ev6(hF:Fr H){F:Int→Ln}(hF':Jf fun p=>jD (F p))(hS:wL (GK H) fun p=>jD (F p))(hok: ∀p,(F p).bs≠0→(F p).XC)(L:List (List D→Option D))(A:List D)(hA:A.length=30)(x y:D)(hx:x.aK=true)(hy:y.aK=true)(qs:List Int)(hn:qs.Nodup)(h0:qs≠ [])(hl:qs.length<9999):
  gV (GK H) 10000 CM L A 10000 [x,y,pR (-1) (List.range qs.length),rq (fun p=>(F p).cells) qs]=some (D.own (.tup [fN (lD (fun p=>jD (F p)) qs),iv 0])):=by
 rw[Pk];have g:=fun i (x:List D)=>List.getElem?_append (l₁:=A) (l₂:=x) (i:=i);refine e6 (S:=List Int×Int×List Nat) (enc:=fun q=> [x,y,pR q.2.1 q.2.2,rq (fun p=>(ji F q.1 p).cells) qs]) (res:=fun _=>D.own (.tup [fN (lD (fun p=>jD (F p)) qs),iv 0])) (mes:=fun q=>q.2.2.length) (ok:=fun q=>(q.1++q.2.2.map fun i=>qs.getD i 0).Perm qs∧ ∀i∈q.2.2,i<qs.length) ?_ ([],-1,List.range qs.length) ⟨by rw[List.nil_append,iX],fun i hi=>List.mem_range.1 hi⟩ (by simp;omega);rintro rec ⟨out,z,is⟩ ⟨hp,hb⟩ ih
 replace hp:(out++is.map fun i=>qs.getD i 0).Perm qs:=hp
 replace hb: ∀i∈is,i<qs.length:=hb
 simp[g,hA];refine wN (fun he=> ?_) (fun k i hi=> ?_)
 ·subst he;simp at hp
  have hm:rq (fun p=>(ji F out p).cells) qs=rq (fun p=>(jD (F p)).cells) qs:=D9 fun p hq=>by
   have:p∈out:=hp.mem_iff.2 hq;simp[ji,this]
  rw[hm];have h7:=ev7 hF' hS (L:=rec::L) (A:=A++ [x,y,pR z []]) (by simp[hA]) qs h0 hl;have k0:=Xa (G:=GK H) (C:=fun p=>(jD (F p)).cells) (ps:=qs);simp[-aq,g,hA,k0];simpa using h7
 ·have hil:=hb i (Lz hi);have hpi:=xr hil;have ih:=ih (out++ [qs.getD i 0],i,is.eraseIdx k) ⟨kE hi hp,fun x hx=>hb x (List.mem_of_mem_eraseIdx hx)⟩ (sF hi)
  have hno:qs.getD i 0∉out:=by
   have h1:=(kE hi hp).nodup_iff.2 hn;have h2:=(List.nodup_append.1 (List.nodup_append.1 h1).1).2.2;exact fun hm=>h2 _ hm _ (by simp) rfl
  generalize hpp:qs.getD i 0=p at*;have hC:ji F out p=F p:=by simp[ji,hno]
  have k1:=Rg (G:=GK H) (C:=fun p=>(ji F out p).cells) hpi;have k3:=KF (G:=GK H) (C:=fun p=>(ji F out p).cells) (a:=3) (b:=1) (d:=iv (F p).bs) hpi (by rw[hC];rfl) rfl;by_cases hz:(F p).bs=0
  ·have hm:ji F (out++ [p])=ji F out:=by
    funext q;unfold ji jD;by_cases hq:q=p
    ·subst hq;simp[hz]
    ·simp[hq]
   replace ih:rec [x,y,pR i (is.eraseIdx k),rq (fun q=>(ji F (out++ [p]) q).cells) qs]=_:=ih
   rw[hm]at ih;simp[-aq,g,hA,k1,k3,hz];simpa using ih
  ·obtain⟨o1,o2,o3,o4,o5⟩:=hok p hz;have k4:=Ri (G:=GK H) (C:=fun p=>(ji F out p).cells) (a:=5) (b:=2) hpi (by show 5+2≤9;omega) rfl;rw[hC,show(((F p).cells.drop 5).take 2)=(F p).pt.cells from rfl]at k4;have k5:=KF (G:=GK H) (C:=fun p=>(ji F out p).cells) (a:=4) (b:=1) (d:=iv (F p).tp) hpi (by rw[hC];rfl) rfl;have kd:XK.run (GK H) (.call false 101) [.agg (F p).pt.cells, .agg [iv (F p).tp,iv 1]]=some (.tup [.agg (red (F p).pt.n ((F p).pt.d*(F p).tp)).cells,iv 0]):=ao (U4 hF (F p).pt o1 (F p).tp o2 o4 o3 o5) rfl rfl;have k6:=Xc (G:=GK H) (C:=fun p=>(ji F out p).cells) (a:=7) (b:=2) (v:= .agg (red (F p).pt.n ((F p).pt.d*(F p).tp)).cells) hn hpi rfl (by show 7+2≤9;omega) rfl
   have hm:rq (fun q=>if q=p then putAt (ji F out p).cells 7 (D.agg (red (F p).pt.n ((F p).pt.d*(F p).tp)).cells).cells else(ji F out q).cells) qs=rq (fun q=>(ji F (out++ [p]) q).cells) qs:=by
    congr 1;funext q;by_cases hq:q=p
    ·subst hq;rw[if_pos rfl,hC];have:ji F (out++ [q]) q=jD (F q):=by simp[ji]
     rw[this];unfold jD;rw[if_neg hz];rfl
    ·rw[if_neg hq];have:ji F (out++ [p]) q=ji F out q:=by simp[ji,hq]
     rw[this]
   rw[hm]at k6;simp[-aq,g,hA,k1,k3,hz,k4,k5,kd,k6];simpa using ih
end Ty
end
section
namespace Ty
theorem xN{a b:Int}(ha:0≤a)(hb:0<b):(0≤(red a b).n∧(red a b).n≤a)∧(0<(red a b).d∧(red a b).d≤b):=by
 have h1:= @DG a b;have h2:= @DF a b;have hg:=xq (n:=a) hb;have h3:=(k_ (n:=a) hb).1;generalize(red a b).n=x at*;generalize(red a b).d=y at*;generalize Nat.gcd a.natAbs b.natAbs=g at*;have hg1:(1:Int)≤g:=by omega
 have h0:0≤x:=by
  rcases Int.lt_or_le x 0 with h|h
  ·have:=Int.mul_neg_of_neg_of_pos h (show(0:Int)<g by omega);omega
  ·exact h
 have h4:=Int.mul_le_mul_of_nonneg_left hg1 h0;have h5:=Int.mul_le_mul_of_nonneg_left hg1 (show 0≤y by omega);omega
theorem Gr{a b M:Int}(hM:0<M):xo (red a M) (red b M)=red (a+b) M:=by
 unfold xo;have h1:=p9 (n:=a) hM;have h2:=p9 (n:=b) hM;have d1:=(k_ (n:=a) hM).1;have d2:=(k_ (n:=b) hM).1;refine Rp (Int.mul_pos d1 d2) hM ?_;generalize(red a M).n=n1 at*;generalize(red b M).n=n2 at*;generalize(red a M).d=e1 at*;generalize(red b M).d=e2 at*
 calc (n1*e2+n2*e1)*M=(n1*M)*e2+(n2*M)*e1:=by grind
  _=(a*e1)*e2+(b*e2)*e1:=by rw[h1,h2]
  _=(a+b)*(e1*e2):=by grind
def yn(x:Sc):Int:=if x.ct then x.tp else 0
def gh(l:List Sc):Int:=(l.map yn).sum
structure AT(M:Int)(ks:List Int)(x:Sc):Prop where
 ns:x.ct=true→x.ns∈ks
 ew:x.ct=true→x.ew∈ks
 ne:x.ct=true→x.ns≠x.ew
 tp:x.ct=true→1≤x.tp
 f0:x.ct=true→ ∃a,x.f0=red a M∧0≤a∧a≤M*x.tp
 f1:x.ct=true→ ∃a,x.f1=red a M∧0≤a∧a≤M*x.tp
structure FI(M T:Int)(j:Nat)(l:Ln):Prop where
 b0:0≤l.bs
 b1:l.bs≤j
 t0:0≤l.tp
 t1:l.tp≤T
 bt:l.bs≠0→0<l.tp
 pt: ∃a,l.pt=red a M∧0≤a∧a≤M*l.tp
theorem Vk{M:Int}(hM:0<M)(E:Int→Bool)(p:Int):FI M 0 0 (q9 E p):=by
 refine⟨Int.le_refl _,Int.le_refl _,Int.le_refl _,Int.le_refl _,fun h=>absurd rfl h,0, ?_,Int.le_refl _, ?_⟩
 ·show(⟨0,1⟩:Fq)=red 0 M;have:(⟨0,1⟩:Fq).ok:=⟨by show(0:Int)<1;decide,rfl⟩;exact iZ this hM (by simp)
 ·show 0≤M*0;simp
theorem HL{M T T':Int}{j j':Nat}{l:Ln}(h:FI M T j l)(hT:T≤T')(hj:j≤j'):FI M T' j' l:=
 ⟨h.b0,by have:=h.b1;omega,h.t0,by have:=h.t1;omega,h.bt,h.pt⟩
theorem Dm{M T t:Int}{j:Nat}{F:Int→Ln}{p:Int}{g:Fq}(hM:0<M)(ht:1≤t)(h: ∀q,FI M T j (F q))(hg: ∃a,g=red a M∧0≤a∧a≤M*t)(q:Int):FI M (T+t) (j+1) (eE F p g t q):=by
 unfold eE;by_cases hq:q=p
 ·rw[if_pos hq];have h:=h p;obtain⟨a,e1,e2,e3⟩:=h.pt;obtain⟨b,f1,f2,f3⟩:=hg;have h1:=h.b0;have h2:=h.b1;have h3:=h.t0;have h4:=h.t1;refine⟨by show 0≤(F p).bs+1;omega,by show(F p).bs+1≤((j+1:Nat):Int);omega,by show 0≤(F p).tp+t;omega,by show(F p).tp+t≤T+t;omega,fun _=>by show 0<(F p).tp+t;omega,a+b, ?_,by omega, ?_⟩
  ·show xo (F p).pt g=_;rw[e1,f1,Gr hM]
  ·show a+b≤M*((F p).tp+t);rw[Int.mul_add];omega
 ·rw[if_neg hq];exact HL (h q) (by omega) (by omega)
theorem EP{M T t:Int}{j:Nat}{F:Int→Ln}{p q:Int}{g h:Fq}(hM:0<M)(ht:1≤t)(hpq:p≠q)(hI: ∀q,FI M T j (F q))(hg: ∃a,g=red a M∧0≤a∧a≤M*t)(hh: ∃a,h=red a M∧0≤a∧a≤M*t)(r:Int):FI M (T+t) (j+1) (eE (eE F p g t) q h t r):=by
 by_cases hr:r=q
 ·have e:eE (eE F p g t) q h t r=eE F q h t r:=by
   subst hr;have hne: ¬r=p:=fun e=>hpq e.symm;simp[eE,hne]
  rw[e];exact Dm hM ht hI hh r
 ·have e:eE (eE F p g t) q h t r=eE F p g t r:=by simp[eE,hr]
  rw[e];exact Dm hM ht hI hg r
theorem Le{M:Int}{ks:List Int}{x:Sc}(h:AT M ks x):0≤yn x:=by
 unfold yn;split
 ·rename_i hc;have:=h.tp hc;omega
 ·omega
theorem yo{M:Int}{ks:List Int}: ∀{l:List Sc},(∀x∈l,AT M ks x)→0≤gh l
 | [],_=>Int.le_refl _
 |x::r,h=>by
  have h1:=Le (h x (List.mem_cons_self ..));have h2:=yo (l:=r) fun y hy=>h y (Cz _ hy);unfold gh at*;simp;omega
theorem uu(l m:List Sc):gh (l++m)=gh l+gh m:=by simp[gh]
theorem Fm{M:Int}{ks:List Int}{l:List Sc}(h: ∀x∈l,AT M ks x)(j:Nat):gh (l.take j)≤gh l:=by
 have h1:=uu (l.take j) (l.drop j);rw[List.take_append_drop]at h1;have:=yo (l:=l.drop j) fun x hx=>h x (List.mem_of_mem_drop hx);omega
theorem tX(F:Int→Ln)(l:List Sc)(x:Sc):eH F (l++ [x])=ml (eH F l) x:=by
 unfold eH;rw[List.foldl_append];rfl
theorem QN{M T:Int}{j:Nat}{F:Int→Ln}{ks:List Int}{x:Sc}(hM:0<M)(hI: ∀q,FI M T j (F q))(hx:AT M ks x)(q:Int):FI M (T+yn x) (j+1) (ml F x q):=by
 unfold ml yn;cases hc:x.ct with
 |false=>rw[if_neg (by simp),if_neg (by simp)];exact HL (hI q) (by omega) (by omega)
 |true=>rw[if_pos rfl,if_pos rfl];exact EP hM (hx.tp hc) (hx.ne hc) hI (hx.f0 hc) (hx.f1 hc) q
theorem zR{M:Int}{ks:List Int}{l:List Sc}(hM:0<M)(h: ∀x∈l,AT M ks x)(E:Int→Bool)(j:Nat)(hj:j≤l.length)(q:Int):FI M (gh (l.take j)) j (eH (q9 E) (l.take j) q):=by
 induction j generalizing q with
 |zero=>exact Vk hM E q
 |succ j ih=>
  have h3:l[j]?=some l[j]:=Ez (by omega);rw[List.take_add_one,h3,Option.toList_some,tX,uu];have:gh [l[j]]=yn l[j]:=by simp[gh]
  rw[this];exact QN hM (ih (by omega)) (h _ (List.getElem_mem ..)) q
theorem Dl{α:Type}(k:Ln→α)(hk: ∀(l:Ln) (b t:Int) (f:Fq),k {l with bs:=b,tp:=t,pt:=f}=k l)(F:Int→Ln)(p:Int)(g:Fq)(t q:Int):k (eE F p g t q)=k (F q):=by
 unfold eE;by_cases h:q=p
 ·rw[if_pos h,hk,h]
 ·rw[if_neg h]
theorem KW{α:Type}(k:Ln→α)(hk: ∀(l:Ln) (b t:Int) (f:Fq),k {l with bs:=b,tp:=t,pt:=f}=k l)(F:Int→Ln)(x:Sc)(q:Int):k (ml F x q)=k (F q):=by
 unfold ml;split
 ·rw[Dl k hk,Dl k hk]
 ·rfl
theorem DP{α:Type}(k:Ln→α)(hk: ∀(l:Ln) (b t:Int) (f:Fq),k {l with bs:=b,tp:=t,pt:=f}=k l)(l:List Sc): ∀(F:Int→Ln) (q:Int),k (eH F l q)=k (F q):=by
 induction l with
 |nil=>exact fun F q=>rfl
 |cons x r ih=>exact fun F q=>(ih (ml F x) q).trans (KW k hk F x q)
theorem Ir(E:Int→Bool)(l:List Sc)(p:Int):(eH (q9 E) l p).pr=p:=DP (·.pr) (fun _ _ _ _=>rfl) l _ p
theorem Is(E:Int→Bool)(l:List Sc)(p:Int):(eH (q9 E) l p).sh=⟨0,1⟩:=DP (·.sh) (fun _ _ _ _=>rfl) l _ p
end Ty
end
section
open Go.RowKit Go.Sort
namespace Ty
def pV(F:Int→Ln)(qs:List Int):D:=rq (fun p=>(F p).cells) qs
def Lg(F:Int→Ln)(p:Int)(v:Ln)(q:Int):Ln:=if q=p then v else F q
def rQ(l:List Sc):D:= .list (l.map Sc.cells)
theorem Cp{F:Int→Ln}{p:Int}{v:Ln}:Lg F p v p=v:=if_pos rfl
theorem DZ{F:Int→Ln}{p:Int}{v w:Ln}:Lg (Lg F p v) p w=Lg F p w:=by
 funext q;unfold Lg;split<;>rfl
section
variable {G : FP} {F : Int → Ln} {qs : List Int} {i : Nat} {p : Int}
theorem wS{a b:Nat}{v:D}{w:Ln}(hn:qs.Nodup)(h:qs[i]?=some p)(h1:v.cells.length=b)(h2:a+b≤9)(h3:v.cells.all D.gE=true)(h4:putAt (F p).cells a v.cells=w.cells):XK.run G (.pm 6 [] a b) [pV F qs,iv (i:Int),v]=some (pV (Lg F p w) qs):=by
 unfold pV;rw[Xc hn h h1 h2 h3];congr 2;funext q;unfold Lg;by_cases hq:q=p
 ·rw[if_pos hq,if_pos hq,h4]
 ·rw[if_neg hq,if_neg hq]
theorem LJ(h:qs[i]?=some p):XK.run G (.pm 1 [] 0 0) [pV F qs,iv (i:Int)]=some (iv p):=Rg h
theorem F5(h:qs[i]?=some p):XK.run G (.pm 4 [] 5 2) [pV F qs,iv (i:Int)]=some (.agg (F p).pt.cells):=Ri (C:=fun p=>(F p).cells) h (by show 5+2≤9;omega) rfl
theorem F4(h:qs[i]?=some p):XK.run G (.pm 5 [] 3 1) [pV F qs,iv (i:Int)]=some (iv (F p).bs):=KF (C:=fun p=>(F p).cells) h rfl rfl
theorem A3(h:qs[i]?=some p):XK.run G (.pm 5 [] 4 1) [pV F qs,iv (i:Int)]=some (iv (F p).tp):=KF (C:=fun p=>(F p).cells) h rfl rfl
theorem CT{f:Fq}{t:Int}(hn:qs.Nodup)(h:qs[i]?=some p): ∃A B:Int→Ln,XK.run G (.pm 6 [] 3 1) [pV F qs,iv (i:Int),iv ((F p).bs+1)]=some (pV A qs)∧XK.run G (.pm 6 [] 5 2) [pV A qs,iv (i:Int), .agg (xo (F p).pt f).cells]=some (pV B qs)∧
  XK.run G (.pm 5 [] 4 1) [pV B qs,iv (i:Int)]=some (iv (F p).tp)∧XK.run G (.pm 6 [] 4 1) [pV B qs,iv (i:Int),iv ((F p).tp+t)]=some (pV (eE F p f t) qs):=by
 refine⟨Lg F p {F p with bs:=(F p).bs+1},Lg F p {F p with bs:=(F p).bs+1,pt:=xo (F p).pt f}, ?_, ?_, ?_, ?_⟩
 ·exact wS hn h rfl (by omega) rfl rfl
 ·exact(wS (b:=2) (w:={F p with bs:=(F p).bs+1,pt:=xo (F p).pt f}) hn h rfl (by omega) rfl (by rw[Cp];rfl)).trans (by rw[DZ])
 ·rw[A3 h,Cp]
 ·exact(wS (b:=1) (w:={F p with bs:=(F p).bs+1,tp:=(F p).tp+t,pt:=xo (F p).pt f}) hn h rfl (by omega) rfl (by rw[Cp];rfl)).trans (by rw[DZ];rfl)
theorem CS{a:Int}:XK.run G (.pm 3 [3] 0 0) [pV F qs,iv a]=some (iv (tE (jg a qs))):=abl
theorem G8{a:Int}(h:a∈qs): ∃i:Nat,tE (jg a qs)=i∧qs[i]?=some a:=by
 cases hi:jg a qs with
 |none=>exact absurd h (iE.1 hi)
 |some i=>exact⟨i,rfl,mI hi⟩
end
section
variable {G : FP} {x : Sc}
@[simp] theorem Sc.c0:XK.run G (.cell 0 11) [.agg x.cells]=some (iv x.rd):=nr rfl
@[simp] theorem Sc.c3:XK.run G (.cell 3 11) [.agg x.cells]=some (iv x.ns):=nr rfl
@[simp] theorem Sc.c4:XK.run G (.cell 4 11) [.agg x.cells]=some (iv x.ew):=nr rfl
@[simp] theorem Sc.c5:XK.run G (.cell 5 11) [.agg x.cells]=some (iv x.f0.n):=nr rfl
@[simp] theorem Sc.c6:XK.run G (.cell 6 11) [.agg x.cells]=some (iv x.f0.d):=nr rfl
@[simp] theorem Sc.c7:XK.run G (.cell 7 11) [.agg x.cells]=some (iv x.f1.n):=nr rfl
@[simp] theorem Sc.c8:XK.run G (.cell 8 11) [.agg x.cells]=some (iv x.f1.d):=nr rfl
@[simp] theorem Sc.c9:XK.run G (.cell 9 11) [.agg x.cells]=some (iv x.tp):=nr rfl
@[simp] theorem Sc.c10:XK.run G (.cell 10 11) [.agg x.cells]=some (bv x.ct):=nr rfl
@[simp] theorem Sc.SS:XK.run G (.pk (.load 11 true)) [.lptr x.cells]=some (.agg x.cells):=nr rfl
@[simp] theorem Sc.fb:XK.run G (.pk (.fbox 11)) [.agg x.cells]=some (.lptr x.cells):=nr rfl
@[simp] theorem Sc.aK:(D.agg x.cells).aK=true:=nr rfl
@[simp] theorem Sc.ld3:XK.run G (.pk (.load 1 false)) [.lptr (x.cells.drop 3)]=some (iv x.ns):=nr rfl
@[simp] theorem Sc.ld4:XK.run G (.pk (.load 1 false)) [.lptr (x.cells.drop 4)]=some (iv x.ew):=nr rfl
@[simp] theorem Sc.ld9:XK.run G (.pk (.load 1 false)) [.lptr (x.cells.drop 9)]=some (iv x.tp):=nr rfl
@[simp] theorem Sc.ld5:XK.run G (.pk (.load 4 true)) [.lptr (x.cells.drop 5)]=some (.agg [iv x.f0.n,iv x.f0.d,iv x.f1.n,iv x.f1.d]):=nr rfl
theorem L7{l:List Sc}{i:Nat}{x:Sc}(h:l[i]?=some x):XK.run G (.pk (.idx 52 11)) [rQ l,iv (i:Int)]=some (.lptr x.cells):=by
 unfold rQ;rw[wj];simp[h];rfl
theorem HJ{l:List Sc}:XK.run G (.pk .llen) [rQ l]=some (iv (l.length:Int)):=by unfold rQ;rw[Ic];simp
theorem fbF{f:Fq}:XK.run G (.pk (.fbox 2)) [.agg [iv f.n,iv f.d]]=some (.lptr f.cells):=nr rfl
end
variable {H : FP}
theorem LH(hB:Fb H){M T t:Int}{j:Nat}{l:Ln}{g:Fq}(hM:0<M)(ht:1≤t)(hI:FI M T j l)(hg: ∃b,g=red b M∧0≤b∧b≤M*t)(hb:M*(T+t+1)≤1073741824):XK.run (GK H) (.call false 29) [.agg l.pt.cells, .agg g.cells]=some (.tup [.agg (xo l.pt g).cells,iv 0]):=by
 obtain⟨a,e1,e2,e3⟩:=hI.pt;obtain⟨b,f1,f2,f3⟩:=hg;have h3:=hI.t0;have h4:=hI.t1;rw[Int.mul_add,Int.mul_add,Int.mul_one]at hb;have hMT:M*l.tp≤M*T:=Int.mul_le_mul_of_nonneg_left h4 (by omega);have hMt:M*1≤M*t:=Int.mul_le_mul_of_nonneg_left ht (by omega);have hM0:0≤M*T:=Int.mul_nonneg (by omega) (by omega);obtain⟨⟨p1,p2⟩,p3,p4⟩:=xN e2 hM;obtain⟨⟨q1,q2⟩,q3,q4⟩:=xN f2 hM;have o1:=k_ (n:=a) hM;have o2:=k_ (n:=b) hM;rw[e1,f1];have m: ∀x y:Nat,x≤1073741824→y≤1073741824→x*y≤1152921504606846976:=fun x y hx hy=>Nat.mul_le_mul hx hy;have m1:=m (red a M).n.natAbs (red b M).d.natAbs (by omega) (by omega);have m2:=m (red b M).n.natAbs (red a M).d.natAbs (by omega) (by omega);have m3:=m (red a M).d.natAbs (red b M).d.natAbs (by omega) (by omega);exact ao (l25 hB _ _ o1 o2 (by omega) (by omega)) rfl rfl
end Ty
end
section
open Go.RowKit Go.Sort
namespace Ty
variable {H : FP}
structure lO(M:Int)(ks:List Int)(l:List Sc):Prop where
 M0:0<M
 bd:M*(gh l+1)≤1073741824
 all: ∀x∈l,AT M ks x
theorem Fl{M:Int}{ks:List Int}{l:List Sc}(h: ∀x∈l,AT M ks x){j:Nat}{x:Sc}(hx:l[j]?=some x):gh (l.take j)+yn x≤gh l:=by
 have h1:=Fm h (j+1);rw[List.take_add_one,hx,Option.toList_some,uu]at h1;simpa[gh]using h1
theorem Ti{M:Int}{ks:List Int}{l:List Sc}(h:lO M ks l):M≤1073741824∧gh l+1≤1073741824∧0≤gh l:=by
 have h0:=yo h.all;have h1:=h.M0;have h2:=h.bd;have h3:=Int.mul_le_mul_of_nonneg_left (show 1≤gh l+1 by omega) (show 0≤M by omega);have h4:=Int.mul_le_mul_of_nonneg_right (show 1≤M by omega) (show 0≤gh l+1 by omega);omega
theorem MW{M:Int}{ks:List Int}{l:List Sc}(h:lO M ks l)(E:Int→Bool)(p:Int)(hb:(eH (q9 E) l p).bs≠0):(eH (q9 E) l p).XC∧(jD (eH (q9 E) l p)).sh.sm:=by
 have hI:=zR h.M0 h.all E l.length (Nat.le_refl _) p;rw[List.take_length]at hI;obtain⟨m1,m2,m3⟩:=Ti h;obtain⟨a,e1,e2,e3⟩:=hI.pt;have h1:=hI.t1;have h2:=hI.bt hb;have hMt:M*(eH (q9 E) l p).tp≤M*(gh l+1):=Int.mul_le_mul_of_nonneg_left (by omega) (by have:=h.M0;omega);have h3:=h.bd;obtain⟨⟨p1,p2⟩,p3,p4⟩:=xN e2 h.M0;have o1:=k_ (n:=a) h.M0;generalize eH (q9 E) l p=L at*;rw[←e1]at p1 p2 p3 p4 o1;have hd:L.pt.d*L.tp≤M*L.tp:=Int.mul_le_mul_of_nonneg_right p4 (by omega);have hp:0<L.pt.d*L.tp:=Int.mul_pos p3 h2;refine⟨⟨o1,p1,by omega,h2,by omega⟩, ?_⟩;unfold jD;rw[if_neg hb];obtain⟨⟨q1,q2⟩,q3,q4⟩:=xN p1 hp;exact⟨k_ hp,q1,by show(red L.pt.n (L.pt.d*L.tp)).n<_;omega,by show(red L.pt.n (L.pt.d*L.tp)).d<_;omega⟩
theorem abB:(⟨0,1⟩:Fq).sm:=⟨⟨by show(0:Int)<1;decide,rfl⟩,by show(0:Int)≤0;decide,by show(0:Int)<_;decide,by show(1:Int)<_;decide⟩
theorem MX{M:Int}{ks:List Int}{l:List Sc}(h:lO M ks l)(E:Int→Bool)(p:Int):(jD (eH (q9 E) l p)).sh.sm:=by
 by_cases hb:(eH (q9 E) l p).bs=0
 ·unfold jD;rw[if_pos hb,Is];exact abB
 ·exact(MW h E p hb).2
theorem HK{M:Int}{ks:List Int}{l:List Sc}(h:lO M ks l)(E:Int→Bool):Jf fun p=>jD (eH (q9 E) l p) where
 pr p:=by
  have: ∀x:Ln,(jD x).pr=x.pr:=fun x=>by unfold jD;split<;>rfl
  rw[this,Ir]
 ds p:=(MX h E p).1.1
set_option maxHeartbeats 1000000 in
theorem ev5(hB:Fb H){M:Int}{E:Int→Bool}{l:List Sc}{qs:List Int}(h:lO M qs l)(hS:wL (GK H) fun p=>jD (eH (q9 E) l p))(hl:l.length<9999)(hn:qs.Nodup)(h0:qs≠ [])(hql:qs.length<9999)
  (L:List (List D→Option D)) (a0:D) (A:List D) (hA:A.length=21) (x y:D) (hx:x.aK=true) (hy:y.aK=true):
  gV (GK H) 10000 yI L (a0::rQ l::A++ [iv (l.length:Int)]) 10000 [iv 0,x,y,pV (q9 E) qs]=some (D.own (.tup [fN (lD (fun p=>jD (eH (q9 E) l p)) qs),iv 0])):=by
 rw[Pj];have g:=fun i (x:List D)=>List.getElem?_append (l₁:=A) (l₂:=x) (i:=i);refine e6 (S:=Nat) (enc:=fun j=> [iv (j:Int),x,y,pV (eH (q9 E) (l.take j)) qs]) (res:=fun _=>D.own (.tup [fN (lD (fun p=>jD (eH (q9 E) l p)) qs),iv 0])) (mes:=fun j=>l.length-j) (ok:=fun j=>j≤l.length) ?_ 0 (by omega) (by omega);intro rec j hj ih;cases h3:l[j]? with
 |none=>
  have l3:=List.getElem?_eq_none_iff.1 h3;have l3': ¬j<l.length:=by omega
  rw[List.take_of_length_le l3];have k0:XK.run (GK H) (.pm 0 [] 0 0) [pV (eH (q9 E) l) qs]=some (pR (-1) (List.range qs.length)):=Xa;have h6:=ev6 hB.fr (HK h E) hS (fun p hb=>(MW h E p hb).1) (rec::L) (a0::rQ l::A++ [iv (l.length:Int),iv (j:Int),x,y,pV (eH (q9 E) l) qs,bv false,pR (-1) (List.range qs.length)]) (by simp[hA]) x y hx hy qs hn h0 hql;simp[-aq,g,hA,l3',k0];simpa[pV]using h6
 |some z=>
  have l3:=(Gz.1 h3).1;have hz:=h.all z (Lz h3);have ih:=ih (j+1) (by omega) (by omega);have ei:=L7 (G:=GK H) h3;have w1:IntKind.i64.wrap ((j:Int)+1)=(j:Int)+1:=wr (by omega) (by omega);have hI:=zR h.M0 h.all E j hj;have hts:=Fl h.all h3;rw[List.take_add_one,h3,Option.toList_some,tX]at ih;generalize eH (q9 E) (l.take j)=F at ih hI;cases hc:z.ct with
  |false=>
   rw[show ml F z=F by unfold ml;rw[hc];rfl]at ih;simp[-aq,g,hA,l3,ei,hc,w1];simpa using ih
  |true=>
   obtain⟨i1,p1,q1⟩:=G8 (hz.ns hc);obtain⟨i2,p2,q2⟩:=G8 (hz.ew hc);have hts:gh (l.take j)+z.tp≤gh l:=by unfold yn at hts;rwa[hc,if_pos rfl]at hts
   rw[show ml F z=eE (eE F z.ns z.f0 z.tp) z.ew z.f1 z.tp by unfold ml;rw[hc];rfl]at ih;obtain⟨m1,m2,m3⟩:=Ti h;have ht:=hz.tp hc
   have hbd:M*(gh (l.take j)+z.tp+1)≤1073741824:=by
    have:=Int.mul_le_mul_of_nonneg_left (show gh (l.take j)+z.tp+1≤gh l+1 by omega) (show 0≤M by have:=h.M0;omega);have:=h.bd;omega
   have a1:=LH hB h.M0 ht (hI z.ns) (hz.f0 hc) hbd;have hne: ¬z.ew=z.ns:=fun e=>hz.ne hc e.symm;have e1:eE F z.ns z.f0 z.tp z.ew=F z.ew:=by unfold eE;rw[if_neg hne]
   have a2:=LH hB h.M0 ht (hI z.ew) (hz.f1 hc) hbd;obtain⟨A1,B1,s1,s2,s3,s4⟩:=CT (G:=GK H) (F:=F) (f:=z.f0) (t:=z.tp) hn q1;have r1:=fun F=>LJ (G:=GK H) (F:=F) q1;have r2:=F5 (G:=GK H) (F:=F) q1;have r3:=A3 (G:=GK H) (F:=F) q1;have r4:=F4 (G:=GK H) (F:=F) q1;have b1:=(hI z.ns).b0;have b2:=(hI z.ns).b1;have b3:=(hI z.ns).t0;have b4:=(hI z.ns).t1;have c1:=(hI z.ew).b0;have c2:=(hI z.ew).b1;have c3:=(hI z.ew).t0;have c4:=(hI z.ew).t1;generalize eE F z.ns z.f0 z.tp=F1 at*;obtain⟨A2,B2,u1,u2,u3,u4⟩:=CT (G:=GK H) (F:=F1) (f:=z.f1) (t:=z.tp) hn q2;have v1:=fun F=>LJ (G:=GK H) (F:=F) q2;have v2:=F5 (G:=GK H) (F:=F1) q2;have v3:=A3 (G:=GK H) (F:=F1) q2;have v4:=F4 (G:=GK H) (F:=F1) q2;rw[e1]at u1 u2 u3 u4 v2 v3 v4;generalize eE F1 z.ew z.f1 z.tp=F2 at*;have k3:=fun F=>CS (G:=GK H) (F:=F) (qs:=qs) (a:=z.ns);have k4:=fun F=>CS (G:=GK H) (F:=F) (qs:=qs) (a:=z.ew);rw[p1]at k3;rw[p2]at k4;have w2:IntKind.i64.wrap ((F z.ns).bs+1)=(F z.ns).bs+1:=wr (by omega) (by omega);have w3:IntKind.i64.wrap ((F z.ns).tp+z.tp)=(F z.ns).tp+z.tp:=wr (by omega) (by omega);have w4:IntKind.i64.wrap (4611686018427387904-(F z.ns).tp)=4611686018427387904-(F z.ns).tp:=wr (by omega) (by omega);have w5:IntKind.i64.wrap ((F z.ew).bs+1)=(F z.ew).bs+1:=wr (by omega) (by omega);have w6:IntKind.i64.wrap ((F z.ew).tp+z.tp)=(F z.ew).tp+z.tp:=wr (by omega) (by omega);have w7:IntKind.i64.wrap (4611686018427387904-(F z.ew).tp)=4611686018427387904-(F z.ew).tp:=wr (by omega) (by omega);have n1: ¬(4611686018427387904-(F z.ns).tp<z.tp):=by omega
   have n2: ¬(4611686018427387904-(F z.ew).tp<z.tp):=by omega
   simp[-aq,g,hA,l3,ei,hc,w1,k3,k4,fbF,r1,r2,r3,r4,a1,w2,w3,w4,n1,s1,s2,s3,s4];simp[-aq,g,hA,l3,ei,hc,w1,k3,k4,fbF,v1,v2,v3,v4,a2,w5,w6,w7,n2,u1,u2,u3,u4];simpa using ih
end Ty
end
section
open Go.RowKit Go.Sort
namespace Ty
variable {H : FP}
def Fq.right(f:Fq):Bool:=decide (0<f.d)&&decide (Nat.gcd f.n.natAbs f.d.natAbs=1)
def l6(f:Fq)(t:Int):Bool:=f.right&&(decide (0≤f.n)&&decide (f.n≤t*f.d))
def Sc.pg(ks:List Int)(x:Sc):Bool:=decide (x.ns∈ks)&&(decide (x.ew∈ks)&&(decide (x.ns≠x.ew)&&(decide (1≤x.tp)&&(l6 x.f0 x.tp&&l6 x.f1 x.tp))))
def mn(ks:List Int)(l:List Sc):Bool:=l.all fun x=> !x.ct||x.pg ks
structure OJ(x:Sc):Prop where
 f0:x.f0.rg
 f1:x.f1.rg
 tp:x.tp<9223372036854775808
 m0:x.tp.natAbs*x.f0.d.natAbs<18446744073709551616
 m1:x.tp.natAbs*x.f1.d.natAbs<18446744073709551616
theorem xL{a:Int}{qs:List Int}:tE (jg a qs)<0↔a∉qs:=by
 cases h:jg a qs with
 |none=>simp[tE,iE.1 h]
 |some i=>
  have:=Lz (mI h);simp[tE,this]
theorem DJ(hF:Fr H)(f:Fq)(hr:f.rg):XK.run (GK H) (.call false 71) [.agg [iv f.n,iv f.d]]=some (bv f.right):=ao (l62 hF f hr) rfl rfl
theorem LM(hF:Fr H)(f:Fq)(t:Int)(hr:f.rg)(ho:f.right=true)(ht:1≤t)(ht2:t<9223372036854775808)(hm:t.natAbs*f.d.natAbs<18446744073709551616):XK.run (GK H) (.call false 33) [.agg [iv f.n,iv f.d], .agg [iv t,iv 1]]=some (.tup [iv (cI f.n (t*f.d)),iv 0]):=by
 have hok:f.ok:=by unfold Fq.right at ho;simp at ho;exact ho
 have h1:(⟨t,1⟩:Fq).ok:=⟨by show(0:Int)<1;decide,by simp⟩;have h2:(⟨t,1⟩:Fq).rg:=⟨⟨by show _≤t;omega,ht2⟩,by show _≤(1:Int);omega,by show(1:Int)<_;omega⟩;have h3:=hr.1;have:=l33 hF f ⟨t,1⟩ hok h1 hr h2 (by show f.n.natAbs*1<_;omega) hm;unfold lH at this;rw[show f.n*(⟨t,1⟩:Fq).d=f.n from Int.mul_one _]at this;exact ao this rfl rfl
section
variable {G : FP}
theorem ZL{a b c d:D}(h1:a.aN=true)(h2:b.aN=true):XK.run G (.pk (.aix 2 2 true)) [.agg [a,b,c,d],iv 0]=some (.agg [a,b]):=by
 show(if D.aK (.agg [a,b])=true then _ else _)=_;rw[if_pos (by simp[h1,h2])];rfl
theorem ZM{a b c d:D}(h1:c.aN=true)(h2:d.aN=true):XK.run G (.pk (.aix 2 2 true)) [.agg [a,b,c,d],iv 1]=some (.agg [c,d]):=by
 show(if D.aK (.agg [c,d])=true then _ else _)=_;rw[if_pos (by simp[h1,h2])];rfl
end
theorem CV{a b:Int}:0<cI a b↔b<a:=by unfold cI;repeat' split<;>omega
set_option maxHeartbeats 1000000 in
theorem ev3(hF:Fr H){l:List Sc}{F:Int→Ln}{qs:List Int}{R:D}(hl:l.length<9999)(hB: ∀x∈l,OJ x)
  (L:List (List D→Option D)) (a0:D) (A:List D) (hA:A.length=15) (x y:D) (hx:x.aK=true) (hy:y.aK=true)
  (h1:mn qs l=true→ ∀(L:List (List D→Option D)) (A:List D),A.length=21→gV (GK H) 10000 yI L (a0::rQ l::A++ [iv (l.length:Int)]) 10000 [iv 0,x,y,pV F qs]=some R) (h2:mn qs l=false→R=D.own (.tup [.list [],iv 330])):
  gV (GK H) 10000 CL L (a0::rQ l::A++ [pV F qs,iv (l.length:Int)]) 10000 [iv 0,x,y]=some R:=by
 rw[Pg];have g:=fun i (x:List D)=>List.getElem?_append (l₁:=A) (l₂:=x) (i:=i);refine e6 (S:=Nat) (enc:=fun j=> [iv (j:Int),x,y]) (res:=fun _=>R) (mes:=fun j=>l.length-j) (ok:=fun j=>j≤l.length∧mn qs (l.take j)=true) ?_ 0 ⟨by omega,rfl⟩ (by omega);rintro rec j ⟨hj,hr⟩ ih;cases h3:l[j]? with
 |none=>
  have l3:=List.getElem?_eq_none_iff.1 h3;have l3': ¬j<l.length:=by omega
  rw[List.take_of_length_le l3]at hr;have h5:=h1 hr (rec::L) (A++ [pV F qs,iv (l.length:Int),iv (j:Int),x,y,bv false]) (by simp[hA]);simp[-aq,g,hA,l3',HJ];simpa using h5
 |some z=>
  have l3:=(Gz.1 h3).1;have hz:=hB z (Lz h3);have ei:=L7 (G:=GK H) h3;have w1:IntKind.i64.wrap ((j:Int)+1)=(j:Int)+1:=wr (by omega) (by omega);have ih:=fun h=>ih (j+1) ⟨by omega,h⟩ (by omega);rw[List.take_add_one,h3,Option.toList_some]at ih
  have hsn:mn qs (l.take j++ [z])=(!z.ct||z.pg qs):=by
   unfold mn at hr⊢;rw[List.all_append,hr];simp
  rw[hsn]at ih
  have hno:z.ct=true→z.pg qs=false→R=D.own (.tup [.list [],iv 330]):=fun a b=>h2 (by
   unfold mn;rw[List.all_eq_false]
   exact⟨z,Lz h3,by simp[a,b]⟩)
  cases hc:z.ct with
  |false=>
   have ih:=ih (by simp[hc]);simp[-aq,g,hA,l3,ei,hc,w1];simpa using ih
  |true=>
   have ih:=fun h:z.pg qs=true=>ih (by rw[h];simp);have hno:=hno hc;have k3:=CS (G:=GK H) (F:=F) (qs:=qs) (a:=z.ns);have k4:=CS (G:=GK H) (F:=F) (qs:=qs) (a:=z.ew);by_cases hn:z.ns∈qs
   ·have n3: ¬tE (jg z.ns qs)<0:=fun h=>xL.1 h hn;by_cases hw:z.ew∈qs
    ·have n4: ¬tE (jg z.ew qs)<0:=fun h=>xL.1 h hw;by_cases he:z.ns=z.ew
     ·have hr:=hno (by simp[Sc.pg,he]);simp[-aq,g,hA,l3,ei,hc,w1,k3,k4,n3,n4,he];rw[hr];rfl
     ·by_cases ht:z.tp<1
      ·have hr:=hno (by simp[Sc.pg];omega);simp[-aq,g,hA,l3,ei,hc,w1,k3,k4,n3,n4,he,ht];rw[hr];rfl
      ·simp[-aq,g,hA,l3,ei,hc,w1,k3,k4,n3,n4,he,ht];have d0:=ZL (G:=GK H) (a:=iv z.f0.n) (b:=iv z.f0.d) (c:=iv z.f1.n) (d:=iv z.f1.d) rfl rfl;have d1:=ZM (G:=GK H) (a:=iv z.f0.n) (b:=iv z.f0.d) (c:=iv z.f1.n) (d:=iv z.f1.d) rfl rfl;have e0:=DJ hF z.f0 hz.f0;have e1:=DJ hF z.f1 hz.f1;have nr0:XK.run (GK H) .aj [.agg [iv z.f0.n,iv z.f0.d]]=some (.agg [iv z.f0.n,iv z.f0.d]):=rfl;have nr1:XK.run (GK H) .aj [.agg [iv z.f1.n,iv z.f1.d]]=some (.agg [iv z.f1.n,iv z.f1.d]):=rfl;have ce0:XK.run (GK H) (.cell 0 2) [.agg [iv z.f0.n,iv z.f0.d]]=some (iv z.f0.n):=rfl;have ce1:XK.run (GK H) (.cell 0 2) [.agg [iv z.f1.n,iv z.f1.d]]=some (iv z.f1.n):=rfl;have cz: ∀v:Int,XK.run (GK H) (.cell 0 1) [iv v]=some (iv v):=fun v=>rfl;rw[Ph,Zi];by_cases r0:z.f0.right=true
       ·by_cases s0:z.f0.n<0
        ·have hr:=hno (by simp[Sc.pg,l6];intros;omega);simp[-aq,g,hA,d0,e0,nr0,ce0,r0,s0,ei,hc];rw[hr];rfl
        ·have c0:=LM hF z.f0 z.tp hz.f0 r0 (by omega) hz.tp hz.m0;by_cases q0:z.tp*z.f0.d<z.f0.n
         ·have hr:=hno (by simp[Sc.pg,l6];intros;omega);have q0':=CV.2 q0;simp[-aq,g,hA,d0,e0,nr0,ce0,r0,s0,ei,hc,cz,c0,q0'];rw[hr];rfl
         ·have q0': ¬0<cI z.f0.n (z.tp*z.f0.d):=fun h=>q0 (CV.1 h);simp[-aq,g,hA,d0,e0,nr0,ce0,r0,s0,ei,hc,cz,c0,q0'];rw[SU];by_cases r1:z.f1.right=true
          ·by_cases s1:z.f1.n<0
           ·have hr:=hno (by simp[Sc.pg,l6];intros;omega);simp[-aq,g,hA,d1,e1,nr1,ce1,r1,s1,ei,hc];rw[hr];rfl
           ·have c1:=LM hF z.f1 z.tp hz.f1 r1 (by omega) hz.tp hz.m1;by_cases q1:z.tp*z.f1.d<z.f1.n
            ·have hr:=hno (by simp[Sc.pg,l6];intros;omega);have q1':=CV.2 q1;simp[-aq,g,hA,d1,e1,nr1,ce1,r1,s1,ei,hc,cz,c1,q1'];rw[hr];rfl
            ·have q1': ¬0<cI z.f1.n (z.tp*z.f1.d):=fun h=>q1 (CV.1 h);have ih:=ih (by simp[Sc.pg,l6,hn,hw,he,r0,r1];omega);simp[-aq,g,hA,d1,e1,nr1,ce1,r1,s1,ei,hc,cz,c1,q1'];rw[Ja];simp[-aq,g,hA,w1];simpa using ih
          ·have hr:=hno (by simp[Sc.pg,l6,r1]);simp[-aq,g,hA,d1,e1,nr1,ce1,r1,ei,hc];rw[hr];rfl
       ·have hr:=hno (by simp[Sc.pg,l6,r0]);simp[-aq,g,hA,d0,e0,nr0,ce0,r0,ei,hc];rw[hr];rfl
    ·have n4:tE (jg z.ew qs)<0:=xL.2 hw;have hr:=hno (by simp[Sc.pg,hw]);simp[-aq,g,hA,l3,ei,hc,w1,k3,k4,n3,n4];rw[hr];rfl
   ·have n3:tE (jg z.ns qs)<0:=xL.2 hn;have hr:=hno (by simp[Sc.pg,hn]);simp[-aq,g,hA,l3,ei,hc,w1,k3,k4,n3];rw[hr];rfl
end Ty
end
section
open Go.RowKit Go.Sort
namespace Ty
variable {H : FP}
theorem wv{ks qs:List Int}(h:qs.Perm ks)(l:List Sc):mn qs l=mn ks l:=by
 have: ∀x:Sc,x.pg qs=x.pg ks:=fun x=>by
  unfold Sc.pg;rw[show decide (x.ns∈qs)=decide (x.ns∈ks)from decide_eq_decide.2 h.mem_iff,show decide (x.ew∈qs)=decide (x.ew∈ks)from decide_eq_decide.2 h.mem_iff]
 unfold mn;simp only[this]
theorem B5{M:Int}{ks qs:List Int}(h:qs.Perm ks){l:List Sc}(hk:lO M ks l):lO M qs l:=
 ⟨hk.M0,hk.bd,fun x hx=>⟨fun c=>h.mem_iff.2 ((hk.all x hx).ns c),fun c=>h.mem_iff.2 ((hk.all x hx).ew c),(hk.all x hx).ne,(hk.all x hx).tp,(hk.all x hx).f0,(hk.all x hx).f1⟩⟩
theorem BW{F:Int→Ln}(hF:Jf F){ps qs:List Int}(h:qs.Perm ps):lD F qs=lD F ps:=by
 unfold lD;rw[wA hF h]
def fG(s:Ss)(l:List Sc):D:=if mn s.au.1 l=true then D.own (.tup [fN (HI s.au.2 s.au.1 l),iv 0])else D.own (.tup [.list [],iv 330])
def AU(G:FP):Prop:= ∀F:Int→Ln,Jf F→(∀p,(F p).sh.sm)→wL G F
theorem ev2(hB:Fb H)(hS:AU (GK H))(s:Ss)(l:List Sc)(hr:s.rows.length<4999)(h0:s.au.1≠ [])(hl:l.length<9999)(hb: ∀x∈l,OJ x)(hg:mn s.au.1 l=true→ ∃M,lO M s.au.1 l)
  (L:List (List D→Option D)) (a0:D) (A B:List D) (hA:A.length=11) (hBl:B.length=1):
  gV (GK H) 10000 CK L (a0::rQ l::A++Ar s.au::B++ [pR (-1) (List.range s.au.1.length)]) 10000 [pR (-1) (List.range s.au.1.length), .list []]=some (fG s l):=by
 rw[Pf];have g:=fun i (x:List D)=>List.getElem?_append (l₁:=A) (l₂:=x) (i:=i);have gB:=fun i (x:List D)=>List.getElem?_append (l₁:=B) (l₂:=x) (i:=i);have hsl:=s.B6;have hsn:=s.It;refine e6 (S:=List Int×Int×List Nat) (enc:=fun q=> [pR q.2.1 q.2.2,pV (q9 s.au.2) q.1]) (res:=fun _=>fG s l) (mes:=fun q=>q.2.2.length) (ok:=fun q=>(q.1++q.2.2.map fun i=>s.au.1.getD i 0).Perm s.au.1∧ ∀i∈q.2.2,i<s.au.1.length) ?_ ([],-1,List.range s.au.1.length) ⟨by rw[List.nil_append,iX],fun i hi=>List.mem_range.1 hi⟩ (by simp;omega);rintro rec ⟨out,z,is⟩ ⟨hp,hb2⟩ ih
 replace hp:(out++is.map fun i=>s.au.1.getD i 0).Perm s.au.1:=hp
 replace hb2: ∀i∈is,i<s.au.1.length:=hb2
 have hol:out.length≤s.au.1.length:=by
  have:=hp.length_eq;simp at this;omega
 simp[g,gB,hA,hBl];refine wN (fun he=> ?_) (fun k i hi=> ?_)
 ·subst he;simp at hp;have hon:out≠ []:=fun e=>h0 (by subst e;exact hp.symm.eq_nil)
  have h3:=ev3 (H:=H) hB.fr (l:=l) (F:=q9 s.au.2) (qs:=out) (R:=fG s l) hl hb (rec::L) a0 (A++Ar s.au::(B++ [pR (-1) (List.range s.au.1.length),pR z []])) (by simp[hA,hBl]) (iv 0) .nilmap rfl rfl
   (fun hok L A hA=>by
    rw[wv hp]at hok;obtain⟨M,hM⟩:=hg hok;have hF:=HK hM s.au.2;have h5:=ev5 (H:=H) hB (M:=M) (E:=s.au.2) (l:=l) (qs:=out) (B5 hp hM) (hS _ hF fun p=>MX hM _ p) hl (hp.nodup_iff.2 hsn) hon (by omega) L a0 A hA (iv 0) .nilmap rfl rfl;rw[BW hF hp]at h5;rw[h5];unfold fG HI
    rw[if_pos hok])
   (fun hno=>by
    rw[wv hp]at hno;unfold fG
    rw[if_neg (by rw[hno];simp)])
  simp[-aq,g,gB,hA,hBl,HJ];simpa using h3
 ·have hil:=hb2 i (Lz hi);have hpi:=xr hil;have ih:=ih (out++ [s.au.1.getD i 0],i,is.eraseIdx k) ⟨kE hi hp,fun x hx=>hb2 x (List.mem_of_mem_eraseIdx hx)⟩ (sF hi)
  have hno:s.au.1.getD i 0∉out:=by
   have h1:=(kE hi hp).nodup_iff.2 hsn;have h2:=(List.nodup_append.1 (List.nodup_append.1 h1).1).2.2;exact fun hm=>h2 _ hm _ (by simp) rfl
  have k1:XK.run (GK H) (.pm 1 [] 0 0) [Ar s.au,iv (i:Int)]=some (iv (s.au.1.getD i 0)):=Rh hpi;have k2:XK.run (GK H) (.pm 2 [] 0 0) [Ar s.au,iv (i:Int)]=some (bv (s.au.2 (s.au.1.getD i 0))):=Xb hpi rfl;generalize s.au.1.getD i 0=p at*
  have k7:XK.run (GK H) (.pm 7 [3] 0 0) [pV (q9 s.au.2) out,iv p, .agg [iv p,iv 0,bv (s.au.2 p),iv 0,iv 0,iv 0,iv 1,iv 0,iv 1]]=some (pV (q9 s.au.2) (out++ [p])):=by
   unfold pV;rw[abn rfl (by omega) hno];congr 2;funext q;by_cases hq:q=p
   ·subst hq;rw[if_pos rfl];rfl
   ·rw[if_neg hq]
  have cz: ∀v:Int,XK.run (GK H) (.cell 0 1) [iv v]=some (iv v):=fun v=>rfl;have cb: ∀v:Bool,XK.run (GK H) (.cell 0 1) [bv v]=some (bv v):=fun v=>rfl;simp[-aq,g,gB,hA,hBl,k1,k2,cz,cb,k7];simpa using ih
theorem Z6(hB:Fb H)(hS:AU (GK H))(s:Ss)(l:List Sc)(hr:s.rows.length<4999)(h0:s.au.1≠ [])(hl:l.length<9999)(hb: ∀x∈l,OJ x)(hg:mn s.au.1 l=true→ ∃M,lO M s.au.1 l)
  (Dc:XK.run (GK H) (.call false 46) [.agg s.cells]=some (iv 0)):aa (GK H) 10000 La [] [.agg s.cells,rQ l]=some (fG s l):=by
 rw[Yk];have kz: ∀v:Int,XK.run (GK H) .eV [iv v]=some (iv v):=fun v=>rfl;simp[Dc,Vf,Kf,kz];refine e6 (S:=Nat) (enc:=fun j=> [iv (j:Int),Ar (fY s.wn (s.rows.take j))]) (res:=fun _=>fG s l) (mes:=fun j=>s.rows.length-j) (ok:=fun j=>j≤s.rows.length) ?_ 0 (by omega) (by omega);intro rec j hj ih;rw[Pd];cases h3:s.rows[j]? with
 |none=>
  have l3:=List.getElem?_eq_none_iff.1 h3;have l3': ¬(j:Int)<s.rows.length:=by omega
  rw[List.take_of_length_le l3];show aa (GK H) 10000 _ _ (_++ [iv (j:Int),Ar s.au])=_;have k0:XK.run (GK H) (.pm 0 [] 0 0) [Ar s.au]=some (pR (-1) (List.range s.au.1.length)):=Rf;simp[l3',k0];exact ev2 hB hS s l hr h0 hl hb hg [rec] (.agg s.cells) [.lptr s.cells,iv 0,bv false, .agg s.cells, .lptr s.cells, .agg s.cells, .lptr s.cells, .agg (⟨s.tb,s.rs,s.ss,s.cp,s.wn,s.rows⟩:Mv).cells, .lptr s.cells,iv (s.rows.length:Int),iv (j:Int)] [bv false] rfl rfl
 |some r=>
  have l3:=(Gz.1 h3).1;have e3:=(Gz.1 h3).2;have ih:=ih (j+1) (by omega) (by omega);have hlen:=ja s.wn s.rows j hj;rw[List.take_add_one,h3,Option.toList_some,jx]at ih;generalize fY s.wn (s.rows.take j)=st at ih hlen;simp[l3,e3,-aq];have w1:IntKind.i64.wrap ((j:Int)+1)=(j:Int)+1:=wr (by omega) (by omega);have hl1:=mT st r.ns false;unfold Al at ih;rw[Pe,Zi];by_cases h1:0<r.ns∧r.ns∉st.1
  ·simp[-aq,gS,h1,qc (G:=GK H) (b:=false) (show st.1.length<65536 by omega) h1.2 h1.1];generalize i_ st r.ns false=st1 at ih hl1;rw[SU];by_cases h2:0<r.ew∧r.ew∉st1.1
   ·simp[-aq,gS,h2,qc (G:=GK H) (b:=decide (s.wn=2)) (show st1.1.length<65536 by omega) h2.2 h2.1];rw[Ja];simp[-aq,w1];exact ih
   ·rw[qb h2]at ih;simp[-aq,gS,h2];rw[Ja];simp[-aq,w1];exact ih
  ·rw[qb h1]at ih hl1;simp[-aq,gS,h1];rw[SU];by_cases h2:0<r.ew∧r.ew∉st.1
   ·simp[-aq,gS,h2,qc (G:=GK H) (b:=decide (s.wn=2)) (show st.1.length<65536 by omega) h2.2 h2.1];rw[Ja];simp[-aq,w1];exact ih
   ·rw[qb h2]at ih;simp[-aq,gS,h2];rw[Ja];simp[-aq,w1];exact ih
end Ty
end
section
namespace Ty
theorem PE:wM Tryz.prog 61 [.list [], .clo 62 []] (.tup []):=by
 refine .inr ⟨⟨Tryz.f61,Tryz.func61,rfl,by kernel_rfl⟩,fun w pr cargs hpr hG hr=> ?_⟩
 have key: ∀(p:Option Addr) (cap:Nat) (fv:Value),cargs= #[.slice p 0 cap,fv]→Calls Tryz.prog 61 cargs w fun e w'=> ∃v pr',e= .returned v∧cW (fun _=>False) w w'∧(∀b o,pr b o→pr' b o)∧(∀b o,pr' b o→pr b o∨(w.heap.size≤b∧b<w'.heap.size))∧ai w' pr' aI v (.tup []):=fun p cap fv hc=>by
  subst hc;refine(AnyF.slices_SortFunc_none Tryz.wy p cap fv w).mono ?_;rintro e w' ⟨rfl,rfl⟩;exact⟨_,pr,rfl,cW.refl _ _,fun _ _ h=>h,fun _ _ h=> .inl h, .tup rfl fun i c x h=>by simp at h⟩
 obtain⟨l⟩:=cargs
 match l,hr with
 | [a,f],⟨h1,_⟩=>
  generalize hd:D.list []=d at h1;cases h1<;>first|(cases hd;done)|skip
  ·exact key none 0 f rfl
  ·exact key _ _ f rfl
  ·injection hd with hd
   subst hd;exact key _ _ f rfl
def kg:FP:=fun f ds=>if f=1000061 then(match ds with
  | [.list es, .clo 62 []]=>if es.all vM=true∧es.length<65536 then some (.tup [.tup [], .list (cL (ES SL) es)])else none
  |_=>none)else aR f ds
theorem jn:Sound Tryz.prog (bg kg) where
 p f ds d hlt h:=by
  have h:kg f ds=some d:=h;unfold kg at h;rw[if_neg (by omega)]at h;exact fS.p f ds d hlt h
 e k f ds r hf h6 h:=by
  replace h:kg (1000000+(1000000*k+f)) ds=some r:=h
  unfold kg at h;split at h
  ·rename_i he;have hk:k=0:=by omega
   have hf7:f=61:=by omega
   rw[hk,hf7];split at h
   ·rename_i es;split at h<;>cases h;rename_i hc;exact⟨es,_,_,rfl,rfl,JE (fun _=>PE) (fun x hx=>Tz.1 hc.1 x hx) (by omega)⟩
   ·cases h
  ·exact fS.e k f ds r hf h6 h
 q e f ds r hf h:=by
  obtain⟨d,hd,rfl⟩:=Mz.1 (show(kg (1000001000000+(1000000*e+f)) ds).map _=some r from h);unfold kg at hd;rw[if_neg (by omega)]at hd;exact fS.q e f ds _ hf (show Option.map _ _=_ by rw[hd];rfl)
theorem zw:Fr kg:=fun f ds h h1=>by unfold kg;rw[if_neg (by omega)];exact C7 f ds h h1
end Ty
end
section
open Go.RowKit Go.Lib Go.Sort Go.Shelf
theorem JY{P:Program}{ρ:Shelf.Ren}(L:Lays.n189 P ρ)(hb:cX P (ρ.f 189)){zs:List Int}(hlen:zs.length<4611686018427387904):
  OL P 0 (ρ.f 189) [.list (zs.map fun z=> [iv z])] (zs.map fun z=> [iv z]) ((zs.mergeSort fun x y=>decide (x≤y)).map fun z=> [iv z]) (.tup []):=by
 refine⟨hb,by simp,fun w pr cargs hpr hG hcs UC=> ?_⟩
 have two: ∀v,cargs[0]?=some v→cargs= #[v]:=fun v hv=>by
  obtain⟨l⟩:=cargs
  match l,hcs with
  | [a],_=>simp at hv;rw[hv]
 refine⟨fun he hk=> ?_,fun b cap t C hnb iT hle jB hCs gO hk=> ?_⟩
 ·rw[two _ hk];refine(Any.slices_Sort_int_none L none 0 w).mono ?_;rintro e w' ⟨rfl,rfl⟩;exact⟨_,pr,rfl,cW.refl _ _,fun _ _ h=>h,fun _ _ h=> .inl h, .tup rfl fun i c x h=>by simp at h⟩
 rw[two _ hk];have hbs:b<w.heap.size:=(Array.getElem?_eq_some_iff.1 iT).1
 have hkt:zs≠ []→P.cellsOf t=1:=fun hne=>by
  cases zs with
  |nil=>exact absurd rfl hne
  |cons x r=>exact(gO.1 [iv x] (by simp)).symm
 have hH:Holds (Value.int .i64) w b 0 zs.toArray:=fun j hj=>by
  have hj:j<zs.length:=by simpa using hj
  have hk:=hkt (by rintro rfl;simp at hj);obtain⟨u,h1,h2,h3⟩:=gO.2 j [iv zs[j]] (by simp[hj]) 0 _ rfl;obtain⟨hu,_⟩:=aP.1 h3;rw[hk,Nat.mul_one,Nat.add_zero]at h1;refine⟨?_,by simp[World.frozen?,iT]⟩;rw[getElem!_pos zs.toArray j (by simpa using hj),Nat.zero_add,cell_of_row w b _ C t (0,0) iT,h1,hu];simp
 have law:=Any.slices_Sort_int L b 0 cap zs w hH hbs hlen;have hsl:(zs.mergeSort fun x y=>decide (x≤y)).length=zs.length:=List.length_mergeSort _;generalize(zs.mergeSort fun x y=>decide (x≤y))=l' at law hsl;simp only[List.length_map];refine law.mono ?_;rintro e w' ⟨rfl,n,os,rfl⟩
 have Br:(grow (putRow (Value.int .i64) (Sort.ahead w n) b 0 l'.toArray) os).heap[b]?=some (.cells (Sort.putCells (Value.int .i64) 0 l'.toArray C) t (0,0)):=by
  rw[heap_grow_old _ _ (by simpa[putRow,mapBlock,Sort.ahead]using hbs)];simp[putRow,mapBlock,Array.getElem?_modify,Sort.ahead,iT,onCells]
 have oE:w.heap.size≤(grow (putRow (Value.int .i64) (Sort.ahead w n) b 0 l'.toArray) os).heap.size:=by simp[grow,putRow,mapBlock,Sort.ahead]
 refine⟨_,pr,Sort.putCells (Value.int .i64) 0 l'.toArray C,rfl,⟨rfl,rfl,rfl,oE,fun b' hb' hne=> ?_, ?_⟩,fun _ _ h=>h,fun _ _ h=> .inl h, .tup rfl (fun i c x h=>by simp at h),Br,by simp[Sort.putCells], ?_, ?_⟩
 ·rw[heap_grow_old _ _ (by simpa[putRow,mapBlock,Sort.ahead]using hb')];have:b≠b':=fun e=>hne e.symm;simp[putRow,mapBlock,Array.getElem?_modify,this,Sort.ahead]
 ·simp[grow,putRow,mapBlock,Sort.ahead]
 ·intro c hc;obtain⟨x,hx,rfl⟩:=List.mem_map.1 hc;exact(hkt (by rintro rfl;simp at hsl;simp[hsl]at hx)).symm
 ·intro i c hc j d hd;simp only[Dz,Mz]at hc;obtain⟨x,hx,rfl⟩:=hc;have hi:i<l'.length:=(Gz.1 hx).1
  have hj:j=0:=by
   have:=(Gz.1 hd).1;simpa using this
  subst hj;have hne:zs≠ []:=by rintro rfl;simp at hsl;simp[hsl]at hi
  have hk:=hkt hne
  have hCl:i<C.size:=by
   rw[hCs,hk];simp at hle;omega
  simp at hd;subst hd;refine⟨.int .i64 x, ?_,rfl, .v rfl⟩;rw[hk,Nat.mul_one,Nat.add_zero];simp only[Sort.putCells,Array.getElem?_mapIdx,Rz hCl,Pz];rw[if_pos ⟨Nat.zero_le _,by simpa using hi⟩,Nat.sub_zero,getElem!_pos l'.toArray i (by simpa using hi)];simp only[List.getElem_toArray];rw[(Gz.1 hx).2]
end
noncomputable section
open Go.RowKit Go.Sort
namespace Ty
def PA:List D→Option Ln:=
 tI .i64 fun pr=>tI .i64 fun pl=>tB fun ew=>tI .i64 fun bs=>tI .i64 fun tp=>tI .i64 fun pn=>tI .i64 fun pd=>tI .i64 fun sn=>tI .i64 fun sd=>RH ⟨pr,pl,ew,bs,tp,⟨pn,pd⟩,⟨sn,sd⟩⟩
theorem A8(x:Ln):PA x.cells=some x:=rfl
def SM(l m:List D):Int:=match PA l,PA m with
 |some e,some x=>e.cmp x
 |_,_=>0
theorem iB(e x:Ln):SM e.cells x.cells=e.cmp x:=by simp[SM,A8]
structure Th(F:Int→Ln):Prop where
 f:Jf F
 s: ∀p,(F p).sh.sm
open Classical in
def oy(F:Int→Ln)(x:List D):Bool:=decide (∃p,x=(F p).cells)
theorem dD{F:Int→Ln}{x:List D}(h:oy F x=true): ∃p,x=(F p).cells:=by simpa[oy]using h
theorem sP{F:Int→Ln}{p:Int}:oy F (F p).cells=true:=by simp[oy];exact⟨p,rfl⟩
theorem Kj{F:Int→Ln}(hF:Th F):wK Tryz.prog 50 9 (oy F) SM where
 len x h:=by obtain⟨p,rfl⟩:=dD h;rfl
 pl x h d hd:=by
  obtain⟨p,rfl⟩:=dD h;have:(F p).cells.all jG=true:=rfl;exact Tz.1 this d hd
 ok x y hx hy:=by
  obtain⟨p,rfl⟩:=dD hx;obtain⟨q,rfl⟩:=dD hy;rw[iB];exact((jO (C:=cx) (N:=10000) rfl jn l_).p 50 _ _ (by decide) (l50 zw (F p) (F q) (hF.s p) (hF.s q))).1
 body:=⟨Tryz.f50,Tryz.func50,rfl,by kernel_rfl⟩
 lt:=by decide
 irrefl x h:=by
  obtain⟨p,rfl⟩:=dD h;rw[iB];exact vU _
 trans x y z hx hy hz:=by
  obtain⟨a,rfl⟩:=dD hx;obtain⟨b,rfl⟩:=dD hy;obtain⟨c,rfl⟩:=dD hz;simp only[iB];exact zS (hF.f.ds _) (hF.f.ds _) (hF.f.ds _)
 ntrans x y z hx hy hz:=by
  obtain⟨a,rfl⟩:=dD hx;obtain⟨b,rfl⟩:=dD hy;obtain⟨c,rfl⟩:=dD hz;simp only[iB];exact vV (hF.f.ds _) (hF.f.ds _) (hF.f.ds _)
 anti x y hx hy:=by
  obtain⟨a,rfl⟩:=dD hx;obtain⟨b,rfl⟩:=dD hy;simp only[iB];intro h k;have:=Dn h k;rw[hF.f.pr,hF.f.pr]at this;rw[this]
theorem HG {F : Int → Ln} (hF : Th F) {es : List (List D)} (hne : es ≠ []) (hes : ∀ x ∈ es, oy F x = true) (hlen : es.length < 4611686018427387904) : OL Tryz.prog 0 54 [.list es, .clo 50 []] es (cL (ES SM) es) (.tup []) :=
  (Kj hF).sort (ρ := Tryz.oZ) Tryz.Iz (fun w => by rfl) (fun w => by rfl) ⟨Tryz.f54, Tryz.func54, rfl, by kernel_rfl⟩ (x0 := (F 0).cells) sP hes hlen (fun h => absurd h hne)
def intOf:List D→Int
 | [.v (.int .i64 z)]=>z
 |_=>0
def EC:List D→Bool
 | [.v (.int .i64 _)]=>true
 |_=>false
theorem JZ{es:List (List D)}(h:es.all EC=true):es=(es.map intOf).map fun z=> [iv z]:=by
 rw[List.map_map]
 conv=>lhs;rw[←List.map_id es]
 refine List.map_congr_left fun c hc=> ?_;have:=Tz.1 h c hc;unfold EC at this;split at this
 ·rfl
 ·cases this
theorem EB{es:List (List D)}(h:es.all EC=true)(hl:es.length<65536):OL Tryz.prog 0 48 [.list es] es ((lE (es.map intOf)).map fun z=> [iv z]) (.tup []):=by
 have:=JY (ρ:=Tryz.qL) Tryz.sortInt ⟨Tryz.f48,Tryz.func48,rfl,by kernel_rfl⟩ (zs:=es.map intOf) (by simp;omega);rw[zV,←JZ h]at this;exact this
open Classical in
def bJ:FP:=fun f ds=>if f=1000054 then(match ds with
  | [.list es, .clo 50 []]=>if(∃F,Th F∧ ∀x∈es,oy F x=true)∧es.isEmpty=false∧es.length<65536 then some (.tup [.tup [], .list (cL (ES SM) es)])else none
  |_=>none)else if f=1000048 then(match ds with
  | [.list es]=>if es.all EC=true∧es.length<65536 then some (.tup [.tup [], .list ((lE (es.map intOf)).map fun z=> [iv z])])else none
  |_=>none)else kg f ds
theorem qD:Sound Tryz.prog (bg bJ) where
 p f ds d hlt h:=by
  have h:bJ f ds=some d:=h;unfold bJ at h;rw[if_neg (by omega),if_neg (by omega)]at h;exact jn.p f ds d hlt h
 e k f ds r hf h6 h:=by
  replace h:bJ (1000000+(1000000*k+f)) ds=some r:=h
  unfold bJ at h;split at h
  ·rename_i he;have hk:k=0:=by omega
   have hf7:f=54:=by omega
   rw[hk,hf7];split at h
   ·rename_i es;split at h<;>cases h;rename_i hc;obtain⟨⟨F,hF,hg⟩,h1,h2⟩:=hc;exact⟨es,_,_,rfl,rfl,HG hF (fun e=>by rw[e]at h1;cases h1) hg (by omega)⟩
   ·cases h
  ·split at h
   ·rename_i he;have hk:k=0:=by omega
    have hf7:f=48:=by omega
    rw[hk,hf7];split at h
    ·rename_i es;split at h<;>cases h;rename_i hc;exact⟨es,_,_,rfl,rfl,EB hc.1 hc.2⟩
    ·cases h
   ·exact jn.e k f ds r hf h6 h
 q e f ds r hf h:=by
  obtain⟨d,hd,rfl⟩:=Mz.1 (show(bJ (1000001000000+(1000000*e+f)) ds).map _=some r from h);unfold bJ at hd;rw[if_neg (by omega),if_neg (by omega)]at hd;exact jn.q e f ds _ hf (show Option.map _ _=_ by rw[hd];rfl)
theorem GB:Fr bJ:=fun f ds h h1=>by unfold bJ;rw[if_neg (by omega),if_neg (by omega)];exact zw f ds h h1
structure Sr(H:FP):Prop where
 fb:Fb H
 k54: ∀ds,H 1000054 ds=bJ 1000054 ds
 k48: ∀ds,H 1000048 ds=bJ 1000048 ds
variable {H : FP}
theorem abC(hH:Sr H):FJ (GK H):=fun l hl=>by
 have h1:GK H 1000048 [bY l]=some (.tup [.tup [],bY (lE l)]):=by
  refine dL ?_;rw[hH.k48];unfold bJ bY;rw[if_neg (by decide),if_pos rfl];have e1:(l.map fun z=> [iv z]).all EC=true:=by rw[Tz];intro x hx;obtain⟨e,_,rfl⟩:=List.mem_map.1 hx;rfl
  have e2:(l.map fun z=> [iv z]).map intOf=l:=by
   rw[List.map_map]
   conv=>rhs;rw[←List.map_id l]
   exact List.map_congr_left fun c _=>rfl
  show(if(l.map fun z=> [iv z]).all EC=true∧(l.map fun z=> [iv z]).length<65536 then _ else none)=_;rw[if_pos ⟨e1,by simpa using hl⟩,e2]
 have hlen:=(b9 (fun a b:Int=>decide (a<b)) l).length_eq;show(if([bY l].set 0 .nil).all D.aK=true∧48<1000000 then(GK H (1000000+(1000000*0+48)) [bY l]).bind _ else none)=_;rw[if_pos ⟨rfl,by omega⟩,show 1000000+(1000000*0+48)=1000048 from rfl,h1,Oz];show(if D.aK (.tup [])=true∧((lE l).map fun z=> [iv z]).length=(l.map fun z=> [iv z]).length∧bj 1 ((lE l).map fun z=> [iv z])=true then _ else none)=_;rw[if_pos ⟨rfl,by simp[lE,hlen],by unfold bj;rw[Tz];intro x hx;obtain⟨e,_,rfl⟩:=List.mem_map.1 hx;rfl⟩];rfl
theorem abD(hH:Sr H):AU (GK H):=fun F hF hs ps h0 hl=>by
 have h1:GK H 1000054 [fN (ps.map F), .clo 50 []]=some (.tup [.tup [],fN (cL zU (ps.map F))]):=by
  refine dL ?_;rw[hH.k54];unfold bJ fN;rw[if_pos rfl]
  have e1: ∃F,Th F∧ ∀x∈(ps.map F).map Ln.cells,oy F x=true:=⟨F,⟨hF,hs⟩,fun x hx=>by
   rw[List.map_map]at hx;obtain⟨p,_,rfl⟩:=List.mem_map.1 hx
   exact sP⟩
  have e2:((ps.map F).map Ln.cells).isEmpty=false:=by cases ps with
   |nil=>exact absurd rfl h0
   |cons a r=>rfl
  have e3:(cL zU (ps.map F)).map Ln.cells=cL (ES SM) ((ps.map F).map Ln.cells):=kC (fun x y=>by unfold ES zU;rw[iB]) _
  have e0: ∃F',Th F'∧ ∀x∈(ps.map F).map Ln.cells,oy F' x=true:=⟨F,⟨hF,hs⟩,fun x hx=>by
   rw[List.map_map]at hx;obtain⟨p,_,rfl⟩:=List.mem_map.1 hx
   exact sP⟩
  exact(if_pos ⟨e0,e2,by simpa using hl⟩).trans (by rw[e3])
 have hlen:=(b9 zU (ps.map F)).length_eq;show(if([fN (ps.map F), .clo 50 []].set 0 .nil).all D.aK=true∧54<1000000 then(GK H (1000000+(1000000*0+54)) [fN (ps.map F), .clo 50 []]).bind _ else none)=_;rw[if_pos ⟨rfl,by omega⟩,show 1000000+(1000000*0+54)=1000054 from rfl,h1,Oz];show(if D.aK (.tup [])=true∧((cL zU (ps.map F)).map Ln.cells).length=((ps.map F).map Ln.cells).length∧bj 9 ((cL zU (ps.map F)).map Ln.cells)=true then _ else none)=_;rw[if_pos ⟨rfl,by simpa using hlen,by unfold bj;rw[Tz];intro x hx;obtain⟨e,_,rfl⟩:=List.mem_map.1 hx;rfl⟩];rfl
theorem QH(hH:Sr H)(s:Ss)(hr:s.rows.length<4999)(h0:H 22 [.agg s.cells]=none)(Dc:GK H 46 [.agg s.cells]=some (iv 0)):GK H 22 [.agg s.cells]=some (D.own (.tup [bY s.aV,iv 0])):=
 gn Q1 h0 (by decide) rfl rfl (Z5 (abC hH) s hr (ao Dc rfl rfl))
theorem QI(hH:Sr H)(s:Ss)(l:List Sc)(hr:s.rows.length<4999)(h0:s.au.1≠ [])(hl:l.length<9999)(hb: ∀x∈l,OJ x)(hg:mn s.au.1 l=true→ ∃M,lO M s.au.1 l)(hn:H 23 [.agg s.cells,rQ l]=none)(Dc:GK H 46 [.agg s.cells]=some (iv 0)):GK H 23 [.agg s.cells,rQ l]=some (fG s l):=
 gn Q2 hn (by decide) rfl rfl (Z6 hH.fb (abD hH) s l hr h0 hl hb hg (ao Dc rfl rfl))
end Ty
end
end Go.Proofs.YtdepmampjnlgiaaGreatDoor
