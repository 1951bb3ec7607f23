/- Part of the proof: symbolic execution of the program, its soundness, and the closing lemmas. No condition. -/
import Derived.Test.YtkcfpgaepmllhaaGreatDoorFae
namespace Go.Proofs.YtkcfpgaepmllhaaGreatDoor
open Go.RowKit
set_option maxRecDepth 100000
set_option linter.all false
section
def IP(L:List OE)(g:Tok):Bool:=L.any fun q=>decide (q.g=g)
def qz(t:Tok)(L:List OE)(m:Mem):Mem:=fun τ=>if τ=t then some (.map (L.map OE.pr))else match m τ with
 |some (.row g e es)=>if IP L g then none else some (.row g e es)
 |o=>o
theorem sU{t:Tok}{L:List OE}{m:Mem}:qz t L m t=some (.map (L.map OE.pr)):=if_pos rfl
theorem pg{t:Tok}{L:List OE}{m:Mem}{τ:Tok}{o:HO}(hne:τ≠t)(h:qz t L m τ=some o):m τ=some o∧ ∀g e es,o= .row g e es→IP L g=false:=by
 simp only[qz]at h
 grind
theorem JZ{w:World}{pr:aV}{tk:ai}{v:Value}{t:Tok}{size off len:Nat}{lim:Option Nat}(h:aj w pr tk v (.sl t size off len lim)): ∃b cap c o,tk t=some (b,cap)∧v= .slice (some ⟨b,o,none⟩) len c∧(o=off*size∨(c=0∧0<off)):=by
 cases h with
 |sl ht hc hl ho=>exact⟨_,_,_,_,ht,rfl,ho⟩
theorem xh{L:List OE}{q:OE}(h:q∈L):IP L q.g=true:=List.any_eq_true.2 ⟨q,h,by simp⟩
section
variable {P : Program} {w0 w : World} {pr : aV} {A : iI} {n : Nat} {tk : ai} {J : St} {a : Act} {B : fe}
theorem Dy(R:Rel P w0 pr A n w a.tmps J tk)(U:iK B w0 pr A){t:Tok}{L:List OE}{e sz:Nat}(hm:J.m t=some (.map (L.map (OE.en sz))))(hq: ∀q∈L,J.m q.u=some (.row q.g e q.es)∧aO sz q.es=true):
  dB P B n w a.tmps ⟨J.s,qz t L J.m,J.c⟩:=by
 let pr':aV:=fun b o=>pr b o∨ ∃q,q∈L∧ ∃cap,tk q.u=some (b,cap)∧o<q.es.length*P.cellsOf e;have K:dz w w pr pr' tk tk:=⟨fun b o h=>⟨rfl, .inl h⟩,fun _ _ h=>h⟩
 have une: ∀q,q∈L→q.u≠t:=fun q hqm e=>by
  grind
 have src: ∀{τ:Tok} {o:HO},qz t L J.m τ=some o→ ∃o0,J.m τ=some o0∧o0.gZ=o.gZ:=fun{τ o} h=>by
  by_cases hne:τ=t
  ·subst hne;rw[sU]at h;cases h;exact⟨_,hm,rfl⟩
  ·exact⟨o,(pg hne h).1,rfl⟩
 have apart: ∀{q:OE} {b cap c:Nat} {τ:Tok} {o:HO},q∈L→tk q.u=some (b,cap)→qz t L J.m τ=some o→tk τ=some (b,c)→False:=fun{q b cap c τ o} hqm ht ho hτ=>by
  obtain⟨o0,h0,hg⟩:=src ho;rcases R.mem.inj τ q.u o0 _ b c cap h0 (hq q hqm).1 hτ ht with h|⟨h1,h2⟩
  ·subst h;have h3:=(pg (une q hqm) ho);rw[(hq q hqm).1]at h3;have:=h3.2 q.g e q.es (by have:=h3.1;injection this with this;exact this.symm);rw[xh hqm]at this;cases this
  ·rw[hg]at h2;by_cases hne:τ=t
   ·subst hne;rw[sU]at ho;cases ho;cases h2
   ·cases o with
    |row g e' es=>
     simp only[HO.gZ,Jz]at h2;have:=(pg hne ho).2 g e' es rfl;rw[h2,xh hqm]at this;cases this
    |_=>cases h2
 have s2:=U.chg.size
 have LD:nE P w pr' tk t (.map (L.map OE.pr)):=by
  obtain⟨b,cap,bB,h1,h2,h3,h4,h5⟩:=R.mem.obj t _ hm;simp only[List.length_map]at h2 h3 h4;refine⟨b,cap,bB,h1,by simpa using h2,by simpa using h3,by simpa using h4,fun i en p he hp=> ?_⟩;rw[Dz,Mz]at hp;obtain⟨q,hqi,rfl⟩:=hp;have hqm:=Lz hqi;obtain⟨g1,g2,g3⟩:=h5 i en (q.en sz) he (by rw[Dz,hqi];rfl);refine⟨g1,g2.keeps K, ?_⟩;simp only[OE.en,OE.pr]at g3⊢;obtain⟨r1,r2⟩:=hq q hqm
  have hel:(D.sl q.u sz 0 q.es.length none).elems J.m=some q.es:=by
   simp only[D.elems,r1];rw[if_pos ⟨by omega,bU r2⟩];simp
  rcases eQ R.mem g3 hel with⟨hv,h0⟩|⟨b1,o1,c1,size,us,hv,k1,k2,k3,k4⟩
  ·rw[h0];rcases hv with hv|⟨a,c,hv⟩<;>rw[hv]
   ·exact .nil'
   ·exact .emp
  ·obtain⟨b3,V9,c3,o3,t1,t2,t3⟩:=JZ g3;rw[hv]at t2⊢;have vY:=R.mem.obj q.u _ r1;obtain⟨b2,tH,C,m1,m2,m3,m4,m5,m6⟩:=vY
   have hbb:tk q.u=some (b1,tH)∧o1=0:=by
    grind
   refine .list us k2 k1 (fun j hj=>⟨(k3 j hj).1, .inr ⟨q,hqm,tH,hbb.1, ?_⟩,(k3 j hj).2⟩) (fun i c hc j x hx=> ?_)
   ·have hlen:0<q.es.length:=by
     grind
    have hsz:size=P.cellsOf e:=by
     have vY:=List.getElem_mem hlen;rw[←k2 _ vY,m6.1 _ vY]
    rw[hbb.2,Nat.zero_add,←hsz];exact hj
   ·have hxn:x.aM=true:=by
     have h1:=Tz.1 r2 c (Lz hc);simp only[Az,Tz]at h1;have h2:=h1.2 x (Lz hx);exact uJ h2
    exact aY ((k4 i c hc j x hx).keeps K) hxn
 refine⟨w,pr',⟨b8 tk (qz t L J.m),A.z,A.sv⟩,tk,⟨R.size,dP.refl _ _,fun b o h=> ?_,fun b o h hb=> ?_,R.glob.keeps K.cell,⟨fun τ o h=> ?_,fun τ τ' o o' b c c' h h' ht ht'=> ?_⟩,fun τ o b c h ht=> .inr ⟨τ,o,c,h,ht⟩,R.fresh,R.zero,R.one,fun i hi=>(R.slot i hi).keeps K,fun i hi=>(R.sav i hi).keeps K⟩,
  ⟨U.chg.trans R.chg fun b hb h=>U.sub b hb h,fun b hb h=> ?_,U.z,U.sv,fun b o h=> .inl (U.sup b o h),fun b o h=> ?_⟩⟩
 ·rcases h with h|⟨q,hqm,cap,ht,_⟩
  ·exact R.we b o h
  ·obtain⟨b1,c1,g1,g2⟩:=(R.mem.obj q.u _ (hq q hqm).1).place;rw[ht]at g1;cases g1;exact g2
 ·obtain⟨τ,o',c,ho,ht⟩:=hb;rcases h with h|⟨q,hqm,cap,htq,_⟩
  ·obtain⟨o0,h0,_⟩:=src ho;exact R.free h0 ht h
  ·exact apart hqm htq ho ht
 ·replace h:qz t L J.m τ=some o:=h
  by_cases hne:τ=t
  ·subst hne;rw[sU]at h;cases h;exact LD
  ·exact(R.mem.obj τ o (pg hne h).1).keeps K fun _ _ _=>rfl
 ·obtain⟨o0,h0,g0⟩:=src h;obtain⟨o1,h1,g1⟩:=src h';rw[←g0,←g1];exact R.mem.inj τ τ' o0 o1 b c c' h0 h1 ht ht'
 ·obtain⟨τ,o',c,ho,ht⟩:=h;obtain⟨o0,h0,_⟩:=src ho;rcases R.live τ o0 b c h0 ht with h|h
  ·omega
  ·exact U.sub b hb h
 ·rcases h with h|⟨q,hqm,cap,ht,_⟩
  ·exact U.inf b o h
  ·rcases R.live q.u _ b cap (hq q hqm).1 ht with h|h
   ·exact .inr (.inl (by omega))
   ·rcases Nat.lt_or_ge b B.w.heap.size with hb|hb
    ·exact .inr (.inr (U.sub b hb h))
    ·exact .inr (.inl hb)
end
section
variable {P : Program} {B : fe} {n : Nat} {Ω : bO} {G : FP} {E : List D} {ι γ : Nat → Tok} {Y : Sy} {J : St}
theorem gR(k:Nat):find Y.freeze.h k=(find Y.h k).map vU:=d_ vU k Y.h
theorem yx(M:Mt Ω G E ι γ Y J){w:World}{a:Act}(R:dB P B n w a.tmps J): ∃J',Mt Ω G E ι γ Y.freeze J'∧dB P B n w a.tmps J':=by
 by_cases hex: ∃m e sz c,find Y.h m=some (.mpl e sz c)
 rotate_left
 ·refine⟨J,M.sub (fun i v h=>h) (fun k=> ?_) rfl,R⟩;rw[gR];cases hf:find Y.h k with
  |none=>rfl
  |some o=>
   cases o with
   |mpl e sz c=>exact absurd ⟨k,e,sz,c,hf⟩ hex
   |_=>rfl
 obtain⟨m,e,sz,c,hf⟩:=hex;obtain⟨L,o1,o2,o3,o4,o5⟩:=M.own m e sz c hf;obtain⟨w1,pr,A,tk,R1,U⟩:=R;refine⟨_, ?_,Dy R1 U o3 fun q hq=>⟨(o4 q hq).2.2.1,(o4 q hq).2.1⟩⟩;have only: ∀{k e' sz' c'},find Y.h k=some (.mpl e' sz' c')→k=m:=fun h=>M.one _ _ _ _ _ _ _ _ h hf
 have back: ∀{k:Nat} {o:SO},(∀c,o≠ .map c)→find Y.freeze.h k=some o→find Y.h k=some o∧k≠m:=fun{k o} hne h=>by
  rw[gR]at h;obtain⟨o0,h0,h1⟩:=Mz.1 h;cases o0 with
  |mpl e' sz' c'=>simp only[vU]at h1;exact absurd h1.symm (hne _)
  |_=>simp only[vU]at h1;subst h1;exact⟨h0,fun e=>by rw[e,hf]at h0;cases h0⟩
 have vR: ∀{k:Nat} {o:SO},find Y.freeze.h k=some o→ ∃o',find Y.h k=some o':=fun{k o} h=>by
  rw[gR]at h;obtain⟨o0,h0,_⟩:=Mz.1 h
  grind
 have same: ∀{k:Nat} {o:SO},k≠m→find Y.h k=some o→ι k≠ []→qz (ι m) L J.m (ι k)=J.m (ι k):=fun{k o} hk ho hi=>by
  have hne:ι k≠ι m:=fun e=>hk (M.inj k m _ _ ho hf e hi);simp only[qz,if_neg hne];cases o with
  |box vs=>obtain⟨_,_,h,_⟩:=M.box k vs ho;rw[h]
  |map c=>obtain⟨_,_,_,h⟩:=M.mpo k c ho;rw[h]
  |mpl e' sz' c=>obtain⟨_,_,_,h,_⟩:=M.own k e' sz' c ho;rw[h]
  |raw kk=>obtain⟨_,_,h,_⟩:=M.rwo k kk ho;rw[h]
  |au e' sz' c'=>
   obtain⟨es3,_,_,h⟩:=M.au k _ _ _ ho;rcases h with⟨h,_⟩|⟨_,h⟩
   ·grind
   ·rw[h];simp only[];rw[if_neg fun hg=> ?_];obtain⟨q,hq,hqe⟩:=List.any_eq_true.1 hg;exact(o4 q hq).2.2.2.2.1 k _ _ _ ho hi (of_decide_eq_true hqe).symm
 have vr: ∀{v:SV} {d:D},VR G E ι Y.h v d→VR G E ι Y.freeze.h v d:=fun H=>H.mono (fun _ _ h=>h) fun k _=>⟨rfl,fun o ho=>⟨vU o,by rw[gR,ho];rfl,by
  cases o<;>simp only[vU,SO.cZ]
  exact⟨trivial,trivial,fun es he=>⟨es,he,rfl⟩⟩⟩⟩
 have π: ∀t q,J.m t=some (.raw q)→qz (ι m) L J.m t=some (.raw q):=fun t q h=>by
  have:t≠ι m:=fun e=>by rw[e,o3]at h;cases h
  simp only[qz,if_neg this,h]
 refine⟨fun i v hv=>vr (M.slot i v hv),fun k vs hk=> ?_,fun k e sz c hk=> ?_,fun k c hk=> ?_,fun k e sz c hk=> ?_,fun k k' e e' sz sz' c c' hk _=> ?_,fun k kk hk=> ?_,fun a b o o' h1 h2=> ?_,fun a b e e' sz sz' c c' h1 h2=>M.gZ a b _ _ _ _ _ _ (back (by simp) h1).1 (back (by simp) h2).1,fun x k r hk=> ?_,fun k e sz c hk=>M.old k _ _ _ (back (by simp) hk).1,M.nv,fun t ht=>π t _ (M.con t ht)⟩
 ·obtain⟨hk,hne⟩:=back (by simp) hk;obtain⟨ds,h1,h2,h3⟩:=M.box k vs hk;exact⟨ds,h1,(same hne hk h1).trans h2,h3.1,fun i v d hv hd=>vr (h3.2 i v d hv hd)⟩
 ·obtain⟨hk,hne⟩:=back (by simp) hk;obtain⟨es,h1,h2,h3⟩:=M.au k _ _ _ hk;refine⟨es,h1,h2, ?_⟩;rcases h3 with h3|⟨h3,h4⟩
  ·exact .inl h3
  ·exact .inr ⟨h3,(same hne hk h3).trans h4⟩
 ·rw[gR]at hk;obtain⟨o0,h0,h1⟩:=Mz.1 hk;cases o0 with
  |mpl e' sz' c'=>
   simp only[vU,SO.map.injEq]at h1;subst h1;obtain rfl:=only h0;rw[hf]at h0;cases h0;exact⟨_,o1,o2,sU⟩
  |map c'=>
   simp only[vU,SO.map.injEq]at h1;subst h1;obtain⟨es,g1,g2,g3⟩:=M.mpo k _ h0;exact⟨es,g1,g2,(same (fun e=>by rw[e,hf]at h0;cases h0) h0 g2).trans g3⟩
  |_=>simp only[vU,reduceCtorEq]at h1
 ·have:=(back (by simp) hk);exact absurd (only this.1) this.2
 ·have:=(back (by simp) hk);exact absurd (only this.1) this.2
 ·obtain⟨hk,hne⟩:=back (by simp) hk;obtain⟨h1,h2,h3,h4⟩:=M.rwo k kk hk;exact⟨h1,h2,π _ _ h3,h4⟩
 ·obtain⟨_,g1⟩:=vR h1;obtain⟨_,g2⟩:=vR h2;exact M.inj a b _ _ g1 g2
 ·have h0:=M.wf x k r hk;have hne:(x+1)::k::r≠ι m:=fun e=>by rw[e,o3]at h0;cases h0
  simp only[qz,if_neg hne,h0]
end
end
section
theorem oA(k:Nat): ∀(l:List (Nat×SO)),find (xu l) k=match find l k with
  |some (.au ..)=>none
  |o=>o
 | []=>rfl
 |(i,o)::r=>by
  have ih:=oA k r;cases hi:i==k with
  |true=>
   have e:i=k:=by simpa using hi
   cases o<;>simp[xu,find,iG,e]
  |false=>
   have e: ¬k=i:=fun e=>by simp[e]at hi
   cases o<;>simp[xu,find,iG,hi,e,ih]
theorem cJ(Y:Sy){k:Nat}{o:SO}(h:find Y.oD.h k=some o): ∃o0,find Y.h k=some o0∧o=qy Y.h o0∧(∀e sz c,o0≠ .au e sz c):=by
 simp only[Sy.oD,d_,oA]at h;obtain⟨o0,h1,rfl⟩:=Mz.1 h
 grind
theorem yy(Y:Sy){k:Nat}{o:SO}(h:find Y.h k=some o)(hn: ∀e sz c,o≠ .au e sz c):find Y.oD.h k=some (qy Y.h o):=by
 simp only[Sy.oD,d_,oA]
 grind
theorem fI(h:List (Nat×SO)): ∀(vs:List SV),(iP h vs).length=vs.length
 | []=>rfl
 |_::r=>by simp[iP,fI h r]
theorem qA(h:List (Nat×SO)): ∀(vs:List SV) (i:Nat),(iP h vs)[i]?=(vs[i]?).map (nH h)
 | [],_=>by simp[iP]
 |_::r,0=>by simp[iP]
 |_::r,i+1=>by simp[iP,qA h r i]
theorem qQ{α β γ:Type}{R:α→β→γ→Prop}: ∀{vs:List α} {ds:List β},vs.length=ds.length→(∀(i:Nat) (v:α) (d:β),vs[i]?=some v→ds[i]?=some d→ ∃e,R v d e)→
  ∃es:List γ,es.length=ds.length∧ ∀(i:Nat) (v:α) (d:β) (e:γ),vs[i]?=some v→ds[i]?=some d→es[i]?=some e→R v d e
 | [],[],_,_=>⟨[],rfl,fun i v d e h=>by simp at h⟩
 |v::vs,d::ds,hl,h=>by
  obtain⟨e,he⟩:=h 0 v d rfl rfl;obtain⟨es,h1,h2⟩:=qQ (vs:=vs) (ds:=ds) (by simpa using hl) fun i v d hv hd=>h (i+1) v d (by simpa using hv) (by simpa using hd);refine⟨e::es,by simp[h1],fun i v' d' e' hv hd he'=> ?_⟩;cases i with
  |zero=>simp at hv hd he';subst hv;subst hd;subst he';exact he
  |succ i=>exact h2 i v' d' e' (by simpa using hv) (by simpa using hd) (by simpa using he')
 | [],_::_,hl,_=>by simp at hl
 |_::_,[],hl,_=>by simp at hl
section
variable {P : Program} {B : fe} {n : Nat} {Ω : bO} {G : FP} {E : List D} {ι γ : Nat → Tok} {Y : Sy} {J : St} {w : World} {pr pr' : aV} {tk : ai}
theorem Im(M:Mt Ω G E ι γ Y J)(hK: ∀val d,aj w pr tk val d→aj w pr' tk val d)
  (hS: ∀n e sz c es,find Y.h n=some (.au e sz c)→ι n≠ []→J.m (ι n)=some (.row (γ n) e es)→aO sz es=true→ ∀val off len lim,off+len≤es.length→aj w pr tk val (.sl (ι n) sz off len lim)→aj w pr' tk val (.list ((es.drop off).take len)))
  {v:SV} {d:D} (H:VR G E ι Y.h v d): ∃d',VR G E ι Y.oD.h (nH Y.h v) d'∧ ∀val,aj w pr tk val d→aj w pr' tk val d':=by
 have own: ∀{n e sz:Nat} {c:X} {es:List (List D)},find Y.h n=some (.au e sz c)→ι n≠ []→X.ev G E c=some (.list es)→ ∀val off len lim,off+len≤es.length→aj w pr tk val (.sl (ι n) sz off len lim)→aj w pr' tk val (.list ((es.drop off).take len)):=fun hf hi hc=>by
  obtain⟨es',h1,h2,h3⟩:=M.au _ _ _ _ hf;rw[hc]at h1;cases h1;rcases h3 with⟨h3,_⟩|⟨_,h3⟩
  ·exact absurd h3 hi
  ·exact hS _ _ _ _ _ hf hi h3 h2
 have yn: ∀{n e sz:Nat} {c:X},find Y.h n=some (.au e sz c)→ι n= []→X.ev G E c=some (.list []):=fun hf hi=>by
  obtain⟨es',h1,h2,h3⟩:=M.au _ _ _ _ hf;rcases h3 with⟨_,rfl⟩|⟨h3,_⟩
  ·exact h1
  ·exact absurd hi h3
 have ad6: ∀val,aj w pr tk val .nil→aj w pr' tk val (.list []):=fun val h=>by cases h;exact .nil'
 have box: ∀{n:Nat} {vs:List SV},find Y.h n=some (.box vs)→find Y.oD.h n=some (.box (iP Y.h vs)):=fun hf=>yy Y hf fun _ _ _ h=>by cases h
 have row: ∀{vs:List SV} {ds:List D},vs.length=ds.length→(∀(i:Nat) (v:SV) (d:D),vs[i]?=some v→ds[i]?=some d→ ∃d',VR G E ι Y.oD.h (nH Y.h v) d'∧ ∀val,aj w pr tk val d→aj w pr' tk val d')→
   ∃ds':List D,ds'.length=ds.length∧(∀(i:Nat) (v:SV) (d:D),(iP Y.h vs)[i]?=some v→ds'[i]?=some d→VR G E ι Y.oD.h v d)∧ ∀(i:Nat) (d':D),ds'[i]?=some d'→ ∃d,ds[i]?=some d∧ ∀val,aj w pr tk val d→aj w pr' tk val d':=fun{vs ds} hl hh=>by
  obtain⟨es,h1,h2⟩:=qQ hl hh
  have gd: ∀(i:Nat) (d':D),es[i]?=some d'→ ∃v d,vs[i]?=some v∧ds[i]?=some d:=fun i d' h=>by
   have:=(Gz.1 h).1;exact⟨_,_,Ez (by omega),Ez (by omega)⟩
  refine⟨es,h1,fun i v d hv hd=> ?_,fun i d' hd=> ?_⟩
  ·rw[qA]at hv;obtain⟨v0,hv0,rfl⟩:=Mz.1 hv;obtain⟨_,d0,_,hd0⟩:=gd i d hd;exact(h2 i v0 d0 d hv0 hd0 hd).1
  ·obtain⟨v0,d0,hv0,hd0⟩:=gd i d' hd;exact⟨d0,hd0,(h2 i v0 d0 d' hv0 hd0 hd).2⟩
 induction H with
 |un=>exact⟨_, .un,fun val=>hK val _⟩
 |x h1 h2=>exact⟨_, .x h1 h2,fun val=>hK val _⟩
 |agg hl hh ih=>
  obtain⟨ds',h1,h2,h3⟩:=row hl ih;refine⟨.agg ds', .agg (by rw[fI,hl,h1]) h2,fun val h=> ?_⟩;cases h with
  |agg a1 a2 a3=>exact .agg (a1.trans h1.symm) a2 fun i c x hc hx=>let⟨d,hd,hr⟩:=h3 i x hx;hr c (a3 i c d hc hd)
 |tup hl hh ih=>
  obtain⟨ds',h1,h2,h3⟩:=row hl ih;refine⟨.tup ds', .tup (by rw[fI,hl,h1]) h2,fun val h=> ?_⟩;cases h with
  |tup a1 a3=>exact .tup (a1.trans h1.symm) fun i c x hc hx=>let⟨d,hd,hr⟩:=h3 i x hx;hr c (a3 i c d hc hd)
 |clo hl hh ih=>
  obtain⟨ds',h1,h2,h3⟩:=row hl ih;refine⟨.clo _ ds', .clo (by rw[fI,hl,h1]) h2,fun val h=> ?_⟩;cases h with
  |clo hf a1 a3=>exact .clo hf (a1.trans h1.symm) fun i c x hc hx=>let⟨d,hd,hr⟩:=h3 i x hx;hr c (a3 i c d hc hd)
  |bclo a1 a3=>exact .bclo (a1.trans h1.symm) fun i c x hc hx=>let⟨d,hd,hr⟩:=h3 i x hx;hr c (a3 i c d hc hd)
 |ptr hf=>exact⟨_, .ptr (box hf),fun val=>hK val _⟩
 |dp hf hv h0 hz hl=>exact⟨_, .dp (box hf) hv h0 hz (by rw[fI];exact hl),fun val=>hK val _⟩
 |gln hf hi=>exact⟨.list [],by simp only[nH,hf];exact .x (yn hf hi) rfl,ad6⟩
 | @gl n sz e c es hf hc hi=>exact⟨.list es,by simp only[nH,hf];exact .x hc rfl,fun val h=>by simpa using own hf hi hc val 0 es.length none (by omega) h⟩
 |gsn hf hi hk=>exact⟨.list [],by simp only[nH,hf];exact .x (by simp only[X.ev,X.ba,yn hf hi,hk,Oz,Pz,XK.run];rfl) rfl,fun val h=>hK val _ h⟩
 | @gs n sz e c k es q z hf hc hi hk h0 hz=>exact⟨.list (es.take z.toNat),by simp only[nH,hf];exact .x (by simp only[X.ev,X.ba,hc,hk,Oz,Pz,XK.run];rw[if_pos ⟨h0,hz⟩]) rfl,fun val h=>by simpa using own hf hi hc val 0 z.toNat none (by omega) h⟩
 |gcn hf hi hk=>exact⟨.list [],by simp only[nH,hf];exact .x (by simp only[X.ev,X.ba,yn hf hi,hk,Oz,Pz,XK.run];rfl) rfl,fun val h=>hK val _ h⟩
 | @gc n sz e c k es q z m hf hc hi hk h0 hz=>exact⟨.list (es.take z.toNat),by simp only[nH,hf];exact .x (by simp only[X.ev,X.ba,hc,hk,Oz,Pz,XK.run];rw[if_pos ⟨h0,hz⟩]) rfl,fun val h=>by simpa using own hf hi hc val 0 z.toNat (some m) (by omega) h⟩
 |gtn hf hi hk=>exact⟨.list [],by simp only[nH,hf];exact .x (by simp only[X.ev,X.ba,yn hf hi,hk,Oz,Pz,XK.run];rfl) rfl,fun val h=>hK val _ h⟩
 | @gt n sz e c k es q z hf hc hi hk h0 hz=>exact⟨.list (es.drop z.toNat),by simp only[nH,hf];exact .x (by simp only[X.ev,X.ba,hc,hk,Oz,Pz,XK.run];rw[if_pos ⟨h0,hz⟩]) rfl,fun val h=>by
   have h:=own hf hi hc val z.toNat (es.length-z.toNat) none (by omega) h
   rwa[List.take_of_length_le (by simp)]at h⟩
 |ep=>exact⟨_, .un,fun val=>hK val _⟩
 |sb hf hl=>exact⟨_, .sb (box hf) (by rw[fI];exact hl),fun val=>hK val _⟩
 |rb hf hl=>exact⟨_, .rb (box hf) (by rw[fI];exact hl),fun val=>hK val _⟩
 | @mp n o hf ho=>exact⟨_, .mp (yy Y hf fun _ _ _ h=>by rw[h]at ho;cases ho) (by cases o<;>first|exact ho|cases ho),fun val=>hK val _⟩
 |yl hf=>exact⟨_, .yl (yy Y hf fun _ _ _ h=>by cases h),fun val=>hK val _⟩
 | @gd g b v d hg h1 h2 ih=>
  cases b with
  |true=>
   obtain⟨d',k1,k2⟩:=ih rfl;exact⟨d', .gd hg (fun _=>k1) (fun h=>by cases h),k2⟩
  |false=>exact⟨d, .gd hg (fun h=>by cases h) (fun _=>h2 rfl),fun val=>hK val _⟩
open Classical in
theorem CU(M:Mt Ω G E ι γ Y J){w:World}{a:Act}(R:dB P B n w a.tmps J): ∃J',Mt Ω G E ι γ Y.oD J'∧dB P B n w a.tmps J':=by
 obtain⟨w0,pr,A,tk,R,U⟩:=R;have s2:=U.chg.size;let Fz:Nat→Nat→List (List D)→Prop:=fun n e es=> ∃sz c,find Y.h n=some (.au e sz c)∧ι n≠ []∧J.m (ι n)=some (.row (γ n) e es)∧aO sz es=true;let Fg:Tok→Prop:=fun g=> ∃n e sz c,find Y.h n=some (.au e sz c)∧ι n≠ []∧γ n=g;let pr':aV:=fun b o=>pr b o∨ ∃n e es cap,Fz n e es∧tk (ι n)=some (b,cap)∧o<es.length*P.cellsOf e;have K:dz w w pr pr' tk tk:=⟨fun b o h=>⟨rfl, .inl h⟩,fun _ _ h=>h⟩;have hK: ∀val d,aj w pr tk val d→aj w pr' tk val d:=fun val d h=>h.keeps K
 have hS: ∀n e sz c es,find Y.h n=some (.au e sz c)→ι n≠ []→J.m (ι n)=some (.row (γ n) e es)→aO sz es=true→ ∀val off len lim,off+len≤es.length→aj w pr tk val (.sl (ι n) sz off len lim)→aj w pr' tk val (.list ((es.drop off).take len)):=by
  intro m e sz c es hf hi hm hr val off len lim hol bh
  have hel:(D.sl (ι m) sz off len lim).elems J.m=some ((es.drop off).take len):=by
   simp only[D.elems,hm];rw[if_pos ⟨hol,bU hr⟩]
  have hlen:((es.drop off).take len).length=len:=by simp;omega
  rcases eQ R.mem bh hel with⟨hv,h0⟩|⟨b1,o1,c1,size,us,hv,k1,k2,k3,k4⟩
  ·rw[h0];rcases hv with rfl|⟨a,cap,rfl⟩
   ·exact .nil'
   ·exact .emp
  ·obtain⟨b3,V9,c3,o3,t1,t2,t3⟩:=JZ bh;rw[hv]at t2⊢;obtain⟨b2,tH,C,m1,m2,m3,m4,m5,m6⟩:=R.mem.obj (ι m) _ hm;rw[m1]at t1;cases t1;injection t2 with t2 t4 t5
   injection t2 with t2
   injection t2 with t2 t6
   have ac_: ∀x∈es,x.length=sz:=fun x hx=>by have:=Tz.1 (bU hr) x hx;simpa using this
   refine .list us k2 k1 (fun j hj=>⟨(k3 j hj).1, .inr ⟨m,e,es,V9,⟨sz,c,hf,hi,hm,hr⟩,by rw[m1,t2], ?_⟩,(k3 j hj).2⟩) (fun i x hx j d hd=> ?_)
   ·rw[hlen]at hj;have hlp:0<len:=by rcases Nat.eq_zero_or_pos len with h|h;rw[h]at hj;simp at hj;exact h
    have vY:(es.drop off).take len≠ []:=fun h=>by rw[h]at hlen;simp at hlen;omega
    obtain⟨x,r,hxr⟩:=List.exists_cons_of_ne_nil vY;have hx1:x∈(es.drop off).take len:=by rw[hxr];simp
    have hx2:x∈es:=List.mem_of_mem_drop (List.mem_of_mem_take hx1);have e1:size=P.cellsOf e:=by rw[←k2 x hx1,m6.1 x hx2]
    have e2:sz=P.cellsOf e:=by rw[←ac_ x hx2,m6.1 x hx2]
    rcases t3 with t3|⟨t3,_⟩
    ·rw[t6,t3,e2];rw[e1]at hj
     calc off*P.cellsOf e+j<off*P.cellsOf e+len*P.cellsOf e:=by omega
      _=(off+len)*P.cellsOf e:=(Nat.add_mul ..).symm
      _≤es.length*P.cellsOf e:=Nat.mul_le_mul_right _ hol
    ·rw[hlen]at k1;omega
   ·have hxn:d.aM=true:=by
     have hx2:x∈es:=List.mem_of_mem_drop (List.mem_of_mem_take (Lz hx));have h1:=Tz.1 hr x hx2;simp only[Az,Tz]at h1;exact uJ (h1.2 d (Lz hd))
    exact aY ((k4 i x hx j d hd).keeps K) hxn
 have PO: ∀i,∃d',(∀v,find Y.s i=some v→VR G E ι Y.oD.h (nH Y.h v) d')∧ ∀val,aj w pr tk val (J.s i)→aj w pr' tk val d':=fun i=>by
  cases hf:find Y.s i with
  |none=>exact⟨J.s i,(fun v h=>by cases h),fun val=>hK val _⟩
  |some v=>
   obtain⟨d',h1,h2⟩:=Im M hK hS (M.slot i v hf);exact⟨d',fun v' h=>by cases h;exact h1,h2⟩
 have boxes: ∀k,∃ds':List D,∀vs,find Y.h k=some (.box vs)→bz G E ι Y.oD.h (iP Y.h vs) ds'∧ ∀ds,J.m (ι k)=some (.box ds)→ds'.length=ds.length∧ ∀(i:Nat) (d':D),ds'[i]?=some d'→ ∃d,ds[i]?=some d∧ ∀val,aj w pr tk val d→aj w pr' tk val d':=fun k=>by
  by_cases hex: ∃vs,find Y.h k=some (.box vs)
  ·obtain⟨vs,hf⟩:=hex;obtain⟨ds,h0,h1,h2⟩:=M.box k vs hf;obtain⟨ds',h3,h4⟩:=qQ h2.1 fun i v d hv hd=>Im M hK hS (h2.2 i v d hv hd)
   have gd: ∀(i:Nat) (d':D),ds'[i]?=some d'→ ∃v d,vs[i]?=some v∧ds[i]?=some d:=fun i d' h=>by
    have:=(Gz.1 h).1;have:=h2.1;exact⟨_,_,Ez (by omega),Ez (by omega)⟩
   refine⟨ds',fun vs' h=> ?_⟩;rw[hf]at h;cases h;refine⟨⟨by rw[fI,h2.1,h3],fun i v d hv hd=> ?_⟩,fun ds2 hd2=> ?_⟩
   ·rw[qA]at hv;obtain⟨v0,hv0,rfl⟩:=Mz.1 hv;obtain⟨_,d0,_,hd0⟩:=gd i d hd;exact(h4 i v0 d0 d hv0 hd0 hd).1
   ·rw[h1]at hd2;cases hd2;refine⟨h3,fun i d' hd=> ?_⟩;obtain⟨v0,d0,hv0,hd0⟩:=gd i d' hd;exact⟨d0,hd0,(h4 i v0 d0 d' hv0 hd0 hd).2⟩
  ·exact⟨[],fun vs h=>absurd ⟨vs,h⟩ hex⟩
 let S:Nat→D:=fun i=>Classical.choose (PO i);have hSl: ∀i,(∀v,find Y.s i=some v→VR G E ι Y.oD.h (nH Y.h v) (S i))∧ ∀val,aj w pr tk val (J.s i)→aj w pr' tk val (S i):=fun i=>Classical.choose_spec (PO i);let F:Nat→List D:=fun k=>Classical.choose (boxes k);have hF: ∀k vs,find Y.h k=some (.box vs)→bz G E ι Y.oD.h (iP Y.h vs) (F k)∧ ∀ds,J.m (ι k)=some (.box ds)→(F k).length=ds.length∧ ∀(i:Nat) (d':D),(F k)[i]?=some d'→ ∃d,ds[i]?=some d∧ ∀val,aj w pr tk val d→aj w pr' tk val d':=fun k=>Classical.choose_spec (boxes k)
 let m':Mem:=fun τ=>match J.m τ with
  |some (.row g e es)=>if Fg g then none else some (.row g e es)
  |some (.box ds)=>if h: ∃k vs,find Y.h k=some (.box vs)∧ι k=τ then some (.box (F (Classical.choose h)))else some (.box ds)
  |o=>o
 have Yj: ∀{τ g:Tok} {e:Nat} {es:List (List D)},J.m τ=some (.row g e es)→m' τ=if Fg g then none else some (.row g e es):=fun{τ g e es} h=>by simp only[m',h]
 have mBx: ∀{τ:Tok} {ds:List D},J.m τ=some (.box ds)→m' τ=if h: ∃k vs,find Y.h k=some (.box vs)∧ι k=τ then some (.box (F (Classical.choose h)))else some (.box ds):=fun{τ ds} h=>by simp only[m',h]
 have same: ∀{τ:Tok} {o:HO},J.m τ=some o→o.gZ=none→(∀ds,o≠ .box ds)→m' τ=some o:=fun{τ o} hm hg hb=>by
  cases o with
  |row=>cases hg
  |box ds=>exact absurd rfl (hb ds)
  |map=>simp only[m',hm]
  |iter=>simp only[m',hm]
  |raw=>simp only[m',hm]
 have On: ∀{τ:Tok},J.m τ=none→m' τ=none:=fun{τ} h=>by simp only[m',h]
 have ad2: ∀{k vs},find Y.h k=some (.box vs)→m' (ι k)=some (.box (F k)):=fun{k vs} hf=>by
  obtain⟨ds,h0,h1,h2⟩:=M.box k vs hf;have hex: ∃k' vs',find Y.h k'=some (.box vs')∧ι k'=ι k:=⟨k,vs,hf,rfl⟩;rw[mBx h1,dif_pos hex];obtain⟨vs',g1,g2⟩:=Classical.choose_spec hex;rw[M.inj _ _ _ _ g1 hf g2 (by rw[g2];exact h0)]
 have x_: ∀{τ:Tok} {o:HO},m' τ=some o→(∃g e es,J.m τ=some (.row g e es)∧o= .row g e es∧ ¬Fg g)∨(∃ds,J.m τ=some (.box ds)∧(o= .box ds∨ ∃k vs,find Y.h k=some (.box vs)∧ι k=τ∧o= .box (F k)))∨(J.m τ=some o∧o.gZ=none∧ ∀ds,o≠ .box ds):=fun{τ o} h=>by
  cases hm:J.m τ with
  |none=>rw[On hm]at h;cases h
  |some o1=>
   cases o1 with
   |row g e es=>
    rw[Yj hm]at h;split at h<;>cases h;exact .inl ⟨g,e,es,rfl,rfl,by assumption⟩
   |box ds=>
    rw[mBx hm]at h;split at h
    ·rename_i hex;cases h;obtain⟨vs',g1,g2⟩:=Classical.choose_spec hex;exact .inr (.inl ⟨ds,rfl, .inr ⟨_,vs',g1,g2,rfl⟩⟩)
    ·cases h;exact .inr (.inl ⟨ds,rfl, .inl rfl⟩)
   |map es=>
    rw[same hm rfl fun _ h=>by cases h]at h;cases h;exact .inr (.inr ⟨rfl,rfl,fun _ h=>by cases h⟩)
   |iter u k s=>
    rw[same hm rfl fun _ h=>by cases h]at h;cases h;exact .inr (.inr ⟨rfl,rfl,fun _ h=>by cases h⟩)
   |raw q=>
    rw[same hm rfl fun _ h=>by cases h]at h;cases h;exact .inr (.inr ⟨rfl,rfl,fun _ h=>by cases h⟩)
 have src: ∀{τ:Tok} {o:HO},m' τ=some o→ ∃o0,J.m τ=some o0∧o0.gZ=o.gZ:=fun{τ o} h=>by
  rcases x_ h with⟨g,e,es,hm,rfl,_⟩|⟨ds,hm,rfl|⟨k,vs,_,_,rfl⟩⟩|⟨hm,_⟩
  ·exact⟨_,hm,rfl⟩
  ·exact⟨_,hm,rfl⟩
  ·exact⟨_,hm,rfl⟩
  ·exact⟨_,hm,rfl⟩
 have apart: ∀{k e:Nat} {es:List (List D)} {b cap c:Nat} {τ:Tok} {o:HO},Fz k e es→tk (ι k)=some (b,cap)→m' τ=some o→tk τ=some (b,c)→False:=fun{k e es b cap c τ o} hz ht ho hτ=>by
  obtain⟨sz,cc,hf,hi,hm,_⟩:=hz;have hg:Fg (γ k):=⟨k,e,sz,cc,hf,hi,rfl⟩;obtain⟨o0,h0,hgr⟩:=src ho;rcases R.mem.inj τ (ι k) o0 _ b c cap h0 hm hτ ht with h|⟨h1,h2⟩
  ·subst h;rcases x_ ho with⟨g,e',es',hm',_,hn⟩|⟨ds,hm',_⟩|⟨hm',hg',_⟩
   ·rw[hm]at hm';cases hm';exact hn hg
   ·rw[hm]at hm';cases hm'
   ·rw[hm]at hm';cases hm';cases hg'
  ·rcases x_ ho with⟨g,e',es',hm',rfl,hn⟩|⟨ds,hm',h3⟩|⟨hm',hg',_⟩
   ·rw[hgr]at h2;simp only[HO.gZ,Jz]at h2;exact hn (h2▸hg)
   ·rw[hm']at h0;cases h0;cases h1
   ·rw[hm']at h0;cases h0;rw[hg']at h1;cases h1
 refine⟨⟨S,m',J.c⟩, ?_,w,pr',⟨b8 tk m',A.z,A.sv⟩,tk,⟨R.size,dP.refl _ _,fun b o h=> ?_,fun b o h hb=> ?_,R.glob.keeps K.cell,⟨fun τ o h=> ?_,fun τ τ' o o' b c c' h h' ht ht'=> ?_⟩,fun τ o b c h ht=> .inr ⟨τ,o,c,h,ht⟩,R.fresh,R.zero,R.one,fun i hi=>(hSl i).2 _ (R.slot i hi),fun i hi=>(hSl i).2 _ (R.sav i hi)⟩,
  ⟨U.chg.trans R.chg fun b hb h=>U.sub b hb h,fun b hb h=> ?_,U.z,U.sv,fun b o h=> .inl (U.sup b o h),fun b o h=> ?_⟩⟩
 ·refine⟨fun i v hv=> ?_,fun k vs hk=> ?_,fun k e sz c hk=> ?_,fun k c hk=> ?_,fun k e sz c hk=> ?_,fun k k' e e' sz sz' c c' h1 h2=> ?_,fun k kk hk=> ?_,fun a b o o' h1 h2=> ?_,fun a b e e' sz sz' c c' h1 h2=> ?_,fun x k r hk=> ?_,fun k e sz c hk=> ?_,M.nv,fun t ht=> ?_⟩
  ·simp only[Sy.oD,d_]at hv;obtain⟨v0,hv0,rfl⟩:=Mz.1 hv;exact(hSl i).1 v0 hv0
  ·obtain⟨o0,h0,h1,h2⟩:=cJ Y hk;cases o0<;>simp only[qy,SO.box.injEq,reduceCtorEq]at h1;subst h1;obtain⟨ds,g0,_,_⟩:=M.box k _ h0;exact⟨F k,g0,ad2 h0,(hF k _ h0).1⟩
  ·obtain⟨o0,h0,h1,h2⟩:=cJ Y hk;cases o0<;>simp only[qy,reduceCtorEq]at h1;exact absurd rfl (h2 _ _ _)
  ·obtain⟨o0,h0,h1,h2⟩:=cJ Y hk;cases o0<;>simp only[qy,SO.map.injEq,reduceCtorEq]at h1;subst h1;obtain⟨es,g1,g2,g3⟩:=M.mpo k _ h0;exact⟨es,g1,g2,same g3 rfl fun _ h=>by cases h⟩
  ·obtain⟨o0,h0,h1,h2⟩:=cJ Y hk;cases o0<;>simp only[qy,SO.mpl.injEq,reduceCtorEq]at h1;obtain⟨rfl,rfl,rfl⟩:=h1;obtain⟨L,g1,g2,g3,g4⟩:=M.own k _ _ _ h0;refine⟨L,g1,g2,same g3 rfl (fun _ h=>by cases h),fun q hq=>(g4.1 q hq).lE ?_ (fun j o hj=>let⟨o0,h0,_⟩:=cJ Y hj;(g4.1 q hq).2.2.2.1 j o0 h0) (fun j e sz c hj=> ?_) fun _=>Nat.le_refl _,g4.2⟩
   ·rw[(g4.1 q hq).2.2.1];refine(Yj (g4.1 q hq).2.2.1).trans (if_neg ?_);rintro⟨j,e',sz',c',hj,hi,hg⟩;exact(g4.1 q hq).2.2.2.2.1 j _ _ _ hj hi hg
   ·obtain⟨o0,h0,h1,h2⟩:=cJ Y hj;cases o0<;>simp only[qy,reduceCtorEq]at h1;exact absurd rfl (h2 _ _ _)
  ·obtain⟨o0,h0,h1,_⟩:=cJ Y h1;obtain⟨o3,h3,h4,_⟩:=cJ Y h2;cases o0<;>simp only[qy,SO.mpl.injEq,reduceCtorEq]at h1;cases o3<;>simp only[qy,SO.mpl.injEq,reduceCtorEq]at h4;exact M.one _ _ _ _ _ _ _ _ h0 h3
  ·obtain⟨o0,h0,h1,h2⟩:=cJ Y hk;cases o0<;>simp only[qy,SO.raw.injEq,reduceCtorEq]at h1;subst h1;obtain⟨g1,g2,g3,g4⟩:=M.rwo k _ h0;exact⟨g1,g2,same g3 rfl (fun _ h=>by cases h),g4⟩
  ·obtain⟨o0,h0,_,_⟩:=cJ Y h1;obtain⟨o3,h3,_,_⟩:=cJ Y h2;exact M.inj a b _ _ h0 h3
  ·obtain⟨o0,h0,h1,h2⟩:=cJ Y h1;cases o0<;>simp only[qy,reduceCtorEq]at h1;exact absurd rfl (h2 _ _ _)
  ·exact On (M.wf x k r hk)
  ·obtain⟨o0,h0,h1,h2⟩:=cJ Y hk;cases o0<;>simp only[qy,reduceCtorEq]at h1;exact absurd rfl (h2 _ _ _)
  ·exact same (M.con t ht) rfl fun _ h=>by cases h
 ·rcases h with h|⟨k,e,es,cap,⟨sz,c,hf,hi,hm,hr⟩,ht,_⟩
  ·exact R.we b o h
  ·obtain⟨b1,c1,g1,g2⟩:=(R.mem.obj (ι k) _ hm).place;rw[ht]at g1;cases g1;exact g2
 ·obtain⟨τ,o',c,ho,ht⟩:=hb;rcases h with h|⟨k,e,es,cap,hz,htq,_⟩
  ·obtain⟨o0,h0,_⟩:=src ho;exact R.free h0 ht h
  ·exact apart hz htq ho ht
 ·replace h:m' τ=some o:=h
  rcases x_ h with⟨g,e,es,hm,rfl,_⟩|⟨ds,hm,rfl|⟨k,vs,hf,rfl,rfl⟩⟩|⟨hm,_⟩
  ·exact(R.mem.obj τ _ hm).keeps K fun _ _ _=>rfl
  ·exact(R.mem.obj τ _ hm).keeps K fun _ _ _=>rfl
  ·obtain⟨b,cap,C,ty,h1,h2,h3,h4,h5⟩:=R.mem.obj (ι k) _ hm;obtain⟨_,hb⟩:=hF k vs hf;obtain⟨hl,hg⟩:=hb ds hm;exact⟨b,cap,C,ty,h1,h2,h3.trans hl.symm,h4,fun i c x hc hx=>let⟨d,hd,hr⟩:=hg i x hx;hr c (h5 i c d hc hd)⟩
  ·exact(R.mem.obj τ _ hm).keeps K fun _ _ _=>rfl
 ·obtain⟨o0,h0,g0⟩:=src h;obtain⟨o1,h1,g1⟩:=src h';rw[←g0,←g1];exact R.mem.inj τ τ' o0 o1 b c c' h0 h1 ht ht'
 ·obtain⟨τ,o',c,ho,ht⟩:=h;obtain⟨o0,h0,_⟩:=src ho;rcases R.live τ o0 b c h0 ht with h|h
  ·omega
  ·exact U.sub b hb h
 ·rcases h with h|⟨k,e,es,cap,⟨sz,c,hf,hi,hm,hr⟩,ht,_⟩
  ·exact U.inf b o h
  ·rcases R.live (ι k) _ b cap hm ht with h|h
   ·exact .inr (.inl (by omega))
   ·rcases Nat.lt_or_ge b B.w.heap.size with hb|hb
    ·exact .inr (.inr (U.sub b hb h))
    ·exact .inr (.inl hb)
end
end
section
section
variable {P : Program} {B : fe} {n : Nat} {r : Option Nat} {G : FP} {N : Nat} {dr : D} {Ω : bO}
theorem Mp{h:List (Nat×SO)}{nm:Nat}{p:Ad}{v:SV}{x:List X×Ren}(hx:ni h nm p v=some x):x.1.length=hZ [(nm,p)]:=by
 cases p with
 |drop=>simp only[ni]at hx;cases hx;rfl
 |same v'=>simp only[ni]at hx;split at hx<;>cases hx;rfl
 |var=>simp only[ni]at hx;obtain⟨y,_,hy⟩:=Mz.1 hx;cases hy;rfl
 |au e sz=>
  cases v
  case gl n sz'=>
   simp only[ni]at hx;split at hx
   ·split at hx<;>cases hx;rfl
   ·cases hx
  case x ex=>
   cases ex
   case q dq=>
    cases dq
    case nil=>simp only[ni]at hx;cases hx;rfl
    all_goals (simp[ni]at hx;done)
   all_goals (simp[ni]at hx;done)
  all_goals (simp[ni]at hx;done)
theorem xq{h:List (Nat×SO)}: ∀{r:Row} {v:List SV} {x:List X×Ren},gp h r v=some x→x.1.length=hZ r
 | [],v,x,h1=>by cases v<;>simp[gp]at h1;rw[←h1];rfl
 |(nm,p)::r,[],x,h1=>by simp[gp]at h1
 |(nm,p)::r,u::v,x,h1=>by
  simp only[gp,Bz,Mz]at h1;obtain⟨a1,b1,a2,b2,rfl⟩:=h1;rw[List.length_append,xq b2,Mp b1];cases p<;>simp[hZ]<;>omega
theorem Hd.yT{hd:Hd}{Y:Sy}{q:List X×Ren}(h:hd.mt Y=some q):q.1.length=hZ hd.row:=by
 simp only[Hd.mt]at h;split at h
 ·simp only[Bz]at h;obtain⟨_,_,b1,_,x1,g1,g2⟩:=h;split at g2<;>cases g2;exact xq g1
 ·cases h
theorem vN{α:Type}{F:Fence}{m:Nat}{c:Code}{Q:Exit→Act→World→Prop}{a:Act}{w:World}(I:α→Act→World→Prop)(μ:α→Nat){x:α}(h₀:I x a w)
  (round: ∀x a w,I x a w→c.wpIn F m P (Exit.then (fun a' w'=> ∃y,I y a' w'∧μ y<μ x) Q) a w):(Code.loop c).wpIn F m P Q a w:=by
 intro b k cs hro hb hr
 have key: ∀j x a w,μ x=j→I x a w→
   ∃e a' w',Q e a' w'∧ArrivesIn (Machine.fenced P F) P (lone (b.atR a (.code c:: .inLoop c::k)) cs w) b k cs e a' w':=by
  intro j
  induction j using Nat.strongRecOn with
  |_ j ih=>
   intro x a w hn hI;obtain⟨e,a₁,w₁,hq,Bd⟩:=round x a w hI b (.inLoop c::k) cs hro hb hr;cases e with
   |normal=>
    obtain⟨y,hI₁,hlt⟩:=hq;obtain⟨e₂,a₂,w₂,hq₂,Ly⟩:=ih (μ y) (hn▸hlt) y a₁ w₁ rfl hI₁;exact⟨e₂,a₂,w₂,hq₂, .of_steps (StepsIn.trans Bd (.one (fenced_calm hb hr rfl) stepR_inLoop)) Ly⟩
   |exit id=>exact⟨_,a₁,w₁,hq, .pass (x:= .inLoop c) rfl (fun _ _=> .inl (by simp)) Bd⟩
   |goto l=>exact⟨_,a₁,w₁,hq, .pass (x:= .inLoop c) rfl (fun _ _=> .inl (by simp)) Bd⟩
   |ret=>exact⟨_,a₁,w₁,hq, .pass (x:= .inLoop c) rfl (fun _ _=> .inl (by simp)) Bd⟩
   |panic ch=>exact⟨_,a₁,w₁,hq, .pass (x:= .inLoop c) rfl (fun _ _=> .inl (by simp)) Bd⟩
   |outgrown=>exact⟨_,a₁,w₁,hq, .pass (x:= .inLoop c) rfl (fun _ _=> .inl (by simp)) Bd⟩
 obtain⟨e,a',w',hq,Bd⟩:=key _ x a w rfl h₀;exact⟨e,a',w',hq, .of_steps (.one (fenced_calm hb hr rfl) stepR_loop) Bd⟩
def nL(P:Program)(B:fe)(n:Nat)(G:FP)(N:Nat)(dr:D)(Ω0:bO)(S:List Nat)(Ω:bO)(κ:Sy→FT)(L:List (List D→Option D))(E:List D)(Q:Act→World→Prop):Prop:=
 ∀(Ω':bO) (Y':Sy) (L':List (List D→Option D)) (E':List D) (ι' γ':Nat→Tok) (J':St) (a':Act) (w':World),Ω.le S Ω'→Mt Ω' G E' ι' γ' Y' J'→dB P B n w' a'.tmps J'→DM Ω0 Ω' a'.defers→L'.length=Y'.d→
  (∃pre,L'=pre++L)→(∃suf,E'=E++suf)→ae G N (κ Y') L' E'=some dr→Q a' w'
abbrev abC(P:Program)(B:fe)(n:Nat)(G:FP)(N:Nat)(dr:D)(Ω0:bO)(S:List Nat)(Ω:bO)(κ:VE→Sy→FT)(L:List (List D→Option D))(E:List D)(Q:Exit→Act→World→Prop):Prop:=
 ∀e:VE,nL P B n G N dr Ω0 S Ω (κ e) L E (Q e.ex)
theorem nL.more{Ω0 Ω Ω1:bO}{S:List Nat}{κ:Sy→FT}{L pre:List (List D→Option D)}{E suf:List D}{Q:Act→World→Prop}(h:nL P B n G N dr Ω0 S Ω κ L E Q)(hΩ:Ω.le S Ω1):nL P B n G N dr Ω0 S Ω1 κ (pre++L) (E++suf) Q:=by
 rintro Ω' Y' L' E' ι' γ' J' a' w' hle M' R' hd' hL' ⟨aeu,rfl⟩ ⟨aeP,rfl⟩ he;exact h Ω' Y' _ _ ι' γ' J' a' w' (hΩ.trans hle) M' R' hd' hL' ⟨aeu++pre,by simp⟩ ⟨suf++aeP,by simp⟩ he
def ij(P:Program)(G:FP)(N:Nat)(dr:D)(yl:Yh)(V:Nat→Value)(m:Nat)(Ω:bO):Prop:=
 ∀{S:List Nat} {Bc:fe} {Ω0 Ω':bO} {nm off n0:Nat} {vs:List SV} {x:Option Nat} {Z:Sy} {κ:Sy→FT} {L:List (List D→Option D)} {E:List D} {ι γ:Nat→Tok} {J:St} {w1 w:World} {pr:aV} {A:iI} {tk:ai} {a:Act} {cargs:Array Value} {ds:List D} {next:Act→World→Prop},
  nm∈yl.S→(∀x,x∈yl.S→x∈S)→Ω.le yl.S Ω'→(∀i,m≤i→n0≤off+i∧Bc.A.sv (off+i)=V i)→Mt Ω' G E ι γ Z J→Rel P w1 pr A n0 w a.tmps J tk→iK Bc w1 pr A→aX w pr tk cargs.toList ds→bz G E ι Z.h vs ds→(∀i,x=some i→i<n0)→DM Ω0 Ω' a.defers→L.length=Z.d→
  ae G N (yl.run S nm off vs x n0 Z κ) L E=some dr→nL P Bc n0 G N dr Ω0 S Ω' κ L E next→
  ∀r:Option Nat,∃l fnl tmps assign body,Ω'.t nm= [l+1]∧(Instr.yield l cargs).run P w= .ok (.round l fnl tmps assign body) w∧RoundIn (wF r) 0 P l fnl tmps assign body w (fun e w'=> ∃v,e= .returned v∧next (a.put x v) w')
theorem ij.mono{yl:Yh}{V:Nat→Value}{m:Nat}{Ω Ω1:bO}(h:ij P G N dr yl V m Ω)(k:Ω.le yl.S Ω1):ij P G N dr yl V m Ω1:=
 fun h1 hS h2 h3=>h h1 hS (k.trans h2) h3
theorem ij.push{yl:Yh}{V V':Nat→Value}{m m' k:Nat}{Ω:bO}(h:ij P G N dr yl V m Ω)(hV: ∀j,m≤j→m'≤k+j∧V' (k+j)=V j):ij P G N dr (yl.push k) V' m' Ω:=
 fun{S Bc Ω0 Ω' nm off n0} {vs x Z κ L E ι γ J w1 w pr A tk a cargs ds next} h1 hS h2 h3=>h (off:=off+k) h1 hS h2 fun j hj=>by
  grind
theorem ij.ae_{yl:Yh}{V V':Nat→Value}{m m':Nat}{Ω:bO}(h:ij P G N dr yl V m Ω)(hm:m'≤m)(hV: ∀j,m≤j→V' j=V j):ij P G N dr yl V' m' Ω:=
 fun h1 hS h2 h3=>h h1 hS h2 fun j hj=>⟨(h3 j (by omega)).1,(h3 j (by omega)).2.trans (hV j hj)⟩
theorem ij.under{yl:Yh}{V V':Nat→Value}{m m' k:Nat}{Ω:bO}{S:List Nat}(h:ij P G N dr yl V m Ω)(hS: ∀x,x∈yl.S→x∈S)(hV: ∀j,m≤j→m'≤k+j∧V' (k+j)=V j):ij P G N dr (yl.under S k) V' m' Ω:=by
 intro S' Bc Ω0 Ω' nm off n0 vs x Z κ L E ι γ J w1 w pr A tk a cargs ds next h1 hS' h2 h3 M R U hr hv hx hd hL he hκ
 simp only[Yh.under]at he;split at he
 ·rename_i hc
  exact h (off:=off+k) (by simpa using hc) (fun x hx=>hS' x (hS x hx)) (h2.sub hS) (fun j hj=>by
   obtain⟨g1,g2⟩:=hV j hj;obtain⟨g3,g4⟩:=h3 (k+j) g1;rw[Nat.add_assoc]
   exact⟨g3,g4.trans g2⟩) M R U hr hv hx hd hL he hκ
 ·cases he
def tp(P:Program)(G:FP)(N:Nat)(dr:D)(inl:KC):Prop:=
 ∀{yl:Yh} {B:fe} {Ω0 Ω:bO} {f n:Nat} {vs:List SV} {x:Option Nat} {Y:Sy} {κ:Sy→FT} {L:List (List D→Option D)} {E:List D} {ι γ:Nat→Tok} {J:St} {w1 w:World} {pr:aV} {A:iI} {tk:ai} {a:Act} {cargs:Array Value} {ds:List D} {next:Act→World→Prop},
  ij P G N dr yl (h_ 0 n a.tmps B.A.sv) 0 Ω→Mt Ω G E ι γ Y J→Rel P w1 pr A n w a.tmps J tk→iK B w1 pr A→aX w pr tk cargs.toList ds→bz G E ι Y.h vs ds→(∀i,x=some i→i<n)→DM Ω0 Ω a.defers→L.length=Y.d→ae G N (inl yl f vs x n Y κ) L E=some dr→
  nL P B n G N dr Ω0 yl.S Ω κ L E next→dD P f∧Calls P f cargs w fun e w'=> ∃v,e= .returned v∧next (a.put x v) w'
theorem wO{v:D}{b:Bool}(h:v.asBool=some b):v= .v (.bool b):=by
 cases v<;>simp only[D.asBool]at h<;>try (cases h;done)
 grind
theorem Mt.HY{E:List D}{ι γ:Nat→Tok}{Y:Sy}{J:St}(M:Mt Ω G E ι γ Y J){d:Nat}:Mt Ω G E ι γ {Y with d:=d} J:=M.sub (fun _ _ h=>h) (fun _=>rfl) rfl
theorem jO{E:List D}: ∀(x:X) {d:D},fW x=true→X.ev G E x=some d→ ∃b,d=bv b
 | .t _,d,h,_=>by simp[fW]at h
 | .q v,d,h,he=>by
  cases v with
  |v y=>cases y with
   |bool b=>exact⟨b,(Option.some.inj he).symm⟩
   |_=>simp[fW]at h
  |_=>simp[fW]at h
 | .ite c a b,d,h,he=>by
  simp only[fW,Az]at h;simp only[X.ev,Bz]at he;obtain⟨v,_,x,_,h3⟩:=he;cases x
  ·exact jO b h.2 h3
  ·exact jO a h.1 h3
 | .mk k xs,d,h,he=>by
  obtain⟨ds,_,h2⟩:=aP he;cases k with
  |gv w=>
   simp only[XK.run]at h2
   grind
  |pk k=>
   simp only[XK.run,Bz]at h2;obtain⟨d0,h3,h4⟩:=h2;split at h4<;>cases h4;cases k with
   |ibin op=>
    simp only[PK.run]at h3;unfold jc at h3;split at h3
    ·split at h3
     ·cases op<;>simp only[fW,N5,Bool.false_eq_true]at h<;>(simp only[dm]at h3;cases h3;exact⟨_,rfl⟩)
     ·cases h3
    ·cases h3
   |inot=>simp only[PK.run]at h3;unfold Ud at h3;split at h3<;>first|(cases h3;exact⟨_,rfl⟩)|cases h3
   |beq n=>simp only[PK.run]at h3;unfold Sa at h3;split at h3<;>first|(cases h3;exact⟨_,rfl⟩)|cases h3
   |seq n=>simp only[PK.run]at h3;unfold UI at h3;split at h3<;>first|(cases h3;exact⟨_,rfl⟩)|cases h3
   |aeq n ks=>
    simp only[PK.run]at h3;unfold KR at h3;split at h3
    ·obtain⟨r,_,rfl⟩:=Mz.1 h3;exact⟨_,rfl⟩
    ·cases h3
   |snil n=>
    simp only[PK.run]at h3;unfold FB at h3
    grind
   |_=>simp[fW]at h
  |_=>simp[fW]at h
theorem zm{Y:Sy}{E:List D}{ι γ:Nat→Tok}{J:St}(M:Mt Ω G E ι γ Y J){e:X}(h:X.ev G E e=some (bv false)):Mt Ω G E ι γ (Y.mQ e) J:=by
 unfold Sy.mQ;split
 ·rename_i w g;split
  ·rename_i hb;refine M.u0 rfl rfl fun i v hv=> ?_;simp only[d_]at hv;obtain⟨u,hu,rfl⟩:=Mz.1 hv;have H:=M.slot i u hu;unfold mQ;split
   ·rename_i e';split
    ·rename_i he;obtain rfl:=aK _ _ he;obtain⟨h1,_⟩:=H.ca;obtain⟨b,hd⟩:=jO e' hb h1;obtain⟨ds,a1,a2⟩:=aP h;obtain⟨dj,rfl,a3⟩:=je a1;simp only[XK.run]at a2;rw[hd];have:b= !w:=by cases b<;>cases w<;>simp_all
     rw[this];exact .x rfl rfl
    ·exact H
   ·exact H
  ·exact M
 ·exact M
theorem jM{E:List D}{ι γ:Nat→Tok}{Y:Sy}{J:St}(M:Mt Ω G E ι γ Y J){g:Option (Option (Nat×Bool))}{q:GV}(h:guardOf Y g=some q):
  ∃g',g=some g'∧match q with
   | .go b=>bE J g'=some b
   | .ask e=> ∀d,X.ev G E e=some d→ ∃b,d=bv b∧bE J g'=some b:=by
 cases g with
 |none=>cases h
 |some g'=>
  cases g' with
  |none=>cases h;exact⟨none,rfl,rfl⟩
  |some p=>
   obtain⟨j,w⟩:=p;refine⟨_,rfl, ?_⟩;simp only[guardOf]at h;split at h
   ·rename_i b hg;cases h;obtain⟨k1,_⟩:=(M.slot j _ hg).ca;have:J.s j= .v (.bool b):=(Option.some.inj (show some (D.v (.bool b))=some (J.s j)from k1)).symm;simp[bE,this]
   ·rename_i g hg;cases h;intro d hd;obtain⟨ds,a1,a2⟩:=aP hd;obtain⟨dj,rfl,a3⟩:=je a1;obtain⟨k1,k2⟩:=(M.slot j _ hg).ca;rw[k1]at a3;cases a3;simp only[XK.run]at a2;split at a2
    ·rename_i b heq;simp only[List.cons.injEq]at heq;cases a2;exact⟨_,rfl,by simp[bE,heq]⟩
    ·rename_i heq;simp only[List.cons.injEq]at heq;cases a2;exact⟨_,rfl,by simp[bE,heq]⟩
    ·cases a2
   ·cases h
theorem GU{Y:Sy}{x:Option Nat}{v:SV}:Y.cZ (Y.kX x v):=by cases x<;>exact⟨rfl,rfl⟩
theorem xX{Ω:bO}{fr:p8}{o:Oper}{Y:Sy}{tg:Tg}{vs:List SV}(h:qj fr n o Y=some (tg,vs)){E:List D}{ι γ:Nat→Tok}{J:St}(M:Mt Ω G E ι γ Y J){w1 w:World}{pr:aV}{A:iI}{tk:ai}{a:Act}(R:Rel P w1 pr A n w a.tmps J tk):
  (∀i,o.dst=some i→i<n)∧nj o.op=true∧ ∃cargs ds,aX w pr tk cargs.toList ds∧bz G E ι Y.h vs ds∧match tg with
   | .fn f=>dD P f→(execOp a.eval o).run P w= .ok (.enter f cargs) w
   | .yld nm=>(∃k,find Y.h nm=some (.raw k))∧ ∀l,ι nm= [l+1]→(execOp a.eval o).run P w=(Instr.yield l cargs).run P w:=by
 have vG: ∀(gs:List aJ),bz G E ι Y.h (gs.map (bL Y)) (gs.map (aJ.val J.s)):=fun gs=>
  ⟨by simp,fun i v d hv hd=>by
   rw[Dz,Mz]at hv hd;obtain⟨g,hg,rfl⟩:=hv;obtain⟨g',hg',rfl⟩:=hd;rw[hg]at hg';cases hg'
   exact az M g⟩
 unfold qj at h;split at h
 ·rename_i c ho;split at h
  ·rename_i bF;have hx: ∀i,o.dst=some i→i<n:=fun i hi=>by rw[hi]at bF;simpa using bF
   refine⟨hx,by rw[ho];rfl, ?_⟩;split at h
   ·rename_i f' hc;split at h
    ·obtain⟨gs,hgs,h2⟩:=Mz.1 h;cases h2;exact⟨c.args.map a.eval,gs.map (aJ.val J.s),by simpa using fi R hgs,vG gs,fun hb=>by simp[execOp,ho,resolve,hc,Act.eval,Deferred.ofValue,invoke,bG hb]⟩
    ·cases h
   ·rename_i t hc;split at h
    ·rename_i ht;split at h
     ·rename_i f' eM hf;split at h
      ·rename_i CZ;split at h
       ·obtain⟨gs,hgs,h2⟩:=Mz.1 h;cases h2;have H:=M.slot _ _ hf;have hfv:=R.slot t ht;generalize hJ:J.s t=dt at H hfv;cases H with
        | @clo _ _ ds hl hh=>
         have hev:a.eval (.tmp t)=a.tmps.getD t undef:=rfl;generalize a.tmps.getD t undef=fv at hfv hev;cases hfv with
         | @clo _ _ cv _ _ hs hr=>
          refine⟨c.args.map a.eval++cv,gs.map (aJ.val J.s)++ds, ?_, ?_,fun hb=>by simp[execOp,ho,resolve,hc,hev,Deferred.ofValue,invoke,bG hb]⟩
          ·rw[Array.toList_append];exact jB (by simpa using fi R hgs) (ny (by simpa using hs) fun i c x hc hx=>hr i c x (by simpa using hc) hx)
          ·exact(vG gs).append ⟨hl,hh⟩
         |bclo=>omega
       ·cases h
      ·rename_i CZ;split at h
       ·obtain⟨gs,hgs,h2⟩:=Mz.1 h;cases h2;have H:=M.slot _ _ hf;have hfv:=R.slot t ht;generalize hJ:J.s t=dt at H hfv;cases H with
        | @clo _ _ ds hl hh=>
         have hev:a.eval (.tmp t)=a.tmps.getD t undef:=rfl;generalize a.tmps.getD t undef=fv at hfv hev;generalize hfq:f'=fq at hfv;cases hfv with
         |clo=>omega
         | @bclo _ f2 cv _ hs hr=>
          have e2:f2+1000000-1000000=f2:=by omega
          rw[e2];refine⟨cv++c.args.map a.eval,ds++gs.map (aJ.val J.s), ?_, ?_,fun hb=>by simp[execOp,ho,resolve,hc,hev,Deferred.ofValue,invoke,bG hb]⟩
          ·rw[Array.toList_append];exact jB (ny (by simpa using hs) fun i c x hc hx=>hr i c x (by simpa using hc) hx) (by simpa using fi R hgs)
          ·exact bz.append ⟨hl,hh⟩ (vG gs)
       ·cases h
     ·rename_i nm hf;obtain⟨gs,hgs,h2⟩:=Mz.1 h;cases h2;have H:=M.slot _ _ hf;have hfv:=R.slot t ht;generalize hJ:J.s t=dt at H hfv;cases H with
      |yl nJ=>
       obtain⟨hev,_⟩:=aT.1 hfv;have S4:a.eval (.tmp t)= .func (.yield ((ι nm).headD 0-1)) #[] #[]:=hev;refine⟨c.args.map a.eval,gs.map (aJ.val J.s),by simpa using fi R hgs,vG gs,⟨_,nJ⟩,fun l hl=> ?_⟩;rw[hl]at S4;simp only[List.headD_cons,Nat.add_sub_cancel]at S4;simp[execOp,ho,resolve,hc,S4,Deferred.ofValue,invoke]
     ·cases h
    ·cases h
   ·cases h
  ·cases h
 ·cases h
theorem jK{Ω0:bO}{yl:Yh}{C:Cx}{inl:KC}{cf id:Nat}(hP:C.P=P)(hG:Sound P (br G))(hI:tp P G N dr inl){ops:Array Oper}{Q:Exit→Act→World→Prop}{κ:Sy→FT}:
  ∀(l:List Oper) (k:Nat),(∀j,j<l.length→l[j]?=ops[k+j]?)→ ∀{Ω:bO} {Y:Sy} {L:List (List D→Option D)} {E:List D} {ι γ:Nat→Tok} {J:St} {a:Act} {w:World},ij P G N dr yl B.A.sv n Ω→
  Mt Ω G E ι γ Y J→dB P B n w a.tmps J→DM Ω0 Ω a.defers→L.length=Y.d→ae G N (fS C inl cf n yl id ops l Y κ) L E=some dr→nL P B n G N dr Ω0 yl.S Ω κ L E (Q .normal)→jY r P ops Q (List.range' k l.length) a w
 | [],k,_,Ω,Y,L,E,ι,γ,J,a,w,hY,M,R,hd,hL,he,hκ=>hκ Ω Y L E ι γ J a w .nK M R hd hL ⟨[],rfl⟩ ⟨[],by simp⟩ he
 |o::l,k,hl,Ω,Y,L,E,ι,γ,J,a,w,hY,M,R,hd,hL,he,hκ=>by
  have ho:ops[k]?=some o:=by have:=hl 0 (by simp);simpa using this.symm
  have hl': ∀j,j<l.length→l[j]?=ops[k+1+j]?:=fun j hj=>by have:=hl (j+1) (by simpa using hj);simpa[Nat.add_assoc,Nat.add_comm 1 j]using this
  have ih:=fun{Ω:bO} {Y:Sy} {L':List (List D→Option D)} {E':List D} {ι γ:Nat→Tok} {J:St} {a:Act} {w:World}=>jK (id:=id) (cf:=cf) (κ:=κ) (Ω:=Ω) (Y:=Y) (L:=L') (E:=E') (ι:=ι) (γ:=γ) (J:=J) (a:=a) (w:=w) (yl:=yl) (Ω0:=Ω0) hP hG hI (Q:=Q) l (k+1) hl'
  have Sv: ∀{Y0:Sy} {tg:Tg} {vs:List SV},Mt Ω G E ι γ Y0 J→Y0.d=Y.d→qj (C.cfg cf) n o Y0.gc.atom.1=some (tg,vs)→ae G N (oG Y0.gc.atom.2 (Lw yl inl tg vs o.dst n Y0.gc.atom.1 fun Y'=>fS C inl cf n yl id ops l Y' κ)) L E=some dr→Oper.wK r P o a w (jY r P ops Q (List.range' (k+1) l.length)) Q:=by
   intro Y0 tg vs MY hYd hq he;rw[qp,Bz]at he;obtain⟨ds0,h2,he⟩:=he;have M0:=MY.gc.atom h2;have hL0:L.length=Y0.gc.atom.1.d:=by rw[hL,←hYd];exact EN.1.symm
   generalize Y0.gc.atom.1=Y1 at*;have hκ0:nL P B n G N dr Ω0 yl.S Ω κ L (E++ds0) (Q .normal):=hκ.more (pre:= []) .nK
   have next:nL P B n G N dr Ω0 yl.S Ω (fun Y'=>fS C inl cf n yl id ops l Y' κ) L (E++ds0) (jY r P ops Q (List.range' (k+1) l.length)):=by
    rintro Ω' Y' L' E' ι' γ' J' a' w' hle M' R' hd' hL' ⟨pre,rfl⟩ ⟨suf,rfl⟩ he';exact ih (hY.mono hle) M' R' hd' hL' he' (hκ0.more hle)
   obtain⟨w1,pr,A,tk,R1,U⟩:=R;obtain⟨hx,hnd,cargs,ds,k1,k2,k3⟩:=xX hq M0 R1;cases tg with
   |fn f=>
    obtain⟨hb,hc⟩:=hI (hY.ae_ (Nat.zero_le _) fun j hj=>by simp only[h_,Nat.sub_zero,if_neg (show¬j<n by omega)]) M0 R1 U k1 k2 hx hd hL0 he next
    exact lb hnd (k3 hb) hc
   |yld nm=>
    simp only[Lw]at he;split at he
    ·rename_i hS;have hS':nm∈yl.S:=by simpa using hS
     obtain⟨⟨kk,nJ⟩,k4⟩:=k3;obtain⟨ln,fnl,tmps,assign,body,g1,g2,g3⟩:=hY hS' (fun _ h=>h) .nK (fun i hi=>⟨by omega,by rw[Nat.zero_add]⟩) M0 R1 U k1 k2 hx hd hL0 he next r
     refine zZ hnd ?_;rw[k4 ln ((M0.rwo _ _ nJ).1.trans g1),g2,Oper.uponIn_round];refine⟨fun h=>(by simp[wF,Fence.wide]at h),RoundIn.mono g3 ?_⟩
     grind
    ·cases he
  have Ub: ∀{Y:Sy},Mt Ω G E ι γ Y J→L.length=Y.d→(∀i,o.dst=some i→i<n)→ae G N (fS C inl cf n yl id ops l (Y.kX o.dst (.x pZ)) κ) L E=some dr→jY r P ops Q (List.range' (k+1) l.length) (a.put o.dst undef) w:=fun{Y} M hL hx he=>by
   obtain⟨w1,pr,A,tk,R1,U⟩:=R;refine ih hY (M.kX fun _ _=> .x rfl rfl) ⟨_,_,_,_,(show Rel P w1 pr A n w (a.put o.dst undef).tmps (J.kX o.dst (.tup [])) tk from R1.void hx),U⟩ (by cases o.dst<;>exact hd) (by rw[hL];exact GU.1.symm) he hκ
  simp only[fS]at he;refine wpOps_cons ho ?_;split at he
  ·rename_i t ht;split at ht
   ·rename_i hc;rw[Az]at hc;have hx: ∀i,o.dst=some i→i<n:=fun i hi=>by have:=hc.2;rw[hi]at this;simpa using this
    obtain⟨w1,pr,A,tk,R1,U⟩:=(fun x=>x) R;split at ht
    ·rename_i hg;obtain⟨q,hq,rfl⟩:=Mz.1 ht;obtain⟨g',hg',hgv⟩:=jM M hg;rw[eS R1 hg' hgv]
     grind
    ·rename_i hg;obtain⟨g',hg',hgv⟩:=jM M hg;rw[eS R1 hg' hgv]
     grind
    ·rename_i e hg;obtain⟨q,hq,rfl⟩:=Mz.1 ht;obtain⟨g',hg',hgv⟩:=jM M hg;simp only[ae,Bz]at he;obtain⟨v,h3,b,h4,he⟩:=he;obtain⟨b',hb',hgv⟩:=hgv v h3;obtain rfl:=wO h4;cases hb';rw[eS R1 hg' hgv];cases b
     ·exact Ub (zm M h3) (by rw[hL];unfold Sy.mQ;split<;>(try split)<;>rfl) hx (by simpa using he)
     ·have M1:Mt Ω G E ι γ (Y.qY e) J:=M.u0 rfl rfl fun i v hv=>by
       simp only[Sy.qY,d_]at hv;obtain⟨u,hu,rfl⟩:=Mz.1 hv;exact xH (M.slot i u hu) h3
      exact Sv M1 rfl hq (by simpa using he)
    ·cases ht
   ·cases ht
  ·split at he
   ·rename_i q hs;rw[o8,Bz]at he;obtain⟨ds0,h1,he⟩:=he;obtain⟨J',ι',γ',g1,g2⟩:=pX M (Y':=q.1) (O:=q.2) hs (sS h1);rw[hP]at g1;exact qX (r:=r) hG R g1 _ Q fun a' w' hdf R'=>jK hP hG hI l (k+1) hl' hY g2 R' (hdf▸hd) (by rw[hL];exact(rZ hs).1.symm) he hκ
   ·cases he
end
end
section
section
variable {P : Program} {n : Nat} {G : FP} {N : Nat} {dr : D}
theorem py{F:Fence}{fn:Func}{R:Ending→World→Prop}{a:Act}{w1:World}{pr:aV}{A:iI}{tk:ai}: ∀(l:List Deferred) {w:World} {J:St},Rel P w1 pr A n w a.tmps J tk→l.Nodup→(∀d∈l,∃b,d=mark b∧J.m [b+1]=some (.raw (.deferred (some []))))→
  (∀w' J',Rel P w1 pr A n w' a.tmps J' tk→J'.s=J.s→J'.c=J.c→(∀t,(∀d∈l,∀b,d=mark b→t≠ [b+1])→J'.m t=J.m t)→ ∃v,(results fn a.tmps).run P w'= .ok v w'∧R (.returned v) w')→LeavesInM F 0 P fn a.tmps R l .returning w
 | [],w,J,R1,_,_,h=>h w J R1 rfl rfl fun _ _=>rfl
 |d::l,w,J,R1,hnd,hm,h=>by
  obtain⟨b,rfl,hb⟩:=hm d (List.mem_cons_self ..);obtain⟨hd,ac5⟩:=List.nodup_cons.1 hnd;refine⟨by simp, .inl ⟨b,_,rfl,run_takeDeferred (R1.xC hb).2, ?_⟩⟩;refine py l (R1.y_ hb (.deferred none)) ac5 (fun d' hd'=> ?_) fun w' J' R' hs hc hmm=> ?_
  ·obtain⟨b',rfl,hb'⟩:=hm d' (Cz _ hd');refine⟨b',rfl, ?_⟩;rw[eJ,if_neg fun e=> ?_]
   ·exact hb'
   ·simp only[List.cons.injEq,Nat.add_right_cancel_iff,and_true]at e;subst e;exact hd hd'
  ·refine h w' J' R' hs hc fun t ht=> ?_;rw[hmm t fun d' hd' b' hb'=>ht d' (Cz _ hd') b' hb',eJ,if_neg (ht _ (List.mem_cons_self ..) b rfl)]
theorem qx{F:Fence}{fn:Func}{R:Ending→World→Prop}{S:List Nat}{Ω Ω2:bO}{E:List D}{ι γ:Nat→Tok}{Y:Sy}{J:St}{B:fe}{a:Act}{w:World}(M:Mt Ω2 G E ι γ Y J)(RE:dB P B n w a.tmps J)(hd:DM Ω Ω2 a.defers)(hle:Ω.le S Ω2)
  (h: ∀Ω3 w' J',Ω.le S Ω3→Mt Ω3 G E ι γ Y J'→dB P B n w' a.tmps J'→ ∃v,(results fn a.tmps).run P w'= .ok v w'∧R (.returned v) w'):LeavesInM F 0 P fn a.tmps R a.defers .returning w:=by
 obtain⟨w1,pr,A,tk,R1,U⟩:=RE;refine py a.defers R1 hd.2.1 (fun d hdd=> ?_) fun w' J' R' hs hc hm=> ?_
 ·obtain⟨b,h1,h2,_⟩:=hd.2.2 d hdd;exact⟨b,h1,M.con _ h2⟩
 ·refine h ⟨Ω2.t,Ω2.f,fun t=>Ω2.c t∧ ∀d∈a.defers,∀b,d=mark b→t≠ [b+1]⟩ w' J' ⟨fun t ht=>⟨hle.1 t ht,fun d hdd b hb e=> ?_⟩,hle.2⟩ ?_ ⟨w1,pr,A,tk,R',U⟩
  ·obtain⟨b',h1,_,h3⟩:=hd.2.2 d hdd
   grind
  ·refine M.mem hs hc R'.wf (fun k o hk hi=>hm _ fun d hdd b hb e=> ?_) (fun q hq=>hm _ fun d hdd b hb e=> ?_) (fun k q hk=>⟨rfl,rfl,fun hh=>(M.rwo k q hk).2.2.2 hh.1⟩) fun t ht=>by rw[hm t ht.2];exact M.con t ht.1
   rotate_left
   ·obtain⟨b',h1,h2,_⟩:=hd.2.2 d hdd;have hr:=M.con _ h2
    grind
   obtain⟨b',h1,h2,_⟩:=hd.2.2 d hdd;have:b=b':=by rw[hb]at h1;simpa[mark]using h1
   subst this;have hr:=M.con _ h2;rw[←e]at hr;cases o with
   |box vs=>obtain⟨ds,_,g,_⟩:=M.box k vs hk;rw[g]at hr;cases hr
   |map c=>obtain⟨_,_,_,g⟩:=M.mpo k c hk;rw[g]at hr;cases hr
   |mpl e' sz c=>obtain⟨_,_,_,g,_⟩:=M.own k e' sz c hk;rw[g]at hr;cases hr
   |raw q=>exact(M.rwo k q hk).2.2.2 (e▸h2)
   |au e' sz c=>
    obtain⟨_,_,_,g⟩:=M.au k _ _ _ hk
    grind
theorem BW{Ω:bO}{it:Option (Nat×Nat)}{g:Operand}{Y:Sy}{f:Nat}{vs:List SV}{O:List X}(h:Ft it n g Y=some ((f,vs),O)){E:List D}(hO: ∀e∈O,∃d,X.ev G E e=some d){ι γ:Nat→Tok}{J:St}(M:Mt Ω G E ι γ Y J){w1 w:World}{pr:aV}{A:iI}{tk:ai}{a:Act}(R:Rel P w1 pr A n w a.tmps J tk):
  ∃cv ds,a.eval g= .func (.func f) #[] cv∧aX w pr tk cv.toList ds∧bz G E ι Y.h vs ds:=by
 unfold Ft at h;split at h
 ·cases h;exact⟨#[],[],rfl,trivial,bz.nil⟩
 ·rename_i t;split at h
  ·rename_i ht;have hev:a.eval (.tmp t)=a.tmps.getD t undef:=rfl;have hfv:=R.slot t ht;split at h
   ·rename_i f' eM hf;split at h
    rotate_left
    ·cases h
    cases h;have H:=M.slot _ _ hf;generalize hJ:J.s t=dt at H hfv;cases H with
    | @clo _ _ ds hl hh=>
     generalize a.tmps.getD t undef=fv at hfv hev;cases hfv with
     | @clo _ _ cv _ _ hs hr=>exact⟨cv,ds,hev,ny (by simpa using hs) fun i c x hc hx=>hr i c x (by simpa using hc) hx,hl,hh⟩
     |bclo=>omega
   ·rename_i e hf;obtain⟨⟨g0,k⟩,_,h2⟩:=Bz.1 h;split at h2
    rotate_left
    ·cases h2
    obtain⟨⟨rfl,rfl⟩,rfl⟩:=h2;obtain⟨d0,hd0⟩:=hO _ (List.mem_singleton.2 rfl);obtain⟨ds',a1,a2⟩:=aP hd0;obtain⟨de,rfl,a3⟩:=je a1;obtain⟨k1,k2⟩:=(M.slot _ _ hf).ca;rw[k1]at a3;have hst:J.s t=de:=Option.some.inj a3;rw[hst]at hfv k1 k2;simp only[XK.run]at a2;split at a2
    ·rename_i g1 xs heq;simp only[List.cons.injEq,and_true]at heq;subst heq;split at a2
     ·rename_i hc;obtain⟨rfl,hlen⟩:=hc;generalize a.tmps.getD t undef=fv at hfv hev;cases hfv with
      | @clo _ _ cv _ _ hs hr=>
       refine⟨cv,xs,hev,ny (by simpa using hs) fun i c x hc hx=>hr i c x (by simpa using hc) hx,by simp[hlen],fun i v d hv hd=> ?_⟩;rw[Dz,Mz]at hv;obtain⟨j,hj,rfl⟩:=hv
       have hnd:d.aF=true:=by
        simp only[D.aF,Tz]at k2;have:=k2 d (Lz hd);exact mH this
       refine .x ?_ hnd;simp only[X.ev,X.ba,k1,Oz,Pz,XK.run]
       grind
      |bclo=>omega
     ·cases a2
    ·cases a2
   ·cases h
  ·cases h
 ·cases h
def MV:RS→LoopState
 | .ready=> .ready
 | .busy=> .busy
 | .done _=> .done
 | .over=> .exhausted
def jmp:VE→Option Code
 | .normal=>none
 | .exit id=>some (.exit id)
 | .ret=>some .ret
def Z3:RS→Option Code
 | .done e=>jmp e
 |_=>none
def PH(fn:Nat)(tmps:Array Value)(ps:Array Tmp)(assign body:Code)(df:Nat)(k:RS):Loop:={state:=MV k,pending:=Z3 k,fn,tmps,params:=ps,assign,body,defers:=df}
set_option maxHeartbeats 2000000 in
theorem jm{C:Cx}{inl:KC}{cf:Nat}(hP:C.P=P)(hG:Sound P (br G))(hm:P.follows .mixedOrders=true)(hI:tp P G N dr inl):
    ∀(c:Code) {B:fe} {r:Option Nat} {Ω0 Ω:bO} {yl:Yh} {rd:Bool} {bi:Nat} {ks:List Nat} {Y:Sy} {κ:VE→Sy→FT} {L:List (List D→Option D)} {E:List D} {ι γ:Nat→Tok} {J:St} {a:Act} {w:World} {Q:Exit→Act→World→Prop},
    (rd=false→r=none)→ij P G N dr yl B.A.sv n Ω→Mt Ω G E ι γ Y J→dB P B n w a.tmps J→DM Ω0 Ω a.defers→L.length=Y.d→ae G N (dg C inl cf n yl rd bi ks c Y κ) L E=some dr→abC P B n G N dr Ω0 yl.S Ω κ L E Q→Code.wK r P c Q a w:=by
  intro c
  induction c with
  |skip=>intro B r Ω0 Ω yl rd bi ks Y κ L E ι γ J a w Q hr hY M R hd hL he hκ;exact wpIn_skip (hκ .normal Ω Y L E ι γ J a w .nK M R hd hL ⟨[],rfl⟩ ⟨[],by simp⟩ he)
  |region id ops draw=>
    intro B r Ω0 Ω yl rd bi ks Y κ L E ι γ J0 a w Q hr hY M0 R0 hd hL he hκ
    simp only[dg]at he
    obtain⟨J,M,R⟩: ∃J',Mt Ω G E ι γ (Y.yz (C.un cf (2000000+id))) J'∧dB P B n w a.tmps J':=by
      unfold Sy.yz
      split
      · exact CU M0 R0
      · exact⟨J0,M0,R0⟩
    replace hL:L.length=(Y.yz (C.un cf (2000000+id))).d:=by rw[hL];unfold Sy.yz;split<;>rfl
    clear M0 R0
    generalize Y.yz (C.un cf (2000000+id))=Y1 at he M hL
    split at he
    · rename_i q hs
      rw[o8,Bz]at he
      obtain⟨_,h1,he⟩:=he
      rw[qp,Bz]at he
      obtain⟨ds,h2,he⟩:=he
      have hO:=mK (sS h2) (sS h1)
      replace hs:gI C.P (C.cfg cf) n ops draw Y1=some q:=by
        split at hs
        · cases hs
        · exact hs
      rw[hP]at hs
      refine sH hG hm (Y':=q.1) (O:=q.2) hs hO M R fun a' w' J' ι' γ' hd' R' M'=> ?_
      exact hκ .normal Ω _ L (E++ds) ι' γ' J' a' w' .nK (M'.settle h2) R' (hd'▸hd) (by rw[hL,←(vw hs).1];exact rT.1.symm) ⟨[],rfl⟩ ⟨ds,rfl⟩ he
    · split at he
      · cases he
      · rename_i IA
        have IA:draw=false:=by simpa using IA
        subst IA
        apply wpIn_region
        rw[List.range_eq_range']
        have:=jK (r:=r) (Q:=Q) (Ω0:=Ω0) hP hG hI (ops:=ops) ops.toList 0 (by simp) hY M R hd hL he (by
          rintro Ω' Y' L' E' ι' γ' J' a' w' hle M' R' hd' hL' ⟨pre,rfl⟩ ⟨suf,rfl⟩ he'
          rw[qp,Bz]at he'
          obtain⟨ds,h2,he'⟩:=he'
          exact hκ .normal Ω' _ _ _ ι' γ' J' a' w' hle (M'.settle h2) R' hd' (by rw[hL'];exact rT.1.symm) ⟨pre,rfl⟩ ⟨suf++ds,by simp⟩ he')
        simpa using this
  |seq x y ihx ihy=>
    intro B r Ω0 Ω yl rd bi ks Y κ L E ι γ J a w Q hr hY M R hd hL he hκ
    simp only[dg]at he
    split at he
    · rename_i jh hj
      simp only[ae]at he
      have ok:jh.1.ok Y.nv=true:=by
        split at hj
        · cases hj
        · exact Bm (fun _=>xi) hj
      refine wpIn_seq (ihx hr hY M.HY R hd (by simp[hL]) he ?_)
      rintro e Ω' Y' L' E' ι' γ' J' a' w' hle M' R' hd' hL' ⟨pre,rfl⟩ ⟨suf,rfl⟩ he'
      cases e with
      |normal=>
        simp only[]at he'
        split at he'
        · rename_i p hp
          simp only[ae,Bz]at he'
          obtain⟨ds',h3,f,h4,h5⟩:=he'
          have hix:Y'.d-(Y.d+1)=pre.length:=by
            simp only[List.length_append,List.length_cons,hL]at hL'
            omega
          rw[hix,Xz (Nat.le_refl _),Nat.sub_self]at h4
          simp only[List.getElem?_cons_zero,Jz]at h4
          subst h4
          have hnv:=M.nv
          obtain⟨ι3,γ3,M3⟩:=jh.1.sound M' ok hp h3 M.nv (fun i hi=>by rw[Yz (by omega)]) Y.d jh.2
          rw[dh h3,Hd.yT hp]at M3
          refine ihy hr (hY.mono hle) M3 R' hd' (by simp[hL,Hd.mk']) h5 ?_
          exact fun e=>(hκ e).more (pre:= []) hle
        · cases he'
      |exit id=>exact hκ (.exit id) Ω' Y' _ _ ι' γ' J' a' w' hle M' R' hd' hL' ⟨_,List.append_cons pre _ L⟩ ⟨suf,rfl⟩ he'
      |ret=>exact hκ .ret Ω' Y' _ _ ι' γ' J' a' w' hle M' R' hd' hL' ⟨_,List.append_cons pre _ L⟩ ⟨suf,rfl⟩ he'
    refine wpIn_seq (ihx hr hY M R hd hL he ?_)
    rintro e Ω' Y' L' E' ι' γ' J' a' w' hle M' R' hd' hL' ⟨pre,rfl⟩ ⟨suf,rfl⟩ he'
    cases e with
    |normal=>exact ihy hr (hY.mono hle) M' R' hd' hL' he' fun e=>(hκ e).more hle
    |exit id=>exact hκ (.exit id) Ω' Y' _ _ ι' γ' J' a' w' hle M' R' hd' hL' ⟨pre,rfl⟩ ⟨suf,rfl⟩ he'
    |ret=>exact hκ .ret Ω' Y' _ _ ι' γ' J' a' w' hle M' R' hd' hL' ⟨pre,rfl⟩ ⟨suf,rfl⟩ he'
  |cond c x y ihx ihy=>
    intro B r Ω0 Ω yl rd bi ks Y κ L E ι γ J a w Q hr hY M R hd hL he hκ
    simp only[dg]at he
    have branch: ∀(e:X) (v:D) (b:Bool),(eu n c).map (bL Y)=some (.x e)→X.ev G E e=some v→v.asBool=some b→ae G N (if b then dg C inl cf n yl rd 0 ks x Y κ else dg C inl cf n yl rd 0 ks y Y κ) L E=some dr→Code.wK r P (.cond c x y) Q a w:=by
      intro e v b hc h1 h2 he
      obtain⟨g,hg,hv⟩:=Mz.1 hc
      have hvr:=az M g
      rw[hv]at hvr
      obtain⟨h3,_⟩:=hvr.ca
      rw[h1]at h3
      have hgv:g.val J.s= .v (.bool b):=by
        have h4:=Option.some.inj h3
        rw[←h4];exact wO h2
      obtain⟨w1,pr,A,tk,R1,_⟩:=id R
      have hr1:=bA R1 hg
      rw[hgv]at hr1
      obtain⟨hev,_⟩:=aT.1 hr1
      cases b
      · exact wpIn_cond_false hev (ihy hr hY M R hd hL (by simpa using he) hκ)
      · exact wpIn_cond_true hev (ihx hr hY M R hd hL (by simpa using he) hκ)
    split at he
    · rename_i hc
      exact branch _ _ true hc rfl rfl he
    · rename_i hc
      exact branch _ _ false hc rfl rfl he
    · rename_i e _ _ hc
      simp only[ae,Bz]at he
      obtain⟨v,h1,b,h2,he⟩:=he
      exact branch e v b hc h1 h2 (by cases b<;>exact he)
    · cases he
  |block id c ih=>
    intro B r Ω0 Ω yl rd bi ks Y κ L E ι γ J a w Q hr hY M R hd hL he hκ
    obtain⟨J0,M0,R0⟩: ∃J',Mt Ω G E ι γ (Y.VA (C.un cf (id+1))) J'∧dB P B n w a.tmps J':=by
      unfold Sy.VA
      split
      · exact yx M R
      · exact⟨J,M,R⟩
    have hL0:L.length=(Y.VA (C.un cf (id+1))).d:=by rw[hL];unfold Sy.VA;split<;>rfl
    refine wpIn_block (ih hr hY M0 R0 hd hL0 he ?_)
    rintro e Ω' Y' L' E' ι' γ' J' a' w' hle M' R' hd' hL' hp hs he'
    cases e with
    |normal=>exact hκ .normal Ω' Y' _ _ ι' γ' J' a' w' hle M' R' hd' hL' hp hs he'
    |ret=>exact hκ .ret Ω' Y' _ _ ι' γ' J' a' w' hle M' R' hd' hL' hp hs he'
    |exit i=>
      simp only[VE.ex,Exit.inBlock]
      simp only[]at he'
      split at he'<;>rename_i hi
      · rw[if_pos hi];exact hκ .normal Ω' Y' _ _ ι' γ' J' a' w' hle M' R' hd' hL' hp hs he'
      · rw[if_neg hi];exact hκ (.exit i) Ω' Y' _ _ ι' γ' J' a' w' hle M' R' hd' hL' hp hs he'
  |loop c ih=>
    intro B r Ω0 Ω yl rd bi ks Y κ L E ι γ J a w Q hr hY M R hd hL he hκ
    simp only[dg]at he
    split at he
    · generalize hB:(fun(Y:Sy) (κ:VE→Sy→FT)=>dg C inl cf n yl rd 0 (uniq ks (cE c)) c Y κ)=BB at he
      refine vN (fun(j:Nat) a w=> ∃Ω' Y L' E' ι γ J,Ω.le yl.S Ω'∧ae G N (zS BB j Y κ) L' E'=some dr∧Mt Ω' G E' ι γ Y J∧dB P B n w a.tmps J∧DM Ω0 Ω' a.defers∧L'.length=Y.d∧(∃pre,L'=pre++L)∧ ∃suf,E'=E++suf) id
        ⟨Ω,Y,L,E,ι,γ,J, .nK,he,M,R,hd,hL,⟨[],rfl⟩,[],by simp⟩ ?_
      rintro j a1 w1 ⟨Ω1,Y1,_,_,ι1,γ1,J1,pq,he1,M1,R1,hd1,hL1,⟨Up,rfl⟩,UK,rfl⟩
      cases j with
      |zero=>cases he1
      |succ j=>
        simp only[zS]at he1
        rw[←hB]at he1
        refine ih hr (hY.mono pq) M1 R1 hd1 hL1 he1 ?_
        rintro e Ω' Y' L' E' ι' γ' J' a' w' hle M' R' hd' hL' ⟨pre,rfl⟩ ⟨suf,rfl⟩ he'
        cases e with
        |normal=>rw[hB]at he';exact⟨j,⟨Ω',Y',_,_,ι',γ',J',pq.trans hle,he',M',R',hd',hL',⟨pre++Up,by simp⟩,UK++suf,by simp⟩,Nat.lt_succ_self j⟩
        |exit i=>exact hκ (.exit i) Ω' Y' _ _ ι' γ' J' a' w' (pq.trans hle) M' R' hd' hL' ⟨pre++Up,by simp⟩ ⟨UK++suf,by simp⟩ he'
        |ret=>exact hκ .ret Ω' Y' _ _ ι' γ' J' a' w' (pq.trans hle) M' R' hd' hL' ⟨pre++Up,by simp⟩ ⟨UK++suf,by simp⟩ he'
    generalize hhd:Cx.NU _ _ _ _=hd0 at he
    split at he
    · rename_i ok
      split at he
      · rename_i q hq
        simp only[ae,Bz]at he
        obtain⟨ds,h1,he⟩:=he
        generalize hnx:Y.nx+hd0.row.length=nx at he
        obtain⟨ι1,γ1,M1⟩:=hd0.sound M ok hq h1 M.nv (fun _ _=>rfl) (Y.d+1) nx
        have hlen:=dh h1
        rw[hlen]at M1
        generalize hF:(fun rec vs=>ae G N (dg C inl cf n yl rd 0 _ c (hd0.mk' Y.nv q.1.length (Y.d+1) nx) _) (rec::L) (E++vs))=F at he
        refine vN (fun(j:Nat) a w=> ∃Ω' vs ι γ J,Ω.le yl.S Ω'∧iter F j vs=some dr∧Mt Ω' G (E++vs) ι γ (hd0.mk' Y.nv q.1.length (Y.d+1) nx) J∧dB P B n w a.tmps J∧DM Ω0 Ω' a.defers) id (x:=N) ⟨Ω,ds,ι1,γ1,J, .nK,he,M1,R,hd⟩ ?_
        rintro j a1 w1 ⟨Ω1,vs,ι2,γ2,J2,pq,hit,M2,R2,hd2⟩
        cases j with
        |zero=>cases hit
        |succ j=>
          simp only[iter]at hit
          rw[←hF]at hit
          refine ih (L:=iter F j::L) hr (hY.mono pq) M2 R2 hd2 (by simp[hL,Hd.mk']) (by rw[←hF];exact hit) ?_
          rintro e Ω' Y' L' E' ι' γ' J' a' w' hle M' R' hd' hL' ⟨pre,rfl⟩ ⟨suf,rfl⟩ he'
          cases e with
          |normal=>
            simp only[]at he'
            split at he'
            · rename_i p hp
              simp only[ae,Bz]at he'
              obtain⟨ds',h3,f,h4,h5⟩:=he'
              have hix:Y'.d-(Y.d+1)=pre.length:=by
                simp only[List.length_append,List.length_cons,hL]at hL'
                omega
              rw[hix,Xz (Nat.le_refl _),Nat.sub_self]at h4
              simp only[List.getElem?_cons_zero,Jz]at h4
              subst h4
              have hnv:=M.nv
              obtain⟨ι4,γ4,M4⟩:=M'.align (uP Y.s)
              obtain⟨ι3,γ3,M3⟩:=hd0.sound M4 ok hp h3 M.nv (fun i hi=>by rw[List.append_assoc,Yz (by omega)]) (Y.d+1) nx
              have hl1:=dh h3
              have hl2:p.1.length=q.1.length:=by
                rw[Hd.yT hp,Hd.yT hq]
              rw[hl1,hl2]at M3
              exact⟨j,⟨Ω',ds',ι3,γ3,J',pq.trans hle,h5,M3,R',hd'⟩,Nat.lt_succ_self j⟩
            · cases he'
          |exit i=>exact hκ (.exit i) Ω' Y' _ _ ι' γ' J' a' w' (pq.trans hle) M' R' hd' hL' ⟨pre++ [iter F j],by simp⟩ ⟨vs++suf,by simp⟩ he'
          |ret=>exact hκ .ret Ω' Y' _ _ ι' γ' J' a' w' (pq.trans hle) M' R' hd' hL' ⟨pre++ [iter F j],by simp⟩ ⟨vs++suf,by simp⟩ he'
      · cases he
    · cases he
  |exit id=>intro B r Ω0 Ω yl rd bi ks Y κ L E ι γ J a w Q hr hY M R hd hL he hκ;exact wpIn_exit (hκ (.exit id) Ω Y L E ι γ J a w .nK M R hd hL ⟨[],rfl⟩ ⟨[],by simp⟩ he)
  |ret=>intro B r Ω0 Ω yl rd bi ks Y κ L E ι γ J a w Q hr hY M R hd hL he hκ;exact wpIn_ret (hκ .ret Ω Y L E ι γ J a w .nK M R hd hL ⟨[],rfl⟩ ⟨[],by simp⟩ he)
  |rangeFunc g ps assign body iha ihb=>
    intro B r Ω0 Ω yl rd bi ks Y κ L E ι γ J a w Q hr hY M R hd hL he hκ
    simp only[dg]at he
    split at he
    · rename_i hc
      obtain⟨hrd,hS,hps⟩:=hc
      have hS:Y.nx∉yl.S:=by simpa using hS
      obtain rfl:=hr hrd
      have Th: ∀p∈ps.toList,p<n:=fun p hp=>by
        rw[Array.all_eq_true_iff_forall_mem]at hps
        simpa using hps p (by simpa using hp)
      split at he
      · rename_i q hq
        obtain⟨⟨f,eM⟩,OO⟩:=q
        rw[o8,Bz]at he
        obtain⟨_,hOO,he⟩:=he
        obtain⟨w1,pr,A,tk,R1,U⟩:=(fun x=>x) R
        refine wpIn_rangeFunc fun Ig _=> ?_
        generalize hnm:Y.nx=nm at*
        let wh:RS→Obj:=fun k=> .loop (PH Ig a.tmps ps assign body w.heap.size k)
        obtain⟨hn1,tk1,Ra,_,_⟩:=R1.Jn (.deferred (some []))
        obtain⟨hn2,tk2,Rb,_,_⟩:=Ra.Jn (wh .ready)
        have hsz:(w.alloc (.deferred (some []))).heap.size=w.heap.size+1:=World.size_alloc ..
        rw[hsz]at hn2 Rb
        have ac4:J.m [w.heap.size+1+1]=none:=by
          rw[eJ,if_neg (by simp)]at hn2;exact hn2
        have M1:=M.jQ (nm:=nm) (g:=wh) hn1 ac4
        generalize hw2:((w.alloc (.deferred (some []))).alloc (wh .ready))=w2 at Rb
        generalize hJ2:((J.raw w.heap.size (.deferred (some []))).raw (w.heap.size+1) (wh .ready))=J2 at Rb M1
        obtain⟨cv,dcs,hev,hrc,hvc⟩:=BW hq (sS hOO) M1 Rb
        generalize hΩ1:(⟨oP Ω.t nm [w.heap.size+1+1],oP Ω.f nm wh,fun t=>Ω.c t∨t= [w.heap.size+1]⟩:bO)=Ω1 at M1
        have pq:Ω.le yl.S Ω1:=by
          subst hΩ1
          refine⟨fun t h=> .inl h,fun k hk=> ?_⟩
          have hne:k≠nm:=fun e=>hS (e▸hk)
          exact⟨if_neg hne,if_neg hne⟩
        have ht1:Ω1.t nm= [w.heap.size+1+1]:=by subst hΩ1;exact if_pos rfl
        have hf1:Ω1.f nm=wh:=by subst hΩ1;exact if_pos rfl
        have hc1:Ω1.c [w.heap.size+1]:=by subst hΩ1;exact .inr rfl
        generalize hyl:(⟨nm::yl.S,_,_⟩:Yh)=yl' at he
        have XD:yl'.S=nm::yl.S:=by rw[←hyl]
        have hYl:ij P G N dr yl' (h_ 0 n a.tmps B.A.sv) 0 Ω1:=by
          intro S Bc Ω0' Ω' nm' off n0 vs x Z κ' L' E' ι' γ' J' w1' w' pr' A' tk' a' cargs ds next h1 hSS hle hV M' R' U' hr' hv hx hd' hL' he' hκ' r'
          rw[XD]at h1 hle hSS
          rw[←hyl]at he'
          simp only[]at he'
          split at he'
          · rename_i Td
            subst Td
            split at he'
            · rename_i Ti
              split at he'
              · rename_i hlen
                have hnS:nm'∈S:=hSS _ (List.mem_cons_self ..)
                have ht:Ω'.t nm'= [w.heap.size+1+1]:=((hle.2 _ (List.mem_cons_self ..)).1).trans ht1
                have hf:Ω'.f nm'=wh:=((hle.2 _ (List.mem_cons_self ..)).2).trans hf1
                obtain⟨k1,k2,k3,_⟩:=M'.rwo _ _ Ti
                rw[ht]at k1
                rw[k1,hf]at k3
                have rK:=(R'.xC k3).2
                have hcs:cargs.size=ps.size:=by
                  have:=hr'.length
                  have:=hv.1
                  simp at*;omega
                have htm:(ps.zip cargs).foldl (fun tmps (t,a)=>tmps.setIfInBounds t a) a.tmps=uQ ps.toList cargs.toList a.tmps:=by
                  rw[←Array.foldl_toList,Array.toList_zip];exact Cm _ _ _
                refine⟨w.heap.size+1,Ig,uQ ps.toList cargs.toList a.tmps,assign,body,ht, ?_,roundIn_of_wpIn trivial ?_⟩
                · rw[←htm];exact run_yield rK hcs
                have hVr: ∀j,n≤j→n≤n+off+j∧h_ n n0 a'.tmps Bc.A.sv (n+off+j)=B.A.sv j:=fun j hj=>by
                  obtain⟨v1,v2⟩:=hV j (Nat.zero_le _)
                  refine⟨by omega, ?_⟩
                  have e1:n+off+j-n=off+j:=by omega
                  simp only[h_,e1,if_neg (show¬off+j<n0 by omega)]
                  rw[v2]
                  simp only[h_,Nat.sub_zero,if_neg (show¬j<n by omega)]
                have hYr:ij P G N dr (yl.under S (n+off)) (h_ n n0 a'.tmps Bc.A.sv) n Ω':=ij.under (ij.mono hY (pq.trans (hle.sub fun x hx=>Cz _ hx))) (fun x hx=>hSS x (Cz _ hx)) hVr
                have Rr:=R'.round (n:=n) (off:=off) (T:=a.tmps) R1.size (fun i hi=>by
                  obtain⟨v1,v2⟩:=hV i (Nat.zero_le _)
                  refine⟨v1, ?_⟩
                  rw[U'.sv,v2]
                  simp only[h_,Nat.sub_zero,if_pos hi]) hr' Th
                have Ur:=U'.enter n n0 a'.tmps
                have Mr:=M'.round (n:=n) (off:=off) (n0:=n0) (ps:=ps.toList) hv
                refine iha (r:=some (w.heap.size+1)) (B:={Bc with A:={Bc.A with sv:=h_ n n0 a'.tmps Bc.A.sv}}) (Ω0:=Ω') (a:={tmps:=uQ ps.toList cargs.toList a.tmps,defers:= []}) (fun h=>by cases h) hYr Mr ⟨w1',pr',_,tk',Rr,Ur⟩ DM.nil hL' he' ?_
                rintro e Ω2 Z1 L2 E2 ι2 γ2 J3 a2 w3 vX M2 R2 hd2 hL2 ⟨pre,rfl⟩ ⟨suf,rfl⟩ he2
                simp only[]at he2
                split at he2
                · rename_i hr1
                  obtain⟨q1,q2,q3,_⟩:=M2.rwo _ _ hr1
                  have ht2:=(vX.2 _ hnS).1.trans ht
                  have hf2:=(vX.2 _ hnS).2.trans hf
                  rw[ht2]at q1
                  rw[q1,hf2]at q3
                  obtain⟨wq,prq,Aq,tkq,Rq,Uq⟩:=R2
                  have S7:=(Rq.xC q3).2
                  refine⟨_,run_beginRound S7 rfl, ?_⟩
                  have Mb:=M2.JV hr1 q1 .busy
                  rw[hf2]at Mb
                  refine ihb (r:=some (w.heap.size+1)) (Ω0:=Ω') (fun h=>by cases h) (ij.mono hYr vX) Mb ⟨wq,prq,Aq,tkq,Rq.y_ q3 (wh .busy),Uq⟩ hd2 hL2 he2 ?_
                  rintro e2 Ω3 Z2 L3 E3 ι3 γ3 J4 a3 w4 yE M3 R3 _ hL3 ⟨Us,rfl⟩ ⟨Ϙ,rfl⟩ he3
                  simp only[]at he3
                  split at he3
                  · rename_i NS
                    obtain⟨p1,p2,p3,_⟩:=M3.rwo _ _ NS
                    have ht3:=(yE.2 _ hnS).1.trans ht2
                    have hf3:=(yE.2 _ hnS).2.trans hf2
                    rw[ht3]at p1
                    rw[p1,hf3]at p3
                    obtain⟨wz,prz,Az,tkz,Rz,Uz⟩:=R3
                    have C3:=(Rz.xC p3).2
                    have Me:=M3.JV NS p1 (JQ e2)
                    rw[hf3]at Me
                    have fin:next (a'.put x (.bool (decide (e2= .normal)))) (w4.putObj (w.heap.size+1) (wh (JQ e2))):=
                      hκ' Ω3 _ _ _ ι3 γ3 _ _ _ (vX.trans yE) ((Me.leave n).kX (d:=bv (decide (e2= .normal))) fun _ _=> .x rfl rfl) (dB.leave (Rz.y_ p3 (wh (JQ e2))) Uz R'.size hx (aT.2 ⟨rfl,rfl⟩))
                        (by cases x<;>exact hd'.mono (vX.trans yE)) (by rw[hL3];cases x<;>rfl) ⟨Us++pre,by simp⟩ ⟨suf++Ϙ,by simp⟩ he3
                    cases e2 with
                    |normal=>exact⟨_,_,run_endRound none C3,_,rfl,fin⟩
                    |ret=>exact⟨_,_,run_endRound (some .ret) C3,_,rfl,fin⟩
                    |exit id=>exact⟨_,_,run_endRound (some (.exit id)) C3,_,rfl,fin⟩
                  · cases he3
                · cases he2
              · cases he'
            · cases he'
          · rename_i Td
            have h1':nm'∈yl.S:=by
              rcases List.mem_cons.1 h1 with h|h
              · exact absurd h Td
              · exact h
            exact hY h1' (fun x hx=>hSS x (Cz _ hx)) (pq.trans (hle.sub fun x hx=>Cz _ hx)) (fun j hj=>by
              obtain⟨v1,v2⟩:=hV j (Nat.zero_le _)
              refine⟨v1,v2.trans ?_⟩
              simp only[h_,Nat.sub_zero,if_neg (show¬j<n by omega)]) M' R' U' hr' hv hx hd' hL' he' hκ' r'
        have hdm:DM Ω0 Ω1 ([mark w.heap.size]++a.defers):=by
          have hno: ¬Ω.c [w.heap.size+1]:=fun h=>by have:=M.con _ h;rw[hn1]at this;cases this
          have h1:=hd.mono pq
          refine⟨h1.1,List.nodup_cons.2 ⟨fun vY=> ?_,h1.2.1⟩,fun d hdd=> ?_⟩
          · obtain⟨b',e1,e2,_⟩:=hd.2.2 _ vY
            have:w.heap.size=b':=by simpa[mark]using e1
            subst this
            exact hno e2
          · rcases List.mem_cons.1 hdd with rfl|hdd
            · exact⟨_,rfl,hc1,fun h=>hno (hd.1 _ h)⟩
            · exact h1.2.2 d hdd
        have Xw:aX w2 pr tk2 (#[Value.func (.yield (w.heap.size+1)) #[] #[]]++cv).toList (.v (.func (.yield (w.heap.size+1)) #[] #[])::dcs):=by
          rw[Array.toList_append]
          exact⟨aT.2 ⟨rfl,rfl⟩,hrc⟩
        have adb:bz G E (oP ι nm [w.heap.size+1+1]) (Y.jQ nm).h (.yl nm::eM) (.v (.func (.yield (w.heap.size+1)) #[] #[])::dcs):=by
          refine bz.mk ?_ hvc
          have:=VR.yl (G:=G) (E:=E) (ι:=oP ι nm [w.heap.size+1+1]) (h:=(Y.jQ nm).h) (n:=nm) (k:= .ready) (by simp[Sy.jQ,Sy.raw,bC])
          simpa[oP]using this
        obtain⟨hb,pn⟩:=hI (B:=B) (Ω0:=Ω0) (a:={a with defers:= [mark w.heap.size]++a.defers}) (x:=none) (next:=fun a' w3=> ∃jump w4,(Instr.endLoop (w.heap.size+1)).run P w3= .ok jump w4∧
            (match jump with
             |none=>Q .normal a' w4
             |some c=>c.wpIn (wF none) 0 P Q a' w4)) hYl M1 Rb U Xw adb (fun i h=>by cases h) hdm hL he (by
          rintro Ω2 Y2 L2 E2 ι2 γ2 J3 a2 w3 vX M2 R2 hd2 hL2 ⟨pre,rfl⟩ ⟨suf,rfl⟩ he2
          rw[XD]at vX
          have yE:Ω.le yl.S Ω2:=pq.trans (vX.sub fun x hx=>Cz _ hx)
          have go: ∀{k:RS} {e:VE},find Y2.h nm=some (.raw k)→MV k≠ .busy→Z3 k=jmp e→ae G N (κ e (Y2.kill nm)) (pre++L) (E++suf)=some dr→ ∃jump w4,(Instr.endLoop (w.heap.size+1)).run P w3= .ok jump w4∧
              (match jump with
               |none=>Q .normal a2 w4
               |some c=>c.wpIn (wF none) 0 P Q a2 w4):=by
            intro k e nJ hst hpd he3
            obtain⟨p1,p2,p3,_⟩:=M2.rwo _ _ nJ
            have ht2:=(vX.2 _ (List.mem_cons_self ..)).1.trans ht1
            have hf2:=(vX.2 _ (List.mem_cons_self ..)).2.trans hf1
            rw[ht2]at p1
            rw[p1,hf2]at p3
            obtain⟨wz,prz,Az,tkz,Rz,Uz⟩:=R2
            have rK:=(Rz.xC p3).2
            have fin:=fun o=>hκ e Ω2 (Y2.kill nm) _ _ ι2 γ2 _ a2 _ yE (M2.Le nJ p1 o) ⟨wz,prz,Az,tkz,Rz.y_ p3 o,Uz⟩ hd2 hL2 ⟨pre,rfl⟩ ⟨suf,rfl⟩ he3
            refine⟨_,_,run_endLoop rK hst, ?_⟩
            have ac':(PH Ig a.tmps ps assign body w.heap.size k).pending=jmp e:=hpd
            rw[ac']
            cases e with
            |normal=>exact fin _
            |ret=>exact wpIn_ret (fin _)
            |exit id=>exact wpIn_exit (fin _)
          simp only[]at he2
          split at he2
          · rename_i nJ
            exact go (e:= .normal) nJ (by simp[MV]) rfl he2
          · rename_i e nJ
            exact go (e:=e) nJ (by simp[MV]) rfl he2
          · cases he2)
        have S0:(Instr.enterLoop Ig a.tmps ps assign body none).run P w= .ok (w.heap.size+1,[mark w.heap.size]) w2:=by
          rw[←hw2];exact run_enterLoop_outer Ig a.tmps ps assign body
        have LI:(resolve a.eval (rangeCall g (w.heap.size+1)) 0).run P w2= .ok {target:= .fn (.func f) cv,args:= #[.func (.yield (w.heap.size+1)) #[] #[]]} w2:=by
          have hconst:a.eval (.const (.func (.yield (w.heap.size+1)) #[] #[]))= .func (.yield (w.heap.size+1)) #[] #[]:=rfl
          simp[resolve,hev,hconst,Deferred.ofValue]
        have hinv:(invoke (.fn (.func f) cv) #[.func (.yield (w.heap.size+1)) #[] #[]]).run P w2= .ok (.enter f (#[.func (.yield (w.heap.size+1)) #[] #[]]++cv)) w2:=by
          simp[invoke,bG hb]
        have SY:CallsIn (wF none) (0-1) P f (#[.func (.yield (w.heap.size+1)) #[] #[]]++cv) w2 (rangePost (wF none) 0 P (w.heap.size+1) Q {a with defers:= [mark w.heap.size]++a.defers}):=by
          refine iL.2 (pn.mono ?_)
          rintro e w' ⟨v,rfl,h⟩
          exact h
        exact⟨_,_,_,_,_,_,_,_,S0,LI,fun _ _=>trivial,hinv,fun h=>(by simp[wF,Fence.wide]at h),SY⟩
      · cases he
    · cases he
  |scope=>intro B r Ω0 Ω yl rd bi ks Y κ L E ι γ J a w Q hr hY M R hd hL he hκ;cases he
  |label=>intro B r Ω0 Ω yl rd bi ks Y κ L E ι γ J a w Q hr hY M R hd hL he hκ;cases he
  |goto=>intro B r Ω0 Ω yl rd bi ks Y κ L E ι γ J a w Q hr hY M R hd hL he hκ;cases he
  |refuse=>intro B r Ω0 Ω yl rd bi ks Y κ L E ι γ J a w Q hr hY M R hd hL he hκ;cases he
theorem LK{C:Cx}{inl:KC}(hP:C.P=P)(hG:Sound P (br G))(hm:P.follows .mixedOrders=true)(hI:tp P G N dr inl):tp P G N dr (Tp C inl):=by
 intro yl B Ω0 Ω f n vs x Y κ L E ι γ J w1 w pr A tk a cargs ds next hY M R U hr hv hx hd hL he hκ
 unfold Tp at he;rw[hP]at he;split at he
 ·rename_i fn hfn;split at he
  ·rename_i c rs hb hrs;split at he
   ·rename_i hc;obtain⟨Xt,hlen⟩:=hc;refine⟨⟨fn,hfn,by rw[hb];rfl,Xt⟩, ?_⟩;have hds:ds.length≤fn.ntmps:=by have:=hv.1;omega
    have Mc:=M.enter (n:=fn.ntmps) (n0:=n) hv hlen
    have Rc:dB P {B with A:={B.A with sv:=h_ fn.ntmps n a.tmps B.A.sv}} fn.ntmps w (cargs++Array.replicate (fn.ntmps-cargs.size) undef) ⟨ox fn.ntmps ds J.s,J.m,J.c⟩:=
     ⟨w1,pr,_,tk,R.enter hr hds,U.enter fn.ntmps n a.tmps⟩
    have hYc:ij P G N dr (yl.push fn.ntmps) (h_ fn.ntmps n a.tmps B.A.sv) fn.ntmps Ω:=ij.push hY fun j _=>⟨by omega,by simp only[h_,Nat.add_sub_cancel_left,Nat.sub_zero]⟩
    have fin: ∀{Ω':bO} {κ':Sy→FT} {L':List (List D→Option D)} {E':List D},Ω.le yl.S Ω'→nL P B n G N dr Ω0 yl.S Ω κ' L' E' next→ ∀{e:VE} {Y2:Sy} {L2:List (List D→Option D)} {E2:List D} {ι2 γ2:Nat→Tok} {J2:St} {a2:Act} {w2:World},Mt Ω' G E2 ι2 γ2 Y2 J2→
      dB P {B with A:={B.A with sv:=h_ fn.ntmps n a.tmps B.A.sv}} fn.ntmps w2 a2.tmps J2→DM Ω Ω' a2.defers→L2.length=Y2.d→(∃pre,L2=pre++L')→(∃suf,E2=E'++suf)→
      ae G N (match e with| .exit _=> .bad 100032|_=>match BT rs Y2 with|some v=>κ' ((Y2.leave fn.ntmps).kX x v)|none=> .bad 100033) L2 E2=some dr→
      bodyPostM (wF none) 0 P fn (fun e w'=> ∃v,e= .returned v∧next (a.put x v) w') e.ex a2 w2:=by
     intro Ω' κ' L' E' hle hκ' e Y2 L2 E2 ι2 γ2 J2 a2 w2 M2 R2 hd2 hL2 hp hs he2
     have go:ae G N (match BT rs Y2 with|some v=>κ' ((Y2.leave fn.ntmps).kX x v)|none=> .bad 100033) L2 E2=some dr→LeavesInM (wF none) 0 P fn a2.tmps (fun e w'=> ∃v,e= .returned v∧next (a.put x v) w') a2.defers .returning w2:=fun he2=>by
      split at he2
      ·rename_i v hvv;refine qx (S:=yl.S) M2 R2 hd2 hle fun Ω3 w3 J3 yE M3 R3=> ?_;obtain⟨d0,k1,k2⟩:=BU M3 hvv;obtain⟨wq,prq,Aq,tkq,Rq,Uq⟩:=R3;obtain⟨u,hu1,hu2⟩:=jS Rq hrs k1;exact⟨u,hu1,u,rfl,hκ' Ω3 _ L2 E2 ι2 γ2 _ _ w3 yE ((M3.leave fn.ntmps).kX fun _ _=>k2) (dB.leave Rq Uq R.size hx hu2) (by cases x<;>exact hd.mono yE) (by rw[hL2];cases x<;>rfl) hp hs he2⟩
      ·cases he2
     cases e with
     |normal=>exact go he2
     |ret=>exact go he2
     |exit i=>cases he2
    refine iL.1 (callsIn_of_wp_marks (F:=wF none) (n:=0) hfn hb trivial ?_);simp only[]at he;split at he
    ·rename_i jh hj
     have ok:jh.1.ok Y.nv=true:=by
      split at hj
      ·cases hj
      ·exact Bm (fun _=>xi) hj
     simp only[ae]at he;refine jm (r:=none) (Ω0:=Ω) hP hG hm hI c (fun _=>rfl) hYc Mc.HY Rc DM.nil (by simp[hL]) he ?_;rintro e Ω' Y2 L2 E2 ι2 γ2 J2 a2 w2 hle M2 R2 hd2 hL2 ⟨pre,rfl⟩ ⟨suf,rfl⟩ he2;refine fin (κ':=fun Y'=>match jh.1.mt Y' with|some p=> .next (Y'.d-(Y.d+1)) p.1|none=> .bad 100034) (L':=(fun vs=>ae G N (κ (jh.1.mk' Y.nv (hZ jh.1.row) Y.d jh.2)) L (E++vs))::L) (E':=E) hle ?_ M2 R2 hd2 hL2 ⟨pre,rfl⟩ ⟨suf,rfl⟩ he2;rintro Ω' Y' L3 E3 ι' γ' J' a' w' ac2 M' R' hd' hL' ⟨Us,rfl⟩ ⟨Ϙ,rfl⟩ he';simp only[]at he';split at he'
     ·rename_i p hp;simp only[ae,Bz]at he';obtain⟨ds',h3,f',h4,h5⟩:=he'
      have hix:Y'.d-(Y.d+1)=Us.length:=by
       simp only[List.length_append,List.length_cons,hL]at hL';omega
      rw[hix,Xz (Nat.le_refl _),Nat.sub_self]at h4;simp only[List.getElem?_cons_zero,Jz]at h4;subst h4;have hnv:=M.nv;obtain⟨ι3,γ3,M3⟩:=jh.1.sound M' ok hp h3 M.nv (fun i hi=>by rw[Yz (by omega)]) Y.d jh.2;rw[dh h3,Hd.yT hp]at M3;exact hκ Ω' _ _ _ ι3 γ3 J' a' w' ac2 M3 R' hd' (by simp[hL,Hd.mk']) ⟨[],rfl⟩ ⟨ds',rfl⟩ h5
     ·cases he'
    ·refine jm (r:=none) (Ω0:=Ω) hP hG hm hI c (fun _=>rfl) hYc Mc Rc DM.nil hL he ?_;rintro e Ω' Y2 L2 E2 ι2 γ2 J2 a2 w2 hle M2 R2 hd2 hL2 hp hs he2;exact fin hle hκ M2 R2 hd2 hL2 hp hs he2
   ·cases he
  ·cases he
 ·cases he
theorem tN{C:Cx}(hP:C.P=P)(hG:Sound P (br G))(hm:P.follows .mixedOrders=true): ∀k,tp P G N dr (wV C k)
 |0=>fun _ _ _ _ _ _ _ _ _ he _=>by cases he
 |k+1=>LK hP hG hm (tN hP hG hm k)
end
end
section
theorem Io{P:Program}{C:Cx}{inl:KC}{ks:List Nat}{G:FP}{N:Nat}(hP:C.P=P)(hG:Sound P (br G))(hm:P.follows .mixedOrders=true){f:Nat}(hI: ∀dr,tp P G N dr inl){fn:Func}{c:Code}{rs:List fC}(h1:P.funcs[f]?=some fn)
  (h2 : (fn.name == "runtime.NumGoroutine") = false) (h3 : fn.body = some c) (h4 : fn.results.toList.mapM (vT P fn.ntmps) = some rs) {ds : List D} {d : D} (hlen : ds.length ≤ fn.ntmps) (hn : ds.all D.aF = true)
  (he:ae G N (dg C inl f fn.ntmps VS false 0 ks c (DQ ds.length) (kR rs)) [] ds=some d):Vx P f ds d:=by
 have hb:dD P f:=⟨fn,h1,by rw[h3];rfl,h2⟩
 suffices key: ∀(w:World) (pr:aV) (cargs:Array Value),(∀b o,pr b o→b<w.heap.size)→Co w pr→aX w pr aA cargs.toList ds→
   Calls P f cargs w fun e w'=> ∃v pr',e= .returned v∧dP (fun _=>False) w w'∧(d.eD=false→ ∀b o,pr b o→pr' b o)∧(∀b o,pr' b o→d.eD=false∧pr b o∨(w.heap.size≤b∧b<w'.heap.size))∧aj w' pr' aA v d.bare by
  cases ho:d.eD with
  |false=>
   refine xR.toR (.inr ⟨hb,fun w pr cargs k1 k2 k3=>(key w pr cargs k1 k2 k3).mono ?_⟩) ho;rintro e w' ⟨v,pr',k1,k2,k3,k4,k5⟩;rw[sP ho]at k5;exact⟨v,pr',k1,k2,k3 ho,fun b o h=>(k4 b o h).imp And.right id,k5⟩
  |true=>
   have hn:NA P f ds d.bare:=⟨hb,fun w pr cargs k1 k2 k3=>(key w pr cargs k1 k2 k3).mono (by
    rintro e w' ⟨v,pr',k1,k2,k3,k4,k5⟩
    exact⟨v,pr',k1,k2,fun b o h=>(k4 b o h).resolve_left (fun h=>by rw[ho]at h;cases h.1),k5⟩)⟩
   exact⟨hn.toP,fun _=>hn⟩
 intro w pr cargs hpr hg jr;have hY0:ij P G N d VS (⟨w,pr,qO⟩:fe).A.sv fn.ntmps uS:=fun h=>by cases h
 refine iL.1 (callsIn_of_wp_marks (F:=wF none) (n:=0) h1 h3 trivial ?_);refine jm (r:=none) (Ω0:=uS) (Ω:=uS) hP hG hm (hI d) c (fun _=>rfl) hY0 (mt0 hn) (Bj hpr hg jr hlen) DM.nil rfl he ?_;rintro e Ω' Y' L' E' ι' γ' J' a' w' hle M' R' hd' _ _ _ he'
 have fin:ae G N (match MK rs Y' with|some x=>FT.ret x|none=> .bad 100022) L' E'=some d→LeavesInM (wF none) 0 P fn a'.tmps (fun e w'=> ∃v pr',e= .returned v∧dP (fun _=>False) w w'∧(d.eD=false→ ∀b o,pr b o→pr' b o)∧(∀b o,pr' b o→d.eD=false∧pr b o∨(w.heap.size≤b∧b<w'.heap.size))∧aj w' pr' aA v d.bare) a'.defers .returning w':=fun h'=>by
  split at h'
  ·rename_i x hx;simp only[ae,Bz]at h';obtain⟨d0,g1,g2⟩:=h';split at g2
   rotate_left
   ·cases g2
   rename_i LG;injection g2 with g2
   refine qx (S:= []) M' R' hd' hle fun Ω3 w3 J3 _ M3 R3=> ?_;obtain⟨w1,pr1,A1,tk,R1,U⟩:=R3;obtain⟨d1,k1,k2,k3⟩:=DB M3 hx g1;obtain⟨v,hv1,hv2⟩:=jS R1 h4 k1
   have lt: ∀t q b c,J3.m t=some q→tk t=some (b,c)→b<w3.heap.size:=fun t q b c hm ht=>by
    obtain⟨b1,c1,g1,g2⟩:=(R1.mem.obj t q hm).place;rw[ht]at g1;cases g1;exact g2
   have hv3:=Cf (pr':=fun b o=>pr1 b o∨b8 tk J3.m b) R1.mem (fun _ _ h=> .inl h) (fun _ h _=> .inr h) k2 hv2;have hsz:=U.chg.size;have agc:=R1.chg.size
   have IG: ∀b,b8 tk J3.m b→w.heap.size≤b∧b<w3.heap.size:=by
    rintro b ⟨t,q,c,hm,ht⟩;have hlt:=lt t q b c hm ht;rcases R1.live t q b c hm ht with h|h
    ·exact⟨by have:(⟨w,pr,qO⟩:fe).w.heap.size=w.heap.size:=rfl;omega,hlt⟩
    ·refine⟨Nat.le_of_not_lt fun hb=> ?_,hlt⟩;exact(U.sub b hb h:False)
   have hch:dP (fun _=>False) w w3:=U.chg.trans R1.chg fun b hb h=>(U.sub b hb h:False)
   have hd0:d0.eD=false:=by
    unfold D.eD;split
    ·simp[D.aF,D.aM,D.eT]at LG
    ·rfl
   unfold bY at g2;split at g2
   ·subst g2
    exact⟨v,hv1,v,fun b o=>pr1 b o∨b8 tk J3.m b,rfl,hch,fun _ b o h=> .inl (U.sup b o h),fun b o h=>by
     rcases h with h|h
     ·have hlt:=R1.prlt b o h;rcases U.inf b o h with h|h|h
      ·exact .inl ⟨hd0,h⟩
      ·exact .inr ⟨h,by omega⟩
      ·exact(show False from h).elim
     ·exact .inr (IG b h),by rw[sP hd0];exact hv3⟩
   ·split at g2
    ·rename_i hn;subst g2;exact⟨v,hv1,v,_,rfl,hch,(fun h=>by cases h),fun b o h=> .inr (IG b h),G7 R1.mem k3 hn k2 hv2⟩
    ·subst g2
     exact⟨v,hv1,v,fun b o=>pr1 b o∨b8 tk J3.m b,rfl,hch,fun _ b o h=> .inl (U.sup b o h),fun b o h=>by
      rcases h with h|h
      ·have hlt:=R1.prlt b o h;rcases U.inf b o h with h|h|h
       ·exact .inl ⟨hd0,h⟩
       ·exact .inr ⟨h,by omega⟩
       ·exact(show False from h).elim
      ·exact .inr (IG b h),by rw[sP hd0];exact hv3⟩
  ·cases h'
 cases e with
 |normal=>exact fin he'
 |ret=>exact fin he'
 |exit i=>cases he'
end
section
section
variable (C : Cx) (H : FP) (N : Nat)
def stepG(G:FP):FP:=fun f ds=>(H f ds).or ((mj C f).bind fun q=>if(ds.length=q.1∧ds.all D.aF=true)∧f<1000000 then ae G N q.2 [] ds else none)
def Gs:Nat→FP
 |0=>Yq
 |k+1=>stepG C H N (Gs k)
end
def Nz{α β:Type}(g:α→Option β)(gs:Nat→α→Option β):Prop:= ∀a b,g a=some b→ ∃k0,∀k,k0≤k→gs k a=some b
section
variable {G : FP} {Gk : Nat → FP}
def GT(G:FP)(Gk:Nat→FP):Prop:= ∀f ds d,G f ds=some d→ ∃k0,∀k,k0≤k→Gk k f ds=some d
theorem rm(hG:GT G Gk){fl:Bool}{f:Nat}{ds:List D}{d:D}(h:gn G fl f ds=some d): ∃k0,∀k,k0≤k→gn (Gk k) fl f ds=some d:=by
 unfold gn at h;obtain⟨d0,h1,h2⟩:=Bz.1 h;obtain⟨k0,hk⟩:=hG f ds d0 h1;exact⟨k0,fun k hkk=>by unfold gn;rw[hk k hkk];exact h2⟩
theorem GS(hG:GT G Gk){k:XK}{ds:List D}{d:D}(h:k.run G ds=some d): ∃k0,∀j,k0≤j→k.run (Gk j) ds=some d:=by
 cases k with
 |call fl f=>exact rm hG h
 |ccall fl=>
  simp only[XK.run]at h⊢;split at h
  ·split at h
   ·rename_i hlt;obtain⟨cs,h1,h2⟩:=Bz.1 h;obtain⟨k0,hk⟩:=rm hG h2;exact⟨k0,fun j hj=>by rw[if_pos hlt];simp only[h1,Oz];exact hk j hj⟩
   ·cases h
  ·cases h
 |ecall k f sz=>
  simp only[XK.run]at h⊢;split at h
  ·rename_i hc;split at h
   ·obtain⟨r,h1,h2⟩:=Bz.1 h;obtain⟨k0,hk⟩:=hG _ _ _ h1;exact⟨k0,fun j hj=>by rw[if_pos hc,hk j hj];exact h2⟩
   ·cases h
  ·cases h
 |_=>exact⟨0,fun j _=>h⟩
mutual
theorem kI(hG:GT G Gk){E:List D}: ∀(x:X) {d:D},X.ev G E x=some d→ ∃k0,∀k,k0≤k→X.ev (Gk k) E x=some d
 | .t i,d,h=>⟨0,fun _ _=>h⟩
 | .q e,d,h=>⟨0,fun _ _=>h⟩
 | .mk kk xs,d,h=>by
  obtain⟨ds,h1,h2⟩:=aP h;obtain⟨k1,g1⟩:=iF hG xs h1;obtain⟨k2,g2⟩:=GS hG h2;exact⟨max k1 k2,fun k hk=>by simp only[X.ev,g1 k (by omega),Oz,g2 k (by omega)]⟩
 | .ite c a b,d,h=>by
  simp only[X.ev,Bz]at h;obtain⟨v,h1,x,h2,h3⟩:=h;obtain⟨k1,g1⟩:=kI hG c h1;cases x
  ·obtain⟨k2,g2⟩:=kI hG b (by simpa using h3);exact⟨max k1 k2,fun k hk=>by simp only[X.ev,g1 k (by omega),Oz,h2,cond_false,g2 k (by omega)]⟩
  ·obtain⟨k2,g2⟩:=kI hG a (by simpa using h3);exact⟨max k1 k2,fun k hk=>by simp only[X.ev,g1 k (by omega),Oz,h2,cond_true,g2 k (by omega)]⟩
theorem iF(hG:GT G Gk){E:List D}: ∀(xs:List X) {ds:List D},X.ba G E xs=some ds→ ∃k0,∀k,k0≤k→X.ba (Gk k) E xs=some ds
 | [],ds,h=>⟨0,fun _ _=>h⟩
 |x::r,ds,h=>by
  simp only[X.ba,Bz,Mz]at h;obtain⟨d,h1,ds',h2,rfl⟩:=h;obtain⟨k1,g1⟩:=kI hG x h1;obtain⟨k2,g2⟩:=iF hG r h2;exact⟨max k1 k2,fun k hk=>by simp only[X.ba,g1 k (by omega),g2 k (by omega),Oz,Pz]⟩
end
theorem fU(hG:GT G Gk){N:Nat}: ∀(t:FT) {L:List (List D→Option D)} {Lk:Nat→List (List D→Option D)} {E:List D} {d:D},
  (∀(j:Nat) (f:List D→Option D),L[j]?=some f→ ∃fk:Nat→List D→Option D,(∀k,(Lk k)[j]?=some (fk k))∧Nz f fk)→ae G N t L E=some d→ ∃k0,∀k,k0≤k→ae (Gk k) N t (Lk k) E=some d:=by
 intro t
 induction t with
 |ret x=>
  intro L Lk E d hL h;simp only[ae,Bz]at h;obtain⟨d0,h1,h2⟩:=h;obtain⟨k0,g⟩:=kI hG x h1;exact⟨k0,fun k hk=>by simp only[ae,g k hk,Oz];exact h2⟩
 |fM xs k ih=>
  intro L Lk E d hL h;simp only[ae,Bz]at h;obtain⟨ds,h1,h2⟩:=h;obtain⟨k1,g1⟩:=iF hG xs h1;obtain⟨k2,g2⟩:=ih hL h2;exact⟨max k1 k2,fun k hk=>by simp only[ae,g1 k (by omega),Oz,g2 k (by omega)]⟩
 |lets xs k ih=>
  intro L Lk E d hL h;simp only[ae,Bz]at h;obtain⟨ds,h1,h2⟩:=h;obtain⟨k1,g1⟩:=iF hG xs h1;obtain⟨k2,g2⟩:=ih hL h2;exact⟨max k1 k2,fun k hk=>by simp only[ae,g1 k (by omega),Oz,g2 k (by omega)]⟩
 |ite c a b iha ihb=>
  intro L Lk E d hL h;simp only[ae,Bz]at h;obtain⟨v,h1,x,h2,h3⟩:=h;obtain⟨k1,g1⟩:=kI hG c h1;cases x
  ·obtain⟨k2,g2⟩:=ihb hL (by simpa using h3);exact⟨max k1 k2,fun k hk=>by simp only[ae,g1 k (by omega),Oz,h2,cond_false,g2 k (by omega)]⟩
  ·obtain⟨k2,g2⟩:=iha hL (by simpa using h3);exact⟨max k1 k2,fun k hk=>by simp only[ae,g1 k (by omega),Oz,h2,cond_true,g2 k (by omega)]⟩
 |loop xs body ih=>
  intro L Lk E d hL h;simp only[ae,Bz]at h;obtain⟨ds,h1,h2⟩:=h;obtain⟨k1,g1⟩:=iF hG xs h1
  have key: ∀n,Nz (iter (fun rec vs=>ae G N body (rec::L) (E++vs)) n) (fun k=>iter (fun rec vs=>ae (Gk k) N body (rec::Lk k) (E++vs)) n):=by
   intro n
   induction n with
   |zero=>intro a b h;cases h
   |succ n ihn=>
    intro a b h;simp only[iter]at h⊢;refine ih (Lk:=fun k=>iter (fun rec vs=>ae (Gk k) N body (rec::Lk k) (E++vs)) n::Lk k) (fun j f hf=> ?_) h;cases j with
    |zero=>simp at hf;subst hf;exact⟨_,fun k=>rfl,ihn⟩
    |succ j=>exact(hL j f (by simpa using hf)).imp fun fk hfk=>⟨fun k=>by simpa using hfk.1 k,hfk.2⟩
  obtain⟨k2,g2⟩:=key N ds d h2;exact⟨max k1 k2,fun k hk=>by simp only[ae,g1 k (by omega),Oz];exact g2 k (by omega)⟩
 |next j xs=>
  intro L Lk E d hL h;simp only[ae,Bz]at h;obtain⟨ds,h1,f,h2,h3⟩:=h;obtain⟨k1,g1⟩:=iF hG xs h1;obtain⟨fk,g2,g3⟩:=hL j f h2;obtain⟨k2,g4⟩:=g3 ds d h3;exact⟨max k1 k2,fun k hk=>by simp only[ae,g1 k (by omega),Oz,g2 k,g4 k (by omega)]⟩
 |jp b body ihb ih=>
  intro L Lk E d hL h;simp only[ae]at h⊢;refine ih (Lk:=fun k=>(fun vs=>ae (Gk k) N b (Lk k) (E++vs))::Lk k) (fun j f hf=> ?_) h;cases j with
  |zero=>simp at hf;subst hf;exact⟨_,fun k=>rfl,fun vs d' h'=>ihb hL h'⟩
  |succ j=>exact(hL j f (by simpa using hf)).imp fun fk hfk=>⟨fun k=>by simpa using hfk.1 k,hfk.2⟩
 |st Y=>intro L Lk E d hL h;cases h
 |bad _=>intro L Lk E d hL h;cases h
end
section
variable {P : Program} {C : Cx} {H : FP} {N : Nat}
theorem kh(hP:C.P=P)(hH:Sound P (br H))(hm:P.follows .mixedOrders=true): ∀k,Sound P (br (Gs C H N k))
 |0=>⟨fun f ds d _ h=>(by cases h),fun k f ds d _ _ h=>(by cases h),fun e f ds r _ h=>(by cases h)⟩
 |k+1=>⟨fun f ds d hlt h=>(by
  have h':(H f ds).or ((mj C f).bind fun q=>if(ds.length=q.1∧ds.all D.aF=true)∧f<1000000 then ae (Gs C H N k) N q.2 [] ds else none)=some d:=h;cases hh:H f ds with
  |some d0=>
   rw[hh]at h';cases h';exact hH.p f ds d hlt hh
  |none=>
   rw[hh,Option.none_or]at h';obtain⟨⟨n,t⟩,h1,h2⟩:=Bz.1 h';simp only[]at h2;split at h2
   ·rename_i hc;have hS:=kh hP hH hm k;unfold mj at h1;subst hP;split at h1
    ·rename_i fn hfn;split at h1
     ·rename_i c rs hb hr;split at h1<;>cases h1;rename_i hcc;refine Io (C:={C with rt:=f}) (inl:=wV {C with rt:=f} 8) (N:=N) (ks:=uk fn) rfl hS hm (fun dr=>tN (C:={C with rt:=f}) rfl hS hm 8) hfn hcc.1 hb hr (by omega) hc.1.2 ?_;rw[hc.1.1];exact h2
     ·cases h1
    ·cases h1
   ·cases h2),fun k' f ds d hlt h6 h=>(by
  have h':(H (1000000+(1000000*k'+f)) ds).or ((mj C (1000000+(1000000*k'+f))).bind fun q=>if(ds.length=q.1∧ds.all D.aF=true)∧1000000+(1000000*k'+f)<1000000 then ae (Gs C H N k) N q.2 [] ds else none)=some d:=h;cases hh:H (1000000+(1000000*k'+f)) ds with
  |some d0=>
   rw[hh]at h';cases h';exact hH.e k' f ds d hlt h6 hh
  |none=>
   rw[hh,Option.none_or]at h';obtain⟨q,_,h2⟩:=Bz.1 h';rw[if_neg (by omega)]at h2;cases h2),fun e f ds r hlt h=>(by
  obtain⟨d,hd,rfl⟩:=Mz.1 (show(Gs C H N (k+1) (1000001000000+(1000000*e+f)) ds).map _=some r from h);have h':(H (1000001000000+(1000000*e+f)) ds).or ((mj C (1000001000000+(1000000*e+f))).bind fun q=>if(ds.length=q.1∧ds.all D.aF=true)∧1000001000000+(1000000*e+f)<1000000 then ae (Gs C H N k) N q.2 [] ds else none)=some d:=hd;cases hh:H (1000001000000+(1000000*e+f)) ds with
  |some d0=>
   rw[hh]at h';cases h';exact hH.q e f ds _ hlt (show(H (1000001000000+(1000000*e+f)) ds).map _=_ by rw[hh];rfl)
  |none=>
   rw[hh,Option.none_or]at h';obtain⟨q,_,h2⟩:=Bz.1 h';rw[if_neg (by omega)]at h2
   cases h2)⟩
theorem D9: ∀k f ds d,Gs C H N k f ds=some d→Gs C H N (k+1) f ds=some d
 |0,f,ds,d,h=>by cases h
 |k+1,f,ds,d,h=>by
  have h':(H f ds).or ((mj C f).bind fun q=>if(ds.length=q.1∧ds.all D.aF=true)∧f<1000000 then ae (Gs C H N k) N q.2 [] ds else none)=some d:=h;show(H f ds).or ((mj C f).bind fun q=>if(ds.length=q.1∧ds.all D.aF=true)∧f<1000000 then ae (Gs C H N (k+1)) N q.2 [] ds else none)=some d;cases hh:H f ds with
  |some d0=>rw[hh]at h';exact h'
  |none=>
   rw[hh,Option.none_or]at h';rw[Option.none_or];obtain⟨q,h1,h2⟩:=Bz.1 h';rw[h1];simp only[Oz];split at h2
   ·rename_i hc;rw[if_pos hc];obtain⟨k0,hk⟩:=fU (G:=Gs C H N k) (Gk:=fun _=>Gs C H N (k+1)) (fun f ds d h=>⟨0,fun _ _=>D9 k f ds d h⟩) (Lk:=fun _=> []) q.2 (fun j f hf=>by simp at hf) h2;exact hk k0 (Nat.le_refl _)
   ·cases h2
theorem Hg{k j:Nat}(h:k≤j){f:Nat}{ds:List D}{d:D}(hd:Gs C H N k f ds=some d):Gs C H N j f ds=some d:=by
 induction h with
 |refl=>exact hd
 |step _ ih=>exact D9 _ f ds d ih
open Classical in
noncomputable def GG(C:Cx)(H:FP)(N:Nat):FP:=fun f ds=>if h: ∃d,∃k,Gs C H N k f ds=some d then some h.choose else none
theorem Nx{k f:Nat}{ds:List D}{d:D}(h:Gs C H N k f ds=some d):GG C H N f ds=some d:=by
 have hex: ∃d,∃k,Gs C H N k f ds=some d:=⟨d,k,h⟩;simp only[GG,dif_pos hex];obtain⟨j,hj⟩:=hex.choose_spec;have h1:=Hg (Nat.le_max_left k j) h;have h2:=Hg (Nat.le_max_right k j) hj;rw[h1]at h2;exact h2.symm
theorem sJ{f:Nat}{ds:List D}{d:D}(h:GG C H N f ds=some d): ∃k,Gs C H N k f ds=some d:=by
 by_cases hex: ∃d,∃k,Gs C H N k f ds=some d
 ·simp only[GG,dif_pos hex,Jz]at h;rw[←h];exact hex.choose_spec
 ·simp only[GG,dif_neg hex]at h;cases h
theorem oT(hP:C.P=P)(hH:Sound P (br H))(hm:P.follows .mixedOrders=true):Sound P (br (GG C H N)):=
 ⟨fun f ds d hlt h=>let⟨k,hk⟩:=sJ (show GG C H N f ds=some d from h);(kh hP hH hm k).p f ds d hlt hk,
  fun k' f ds d hlt h6 h=>let⟨k,hk⟩:=sJ (show GG C H N (1000000+(1000000*k'+f)) ds=some d from h);(kh hP hH hm k).e k' f ds d hlt h6 hk,
  fun e f ds r hlt h=>(by
   obtain⟨d,hd,rfl⟩:=Mz.1 (show(GG C H N (1000001000000+(1000000*e+f)) ds).map _=some r from h);obtain⟨k,hk⟩:=sJ hd
   exact(kh hP hH hm k).q e f ds _ hlt (show(Gs C H N k (1000001000000+(1000000*e+f)) ds).map _=_ by rw[hk];rfl))⟩
theorem dC{f:Nat}{ds:List D}{d:D}(h:H f ds=some d):GG C H N f ds=some d:=
 Nx (k:=1) (show(H f ds).or _=some d by rw[h];rfl)
theorem KK{f n:Nat}{t:FT}(hc:mj C f=some (n,t)){ds:List D}{d:D}(h0:H f ds=none)(hlt:f<1000000)(hl:ds.length=n)(hn:ds.all D.aF=true)(he:ae (GG C H N) N t [] ds=some d):GG C H N f ds=some d:=by
 obtain⟨k0,hk⟩:=fU (G:=GG C H N) (Gk:=fun k=>Gs C H N k) (fun f ds d h=>let⟨k,hk⟩:=sJ h;⟨k,fun j hj=>Hg hj hk⟩) (Lk:=fun _=> []) t (fun j f hf=>by simp at hf) he;refine Nx (k:=k0+1) ?_;show(H f ds).or ((mj C f).bind fun q=>if(ds.length=q.1∧ds.all D.aF=true)∧f<1000000 then ae (Gs C H N k0) N q.2 [] ds else none)=some d;rw[h0,hc];simp only[Option.none_or,Oz];rw[if_pos ⟨⟨hl,hn⟩,hlt⟩];exact hk k0 (Nat.le_refl _)
end
end
section
structure tn(G:FP)(s:Cs)(E E':List D):Prop where
 l:s.rs.length=E.length
 v: ∀(i j:Nat),s.rs[i]?=some j→E'[j]?=E[i]?
 a: ∀(e:X) (j:Nat),(e,j)∈s.av→ ∃d,X.ev G E' e=some d∧E'[j]?=some d
section
variable {G : FP} {N : Nat} {s : Cs} {E E' : List D}
theorem tn.get(I:tn G s E E'){i j:Nat}(h:s.rs[i]?=some j): ∃d,E[i]?=some d∧E'[j]?=some d:=by
 have hi:i<E.length:=by rw[←I.l];exact(Gz.1 h).1
 exact⟨E[i],Ez hi,(I.v i j h).trans (Ez hi)⟩
theorem tn.more(I:tn G s E E')(t:List D):tn G s E (E'++t):=
 ⟨I.l,fun i j h=>by
  obtain⟨d,h1,h2⟩:=I.get h;rw[h1,Yz (Gz.1 h2).1,h2],fun e j h=>by
  obtain⟨d,h1,h2⟩:=I.a e j h
  exact⟨d,bt _ _ h1,by rw[Yz (Gz.1 h2).1,h2]⟩⟩
theorem ng: ∀{l:List (X×Nat)} {y:X} {j:Nat},Bw l y=some j→(y,j)∈l
 |(e,i)::r,y,j,h=>by
  simp only[Bw]at h;split at h
  ·rename_i hb;cases h;rw[aK e y hb];exact List.mem_cons_self ..
  ·exact Cz _ (ng h)
theorem UH(I:tn G s E E'){y:X}{d:D}(h:X.ev G E' (UG s y)=some d):X.ev G E' y=some d:=by
 unfold UG at h;split at h
 ·split at h
  ·rename_i j hj;obtain⟨d',h1,h2⟩:=I.a y j (ng hj);have h:E'[j]?=some d:=h
   grind
  ·exact h
 ·exact h
mutual
theorem oe(I:tn G s E E'): ∀(x:X) {d:D},X.ev G E' (oU s x)=some d→X.ev G E x=some d
 | .t i,d,h=>by
  simp only[oU]at h;split at h
  ·rename_i j hj;have h:E'[j]?=some d:=h;rw[I.v i j hj]at h;exact h
  ·cases h
 | .q _,d,h=>h
 | .mk k xs,d,h=>by
  simp only[oU]at h;obtain⟨ds,h1,h2⟩:=aP (UH I h);simp only[X.ev,D_ I xs h1,Oz,h2]
 | .ite c a b,d,h=>by
  simp only[oU,X.ev,Bz]at h⊢;obtain⟨v,h1,x,h2,h3⟩:=h;refine⟨v,oe I c h1,x,h2, ?_⟩;cases x
  ·exact oe I b h3
  ·exact oe I a h3
theorem D_(I:tn G s E E'): ∀(xs:List X) {ds:List D},X.ba G E' (D' s xs)=some ds→X.ba G E xs=some ds
 | [],ds,h=>h
 |x::r,ds,h=>by
  simp only[D',X.ba,Bz,Mz]at h⊢;obtain⟨d,h1,ds',h2,rfl⟩:=h;exact⟨d,oe I x h1,ds',D_ I r h2,rfl⟩
end
def H5(G:FP):List X→List D→Option (List D)
 | [],E=>some E
 |x::r,E=>(X.ev G E x).bind fun d=>H5 G r (E++ [d])
theorem oy: ∀(p q:List X) (E:List D),H5 G (p++q) E=(H5 G p E).bind (H5 G q)
 | [],q,E=>rfl
 |x::r,q,E=>by
  simp only[List.cons_append,H5,Option.bind_assoc];congr 1;funext d;exact oy r q _
theorem gz{L:List (List D→Option D)}{k:FT}: ∀(p:List X) (E:List D),ae G N (p7 p k) L E=(H5 G p E).bind (ae G N k L)
 | [],E=>rfl
 |x::r,E=>by
  simp only[p7,ae,X.ba,H5];cases hx:X.ev G E x with
  |none=>rfl
  |some d=>simp only[Oz,Pz,gz r]
structure Af(G:FP)(s s':Cs)(E E1 E2:List D):Prop where
 i:tn G s' E E2
 n:s'.n=E2.length
 rs:s'.rs=s.rs
 ar:s'.ar=s.ar
 e: ∃t,E2=E1++t
theorem Af.nK(I:tn G s E E')(hn:s.n=E'.length):Af G s s E E' E':=⟨I,hn,rfl,rfl,[],by simp⟩
theorem Af.trans{s s1 s2:Cs}{E r0 r1 r2:List D}(h:Af G s s1 E r0 r1)(k:Af G s1 s2 E r1 r2):Af G s s2 E r0 r2:=by
 obtain⟨t,rfl⟩:=h.e;obtain⟨t',rfl⟩:=k.e;exact⟨k.i,k.n,k.rs.trans h.rs,k.ar.trans h.ar,t++t',by simp⟩
abbrev KO(E':List D)(y:X):Prop:= ∀j,y= .t j→ ∃d,E'[j]?=some d
theorem KO.more{E':List D}{y:X}(h:KO E' y)(t:List D):KO (E'++t) y:=fun j hj=>by
 obtain⟨d,h⟩:=h j hj;exact⟨d,by rw[Yz (Gz.1 h).1,h]⟩
mutual
theorem uH: ∀(x:X) {s s':Cs} {p:List X} {y:X} {E r1 r2:List D},tn G s E r1→s.n=r1.length→lZ s x=((p,s'),y)→H5 G p r1=some r2→
  Af G s s' E r1 r2∧KO r2 y∧lD y=lD x∧ ∀t d,X.ev G (r2++t) y=some d→X.ev G E x=some d
 | .t i,s,s',p,y,E,r1,r2,I,hn,h,hp=>by
  simp only[lZ,Prod.mk.injEq]at h;obtain⟨⟨rfl,rfl⟩,rfl⟩:=h;cases hp;refine⟨.nK I hn,fun j hj=> ?_, ?_,fun t d hd=>oe (I.more t) (.t i) hd⟩
  ·simp only[oU]at hj;split at hj
   ·rename_i j' hj';cases hj;obtain⟨d,_,h⟩:=I.get hj';exact⟨d,h⟩
   ·cases hj
  ·simp only[oU];split<;>rfl
 | .q e,s,s',p,y,E,r1,r2,I,hn,h,hp=>by
  simp only[lZ,Prod.mk.injEq]at h;obtain⟨⟨rfl,rfl⟩,rfl⟩:=h;cases hp;exact⟨.nK I hn,(fun j hj=>by cases hj),rfl,fun t d hd=>hd⟩
 | .mk k xs,s,s',p,y,E,r1,r2,I,hn,h,hp=>by
  simp only[lZ]at h;cases hq:ic s xs with
  |mk ps ys=>
   obtain⟨p1,s1⟩:=ps;rw[hq]at h;simp only[]at h
   have run: ∀{r:List D} {d:D},(∀ds,X.ba G r ys=some ds→X.ba G E xs=some ds)→X.ev G r (.mk k ys)=some d→X.ev G E (.mk k xs)=some d:=fun hh hd=>by
    obtain⟨ds,h1,h2⟩:=aP hd;simp only[X.ev,hh ds h1,Oz,h2]
   split at h
   ·rename_i pn;have Gc:lD (.mk k xs)=false:=by cases k<;>first|rfl|cases pn
    split at h
    ·rename_i j hj;simp only[Prod.mk.injEq]at h;obtain⟨⟨rfl,rfl⟩,rfl⟩:=h;obtain⟨h1,h2⟩:=ix xs I hn hq hp;obtain⟨d0,a1,a2⟩:=h1.i.a _ _ (ng hj);refine⟨h1,fun j' hj'=>by cases hj';exact⟨d0,a2⟩,Gc.symm,fun t d hd=> ?_⟩;obtain⟨d1,b1,b2⟩:=(h1.i.more t).a _ _ (ng hj);have hd:(r2++t)[j]?=some d:=hd;rw[b2]at hd;cases hd;exact run (h2.2 t) b1
    ·simp only[Prod.mk.injEq]at h;obtain⟨⟨rfl,rfl⟩,rfl⟩:=h;rw[oy]at hp;obtain⟨r3,hp1,hp2⟩:=Bz.1 hp;obtain⟨h1,h2⟩:=ix xs I hn hq hp1;simp only[H5,Bz]at hp2;obtain⟨dc,c1,c2⟩:=hp2;cases c2;have gC:(r3++ [dc])[s1.n]?=some dc:=by rw[h1.n];simp
     refine⟨h1.trans ⟨⟨h1.i.l,(h1.i.more [dc]).v,fun e j hm=> ?_⟩,by simp[Cs.name,h1.n],rfl,rfl,[dc],rfl⟩,fun j hj=>by cases hj;exact⟨dc,gC⟩,Gc.symm,fun t d hd=> ?_⟩
     ·simp only[Cs.name,List.mem_cons,Prod.mk.injEq]at hm;rcases hm with⟨rfl,rfl⟩|hm
      ·exact⟨dc,bt _ _ c1,gC⟩
      ·exact(h1.i.more [dc]).a e j hm
     ·have hd:(r3++ [dc]++t)[s1.n]?=some d:=hd;rw[Yz (by rw[h1.n];simp),gC]at hd;cases hd;exact run (fun ds he=>h2.2 [] ds (by simpa using he)) c1
   ·simp only[Prod.mk.injEq]at h;obtain⟨⟨rfl,rfl⟩,rfl⟩:=h;obtain⟨h1,h2⟩:=ix xs I hn hq hp;refine⟨h1,(fun j hj=>by cases hj), ?_,fun t d hd=>run (h2.2 t) hd⟩;cases k<;>rfl
 | .ite c a b,s,s',p,y,E,r1,r2,I,hn,h,hp=>by
  simp only[lZ]at h;cases hq:lZ s c with
  |mk ps c'=>
   obtain⟨p1,s1⟩:=ps;rw[hq]at h;simp only[Prod.mk.injEq]at h;obtain⟨⟨rfl,rfl⟩,rfl⟩:=h;obtain⟨h1,_,_,h2⟩:=uH c I hn hq hp;refine⟨h1,(fun j hj=>by cases hj),rfl,fun t d hd=> ?_⟩;simp only[X.ev,Bz]at hd⊢;obtain⟨v,g1,x,g2,g3⟩:=hd;refine⟨v,h2 t v g1,x,g2, ?_⟩;cases x
   ·exact oe (h1.i.more t) b g3
   ·exact oe (h1.i.more t) a g3
theorem ix: ∀(xs:List X) {s s':Cs} {p:List X} {ys:List X} {E r1 r2:List D},tn G s E r1→s.n=r1.length→ic s xs=((p,s'),ys)→H5 G p r1=some r2→
  Af G s s' E r1 r2∧((∀y∈ys,KO r2 y)∧(∀ds,uI ys ds=uI xs ds)∧ys.length=xs.length)∧ ∀t ds,X.ba G (r2++t) ys=some ds→X.ba G E xs=some ds
 | [],s,s',p,ys,E,r1,r2,I,hn,h,hp=>by
  simp only[ic,Prod.mk.injEq]at h;obtain⟨⟨rfl,rfl⟩,rfl⟩:=h;cases hp;exact⟨.nK I hn,⟨(fun y hy=>by cases hy),fun ds=>rfl,rfl⟩,fun t ds hd=>hd⟩
 |x::r,s,s',p,ys,E,r1,r2,I,hn,h,hp=>by
  simp only[ic]at h;cases hq:lZ s x with
  |mk ps y=>
   obtain⟨p1,s1⟩:=ps;rw[hq]at h;simp only[]at h;cases hq2:ic s1 r with
   |mk ps2 zs=>
    obtain⟨p2,s2⟩:=ps2;rw[hq2]at h;simp only[Prod.mk.injEq]at h;obtain⟨⟨rfl,rfl⟩,rfl⟩:=h;rw[oy]at hp;obtain⟨r3,hp1,hp2⟩:=Bz.1 hp;obtain⟨h1,h2,h3,h4⟩:=uH x I hn hq hp1;obtain⟨k1,⟨k2,k3,k5⟩,k4⟩:=ix r h1.i h1.n hq2 hp2;obtain⟨u,rfl⟩:=k1.e;refine⟨h1.trans k1,⟨fun z hz=> ?_,fun ds=> ?_,by simp[k5]⟩,fun t ds hd=> ?_⟩
    ·rcases List.mem_cons.1 hz with rfl|hz
     ·exact h2.more u
     ·exact k2 z hz
    ·cases ds with
     |nil=>rfl
     |cons d ds=>
      simp only[uI,k3 ds];congr 1;cases d<;>first|rfl|skip
      rename_i es;cases es with
      |nil=>rfl
      |cons e es=>
       have own: ∀(z:X),iy z (.list (e::es))=if lD z then(e::es).all fun c=>c.all D.aW else false:=fun z=>by
        cases z with
        |mk k xs=>cases k<;>rfl
        |_=>rfl
       rw[own,own,h3]
    ·simp only[X.ba,Bz,Mz]at hd⊢;obtain⟨d,g1,ds',g2,rfl⟩:=hd;exact⟨d,h4 (u++t) d (by simpa using g1),ds',k4 t ds' g2,rfl⟩
end
theorem iW{x y:X}(h:lD y=lD x)(d:D):iy y d=iy x d:=by
 cases d<;>first|rfl|skip
 rename_i es;cases es with
 |nil=>rfl
 |cons e es=>
  have own: ∀(z:X),iy z (.list (e::es))=if lD z then(e::es).all fun c=>c.all D.aW else false:=fun z=>by
   cases z with
   |mk k xs=>cases k<;>rfl
   |_=>rfl
  grind
theorem Ms{x:X}{s s':Cs}{p:List X}{y:X}{r1 r2:List D}(I:tn G s E r1)(hn:s.n=r1.length)(h:lZ s x=((p,s'),y))(hp:H5 G p r1=some r2)(d:D):bY y d=bY x d:=by
 obtain⟨_,_,h3,_⟩:=uH x I hn h hp
 have hT:l6 y d=l6 x d:=by
  cases d with
  |tup ds=>
   cases x with
   |mk k xs=>
    simp only[lZ]at h;cases hq:ic s xs with
    |mk ps ys=>
     rw[hq]at h;split at h
     ·rename_i pn;have:l6 (.mk k xs) (.tup ds)=false:=by cases k<;>first|rfl|cases pn
      rw[this];split at h<;>(simp only[Prod.mk.injEq]at h;obtain⟨_,rfl⟩:=h;rfl)
     ·simp only[Prod.mk.injEq]at h;obtain⟨⟨rfl,rfl⟩,rfl⟩:=h;obtain⟨_,⟨_,k3,_⟩,_⟩:=ix xs I hn hq hp;cases k<;>first|exact k3 ds|rfl
   |t i=>
    simp only[lZ,oU]at h;obtain⟨_,rfl⟩:=h;split<;>rfl
   |q e=>
    simp only[lZ]at h
    grind
   |ite c a b=>
    cases hq:lZ s c with
    |mk ps c'=>
     obtain⟨_,rfl⟩:=h;rfl
  |_=>
   have nt: ∀(z:X) (d:D),(∀ds,d≠ .tup ds)→l6 z d=iy z d:=fun z d hd=>by
    unfold l6;split
    ·exact absurd rfl (hd _)
    ·rfl
   rw[nt y _ (fun ds h=>by cases h),nt x _ (fun ds h=>by cases h),iW h3]
 unfold bY;rw[hT]
theorem lx: ∀{ys:List X} {E' ds:List D},(∀y∈ys,KO E' y)→X.ba G E' (ys.filter Uc)=some ds→ ∃ds',X.ba G E' ys=some ds'
 | [],E',ds,_,_=>⟨[],rfl⟩
 |y::r,E',ds,ht,h=>by
  have one: ∀d,X.ev G E' y=some d→(∃ds',X.ba G E' r=some ds')→ ∃ds',X.ba G E' (y::r)=some ds':=fun d h1 ⟨ds',h2⟩=>⟨d::ds',by simp only[X.ba,h1,h2,Oz,Pz]⟩;have htr: ∀y∈r,KO E' y:=fun y hy=>ht y (Cz _ hy);cases hy:Uc y with
  |true=>
   rw[List.filter_cons_of_pos hy]at h;simp only[X.ba,Bz,Mz]at h;obtain⟨d,h1,ds',h2,_⟩:=h;exact one d h1 (lx htr h2)
  |false=>
   cases y with
   |t j=>obtain⟨d,hd⟩:=ht (.t j) (List.mem_cons_self ..) j rfl;exact one d hd (lx htr h)
   |q e=>exact one e rfl (lx htr h)
   |mk=>cases hy
   |ite=>cases hy
theorem tn.snoc(I:tn G s E E'){j:Nat}{d:D}(h:E'[j]?=some d):tn G {s with rs:=s.rs++ [j]} (E++ [d]) E':=
 ⟨by simp[I.l],fun i k hk=>by
  by_cases hi:i<s.rs.length
  ·rw[Yz hi]at hk;rw[Yz (by rw[←I.l];exact hi)];exact I.v i k hk
  ·have hl:=(Gz.1 hk).1;simp only[List.length_append,List.length_cons,List.length_nil]at hl;have he:i=s.rs.length:=by omega
   subst he;rw[Xz (Nat.le_refl _),Nat.sub_self]at hk;simp only[List.getElem?_cons_zero,Jz]at hk;subst hk;rw[I.l,Xz (Nat.le_refl _),Nat.sub_self,h]
   rfl,I.a⟩
theorem L8(s:Cs)(j:Nat)(r:List X)(κ:Cs→FT):cse.letsY s (.t j::r) κ=cse.letsY {s with rs:=s.rs++ [j]} r κ:=by
 rfl
theorem L7(s:Cs)(y:X)(hy: ∀j,y≠ .t j)(r:List X)(κ:Cs→FT):cse.letsY s (y::r) κ= .lets [y] (cse.letsY {s with rs:=s.rs++ [s.n],n:=s.n+1} r κ):=by
 cases y with
 |t j=>exact absurd rfl (hy j)
 |_=>simp only[cse.letsY]
theorem ux{L:List (List D→Option D)}{κ:Cs→FT}{d:D}: ∀(ys:List X) {s:Cs} {E E':List D},tn G s E E'→s.n=E'.length→(∀y∈ys,KO E' y)→ae G N (cse.letsY s ys κ) L E'=some d→
  ∃ds s2 E2,ae G N (κ s2) L E2=some d∧tn G s2 (E++ds) E2∧s2.n=E2.length∧s2.ar=s.ar∧(∃t,E2=E'++t)∧X.ba G E2 ys=some ds
 | [],s,E,E',I,hn,_,h=>⟨[],s,E',by simpa[cse.letsY]using h,by simpa using I,hn,rfl,⟨[],by simp⟩,rfl⟩
 |y::r,s,E,E',I,hn,ht,h=>by
  have htr: ∀t:List D,∀y∈r,KO (E'++t) y:=fun t y hy=>(ht y (Cz _ hy)).more t;by_cases hy: ∃j,y= .t j
  ·obtain⟨j,rfl⟩:=hy;rw[L8]at h;obtain⟨d0,h0⟩:=ht (.t j) (List.mem_cons_self ..) j rfl;obtain⟨ds,s2,E2,k1,k2,k3,k4,⟨t,rfl⟩,k6⟩:=ux r (I.snoc h0) hn (fun y hy=>ht y (Cz _ hy)) h;refine⟨d0::ds,s2,_,k1,by simpa using k2,k3,k4,⟨t,rfl⟩, ?_⟩;simp only[X.ba,X.ev,k6,Pz]
   grind
  ·have hy': ∀j,y≠ .t j:=fun j e=>hy ⟨j,e⟩;rw[L7 s y hy']at h;simp only[ae,X.ba,Bz,Mz]at h;obtain⟨ds0,⟨d0,g1,_,g2,rfl⟩,g3⟩:=h;cases g2;have gC:(E'++ [d0])[s.n]?=some d0:=by rw[hn];simp
   have I2:tn G {s with rs:=s.rs++ [s.n],n:=s.n+1} (E++ [d0]) (E'++ [d0]):=by
    have:=(I.more [d0]).snoc gC;exact⟨this.l,this.v,this.a⟩
   obtain⟨ds,s2,E2,k1,k2,k3,k4,⟨t,rfl⟩,k6⟩:=ux r I2 (by simp[hn]) (fun y hy=>htr [d0] y hy) g3;refine⟨d0::ds,s2,_,k1,by simpa using k2,k3,k4,⟨d0::t,by simp⟩, ?_⟩;simp only[X.ba,k6,Pz];rw[show E'++ [d0]++t=E'++(d0::t) by simp,bt _ _ g1];rfl
theorem tn.vars(I:tn G s E E')(hn:s.n=E'.length){vs:List D}{m:Nat}(hm:vs.length=m)(ar:List Nat):tn G {s.vars m with ar:=ar} (E++vs) (E'++vs):=
 ⟨by simp[Cs.vars,I.l,hm],fun i j h=>by
  simp only[Cs.vars]at h;by_cases hi:i<s.rs.length
  ·rw[Yz hi]at h;obtain⟨d,h1,h2⟩:=I.get h;rw[Yz (Gz.1 h2).1,Yz (Gz.1 h1).1,h1,h2]
  ·have hi:s.rs.length≤i:=by omega
   rw[Xz hi]at h;obtain⟨h3,h4⟩:=Gz.1 h;rw[List.getElem_range']at h4;have e1:E'.length≤j:=by omega
   rw[Xz e1,Xz (by rw[←I.l];exact hi)];congr 1
   rw[←I.l];omega,fun e j h=>(I.more vs).a e j h⟩
def VU(ar:List Nat)(L L':List (List D→Option D)):Prop:= ∀(j m:Nat),ar[j]?=some m→ ∀f':List D→Option D,L'[j]?=some f'→ ∃f:List D→Option D,L[j]?=some f∧ ∀(vs:List D) (d:D),vs.length=m→f' vs=some d→f vs=some d
theorem VU.cons{ar:List Nat}{L L':List (List D→Option D)}(h:VU ar L L'){m:Nat}{f f':List D→Option D}(hf: ∀vs d,vs.length=m→f' vs=some d→f vs=some d):VU (m::ar) (f::L) (f'::L'):=fun j k hj g hg=>by
 cases j with
 |zero=>
  grind
 |succ j=>exact h j k (by simpa using hj) g (by simpa using hg)
theorem Sl: ∀(t:FT) {s:Cs} {E E':List D} {L L':List (List D→Option D)} {d:D},tn G s E E'→s.n=E'.length→VU s.ar L L'→ae G N (cse s t) L' E'=some d→ae G N t L E=some d:=by
 intro t
 induction t with
 |ret x=>
  intro s E E' L L' d I hn hL h;simp only[cse]at h;cases hq:lZ s x with
  |mk ps y=>
   obtain⟨p,s1⟩:=ps;rw[hq]at h;simp only[gz,Bz]at h;obtain⟨r2,hp,h⟩:=h;simp only[ae,Bz]at h⊢;obtain⟨d0,g1,g2⟩:=h;refine⟨d0,(uH x I hn hq hp).2.2.2 [] d0 (by simpa using g1), ?_⟩;rw[←Ms I hn hq hp d0];exact g2
 |fM xs k ih=>
  intro s E E' L L' d I hn hL h;simp only[cse]at h;cases hq:ic s xs with
  |mk ps ys=>
   obtain⟨p,s1⟩:=ps;rw[hq]at h;simp only[gz,Bz]at h;obtain⟨r2,hp,h⟩:=h;obtain⟨h1,⟨h2,_,_⟩,h3⟩:=ix xs I hn hq hp;rw[o8,Bz]at h;obtain⟨ds,g1,g2⟩:=h;obtain⟨ds',g3⟩:=lx h2 g1;simp only[ae,h3 [] ds' (by simpa using g3),Oz];exact ih h1.i h1.n (by rw[h1.ar];exact hL) g2
 |lets xs k ih=>
  intro s E E' L L' d I hn hL h;simp only[cse]at h;cases hq:ic s xs with
  |mk ps ys=>
   obtain⟨p,s1⟩:=ps;rw[hq]at h;simp only[gz,Bz]at h;obtain⟨r2,hp,h⟩:=h;obtain⟨h1,⟨h2,_,_⟩,h3⟩:=ix xs I hn hq hp;obtain⟨ds,s2,E2,k1,k2,k3,k4,⟨t,rfl⟩,k6⟩:=ux ys h1.i h1.n h2 h;simp only[ae,h3 t ds k6,Oz];exact ih k2 k3 (by rw[k4,h1.ar];exact hL) k1
 |ite c a b iha ihb=>
  intro s E E' L L' d I hn hL h;simp only[cse]at h;cases hq:lZ s c with
  |mk ps y=>
   obtain⟨p,s1⟩:=ps;rw[hq]at h;simp only[gz,Bz]at h;obtain⟨r2,hp,h⟩:=h;obtain⟨h1,_,_,h3⟩:=uH c I hn hq hp;simp only[ae,Bz]at h⊢;obtain⟨v,g1,x,g2,g3⟩:=h;refine⟨v,h3 [] v (by simpa using g1),x,g2, ?_⟩;cases x
   ·exact ihb h1.i h1.n (by rw[h1.ar];exact hL) g3
   ·exact iha h1.i h1.n (by rw[h1.ar];exact hL) g3
 |loop xs b ih=>
  intro s E E' L L' d I hn hL h;simp only[cse]at h;cases hq:ic s xs with
  |mk ps ys=>
   obtain⟨p,s1⟩:=ps;rw[hq]at h;simp only[gz,Bz]at h;obtain⟨r2,hp,h⟩:=h;obtain⟨h1,⟨_,_,h5⟩,h3⟩:=ix xs I hn hq hp;simp only[ae,Bz]at h⊢;obtain⟨ds,g1,g2⟩:=h;refine⟨ds,h3 [] ds (by simpa using g1), ?_⟩;have hlen:=dh g1
   have key: ∀n vs d,vs.length=ys.length→iter (fun rec vs=>ae G N (cse {s1.vars ys.length with ar:=ys.length::s1.ar} b) (rec::L') (r2++vs)) n vs=some d→iter (fun rec vs=>ae G N b (rec::L) (E++vs)) n vs=some d:=by
    intro n
    induction n with
    |zero=>intro vs d _ h;cases h
    |succ n ihn=>
     intro vs d hv h;simp only[iter]at h⊢;exact ih (h1.i.vars h1.n hv _) (by simp[Cs.vars,h1.n,hv]) ((show VU s1.ar L L' by rw[h1.ar];exact hL).cons fun vs d hv h=>ihn vs d hv h) h
   exact key N ds d hlen g2
 |next j xs=>
  intro s E E' L L' d I hn hL h;simp only[cse]at h;cases hq:ic s xs with
  |mk ps ys=>
   obtain⟨p,s1⟩:=ps;rw[hq]at h;simp only[]at h;split at h
   ·rename_i har;simp only[gz,Bz]at h;obtain⟨r2,hp,h⟩:=h;obtain⟨h1,⟨_,_,h5⟩,h3⟩:=ix xs I hn hq hp;simp only[ae,Bz]at h⊢;obtain⟨ds,g1,f',g2,g3⟩:=h;rw[h1.ar]at har;obtain⟨f,k1,k2⟩:=hL j _ har f' g2;exact⟨ds,h3 [] ds (by simpa using g1),f,k1,k2 ds d (dh g1) g3⟩
   ·cases h
 |jp k b ihk ihb=>
  intro s E E' L L' d I hn hL h;simp only[cse]at h;split at h
  ·rename_i m _;simp only[ae]at h⊢;refine ihb (s:={s with ar:=m::s.ar}) ⟨I.l,I.v,I.a⟩ hn (hL.cons fun vs d hv h=> ?_) h;exact ihk (s:=s.vars m) (I.vars hn hv s.ar) (by simp[Cs.vars,hn,hv]) hL h
  ·simp only[ae]at h⊢;refine ihb (s:={s with ar:=0::s.ar}) ⟨I.l,I.v,I.a⟩ hn (hL.cons fun vs d hv h=> ?_) h;cases h
 |st Y=>intro s E E' L L' d I hn hL h;cases h
 |bad w Y=>intro s E E' L L' d I hn hL h;cases h
theorem yf{q:Nat×FT}{ds:List D}{d:D}(hl:ds.length=q.1)(h:ae G N (ab9 q).2 [] ds=some d):ae G N q.2 [] ds=some d:=by
 refine Sl q.2 (s:=K_ q.1) ⟨by simp[K_,hl],fun i j h=> ?_,fun e j h=>by cases h⟩ hl.symm (fun j m h=>by simp[K_]at h) h;simp only[K_]at h;obtain⟨h1,h2⟩:=Gz.1 h;simp at h2;rw[h2]
end
end
section
def kA(e:Nat)(rs:List fC)(x:VE)(Y:Sy):FT:=
 match x with
 | .exit _=> .bad 100021
 |_=>match rs with
  | [.t i]=>(match bL Y (.t i)with
   | .gl n _=>(match find Y.h n with
    |some (.au e' _ c)=>if e'=e then .ret c else .bad 100051
    |_=> .bad 100052)
   |_=> .bad 100053)
  |_=> .bad 100054
def EC(C:Cx)(e f:Nat):Option (Nat×FT):=
 match C.P.funcs[f]? with
 |some fn=>match fn.body,fn.results.toList.mapM (vT C.P fn.ntmps)with
  | some c, some rs => if (fn.name == "runtime.NumGoroutine") = false ∧ fn.params.size + fn.nfree ≤ fn.ntmps then some (fn.params.size + fn.nfree, dg { C with rt := f } (wV { C with rt := f } 8) f fn.ntmps VS false 0 (uk fn) c (DQ (fn.params.size + fn.nfree)) (kA e rs)) else none
  |_,_=>none
 |none=>none
theorem TI{G:FP}{N e:Nat}{rs:List fC}{x:VE}{Y:Sy}{L:List (List D→Option D)}{E:List D}{d:D}:ae G N (kA e rs x Y) L E=some d→
  ∃i n sz sz' c,rs= [.t i]∧bL Y (.t i)= .gl n sz∧find Y.h n=some (.au e sz' c)∧ae G N (.ret c) L E=some d:=by
 have key: ∀(rs:List fC),ae G N (match rs with
  | [.t i]=>(match bL Y (.t i)with
   | .gl n _=>(match find Y.h n with
    |some (.au e' _ c)=>if e'=e then FT.ret c else .bad 100051
    |_=> .bad 100052)
   |_=> .bad 100053)
  |_=> .bad 100054) L E=some d→ ∃i n sz sz' c,rs= [.t i]∧bL Y (.t i)= .gl n sz∧find Y.h n=some (.au e sz' c)∧ae G N (.ret c) L E=some d:=fun rs h=>by
  split at h
  ·split at h
   ·rename_i hv;split at h
    ·rename_i hf;split at h
     ·grind
     ·cases h
    ·cases h
   ·cases h
  ·cases h
 intro h;cases x with
 |normal=>exact key rs h
 |ret=>exact key rs h
 |exit i=>cases h
theorem F'{P:Program}{C:Cx}{inl:KC}{ks:List Nat}{G:FP}{N:Nat}(hP:C.P=P)(hG:Sound P (br G))(hm:P.follows .mixedOrders=true){f e0:Nat}(hI: ∀dr,tp P G N dr inl){fn:Func}{c:Code}{rs:List fC}(h1:P.funcs[f]?=some fn)
  (h2 : (fn.name == "runtime.NumGoroutine") = false) (h3 : fn.body = some c) (h4 : fn.results.toList.mapM (vT P fn.ntmps) = some rs) {ds : List D} {es : List (List D)} (hlen : ds.length ≤ fn.ntmps) (hn : ds.all D.aF = true) (hne : es ≠ []) (hes : (es.all fun c => c.all D.aW) = true)
  (he:(ae G N (dg C inl f fn.ntmps VS false 0 ks c (DQ ds.length) (kA e0 rs)) [] ds).map D.bare=some (.list es)):VCa P f e0 ds es:=by
 refine⟨⟨fn,h1,by rw[h3];rfl,h2⟩,fun w pr cargs hpr hg jr=> ?_⟩;obtain⟨d,he,hd⟩:=Mz.1 he;have hY0:ij P G N d VS (⟨w,pr,qO⟩:fe).A.sv fn.ntmps uS:=fun h=>by cases h
 refine iL.1 (callsIn_of_wp_marks (F:=wF none) (n:=0) h1 h3 trivial ?_);refine jm (r:=none) (Ω0:=uS) (Ω:=uS) hP hG hm (hI d) c (fun _=>rfl) hY0 (mt0 hn) (Bj hpr hg jr hlen) DM.nil rfl he ?_;rintro ex Ω' Y' L' E' ι' γ' J' a' w' hle M' R' hd' _ _ _ he';obtain⟨i,n,sz,sz',c',rfl,hv,hf,h'⟩:=TI he'
 have fin:LeavesInM (wF none) 0 P fn a'.tmps (fun ex w'=> ∃b cap C,ex= .returned (.slice (some ⟨b,0,none⟩) es.length cap)∧dP (fun _=>False) w w'∧w.heap.size≤b∧w'.heap[b]?=some (.cells C e0 (0,0))∧es.length≤cap∧cap≤maxLen∧C.size=cap*P.cellsOf e0∧bg P w' (fun _ _=>False) aA C e0 es) a'.defers .returning w':=by
  simp only[ae,Bz]at h';obtain⟨d0,g1,g2⟩:=h';split at g2
  rotate_left
  ·cases g2
  rename_i LG;injection g2 with g2
  have hd0:d0.bare= .list es→d0= .list es:=fun h=>by
   unfold D.bare at h;split at h
   ·simp[D.aF,D.aM,D.eT]at LG
   ·exact h
  have hd1:d0= .list es:=by
   refine hd0 ?_;rw[←hd,←g2];unfold bY;split
   ·rfl
   ·split
    ·have:d0.bare=d0:=by
      unfold D.bare;split
      ·simp[D.aF,D.aM,D.eT]at LG
      ·rfl
     rw[this];rfl
    ·rfl
  subst hd1;refine qx (S:= []) M' R' hd' hle fun Ω3 w3 J3 _ M3 R3=> ?_;obtain⟨w1,pr1,A1,tk,R1,U⟩:=R3;obtain⟨v,hv1,hv2⟩:=jS (rs:= [.t i]) (d:=J3.s i) R1 h4 rfl;have hVR:=az M3 (.t i);rw[hv]at hVR;obtain⟨es2,q1,q2,q3⟩:=M3.au _ _ _ _ hf;rw[g1]at q1;injection q1 with q1
  injection q1 with q1
  subst q1;rcases q3 with⟨_,q3⟩|⟨q3,q4⟩
  ·grind
  have hsl:J3.s i= .sl (ι' n) sz 0 es.length none:=by
   generalize hz:aJ.val J3.s (.t i)=z at hVR;have hz:J3.s i=z:=hz;rw[hz];cases hVR with
   |gln hf' hi=>exact absurd hi q3
   |gl hf' hc hi=>
    grind
  rw[hsl]at hv2;obtain⟨b,cap,C2,p1,p2,p3,p4,p5,p6⟩:=R1.mem.obj _ _ q4;cases hv2 with
  |sl ht hc hl ho=>
   rw[p1]at ht;cases ht;simp at hc;subst hc;have ho2:=ho.resolve_right (by omega);simp at ho2;subst ho2;have hlt:b<w3.heap.size:=(Array.getElem?_eq_some_iff.1 p2).1;refine⟨_,hv1,b,_,C2,rfl,U.chg.trans R1.chg fun b hb h=>(U.sub b hb h:False), ?_,p2,p3,p4,p5,p6.1,fun i c hc j x hx=> ?_⟩
   ·rcases R1.live _ _ b _ q4 p1 with h|h
    ·have:=U.chg.size;have:(⟨w,pr,qO⟩:fe).w.heap.size=w.heap.size:=rfl;omega
    ·exact Nat.le_of_not_lt fun hb=>(U.sub b hb h:False)
   ·obtain⟨u,u1,u2,u3⟩:=p6.2 i c hc j x hx;exact⟨u,u1,u2,cL u3 (Tz.1 (Tz.1 hes c (Lz hc)) x (Lz hx))⟩
 cases ex with
 |normal=>exact fin
 |ret=>exact fin
 |exit i=>cases he'
theorem AB{P:Program}{C:Cx}{H:FP}{N k f e n:Nat}{t:FT}(hP:C.P=P)(hH:Sound P (br H))(hm:P.follows .mixedOrders=true)(h1:EC C e f=some (n,t)){ds:List D}{es:List (List D)}(hl:ds.length=n)(hn:ds.all D.aF=true)
  (hne:es≠ []) (hes:(es.all fun c=>c.all D.aW)=true) (he:(ae (Gs C H N k) N t [] ds).map D.bare=some (.list es)):VCa P f e ds es:=by
 have hS:=kh (N:=N) hP hH hm k;unfold EC at h1;subst hP;split at h1
 ·rename_i fn hfn;split at h1
  ·rename_i c rs hb hr;split at h1<;>cases h1;rename_i hcc;refine F' (C:={C with rt:=f}) (inl:=wV {C with rt:=f} 8) (N:=N) (ks:=uk fn) rfl hS hm (fun dr=>tN (C:={C with rt:=f}) rfl hS hm 8) hfn hcc.1 hb hr (by omega) hn hne hes ?_;rw[hl];exact he
  ·cases h1
 ·cases h1
end
noncomputable section
abbrev Rd(α:Type):=List Nat→α×List Nat
def rN:Rd Nat
 |a::r=>(a,r)
 | []=>(0,[])
def rB:Rd Bool:=fun l=>match rN l with|(a,r)=>(a==1,r)
def rI:Rd Int:=fun l=>match rN l with
 |(0,r)=>(match rN r with|(m,r)=>(Int.ofNat m,r))
 |(_,r)=>(match rN r with|(m,r)=>(Int.negSucc m,r))
def rL{α:Type}(p:Rd α):Nat→Rd (List α)
 |0,l=>([],l)
 |k+1,l=>match rN l with
  |(0,r)=>([],r)
  |(_,r)=>match p r with
   |(a,r)=>match rL p k r with
    |(as,r)=>(a::as,r)
def XE(n:Nat):IntKind:=match n with|0=> .i8|1=> .i16|2=> .i32|3=> .i64|4=> .u8|5=> .u16|6=> .u32|_=> .u64
def Sb(n:Nat):BinOp:=match n with|0=> .add|1=> .sub|2=> .mul|3=> .quo|4=> .rem|5=> .and|6=> .or|7=> .xor|8=> .shl|9=> .shr|10=> .andNot|11=> .eql|12=> .neq|13=> .lss|14=> .leq|15=> .gtr|_=> .geq
def rV:Rd Value:=fun l=>match rN l with
 |(0,r)=>(match rN r with|(k,r)=>match rI r with|(z,r)=>(.int (XE k) z,r))
 |(1,r)=>(match rB r with|(b,r)=>(.bool b,r))
 |(3,r)=>(.nilFunc,r)
 |(4,r)=>(.nilIface,r)
 |(5,r)=>(.pointer none,r)
 |(_,r)=>(.bool false,r)
def rD:Nat→Rd D
 |0,l=>(.undef,l)
 |n+1,l=>match rN l with
  |(1,r)=>(match rV r with|(v,r)=>(.v v,r))
  |(2,r)=>(.nil,r)
  |(3,r)=>(.mt,r)
  |(4,r)=>(match rL (rL (rD n) 99) 99 r with|(es,r)=>(.list es,r))
  |(5,r)=>(match rL (rD n) 999 r with|(xs,r)=>(.agg xs,r))
  |(6,r)=>(match rL (rD n) 999 r with|(xs,r)=>(.tup xs,r))
  |(7,r)=>(match rL (rD n) 999 r with|(xs,r)=>(.lptr xs,r))
  |(8,r)=>(match rN r with|(f,r)=>match rL (rD n) 999 r with|(xs,r)=>(.clo f xs,r))
  |(9,r)=>(.nilmap,r)
  |(_,r)=>(.undef,r)
def rNP:Rd (Nat×Nat):=fun l=>match rN l with|(a,r)=>match rN r with|(b,r)=>((a,b),r)
def rPK:Rd PK:=fun l=>match rN l with
 |(0,r)=>(.mv,r)
 |(1,r)=>(.pick,r)
 |(2,r)=>(match(fun l=>match rN l with|(a,r)=>(Sb a,r)) r with|(a0,r)=>(.ibin a0,r))
 |(3,r)=>(match(fun l=>match rN l with|(a,r)=>(Sb a,r)) r with|(a0,r)=>(.ishift a0,r))
 |(4,r)=>(match rB r with|(a0,r)=>(.beq a0,r))
 |(5,r)=>(match rB r with|(a0,r)=>(.seq a0,r))
 |(6,r)=>(match rB r with|(a0,r)=>match rL rN 999 r with|(a1,r)=>(.aeq a0 a1,r))
 |(7,r)=>(match rB r with|(a0,r)=>(.snil a0,r))
 |(8,r)=>(match(fun l=>match rN l with|(a,r)=>(Sb a,r)) r with|(a0,r)=>(.sop a0,r))
 |(9,r)=>(.inot,r)
 |(10,r)=>(.ineg,r)
 |(11,r)=>(.llen,r)
 |(12,r)=>(.slen,r)
 |(13,r)=>(match rN r with|(a0,r)=>match rB r with|(a1,r)=>(.load a0 a1,r))
 |(14,r)=>(match rN r with|(a0,r)=>(.fld a0,r))
 |(15,r)=>(match rN r with|(a0,r)=>match rN r with|(a1,r)=>(.idx a0 a1,r))
 |(16,r)=>(match rN r with|(a0,r)=>match rN r with|(a1,r)=>(.aidx a0 a1,r))
 |(17,r)=>(match rN r with|(a0,r)=>(.ext a0,r))
 |(18,r)=>(match(fun l=>match rN l with|(a,r)=>(XE a,r)) r with|(a0,r)=>(.conv a0,r))
 |(19,r)=>(match rN r with|(a0,r)=>match rN r with|(a1,r)=>match rB r with|(a2,r)=>(.afld a0 a1 a2,r))
 |(20,r)=>(match rL (rD 9) 999 r with|(a0,r)=>match rL rNP 999 r with|(a1,r)=>(.build a0 a1,r))
 |(21,r)=>(match rN r with|(a0,r)=>(.clo a0,r))
 |(22,r)=>(match rB r with|(a0,r)=>(.mx2 a0,r))
 |(23,r)=>(match rB r with|(a0,r)=>(.mx3 a0,r))
 |(24,r)=>(match rN r with|(a0,r)=>match rN r with|(a1,r)=>match rB r with|(a2,r)=>(.aix a0 a1 a2,r))
 |(25,r)=>(.fM,r)
 |(26,r)=>(match rN r with|(a0,r)=>match rB r with|(a1,r)=>match rB r with|(a2,r)=>match rB r with|(a3,r)=>(.slc a0 a1 a2 a3,r))
 |(27,r)=>(match rN r with|(a0,r)=>match rN r with|(a1,r)=>match rB r with|(a2,r)=>match rB r with|(a3,r)=>(.sla a0 a1 a2 a3,r))
 |(28,r)=>(match rL rN 999 r with|(a0,r)=>match rD 9 r with|(a1,r)=>match rB r with|(a2,r)=>(.lkp a0 a1 a2,r))
 |(29,r)=>(.ent,r)
 |(30,r)=>(match rN r with|(a0,r)=>(.call a0,r))
 |(32,r)=>(match rN r with|(a0,r)=>(.fbox a0,r))
 |(_,r)=>(.mv,r)
def rXK:Rd XK:=fun l=>match rN l with
 |(0,r)=>(match rPK r with|(k,r)=>(.pk k,r))
 |(1,r)=>(match rB r with|(a0,r)=>match rN r with|(a1,r)=>(.call a0 a1,r))
 |(2,r)=>(match rB r with|(a0,r)=>(.ccall a0,r))
 |(3,r)=>(.agg,r)
 |(4,r)=>(.tup,r)
 |(5,r)=>(match rN r with|(a0,r)=>(.clo a0,r))
 |(6,r)=>(.lptr,r)
 |(7,r)=>(match rN r with|(a0,r)=>match rN r with|(a1,r)=>(.cell a0 a1,r))
 |(8,r)=>(.qa,r)
 |(9,r)=>(match rB r with|(a0,r)=>(.gv a0,r))
 |(10,r)=>(.bq,r)
 |(11,r)=>(.eA,r)
 |(12,r)=>(match rN r with|(a0,r)=>(.app a0,r))
 |(13,r)=>(match rN r with|(a0,r)=>match rN r with|(a1,r)=>match rL (rD 9) 999 r with|(a2,r)=>match rL rNP 999 r with|(a3,r)=>(.lit a0 a1 a2 a3,r))
 |(14,r)=>(match rN r with|(a0,r)=>match rL (rD 9) 999 r with|(a1,r)=>(.mks a0 a1,r))
 |(15,r)=>(match rN r with|(a0,r)=>match rN r with|(a1,r)=>match rN r with|(a2,r)=>(.setl a0 a1 a2,r))
 |(16,r)=>(.take,r)
 |(17,r)=>(match rL rN 999 r with|(a0,r)=>match rD 9 r with|(a1,r)=>match rB r with|(a2,r)=>(.mget a0 a1 a2,r))
 |(18,r)=>(match rL rN 999 r with|(a0,r)=>(.mset a0,r))
 |(19,r)=>(match rN r with|(a0,r)=>(.rngi a0,r))
 |(20,r)=>(match rN r with|(a0,r)=>match rN r with|(a1,r)=>match rN r with|(a2,r)=>match rN r with|(a3,r)=>match rB r with|(a4,r)=>(.geta a0 a1 a2 a3 a4,r))
 |(21,r)=>(match rN r with|(a0,r)=>match rN r with|(a1,r)=>match rN r with|(a2,r)=>match rN r with|(a3,r)=>(.seta a0 a1 a2 a3,r))
 |(22,r)=>(match rN r with|(a0,r)=>match rN r with|(a1,r)=>match rN r with|(a2,r)=>(.ecall a0 a1 a2,r))
 |(23,r)=>(.mkl,r)
 |(24,r)=>(match rN r with|(a0,r)=>match rN r with|(a1,r)=>(.isc a0 a1,r))
 |(25,r)=>(match rN r with|(a0,r)=>match rN r with|(a1,r)=>match rN r with|(a2,r)=>(.capc a0 a1 a2,r))
 |(26,r)=>(match rL rN 999 r with|(a0,r)=>match rN r with|(a1,r)=>(.mapp a0 a1,r))
 |(27,r)=>(.fmk,r)
 |(28,r)=>(.drp,r)
 |(29,r)=>(match rL (rD 9) 999 r with|(a0,r)=>(.clr a0,r))
 |(30,r)=>(.adn,r)
 |(31,r)=>(.own,r)
 |(_,r)=>(.tup,r)
def rX:Nat→Rd X
 |0,l=>(EI,l)
 |n+1,l=>match rN l with
  |(0,r)=>(match rN r with|(k,r)=>(.t k,r))
  |(1,r)=>(match rD 9 r with|(d,r)=>(.q d,r))
  |(2,r)=>(match rXK r with|(k,r)=>match rL (rX n) 999 r with|(xs,r)=>(.mk k xs,r))
  |(_,r)=>(match rX n r with|(c,r)=>match rX n r with|(a,r)=>match rX n r with|(b,r)=>(.ite c a b,r))
def Z7:Nat→Rd SV
 |0,l=>(.un,l)
 |n+1,l=>match rN l with
  |(1,r)=>(match rX 99 r with|(x,r)=>(.x x,r))
  |(2,r)=>(match rL (Z7 n) 999 r with|(vs,r)=>(.agg vs,r))
  |(3,r)=>(match rL (Z7 n) 999 r with|(vs,r)=>(.tup vs,r))
  |(4,r)=>(match rN r with|(f,r)=>match rL (Z7 n) 999 r with|(vs,r)=>(.clo f vs,r))
  |(5,r)=>(match rN r with|(a,r)=>match rN r with|(b,r)=>(.ptr a b,r))
  |(7,r)=>(match rN r with|(a,r)=>match rN r with|(b,r)=>(.gl a b,r))
  |(8,r)=>(match rN r with|(a,r)=>match rN r with|(b,r)=>match rX 99 r with|(k,r)=>(.gs a b k,r))
  |(9,r)=>(match rN r with|(a,r)=>match rN r with|(b,r)=>match rX 99 r with|(i,r)=>match rN r with|(j,r)=>(.ep a b i j,r))
  |(10,r)=>(match rN r with|(a,r)=>match rN r with|(b,r)=>match rN r with|(c,r)=>(.sb a b c,r))
  |(11,r)=>(match rN r with|(a,r)=>match rN r with|(b,r)=>(.rb a b,r))
  |(12,r)=>(match rN r with|(a,r)=>(.mp a,r))
  |(13,r)=>(match rN r with|(a,r)=>(.yl a,r))
  |(14,r)=>(match rX 99 r with|(g,r)=>match Z7 n r with|(v,r)=>(.gd g v,r))
  |(15,r)=>(match rN r with|(a,r)=>match rN r with|(b,r)=>match rX 99 r with|(k,r)=>(.gt a b k,r))
  |(_,r)=>(.un,r)
def rRS:Rd RS:=fun l=>match rN l with
 |(0,r)=>(.ready,r)
 |(1,r)=>(.busy,r)
 |(2,r)=>(match rN r with
  |(0,r)=>(.done .normal,r)
  |(1,r)=>(match rN r with|(i,r)=>(.done (.exit i),r))
  |(_,r)=>(.done .ret,r))
 |(_,r)=>(.over,r)
def rSk:Rd Sk:=fun l=>match rN l with
 |(0,r)=>(match rN r with|(k,r)=>(.box k,r))
 |(1,r)=>(match rN r with|(e,r)=>match rN r with|(s,r)=>(.au e s,r))
 |(2,r)=>(.map,r)
 |(3,r)=>(match rN r with|(e,r)=>match rN r with|(s,r)=>(.mpl e s,r))
 |(_,r)=>(match rRS r with|(k,r)=>(.raw k,r))
def rLc{α:Type}(p:Rd α):Nat→Rd (List α)
 |0,l=>([],l)
 |k+1,l=>match p l with
  |(a,r)=>match rLc p k r with
   |(as,r)=>(a::as,r)
def rLn{α:Type}(p:Rd α):Rd (List α):=fun l=>match rN l with
 |(k,r)=>rLc p k r
def aev:Rd Ad:=fun l=>match rN l with
 |(4,r)=>(.same .un,r)
 |(0,r)=>(.drop,r)
 |(1,r)=>(match Z7 99 r with|(v,r)=>(.same v,r))
 |(2,r)=>(.var,r)
 |(_,r)=>(match rN r with|(e,r)=>match rN r with|(s,r)=>(.au e s,r))
def rHd:Rd Hd:=fun l=>match rLn rN l with
 |(ids,r)=>match rLn rNP r with
  |(ts,r)=>match rLn (fun l=>match rN l with|(n,r)=>match rSk r with|(k,r)=>((n,k),r)) r with
   |(os,r)=>match rLn aev r with
    |(row,r)=>(⟨ids,ts,os,row.map fun p=>(0,p)⟩,r)
def Du{α:Type}(i:Nat)(l:List α):Option α:= @Nat.rec (fun _=>List α→Option α) (fun l=>l.casesOn none fun a _=>some a) (fun _ ih l=>l.casesOn none fun _ r=>ih r) i l
def nn{α:Type}(d:α)(T:List (List α))(i:Nat):α:=((Du (i/32) T).bind (Du (i%32))).getD d
def ex(T:List (List (List Nat)))(k:Nat):List Nat→List Nat:= @Nat.rec (fun _=>List Nat→List Nat) (fun l=>l) (fun _ ih l=> @List.rec Nat (fun _=>List Nat) [] (fun a _ r=>
 (nn [] T a).casesOn r fun v s=>s.casesOn (v::r) fun b s=>List.append (ih (v::b::s)) r) l) k
def unx:Nat→Nat→List Nat
 |0,_=> []
 |k+1,n=>match Nat.ble n 1 with
  |true=> []
  |false=>match Nat.blt (n%16) 12 with
   |true=>(n%16*16+n/16%16)::unx k (n/256)
   |false=>((n%16-12)*256+(192+n/16%256))::unx k (n/4096)
def dl(l:List Nat):Nat→List Nat:= @List.rec Nat (fun _=>Nat→List Nat) (fun _=> []) (fun a _ r p=>
 bif Nat.blt a 100 then a::r p else(fun v=>v::r v) (bif Nat.beq (a%2) 0 then p+(a-100)/2 else p-(a-99)/2)) l
def hn(l:List Nat):Nat:=l.foldl (fun a x=>a*10000000+x) 1
inductive Hf where
 |cst (d:D)
 |op (k:XK) (n:Nat)
 |ite
def Ut(p:Rd X):Nat→Rd (List X)
 |0,l=>([],l)
 |k+1,l=>match p l with
  |(a,r)=>match Ut p k r with
   |(as,r)=>(a::as,r)
def gX(O:Nat→Hf):Nat→Rd X
 |0,l=>(EI,l)
 |n+1,l=>match l with
  | []=>(EI,[])
  |a::r=>bif Nat.beq (a%2) 0 then(.t (a/2),r)else match O (a/2)with
   | .cst d=>(.q d,r)
   | .op k m=>match Ut (gX O n) m r with
    |(xs,r)=>(.mk k xs,r)
   | .ite=>match gX O n r with
    |(c,r)=>match gX O n r with
     |(a,r)=>match gX O n r with
      |(b,r)=>(.ite c a b,r)
def gXs(O:Nat→Hf):Rd (List X):=fun l=>match rN l with|(n,r)=>Ut (gX O 99) n r
def Ls(O:Nat→Hf)(B:List FT):Nat→Rd FT
 |0,l=>(.bad 0,l)
 |n+1,l=>match rN l with
  |(0,r)=>(match gX O 99 r with|(x,r)=>(.ret x,r))
  |(1,r)=>(match gXs O r with|(xs,r)=>match Ls O B n r with|(k,r)=>(.fM xs k,r))
  |(2,r)=>(match gXs O r with|(xs,r)=>match Ls O B n r with|(k,r)=>(.lets xs k,r))
  |(3,r)=>(match gX O 99 r with|(c,r)=>match Ls O B n r with|(a,r)=>match Ls O B n r with|(b,r)=>(.ite c a b,r))
  |(4,r)=>(match gXs O r with|(xs,r)=>match Ls O B n r with|(k,r)=>(.loop xs k,r))
  |(5,r)=>(match rN r with|(j,r)=>match gXs O r with|(xs,r)=>(.next j xs,r))
  |(6,r)=>(match Ls O B n r with|(b,r)=>match Ls O B n r with|(k,r)=>(.jp k b,r))
  |(8,r)=>(match rN r with|(k,r)=>(B.getD k (.bad 0),r))
  |(_,r)=>(match rN r with|(w,r)=>(.bad w,r))
def hintOf(T:List (Nat×List (Nat×List Nat)))(f key:Nat):Option (Option (Hd×Nat)):=match find ((find T f).getD []) key with
 |some (n::l)=>some (some ((rHd l).1,n))
 |_=>some none
def Hl(l:List (Nat×List Nat))(f:Nat):List Nat:=(find l f).getD []
def R4(l:List (Nat×List (Nat×Nat)))(f i:Nat):Nat:=(find ((find l f).getD []) i).getD 0
end
noncomputable section
def fx(k:PK)(ds:List D):Option D:=(k.run (br Yq) dO ds).bind fun d=>if d.aF then some d else none
def D7(G:FP)(fl:Bool)(f:Nat)(ds:List D):Option D:=gn G fl f ds
def Nu(G:FP)(fl:Bool)(ds:List D):Option D:=match ds with
  | .clo f eM::r=>if f<1000000 then(eM.mapM (bo dO)).bind fun cs=>gn G fl f (r++cs)else none
  |_=>none
def Kx(ds:List D):Option D:=if ds.all D.aM then some (.agg ds)else none
def abp(ds:List D):Option D:=some (.tup ds)
def abf(f:Nat)(ds:List D):Option D:=if ds.all D.aM then some (.clo f ds)else none
def Vq(ds:List D):Option D:=some (.lptr ds)
def z_(j n:Nat)(ds:List D):Option D:=match ds with
  | [d]=>if d.cells.length=n∧d.cells.all D.gK=true∧d.cells.all D.aM=true then d.cells[j]? else none
  |_=>none
def abn(ds:List D):Option D:=match ds with
  | [d]=>if d.gK=true∧d.aF=true then some d else none
  |_=>none
def Kz(w:Bool)(ds:List D):Option D:=match ds with
  | [.v (.bool b)]=>some (bv (b==w))
  | [.tup _]=>some (bv false)
  |_=>none
def sm(ds:List D):Option D:=match ds with
  | [d]=>if d.aF then bo dO d else none
  |_=>none
def Ab(ds:List D):Option D:=match ds with
  | [d]=>if d.aM then aq dO 6 d else none
  |_=>none
def abe(size:Nat)(ds:List D):Option D:=match ds with
  | [a,b]=>(lW a).bind fun a=>(lW b).bind fun b=>if aO size b=true∧a.length+b.length≤aC then some (.list (a++b))else none
  |_=>none
def abk(size len:Nat)(zero:List D)(places:List (Nat×Nat))(ds:List D):Option D:=if ds.all (fun d=>d.cells.all D.gK)then(nP zero places ds).bind fun cs=>if cs.length=len*size∧aO size (lj size len (cs.map D.nz))=true then some (.list (lj size len (cs.map D.nz)))else none else none
def abm(size:Nat)(zero:List D)(ds:List D):Option D:=match ds with
  | [.v (.int _ l), .v (.int _ c)]=>if 0≤l∧l≤c∧c≤aC∧c.toNat*size≤16777216∧zero.length=size∧zero.all D.nV=true then some (.list (List.replicate l.toNat zero))else none
  |_=>none
def Vu(size j n:Nat)(ds:List D):Option D:=match ds with
  | [.list es, .v (.int _ i),v]=>if i<0 then none else(es[i.toNat]?).bind fun c=>if v.cells.length=n∧j+n≤size∧c.length=size∧v.cells.all D.gK=true∧v.cells.all D.nV=true then some (.list (es.set i.toNat (putAt c j v.cells)))else none
  |_=>none
def rf(ds:List D):Option D:=match ds with
  | [.list es, .v (.int _ k)]=>if 0≤k∧k≤es.length then some (.list (es.take k.toNat))else none
  |_=>none
def Aa(ks:List Nat)(z:D)(ok:Bool)(ds:List D):Option D:=match ds with
  | [.list rows,k]=>(ax rows).bind fun es=>(jv ks z ok es k).bind fun d=>if d.aF then some d else none
  |_=>none
def mV(ks:List Nat)(ds:List D):Option D:=match ds with
  | [.list rows,k,v]=>(ax rows).bind fun es=>(jw ks es k v).map fun es=> .list (ao es)
  |_=>none
def Vs(n:Nat)(ds:List D):Option D:=match ds with
  | [.v (.int _ i)]=>if 0≤i∧i<n then some (.tup [])else none
  |_=>none
def Vp(n s j m:Nat)(g:Bool)(ds:List D):Option D:=match ds with
  | [.agg xs, .v (.int _ i)]=>if 0≤i∧i<n∧j+m≤s∧n*s≤xs.length then(if g then(if((xs.drop (i.toNat*s+j)).take m).all D.aM then some (.agg ((xs.drop (i.toNat*s+j)).take m))else none)else(xs[i.toNat*s+j]?).bind fun d=>if d.aF then some d else none)else none
  |_=>none
def Vt(n s j m:Nat)(ds:List D):Option D:=match ds with
  | [.agg xs, .v (.int _ i),v]=>if 0≤i∧i<n∧j+m≤s∧n*s≤xs.length∧v.cells.length=m∧v.cells.all D.gK=true∧v.cells.all D.aM=true∧xs.all D.aM=true then some (.agg (putAt xs (i.toNat*s+j) v.cells))else none
  |_=>none
def Nv(G:FP)(k f sz:Nat)(ds:List D):Option D:=if(ds.set k .nil).all D.aF=true∧f<1000000 then(match ds[k]? with
  |some (.list es)=>(G (1000000+(1000000*k+f)) ds).bind fun r=>match r with
   | .tup [d, .list es']=>if d.aF=true∧es'.length=es.length∧aO sz es'=true then some (.tup [d, .list es'])else none
   |_=>none
  |_=>none)else none
def abh(ds:List D):Option D:=match ds with
  | [.list es, .v (.int _ k)]=>if 0≤k∧k≤es.length then some (.list (es.drop k.toNat))else none
  |_=>none
def abg(zero:List D)(ds:List D):Option D:=match ds with
  | [.list es, .v (.int _ k)]=>if 0≤k∧k≤es.length then some (.list (es.take k.toNat++List.replicate (es.length-k.toNat) zero))else none
  |_=>none
def abd(ds:List D):Option D:=match ds with
  | [.v (.int _ a), .v (.int q b)]=>if 0≤a∧0≤b then some (.v (.int q (a+b)))else none
  |_=>none
def abi(ds:List D):Option D:=match ds with
  | [.list rows]=>(ax rows).bind fun es=>if es.all (fun p=>p.1.aF&&p.2.aF)then some (.fm rows)else none
  |_=>none
def Vr(ks:List Nat)(sz:Nat)(ds:List D):Option D:=match ds with
  | [.list rows,k,b]=>(ax rows).bind fun es=>(lW b).bind fun b=>(uA ks sz es k b).map fun es=> .list (ao es)
  |_=>none
def abo(ds:List D):Option D:=match ds with
  | [d]=>some d
  |_=>none
def abl(ds:List D):Option D:=some (.list (ds.map fun d=> [d]))
def abj(f n:Nat)(ds:List D):Option D:=match ds with
  | [.clo g xs]=>if g=f∧xs.length=n then some (.tup [])else none
  |_=>none
def Vo(f i n:Nat)(ds:List D):Option D:=match ds with
  | [.clo g xs]=>if g=f∧xs.length=n then(xs[i]?).bind fun d=>if d.aF then some d else none else none
  |_=>none
def DE(G:FP):XK→List D→Option D
 | .pk k=>fx k
 | .call fl f=>D7 G fl f
 | .ccall fl=>Nu G fl
 | .agg=>Kx
 | .tup=>abp
 | .clo f=>abf f
 | .lptr=>Vq
 | .cell j n=>z_ j n
 | .qa=>abn
 | .gv w=>Kz w
 | .bq=>sm
 | .eA=>Ab
 | .app size=>abe size
 | .lit size len zero places=>abk size len zero places
 | .mks size zero=>abm size zero
 | .setl size j n=>Vu size j n
 | .take=>rf
 | .mget ks z ok=>Aa ks z ok
 | .mset ks=>mV ks
 | .mix ks=>XK.run G (.mix ks)
 | .rngi n=>Vs n
 | .geta n s j m g=>Vp n s j m g
 | .seta n s j m=>Vt n s j m
 | .ecall k f sz=>Nv G k f sz
 | .drp=>abh
 | .clr zero=>abg zero
 | .adn=>abd
 | .fmk=>abi
 | .mapp ks sz=>Vr ks sz
 | .own=>abo
 | .mkl=>abl
 | .isc f n=>abj f n
 | .capc f i n=>Vo f i n
theorem MO(G:FP)(k:XK)(ds:List D):DE G k ds=k.run G ds:=by cases k<;>rfl
def nth(l:List D)(i:Nat):Option D:= @Nat.rec (fun _=>List D→Option D) (fun l=>l.casesOn none fun a _=>some a) (fun _ ih l=>l.casesOn none fun _ r=>ih r) i l
theorem oH: ∀(i:Nat) (l:List D),nth l i=l[i]?
 |0,[]=>rfl
 |0,_::_=>rfl
 |_+1,[]=>rfl
 |i+1,_::r=>oH i r
def EF(G:FP)(x:X):List D→Option D:=
 @X.rec (fun _=>List D→Option D) (fun _=>List D→Option (List D)) (fun i E=>nth E i) (fun d _=>some d) (fun k _ ih E=>(ih E).bind (DE G k))
  (fun _ _ _ hc ha hb E=>(hc E).bind fun v=>v.asBool.bind fun x=>bif x then ha E else hb E) (fun _=>some []) (fun _ _ hx hr E=>(hx E).bind fun d=>(hr E).bind fun ds=>some (d::ds)) x
def lY(G:FP)(xs:List X):List D→Option (List D):=
 @X.rec_1 (fun _=>List D→Option D) (fun _=>List D→Option (List D)) (fun i E=>nth E i) (fun d _=>some d) (fun k _ ih E=>(ih E).bind (DE G k))
  (fun _ _ _ hc ha hb E=>(hc E).bind fun v=>v.asBool.bind fun x=>bif x then ha E else hb E) (fun _=>some []) (fun _ _ hx hr E=>(hx E).bind fun d=>(hr E).bind fun ds=>some (d::ds)) xs
mutual
theorem qq(G:FP)(E:List D): ∀(x:X),EF G x E=X.ev G E x
 | .t i=>oH i E
 | .q _=>rfl
 | .mk k xs=>by
  show(lY G xs E).bind (DE G k)=_;rw[na G E xs];simp only[X.ev];congr 1;funext ds;exact MO G k ds
 | .ite c a b=>by
  show(EF G c E).bind _=_;rw[qq G E c];simp only[X.ev];congr 1;funext v;congr 1;funext x;cases x
  ·exact qq G E b
  ·exact qq G E a
theorem na(G:FP)(E:List D): ∀(xs:List X),lY G xs E=X.ba G E xs
 | []=>rfl
 |x::r=>by
  show(EF G x E).bind (fun d=>(lY G r E).bind fun ds=>some (d::ds))=_;rw[qq G E x,na G E r];simp only[X.ba];congr 1;funext d;cases X.ba G E r<;>rfl
end
def sR(G:FP)(N:Nat)(t:FT):List (List D→Option D)→List D→Option D:=
 @FT.rec (fun _=>List (List D→Option D)→List D→Option D)
  (fun x _ E=>(EF G x E).bind fun d=>bif d.aF then some (bY x d)else none)
  (fun xs _ ih L E=>(lY G xs E).bind fun _=>ih L E)
  (fun xs _ ih L E=>(lY G xs E).bind fun ds=>ih L (E++ds))
  (fun c _ _ ha hb L E=>(EF G c E).bind fun v=>v.asBool.bind fun x=>bif x then ha L E else hb L E)
  (fun xs _ ih L E=>(lY G xs E).bind fun ds=>iter (fun rec vs=>ih (rec::L) (E++vs)) N ds)
  (fun j xs L E=>(lY G xs E).bind fun ds=>(L[j]?).bind fun f=>f ds)
  (fun _ _ hk hb L E=>hb ((fun vs=>hk L (E++vs))::L) E)
  (fun _ _ _=>none) (fun _ _ _ _=>none) t
theorem oz(G:FP)(N:Nat): ∀(t:FT) (L:List (List D→Option D)) (E:List D),sR G N t L E=ae G N t L E:=by
 intro t
 induction t with
 |ret x=>
  intro L E;show(EF G x E).bind _=_;rw[qq];simp only[ae]
  grind
 |fM xs k ih=>
  intro L E;show(lY G xs E).bind (fun _=>sR G N k L E)=_;simp only[na,ih,ae]
 |lets xs k ih=>
  intro L E;show(lY G xs E).bind (fun ds=>sR G N k L (E++ds))=_;simp only[na,ih,ae]
 |ite c a b iha ihb=>
  intro L E;show(EF G c E).bind (fun v=>v.asBool.bind fun x=>bif x then sR G N a L E else sR G N b L E)=_;simp only[qq,iha,ihb,ae]
 |loop xs k ih=>
  intro L E;show(lY G xs E).bind (fun ds=>iter (fun rec vs=>sR G N k (rec::L) (E++vs)) N ds)=_;simp only[na,ih,ae]
 |next j xs=>
  intro L E;show(lY G xs E).bind _=_;simp only[na,ae]
 |jp k b ihk ihb=>
  intro L E;show sR G N b ((fun vs=>sR G N k L (E++vs))::L) E=_;simp only[ihk,ihb,ae]
 |st Y=>intro L E;rfl
 |bad w Y=>intro L E;rfl
def Lp(T:Nat→Option (Nat×FT))(H:FP)(N k:Nat):FP:=
 @Nat.rec (fun _=>FP) (fun _ _=>none) (fun _ ih f ds=>(H f ds).casesOn ((T f).bind fun q=>bif Nat.beq ds.length q.1&&ds.all D.aF&&Nat.blt f 1000000 then sR ih N q.2 [] ds else none) some) k
end
section
def e9:FT→FT→Bool
 | .ret x, .ret y=>dH x y
 | .fM xs k, .fM ys l=>oW xs ys&&e9 k l
 | .lets xs k, .lets ys l=>oW xs ys&&e9 k l
 | .ite c a b, .ite c' a' b'=>dH c c'&&(e9 a a'&&e9 b b')
 | .loop xs k, .loop ys l=>oW xs ys&&e9 k l
 | .next i xs, .next j ys=>Nat.beq i j&&oW xs ys
 | .jp a b, .jp a' b'=>e9 a a'&&e9 b b'
 | .bad w none, .bad w' none=>Nat.beq w w'
 |_,_=>false
theorem fP: ∀(a b:FT),e9 a b=true→a=b
 | .ret x,b,h=>by cases b<;>simp[e9]at h;rw[aK _ _ h]
 | .fM xs k,b,h=>by cases b<;>simp[e9]at h;rw[kz _ _ h.1,fP _ _ h.2]
 | .lets xs k,b,h=>by cases b<;>simp[e9]at h;rw[kz _ _ h.1,fP _ _ h.2]
 | .ite c x y,b,h=>by cases b<;>simp[e9]at h;rw[aK _ _ h.1,fP _ _ h.2.1,fP _ _ h.2.2]
 | .loop xs k,b,h=>by cases b<;>simp[e9]at h;rw[kz _ _ h.1,fP _ _ h.2]
 | .next i xs,b,h=>by cases b<;>simp[e9]at h;rw[h.1,kz _ _ h.2]
 | .jp x y,b,h=>by cases b<;>simp[e9]at h;rw[fP _ _ h.1,fP _ _ h.2]
 | .st Y,b,h=>by cases b<;>simp[e9]at h
 | .bad w o,b,h=>by
  cases o with
  |some Y=>cases b<;>simp[e9]at h
  |none=>
   cases b with
   |bad w' o'=>
    cases o' with
    |some Y=>simp[e9]at h
    |none=>simp[e9]at h;rw[h]
   |_=>simp[e9]at h
def okF(C:Cx)(f n:Nat)(t:FT):Bool:=match mj C f with
 |some q=>Nat.beq q.1 n&&e9 (cse (K_ q.1) q.2) t
 |none=>false
def aN(C:Cx)(f n:Nat)(t:FT):Prop:= ∃t0,mj C f=some (n,t0)∧cse (K_ n) t0=t
theorem okF_eq{C:Cx}{f n:Nat}{t:FT}(h:okF C f n t=true):aN C f n t:=by
 unfold okF at h;split at h
 ·rename_i q hq;obtain⟨m,t0⟩:=q;simp only[Az]at h;obtain rfl:=Nat.eq_of_beq_eq_true h.1;exact⟨t0,hq,fP _ _ h.2⟩
 ·cases h
inductive Tr where
 |no
 |lf (f n:Nat) (t:FT)
 |nd (m:Nat) (a b:Tr)
noncomputable def Tr.get(r:Tr)(f:Nat):Option (Nat×FT):=
 @Tr.rec (fun _=>Option (Nat×FT)) none (fun g n t=>bif Nat.beq f g then some (n,t)else none) (fun m _ _ a b=>bif Nat.blt f m then a else b) r
def Tr.RU(C:Cx):Tr→Prop
 | .no=>True
 | .lf f n t=>aN C f n t
 | .nd _ a b=>a.RU C∧b.RU C
theorem Tr.CW{C:Cx}{f n:Nat}{t:FT}: ∀{r:Tr},r.RU C→r.get f=some (n,t)→aN C f n t
 | .no,_,h=>by cases h
 | .lf g m u,ha,h=>by
  have h:(bif Nat.beq f g then some (m,u)else none)=some (n,t):=h;cases hb:Nat.beq f g with
  |true=>rw[hb]at h;cases h;rw[Nat.eq_of_beq_eq_true hb];exact ha
  |false=>rw[hb]at h;cases h
 | .nd m a b,ha,h=>by
  have h:(bif Nat.blt f m then a.get f else b.get f)=some (n,t):=h;cases hb:Nat.blt f m with
  |true=>rw[hb]at h;exact CW ha.1 h
  |false=>rw[hb]at h;exact CW ha.2 h
theorem CN{C:Cx}{H:FP}{N:Nat}{r:Tr}(hr:r.RU C): ∀(k f:Nat) (ds:List D) (d:D),Lp r.get H N k f ds=some d→Gs C H N k f ds=some d
 |0,f,ds,d,h=>by cases h
 |k+1,f,ds,d,h=>by
  show(H f ds).or _=some d;cases hh:H f ds with
  |some d0=>
   have h:(H f ds).casesOn ((r.get f).bind fun q=>bif Nat.beq ds.length q.1&&ds.all D.aF&&Nat.blt f 1000000 then sR (Lp r.get H N k) N q.2 [] ds else none) some=some d:=h;rw[hh]at h;exact h
  |none=>
   have h:(H f ds).casesOn ((r.get f).bind fun q=>bif Nat.beq ds.length q.1&&ds.all D.aF&&Nat.blt f 1000000 then sR (Lp r.get H N k) N q.2 [] ds else none) some=some d:=h;rw[hh]at h;obtain⟨⟨n,t⟩,h1,h2⟩:=Bz.1 (show((r.get f).bind fun q=>bif Nat.beq ds.length q.1&&ds.all D.aF&&Nat.blt f 1000000 then sR (Lp r.get H N k) N q.2 [] ds else none)=some d from h);cases hc:(Nat.beq ds.length n&&ds.all D.aF&&Nat.blt f 1000000)with
   |false=>rw[hc]at h2;cases h2
   |true=>
    rw[hc]at h2;simp only[Az]at hc;obtain⟨⟨c1,c2⟩,c3⟩:=hc;obtain rfl:=Nat.eq_of_beq_eq_true c1;have c3:f<1000000:=by simpa[Nat.blt_eq]using c3
    obtain⟨t0,k1,k2⟩:=Tr.CW hr h1;rw[k1,Oz];rw[if_pos ⟨⟨rfl,c2⟩,c3⟩];rw[oz]at h2;obtain⟨k0,hk⟩:=fU (G:=Lp r.get H N k) (Gk:=fun _=>Gs C H N k) (fun f ds d h=>⟨0,fun _ _=>CN hr k f ds d h⟩) (Lk:=fun _=> []) t (fun j f hf=>by simp at hf) h2;exact yf (q:=(ds.length,t0)) rfl (by rw[←k2]at hk;exact hk k0 (Nat.le_refl _))
structure cV where
 ds:List D
 r:D
abbrev KT:=List (Nat×List cV)
def KT.OK(P:Program)(l:KT):Prop:= ∀p∈l,∀e∈p.2,p.1<1000000∧Vx P p.1 e.ds e.r
theorem KT.OK.append{P:Program}{l m:KT}(h:l.OK P)(k:m.OK P):KT.OK P (l++m):=fun p hp=>(List.mem_append.1 hp).elim (h p) (k p)
end
end Go.Proofs.YtkcfpgaepmllhaaGreatDoor
