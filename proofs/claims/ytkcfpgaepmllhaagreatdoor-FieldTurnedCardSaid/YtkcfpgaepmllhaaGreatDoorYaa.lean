/- Part of the proof: symbolic execution of the program, its soundness, and the closing lemmas. No condition. -/
import Derived.Test.YtkcfpgaepmllhaaGreatDoorCaq
import Derived.Test.YtkcfpgaepmllhaaGreatDoorCaj
namespace Go.Proofs.YtkcfpgaepmllhaaGreatDoor
open Go.RowKit
set_option maxRecDepth 100000
set_option linter.all false
section
namespace Ty
section
variable (R : En → List Pt) (aw : En → Int) (l : List En)
def Aw(e:En):Fq:=if l.countP En.nv<2 then⟨0,1⟩else if e.cB=true then BU ((l.filter (En.fH e.fl)).map R) (l.countP En.nv) (R e)else share (aw e) (l.countP En.nv)
end
section
variable {R : En → List Pt} {aw : En → Int} {l : List En}
end
end Ty
end
section
namespace Ty
structure U6(S L:List En):Prop where
 pw:L.Pairwise fun a b=>a.bT b<0
 sub: ∀m∈L,m∈S
 last: ∀e∈S,∃m∈L,e.bT m=0∧ ¬m.cmp e<0
theorem qJ{a b:En}(h:a.bT b<0):a.cmp b<0:=by
 unfold En.cmp;rw[if_pos (by omega)];exact h
theorem RP{a b:En}(ha:a.okB=true)(hb:b.okB=true)(h1: ¬a.cmp b<0)(h2: ¬b.cmp a<0):a=b:=by
 rw[kW]at h1 h2;unfold En.lex at h1 h2;refine ue ha hb (kD.1 ?_);rw[ml]at h2;omega
theorem Em{L:List En}(h:L.Pairwise fun a b=>a.bT b<0): ∀{a b:En},a∈L→b∈L→a.bT b=0→a=b:=by
 induction h with
 |nil=>intro a b ha;cases ha
 | @cons c r h1 _ ih=>
  intro a b ha hb h0;rcases List.mem_cons.1 ha with e|ha2
  ·grind
  ·rcases List.mem_cons.1 hb with e2|hb2
   ·have:=h1 a ha2;rw[←e2]at this;rw[fP]at h0;rw[ma]at this;omega
   ·grind
theorem U6.uniq{S L M:List En}(hok: ∀e∈S,e.okB=true)(hL:U6 S L)(hM:U6 S M):L=M:=by
 have key: ∀{L M:List En},U6 S L→U6 S M→ ∀x∈L,x∈M:=fun{L M} hL hM x hx=>by
  obtain⟨m,hm,h1,h2⟩:=hM.last x (hL.sub x hx);obtain⟨n,hn,h3,h4⟩:=hL.last m (hM.sub m hm);have e:x=n:=Em hL.pw hx hn (by rw[fP]at*;omega);subst e;have:=RP (hok x (hL.sub x hx)) (hok m (hM.sub m hm)) h4 h2
  grind
 exact sK (hL.pw.imp qJ) (hM.pw.imp qJ) fun x=>⟨key hL hM x,key hM hL x⟩
theorem zQ: ∀(S:List En),S.Pairwise (fun a b=>a.cmp b<0)→ ∀e∈S,∃m∈bH S,e.bT m=0∧ ¬m.cmp e<0
 | [],_,e,he=>by cases he
 | [a],_,e,he=>by
  rw[List.mem_singleton]at he;subst he;exact⟨e,List.mem_singleton.2 rfl,ku e,dQ e⟩
 |a::b::r,h,e,he=>by
  have h':=List.pairwise_cons.1 h;have ih:=zQ (b::r) h'.2;unfold bH;split
  ·rename_i h0;rcases List.mem_cons.1 he with rfl|he
   ·obtain⟨m,hm,h1,h2⟩:=ih b (List.mem_cons_self ..);have hb:=h'.1 b (List.mem_cons_self ..);refine⟨m,hm,by rw[fP]at*;omega,fun hlt=>h2 (iE hlt hb)⟩
   ·grind
  ·rcases List.mem_cons.1 he with rfl|he
   ·exact⟨e,List.mem_cons_self ..,ku e,dQ e⟩
   ·grind
theorem zS{S:List En}(h:S.Pairwise fun a b=>a.cmp b<0):U6 S (bH S):=
 ⟨mb S (h.imp DY),fun _ hm=>(im S).subset hm,zQ S h⟩
noncomputable def rep(x y e:En):En:=if e=x then y else e
theorem Uy{a b:En}(h:a.bT b=0)(hv:a.vs<b.vs):a.cmp b<0:=by
 rw[fP]at h;rw[kW];unfold En.lex En.bI;simp only[eL];rw[if_pos (c_.2 h.1),if_pos (c_.2 h.2.1),if_pos (c_.2 h.2.2),if_neg (fun e=>by have:=c_.1 e;omega),kj];exact hv
theorem Kh{l:List En}{x y:En}(hok: ∀e∈l,e.okB=true)(hy:y.okB=true)(hx:x∈bH (setOf l))(hk:x.bT y=0)(hv: ∀e∈l,e.vs<y.vs):
  bH (setOf (l++ [y]))=(bH (setOf l)).map (rep x y):=by
 have yb: ∀e∈l++ [y],e.okB=true:=fun e he=>by
  rcases List.mem_append.1 he with h|h
  ·exact hok e h
  ·rw[List.mem_singleton.1 h];exact hy
 have hA:=zS (kL hok);have hB:=zS (kL yb);refine hB.uniq (fun e he=>yb e ((cV _ e).1 he)) ⟨?_, ?_, ?_⟩
 ·rw[List.pairwise_map]
  have kk: ∀e:En,(rep x y e).rd=e.rd∧(rep x y e).tb=e.tb∧(rep x y e).bd=e.bd:=fun e=>by
   unfold rep;split
   ·rename_i h;subst h;rw[fP]at hk;omega
   ·exact⟨rfl,rfl,rfl⟩
  refine hA.pw.imp fun{a b} h=> ?_;have ka:=kk a;have kb:=kk b;rw[ma]at h⊢;omega
 ·intro m hm;obtain⟨e,he,rfl⟩:=List.mem_map.1 hm;rw[cV,List.mem_append];unfold rep;split
  ·exact .inr (List.mem_singleton.2 rfl)
  ·exact .inl ((cV _ e).1 (hA.sub e he))
 ·intro e he;rw[cV,List.mem_append]at he;rcases he with he|he
  ·obtain⟨m,hm,h1,h2⟩:=hA.last e ((cV _ e).2 he);refine⟨rep x y m,List.mem_map.2 ⟨m,hm,rfl⟩, ?_⟩;unfold rep;split
   ·rename_i h;subst h;have h3:e.bT y=0:=by rw[fP]at*;omega
    exact⟨h3,fun h4=>dQ e (iE (Uy h3 (hv e he)) h4)⟩
   ·exact⟨h1,h2⟩
  ·rw[List.mem_singleton]at he;subst he;refine⟨rep x e x,List.mem_map.2 ⟨x,hx,rfl⟩, ?_⟩;unfold rep;rw[if_pos rfl];exact⟨ku e,dQ e⟩
end Ty
end
noncomputable section
namespace Ty
def aI(x:En):En:={x with vs:=30,tu:= !x.tu}
theorem Jv{e:En}(hb:e.okB=true)(hc:e.cB=true)(h:e.right=true):e.used.1≠0:=by
 obtain⟨hk,_⟩:=ph hb h;unfold En.right at h;split at h
 ·cases h
 split at h
 ·cases h
 rename_i c2;have c2:e.used.2=true:=by simpa using c2
 simp[En.cB]at hc
 have hkk:e.kd=1∨e.kd=2∨e.kd=3:=by
  cases hk with
  |void hk=>exact absurd hk hc.1
  |aP hk=>exact .inl hk
  |ax hk=>exact .inr (.inl hk)
  |split hk=>exact .inr (.inr hk)
  |award hk=>exact absurd hk hc.2
 rcases hkk with hk|hk|hk
 ·unfold En.used at c2⊢
  grind
 ·have hu:e.used=ax [e.o0,e.o1,e.o2,e.o3] 0 0:=by
   unfold En.used
   grind
  rw[hu]at c2⊢;obtain⟨k1,_,k3,_⟩:=jS (l:= [e.o0,e.o1,e.o2,e.o3]) (s:=0) (n:=0) (m:=(ax [e.o0,e.o1,e.o2,e.o3] 0 0).1) (by rw[←c2]) (by omega) (by omega) (by simp)
  grind
 ·unfold En.used at c2⊢
  grind
theorem Dj{e:En}(hb:e.okB=true)(hc:e.cB=true)(h:e.right=true):(aI e).right=true:=by
 have h0:=Jv hb hc h;unfold En.right at h⊢;rw[show(aI e).used=e.used from rfl,show(aI e).kd=e.kd from rfl,show(aI e).fl=e.fl from rfl,show(aI e).ol=e.ol from rfl,show(aI e).xl=e.xl from rfl]
 grind
theorem yf{s:Ss}{e y:En}(hk:y.rd=e.rd∧y.tb=e.tb∧y.bd=e.bd)(hv:1≤y.vs∧y.vs≤99)(hr:y.right=true)(h:s.proper e=true):s.proper y=true:=by
 unfold Ss.proper at h⊢;simp only[decide_eq_true_eq]at h⊢;unfold Ss.fC at h⊢;rw[hk.1,hk.2.1,hk.2.2];cases hf:cM e.rd e.tb s.rows with
 |none=>rw[hf]at h;simp at h
 |some i=>
  rw[hf]at h;simp only at h⊢;cases hi:s.rows[i]? with
  |none=>rfl
  |some r=>
   rw[hi]at h;simp only at h⊢;split at h
   ·cases h
   rename_i c1;rw[if_neg c1];split at h
   ·cases h
   rename_i c2;rw[if_neg c2,if_neg (by omega),hr];rfl
section
variable {x y : En} {β : Type}
theorem iY{f:En→β}(h:f y=f x)(e:En):f (rep x y e)=f e:=by
 unfold rep
 grind
theorem gE{p:En→Bool}(h:p y=p x)(l:List En):(l.map (rep x y)).filter p=(l.filter p).map (rep x y):=by
 rw[List.filter_map];congr 1;exact List.filter_congr fun e _=>iY h e
theorem wR{p:En→Bool}(h:p y=p x)(l:List En):(l.map (rep x y)).countP p=l.countP p:=by
 rw[List.countP_map];exact List.countP_congr fun e _=>by rw[Function.comp,iY h]
theorem EJ{f:En→β}(h:f y=f x)(l:List En):(l.map (rep x y)).map f=l.map f:=by
 rw[List.map_map];exact List.map_congr_left fun e _=>iY h e
end
section
variable {H : FP} {s : Ss} {x e : En} {v : Int} {l : List En}
theorem I5:eM H v (l.map (rep x (aI x))) (rep x (aI x) e)=eM H v l e:=by
 have c1:(l.map (rep x (aI x))).countP En.nv=l.countP En.nv:=wR (p:=En.nv) (x:=x) (y:=aI x) rfl l;have f1: ∀f,ni H v (l.map (rep x (aI x))) f=ni H v l f:=fun f=>by unfold ni;rw[gE (p:=En.fH f) (x:=x) (y:=aI x) rfl,EJ (f:=wM H v) (x:=x) (y:=aI x) rfl]
 have f2: ∀f,nh H v (l.map (rep x (aI x))) f=nh H v l f:=fun f=>by unfold nh;rw[gE (p:=En.fH f) (x:=x) (y:=aI x) rfl,EJ (f:=wb H v) (x:=x) (y:=aI x) rfl]
 have e1:wM H v (rep x (aI x) e)=wM H v e:=iY (f:=wM H v) (x:=x) (y:=aI x) rfl e;have e2:wb H v (rep x (aI x) e)=wb H v e:=iY (f:=wb H v) (x:=x) (y:=aI x) rfl e;have e3:(rep x (aI x) e).kd=e.kd:=iY (f:=En.kd) (x:=x) (y:=aI x) rfl e;have e4:(rep x (aI x) e).fl=e.fl:=iY (f:=En.fl) (x:=x) (y:=aI x) rfl e;have e5:(rep x (aI x) e).a0=e.a0:=iY (f:=En.a0) (x:=x) (y:=aI x) rfl e;have e6:(rep x (aI x) e).a1=e.a1:=iY (f:=En.a1) (x:=x) (y:=aI x) rfl e;have e7:(rep x (aI x) e).cB=e.cB:=iY (f:=En.cB) (x:=x) (y:=aI x) rfl e;unfold eM Rk Av Ch R0
 grind
def Po:List D→List D
 |a::b::c::d::e::r=>a::b::c::e::d::r
 |l=>l
def jO(b:Prop) [Decidable b](c:List D):List D:=if b then Po c else c
theorem Gb:fY H s v (l.map (rep x (aI x))) (rep x (aI x) e)=jO (e=x) (fY H s v l e):=by
 have c1:(l.map (rep x (aI x))).countP En.nv=l.countP En.nv:=wR (p:=En.nv) (x:=x) (y:=aI x) rfl l;unfold jO fY;rw[I5,c1,iY (f:=En.rd) (x:=x) (y:=aI x) rfl,iY (f:=En.tb) (x:=x) (y:=aI x) rfl,iY (f:=En.bd) (x:=x) (y:=aI x) rfl,iY (f:=En.nv) (x:=x) (y:=aI x) rfl,show rowAt s (rep x (aI x) e)=rowAt s e from iY (f:=rowAt s) (x:=x) (y:=aI x) rfl e];by_cases h:e=x
 ·subst h;rw[if_pos rfl,show(rep e (aI e) e).tu= !e.tu by unfold rep;rw[if_pos rfl];rfl];cases e.tu<;>rfl
 ·rw[if_neg h,show rep x (aI x) e=e by unfold rep;rw[if_neg h]]
def lT(N:Nat)(c:List En):List (Nat×En):=(List.range N).flatMap fun i:Nat=>((c.filter (lx ((i:Int)+1))).filter En.nv).map fun e=>(i,e)
def jL(H:FP)(s:Ss)(c:List En)(p:Nat×En):List D:=fY H s (dJ ((p.1:Int)+1)) (c.filter (lx ((p.1:Int)+1))) p.2
theorem sS{N:Nat}{c:List En}:iM H s N c=(lT N c).map (jL H s c):=by
 unfold iM lT;rw[List.map_flatMap];congr 1;funext i;rw[List.map_map];rfl
theorem L0{N:Nat}{c:List En}{y:En}(h1:y.bd=x.bd)(h2:y.kd=x.kd):lT N (c.map (rep x y))=(lT N c).map fun p=>(p.1,rep x y p.2):=by
 unfold lT;rw[List.map_flatMap];congr 1;funext i;rw[gE (p:=lx ((i:Int)+1)) (by unfold lx;rw[h1]),gE (p:=En.nv) (by unfold En.nv;rw[h2]),List.map_map,List.map_map];rfl
theorem LZ{N:Nat}{c:List En}{p:Nat×En}(h:p∈lT N c):p.2∈c∧p.2.nv=true∧p.2.bd=(p.1:Int)+1:=by
 obtain⟨i,_,h⟩:=List.mem_flatMap.1 h;obtain⟨e,he,rfl⟩:=List.mem_map.1 h;obtain⟨h1,h2⟩:=List.mem_filter.1 he;obtain⟨h3,h4⟩:=List.mem_filter.1 h1;exact⟨h3,h2,by simpa[lx]using h4⟩
theorem GC{N:Nat}{c:List En}:iM H s N (c.map (rep x (aI x)))=(lT N c).map fun p=>jO (p.2=x) (jL H s c p):=by
 rw[sS,L0 (x:=x) (y:=aI x) rfl rfl,List.map_map];refine List.map_congr_left fun p _=> ?_;show fY H s _ ((c.map (rep x (aI x))).filter (lx ((p.1:Int)+1))) (rep x (aI x) p.2)=_;rw[gE (p:=lx ((p.1:Int)+1)) (x:=x) (y:=aI x) rfl,Gb];rfl
end
end Ty
end
section
namespace Ty
theorem GZ:RC= .lets [.mk (.pk (.ibin .add)) [.t 15, .q (iv 1)]] (.next 0 [.t 53, .t 18]):=by kernel_rfl
theorem Na:RF= .lets [.mk (.pk (.aeq true [3,3,3,3,3,3,3,3,3,3,8])) [.mk .agg ([.mk (.cell 0 11) [.t 30], .mk (.cell 1 11) [.t 30], .mk (.cell 2 11) [.t 30], .t 32, .t 33]++cs 30 11 5 6), .mk (.pk (.load 11 true)) [.mk (.pk (.idx 73 11)) [.t 24, .t 27]]]] (.ite (.t 34) (.ret (.mk .bt [.q (bv false)])) (.lets [.mk (.pk (.ibin .add)) [.t 27, .q (iv 1)]] (.next 0 [.t 35, .t 28]))):=by kernel_rfl
end Ty
end
section
open Go.RowKit Go.Sort
namespace Ty
variable {H : FP}
section
variable {G : FP} {f g : Nat → Int} {b : Bool}
theorem scO{H:FP}{s:Ss}{c:List En}{p:Nat×En}: ∃f b,jL H s c p=ri f b∧f 0=p.2.rd∧f 1=p.2.tb∧f 2=p.2.bd:=
 ⟨fun
  |0=>p.2.rd|1=>p.2.tb|2=>p.2.bd
  |3=>if p.2.tu then(rowAt s p.2).ew else(rowAt s p.2).ns
  |4=>if p.2.tu then(rowAt s p.2).ns else(rowAt s p.2).ew
  |5=>(eM H (dJ ((p.1:Int)+1)) (c.filter (lx ((p.1:Int)+1))) p.2).1.n
  |6=>(eM H (dJ ((p.1:Int)+1)) (c.filter (lx ((p.1:Int)+1))) p.2).1.d
  |7=>(eM H (dJ ((p.1:Int)+1)) (c.filter (lx ((p.1:Int)+1))) p.2).2.n
  |8=>(eM H (dJ ((p.1:Int)+1)) (c.filter (lx ((p.1:Int)+1))) p.2).2.d
  |_=>2*(((c.filter (lx ((p.1:Int)+1))).countP En.nv:Int)-1),_,rfl,rfl,rfl,rfl⟩
def swF(f:Nat→Int):Nat→Int
 |3=>f 4
 |4=>f 3
 |k=>f k
theorem Z7:Po (ri f b)=ri (swF f) b:=rfl
theorem agF:XK.run G .agg [iv (f 0),iv (f 1),iv (f 2),iv (f 3),iv (f 4),iv (f 5),iv (f 6),iv (f 7),iv (f 8),iv (f 9),bv b]=some (.agg (ri f b)):=rfl
theorem agS:XK.run G .agg [iv (f 0),iv (f 1),iv (f 2),iv (f 4),iv (f 3),iv (f 5),iv (f 6),iv (f 7),iv (f 8),iv (f 9),bv b]=some (.agg (ri (swF f) b)):=rfl
theorem fk0:XK.run G (.cell 0 11) [.agg (ri f b)]=some (iv (f 0)):=rfl
theorem fk1:XK.run G (.cell 1 11) [.agg (ri f b)]=some (iv (f 1)):=rfl
theorem fk2:XK.run G (.cell 2 11) [.agg (ri f b)]=some (iv (f 2)):=rfl
theorem fk3:XK.run G (.cell 3 11) [.agg (ri f b)]=some (iv (f 3)):=rfl
theorem fk5:XK.run G (.cell 5 11) [.agg (ri f b)]=some (iv (f 5)):=rfl
theorem fk6:XK.run G (.cell 6 11) [.agg (ri f b)]=some (iv (f 6)):=rfl
theorem fk7:XK.run G (.cell 7 11) [.agg (ri f b)]=some (iv (f 7)):=rfl
theorem fk8:XK.run G (.cell 8 11) [.agg (ri f b)]=some (iv (f 8)):=rfl
theorem fk9:XK.run G (.cell 9 11) [.agg (ri f b)]=some (iv (f 9)):=rfl
theorem fkA:XK.run G (.cell 10 11) [.agg (ri f b)]=some (bv b):=rfl
theorem fk4:XK.run G (.cell 4 11) [.agg (ri f b)]=some (iv (f 4)):=rfl
end
theorem Kx(ks:List Ky)(l:List It): ∀e∈fh ks l,e.vs<30:=fun e he=>by
 unfold fh at he;obtain⟨i,hi,h⟩:=List.mem_filterMap.1 he;obtain⟨k,hk,rfl⟩:=Mz.1 h;show 1+i.vs%9<30;omega
theorem adC{G:FP}{x:En}:XK.run G .agg [iv x.rd,iv x.tb,iv x.bd,iv 30,uv x.kd,uv x.fl,bv (!x.tu),uv x.o0.lv,uv x.o0.dn,uv x.o0.rk,uv x.o0.dc,iv x.o0.tr,iv x.o0.wt,uv x.o1.lv,uv x.o1.dn,uv x.o1.rk,uv x.o1.dc,iv x.o1.tr,iv x.o1.wt,uv x.o2.lv,uv x.o2.dn,uv x.o2.rk,uv x.o2.dc,iv x.o2.tr,iv x.o2.wt,uv x.o3.lv,uv x.o3.dn,uv x.o3.rk,uv x.o3.dc,iv x.o3.tr,iv x.o3.wt,iv x.a0,iv x.a1]=some (.agg (aI x).cells):=rfl
section
variable {G : FP} {E : List D}
theorem Ha{v:Nat}:X.bm G E (cs v 11 5 6)=ob (E[v]?) (JK 11 5 6):=Kl (by omega) (by omega)
theorem D1{f:Nat→Int}{b:Bool}:JK 11 5 6 (.agg (ri f b))=some [iv (f 5),iv (f 6),iv (f 7),iv (f 8),iv (f 9),bv b]:=nr rfl
end
set_option maxHeartbeats 8000000 in
theorem adz(hH:Hd H)(hB:Fb H)(h11:XK.run (GK H) (.call false 11) []=some (bv true))
  {n1 n2 n3 n4:Int} {s:Ss} (hs:oE H s) (h13:XK.run (GK H) (.call false 13) [.agg [uv n1,uv n2,uv n3,uv n4]]=some (.agg s.cells)) (l:List It) (hl: ∀i∈l,i.ok=true) (xi:Int) (hwh:u8 xi=true):
  GK H 7 [.agg [uv n1,uv n2,uv n3,uv n4], .list (l.map It.cells),uv xi]=some (bv true):=by
 have hF:=hB.fr;have ho:=hs.od;obtain⟨b,hb1,hb2⟩:=hs.nat;have h21:XK.run (GK H) (.call false 21) [.agg s.cells]=some (.tup [.list (s.eG.map Ky.cells),iv 0]):=ahz (l21 hH s hb1 hb2 hs.len hs.ne hs.ln hs.ok) rfl;have hsk:s.eG≠ []:=fun e=>hs.ne (by have:=(bG wD s.keys).length_eq;unfold Ss.eG at e;rw[e]at this;exact List.length_eq_zero_iff.1 this.symm);have hsl:s.eG.length<65536:=by have:=(bG wD s.keys).length_eq;have:=hs.ln;unfold Ss.eG;omega
 have h14:=l14 hH.fr s s.eG l hsk hsl hl h21;have hel:=Ah s.eG l;have heo:=D3 (ks:=s.eG) hl;have hpr:=qM ho hl;have hvs:=Kx s.eG l;generalize Xa:fh s.eG l=aR at*;have hc:=cu hwh;refine af hH.fr ok7 ?_;unfold tm7;generalize hz0:RB=z0
 conv=>enter [1,3];cbv
 subst hz0;have kc:XK.run (GK H) (.cell 0 4) [.agg [uv n1,uv n2,uv n3,uv n4]]=some (uv n1):=rfl;have nn:XK.run (GK H) .bt [.agg [uv n1,uv n2,uv n3,uv n4]]=some (.agg [uv n1,uv n2,uv n3,uv n4]):=rfl;have wc:IntKind.i64.wrap xi=xi:=wr (by omega) (by omega);have hA:=i15 (fl:=false) hH aR heo (by omega);have fK:=iZ aR heo;have H3:=mZ aR;have hmA:=cV aR;have bg:=fun(x:En) hy hx hk=>Kh (l:=aR) (x:=x) (y:=aI x) heo hy hx hk hvs;generalize hAe:setOf aR=A at hA fK H3 hmA bg;have hpA:A.filter s.proper=A:=filter_all fun e he=>(hpr e ((hmA e).1 he)).1;have h47:=XO hF s A (by omega) hs.len hs.ap hs.ok fK;rw[hpA]at h47;have qU: ∀e∈bH A,e∈aR:=fun e he=>(hmA e).1 ((im A).subset he);have hcE: ∀e∈bH A,EX e:=fun e he=>(hpr e (qU e he)).2.2;have hcK: ∀e∈bH A,Te s ⟨e.rd,e.tb,e.bd⟩=true:=fun e he=>(hpr e (qU e he)).2.1;have hck:(bH A).Pairwise fun a b=>a.bT b<0:=mb A (((gS A).1 fK).imp DY);have hcl:(bH A).length≤A.length:=(im A).length_le;have Cm:=few ho (c:=bH A) hcK hck
 obtain⟨N,hN,hN2⟩: ∃N:Nat,s.ss*s.bs=N∧N≤128:=by
  have h1:=hs.mul;have h2:=ho;unfold qT at h2;simp only[Az,decide_eq_true_eq]at h2;exact⟨(s.ss*s.bs).toNat,by omega,by omega⟩
 have h16:=l16 hB s A (bH A) h47 hs.len hs.ap hcE (by omega) Cm hN hN2 (fl:=false);have Ta:XK.run (GK H) (.call false 20) [.list (A.map En.cells)]=some (.tup [.list ((bH A).map En.cells),iv 0]):=ahz (l20 hF A (by omega) fK) rfl
 have NA: ∀x∈bH A,x.cB=true→ ∃B:List En,XK.run (GK H) (.call true 15) [.list ((aR++ [aI x]).map En.cells)]=some (.list (B.map En.cells))∧XK.run (GK H) (.call false 16) [.agg s.cells, .list (B.map En.cells)]=some (.tup [.list ((lT N (bH A)).map fun p=>jO (p.2=x) (jL H s (bH A) p)),iv 0]):=fun x hx hcx=>by
  have hxE:=hcE x hx;have hy:(aI x).okB=true:=hxE.b;have hyr:=Dj hxE.b hcx hxE.r;have hk0:x.bT (aI x)=0:=fP.2 ⟨rfl,rfl,rfl⟩;have bg:=bg x hy hx hk0
  have yb: ∀e∈aR++ [aI x],e.okB=true:=fun e he=>by
   rcases List.mem_append.1 he with h|h
   ·exact heo e h
   ·rw[List.mem_singleton.1 h];exact hy
  have tF:=i15 (fl:=true) hH (aR++ [aI x]) yb (by simp;omega);have Nq:=iZ (aR++ [aI x]) yb;have hBl:=mZ (aR++ [aI x]);have hBm:=cV (aR++ [aI x]);generalize setOf (aR++ [aI x])=B at tF Nq hBl hBm bg
  have hpB:B.filter s.proper=B:=filter_all fun e he=>by
   rcases List.mem_append.1 ((hBm e).1 he)with h|h
   ·exact(hpr e h).1
   ·rw[List.mem_singleton.1 h];exact yf (e:=x) ⟨rfl,rfl,rfl⟩ (by show(1:Int)≤30∧(30:Int)≤99;omega) hyr (hpr x (qU x hx)).1
  rw[List.length_append,List.length_singleton]at hBl;have V2:=XO hF s B (by omega) hs.len hs.ap hs.ok Nq;rw[hpB,bg]at V2
  have abU: ∀e∈(bH A).map (rep x (aI x)),EX e:=fun e he=>by
   obtain⟨e0,h0,rfl⟩:=List.mem_map.1 he;unfold rep;split
   ·exact⟨hy,hyr⟩
   ·exact hcE e0 h0
  have WU: ∀n,(((bH A).map (rep x (aI x))).filter (lx n)).length≤24:=fun n=>by
   rw[gE (p:=lx n) (x:=x) (y:=aI x) rfl,List.length_map];exact Cm n
  have V1:=l16 hB s B _ V2 hs.len hs.ap abU (by rw[List.length_map];omega) WU hN hN2 (fl:=false);rw[GC]at V1;exact⟨B,tF,V1⟩
 rw[sS]at h16;have WX: ∀e∈bH A,∀x∈bH A,(e.rd=x.rd∧e.tb=x.tb∧e.bd=x.bd)→e=x:=fun e he x hx h=>Em hck he hx (fP.2 h)
 have hoL:(lT N (bH A)).length≤N*24:=by
  have:=oG (H:=H) (s:=s) Cm N;rw[sS,List.length_map]at this;exact this
 generalize bH A=c at*;have x0: ∀a:List (List D),XK.run (GK H) (.pk (.ext 0)) [.tup [.list a,iv 0]]=some (.list a):=fun a=>rfl;have x1: ∀a:List (List D),XK.run (GK H) (.pk (.ext 1)) [.tup [.list a,iv 0]]=some (iv 0):=fun a=>rfl;obtain⟨S,hS⟩: ∃S,S=(lT N c).map (jL H s c):=⟨_,rfl⟩;rw[←hS]at h16;simp[-aZ,kc,nn,h13,h14,hA,h16,x0,x1,Ta];refine aV (n:=c.length) (fun j=> [iv (j:Int), .list (((c.take j).filter En.cB).map En.cells)]) (bv true) (by omega) ?_;intro rec j hj ih;unfold RB;generalize hz0:xp=z0;generalize hz1:RD=z1
 conv=>enter [1,3];cbv
 subst hz0;subst hz1;generalize hz1:RC=z1
 conv in xp=>unfold xp;rw[hz1];cbv
 subst hz1;cases h3:c[j]? with
 |some e=>
  have l3:=(Gz.1 h3).1;have e3:c[j]=e:=(Gz.1 h3).2;have ih:=ih (by omega)
  have hlen:((c.take j).filter En.cB).length<65536:=by
   have:=List.length_filter_le En.cB (c.take j);simp at this;omega
  have kp:=GF (G:=GK H) (e:=e) hlen;have w:=wr (z:=(j:Int)+1) (by omega) (by omega);rw[oO h3]at ih;generalize List.map En.cells ((c.take j).filter En.cB)=acc at*;by_cases hk0:e.kd=0
  ·simp[En.cB,hk0]at ih;simp[l3,e3,hk0,w,GZ];exact ih
  ·by_cases hk4:e.kd=4
   ·simp[En.cB,hk4]at ih;simp[l3,e3,hk4,w,GZ];exact ih
   ·simp[En.cB,hk0,hk4]at ih;simp[l3,e3,hk0,hk4,w,GZ,kp];exact ih
 |none=>
  have l3:=List.getElem?_eq_none_iff.1 h3;have l3': ¬(j:Int)<c.length:=by omega
  rw[List.take_of_length_le l3];clear ih;by_cases h0:(c.filter En.cB).length=0
  ·have hn:c.filter En.cB= []:=List.length_eq_zero_iff.1 h0;rw[hn];simp[l3',h11]
  ·obtain⟨a0,ha0,ht⟩: ∃a0:Nat,a0<(c.filter En.cB).length∧xi.tmod (c.filter En.cB).length=(a0:Int):=
    ⟨xi.toNat%(c.filter En.cB).length,Nat.mod_lt _ (by omega),by rw[tm hc.1,Int.natCast_emod,Int.toNat_of_nonneg hc.1]⟩
   have hkl:=List.length_filter_le En.cB c;obtain⟨x,hx⟩: ∃x,(c.filter En.cB)[a0]=x:=⟨_,rfl⟩;have hxm:x∈c.filter En.cB:=by rw[←hx];exact List.getElem_mem ha0
   obtain⟨hxc,hxd⟩:=List.mem_filter.1 hxm;obtain⟨B,tF,abP⟩:=NA x hxc hxd;have Xn:=Rv (G:=GK H) (b:=aR) (by omega);have Xo:XK.run (GK H) (.app 33) [.list (aR.map En.cells), .list [(aI x).cells]]=some (.list ((aR++ [aI x]).map En.cells)):=J6 (a:=aR) (b:= [aI x]) (by simp;omega)
   have hS2: ∀(i:Nat) (p:Nat×En),(lT N c)[i]?=some p→S[i]?=some (jL H s c p)∧((lT N c).map fun p=>jO (p.2=x) (jL H s c p))[i]?=some (jO (p.2=x) (jL H s c p)):=fun i p h=>by
    rw[hS,Dz,Dz,h];exact⟨rfl,rfl⟩
   have hSl:S.length=(lT N c).length:=by rw[hS,List.length_map]
   have hTl:((lT N c).map fun p=>jO (p.2=x) (jL H s c p)).length=(lT N c).length:=List.length_map ..;have hom: ∀(i:Nat) (p:Nat×En),(lT N c)[i]?=some p→p.2∈c:=fun i p h=>(LZ (Lz h)).1;generalize((lT N c).map fun p=>jO (p.2=x) (jL H s c p))=T at*;have hke: ∀e∈c,(e.rd=x.rd∧e.tb=x.tb∧e.bd=x.bd)→e=x:=fun e he h=>WX e he x hxc h;have h0': ¬((c.filter En.cB).length:Int)=0:=by omega
   generalize(aR++ [aI x]).map En.cells=sm at*;have kls:=adC (G:=GK H) (x:=x);clear NA WX bg Cm;clear h47 hck hcE hcK qU;generalize c.filter En.cB=kept at*;generalize lT N c=od at*;clear hS h16;have hkn: ¬kept= []:=fun e=>by subst e;simp at ha0
   simp[-aZ,l3',hkn,wc,ht,ha0,hx,LD,Xn,kls,Xo,tF,abP,x0,x1,hSl,hTl];have hz: [D.v (.int .i64 0),D.v (.bool false)]= [iv ((0:Nat):Int),bv false]:=rfl;refine aV (n:=od.length) (fun i=> [iv (i:Int),bv false]) (bv true) (by omega) ?_;intro F5 i hi ih;unfold RD;generalize hz0:RF=z0
   conv=>enter [1,3];cbv
   subst hz0;cases h5:od[i]? with
   |some p=>
    have l5:=(Gz.1 h5).1;have ih:=ih (by omega);have w:=wr (z:=(i:Int)+1) (by omega) (by omega);obtain⟨g1,g2⟩:=hS2 i p h5;obtain⟨f,b,hf,f0,f1,f2⟩:=scO (H:=H) (s:=s) (c:=c) (p:=p);rw[hf]at g1 g2;obtain⟨m1,m2⟩:=Gz.1 g1;have hpe:=hke p.2 (hom i p h5);by_cases hpx:p.2=x
    ·unfold jO at g2;rw[if_pos hpx,Z7]at g2;obtain⟨m3,m4⟩:=Gz.1 g2;rw[hpx]at f0 f1 f2;have ne:=Jb (f:=swF f) (b:=b);have ag:=agS (G:=GK H) (f:=f) (b:=b);rw[f0,f1,f2]at ag;simp[l5,m1,m2,m3,m4,CX,yx,fk0,fk1,fk2,fk3,fk4,fk5,fk6,fk7,fk8,fk9,fkA,f0,f1,f2,Ha,D1,ag,ne,w,Na];exact ih
    ·unfold jO at g2;rw[if_neg hpx]at g2;obtain⟨m3,m4⟩:=Gz.1 g2;have hne: ¬(f 0=x.rd∧f 1=x.tb∧f 2=x.bd):=fun h=>hpx (hpe (by rw[←f0,←f1,←f2];exact h));have ne:=Jb (f:=f) (b:=b);have ag:=agF (G:=GK H) (f:=f) (b:=b)
     have acA:aa [3,3,3] [iv (f 0),iv (f 1),iv (f 2)] [iv x.rd,iv x.tb,iv x.bd]=some false:=by
      simp;intro h1 h2 h3;exact hne ⟨h1,h2,h3⟩
     have ak:XK.run (GK H) (.pk (.aeq false [3,3,3])) [.agg [iv (f 0),iv (f 1),iv (f 2)], .agg [iv x.rd,iv x.tb,iv x.bd]]=some (bv false):=by
      rw[rf,acA];rfl
     have an:XK.run (GK H) (.pk (.aeq true [3,3,3,3,3,3,3,3,3,3,8])) [.agg (ri f b), .agg (ri f b)]=some (bv false):=by
      rw[rf,ne];rfl
     simp[-rf,l5,m1,m2,m3,m4,CX,yx,fk0,fk1,fk2,fk3,fk4,fk5,fk6,fk7,fk8,fk9,fkA,ak,Ha,D1,ag,an,w,Na];exact ih
   |none=>
    have l5:=List.getElem?_eq_none_iff.1 h5;have l5': ¬(i:Int)<od.length:=by omega
    simp[l5',h11]
end Ty
end
section
namespace Ty
variable {H : FP}
theorem FD{b:D}(h2:bE PP 6 46 [b]): ∃l:List It,b= .list (l.map It.cells)∧ ∀i∈l,It.ok i=true:=by
 obtain⟨es,he0,hml,hes⟩:=aax (n:=5) u46 h2;have he:b= .list es:=by simpa using he0
 subst he
 obtain⟨l,hl,hlo⟩: ∃l:List It,es=l.map It.cells∧ ∀i∈l,i.ok=true:=by
  clear h2 he0 hml
  induction es with
  |nil=>exact⟨[],rfl,fun i hi=>by cases hi⟩
  |cons e r ih=>
   obtain⟨l,h4,h5⟩:=ih fun c hc=>hes c (Cz _ hc);obtain⟨i,h6,h7⟩:=aaw (n:=1) (hes e (List.mem_cons_self ..))
   exact⟨i::l,by rw[List.map_cons,←h6,←h4],fun j hj=>by
    rcases List.mem_cons.1 hj with rfl|hj
    ·exact h7
    ·exact h5 j hj⟩
 exact⟨l,by rw[hl],hlo⟩
theorem Dl(hH:Hd H)(hB:Fb H)(hM:xj H)(h11:XK.run (GK H) (.call false 11) []=some (bv true))
  (hS:Sound PP (bw H)) {Ds:List D} (h:nN PP 6 [45,46,5] Ds):xk PP 7 Ds (bv true):=by
 obtain⟨a,b,c,rfl,h1,h2,h3⟩:=Vx h;unfold jU at h1 h2 h3;rw[u45]at h1;rw[u46]at h2;rw[u5]at h3;obtain⟨ds,rfl,h1⟩:=h1;obtain⟨n1,n2,n3,n4,rfl,y1,y2,y3,y4⟩:=Uw (n:=4) h1;obtain⟨k,hk,hku⟩:=nM (n:=5) h3;have hk:c=uv k:=by simpa using hk
 subst hk;obtain⟨l,rfl,hl⟩:=FD h2;obtain⟨s,hs,h13⟩:=X6 hH.fr hM y1 y2 y3 y4;exact((oD (C:=cx) (N:=10000) rfl hS qm).p 7 _ _ (by decide) (adz hH hB h11 hs h13 l hl k hku)).1
end Ty
end
end Go.Proofs.YtkcfpgaepmllhaaGreatDoor
