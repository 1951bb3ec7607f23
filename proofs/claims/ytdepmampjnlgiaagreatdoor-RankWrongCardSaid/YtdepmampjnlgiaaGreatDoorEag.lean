/- Part of the proof: symbolic execution of the program, its soundness, and the closing lemmas. No condition. -/
import Derived.Test.YtdepmampjnlgiaaGreatDoorEaf
import Derived.Test.YtdepmampjnlgiaaGreatDoorEae
import Derived.ProofKit
import Derived.Deep.DeepHandedRow
import Derived.OpenShut
import Derived.FnData
import Derived.Test.YtdepmampjnlgiaaGreatDoorTie
import Derived.Test.YtdepmampjnlgiaaGreatDoorCards
import Derived.Handed
import Derived.Shelf.Spec.BitsCarry
namespace Go.Proofs.YtdepmampjnlgiaaGreatDoor
open Go.RowKit
set_option maxRecDepth 100000
set_option linter.all false
section
theorem GH{P:Program}{C:Cx}{inl:FH}{ks:List Nat}{G:FP}{N:Nat}(hP:C.P=P)(hG:Sound P (bg G))(hm:P.follows .mixedOrders=true){f:Nat}(hI: ∀dr,qm P G N dr inl){fn:Func}{c:Code}{rs:List e8}(h1:P.funcs[f]?=some fn)
  (h2 : (fn.name == "runtime.NumGoroutine") = false) (h3 : fn.body = some c) (h4 : fn.results.toList.mapM (uO P fn.ntmps) = some rs) {ds : List D} {d : D} (hlen : ds.length ≤ fn.ntmps) (hn : ds.all D.aK = true)
  (he:aa G N (c_ C inl f fn.ntmps Td false 0 ks c (AR ds.length) (kR rs)) [] ds=some d):Tk P f ds d:=by
 have hb:cX P f:=⟨fn,h1,by rw[h3];rfl,h2⟩
 suffices key: ∀(w:World) (pr:aT) (cargs:Array Value),(∀b o,pr b o→b<w.heap.size)→AQ w pr→aX w pr aI cargs.toList ds→
   Calls P f cargs w fun e w'=> ∃v pr',e= .returned v∧cW (fun _=>False) w w'∧(d.eD=false→ ∀b o,pr b o→pr' b o)∧(∀b o,pr' b o→d.eD=false∧pr b o∨(w.heap.size≤b∧b<w'.heap.size))∧ai w' pr' aI v d.bare by
  cases ho:d.eD with
  |false=>
   refine wM.toR (.inr ⟨hb,fun w pr cargs k1 k2 k3=>(key w pr cargs k1 k2 k3).mono ?_⟩) ho;rintro e w' ⟨v,pr',k1,k2,k3,k4,k5⟩;rw[rp ho]at k5;exact⟨v,pr',k1,k2,k3 ho,fun b o h=>(k4 b o h).imp And.right id,k5⟩
  |true=>
   have hn:YW P f ds d.bare:=⟨hb,fun w pr cargs k1 k2 k3=>(key w pr cargs k1 k2 k3).mono (by
    rintro e w' ⟨v,pr',k1,k2,k3,k4,k5⟩
    exact⟨v,pr',k1,k2,fun b o h=>(k4 b o h).resolve_left (fun h=>by rw[ho]at h;cases h.1),k5⟩)⟩
   exact⟨hn.toP,fun _=>hn⟩
 intro w pr cargs hpr hg jo;have hY0:gL P G N d Td (⟨w,pr,pX⟩:eo).A.sv fn.ntmps tJ:=fun h=>by cases h
 refine iJ.1 (callsIn_of_wp_marks (F:=wF none) (n:=0) h1 h3 trivial ?_);refine jl (r:=none) (Ω0:=tJ) (Ω:=tJ) hP hG hm (hI d) c (fun _=>rfl) hY0 (mt0 hn) (zI hpr hg jo hlen) DM.nil rfl he ?_;rintro e Ω' Y' L' E' ι' γ' J' a' w' hle M' R' hd' _ _ _ he'
 have fin:aa G N (match KP rs Y' with|some x=>FT.ret x|none=> .bad 100022) L' E'=some d→LeavesInM (wF none) 0 P fn a'.tmps (fun e w'=> ∃v pr',e= .returned v∧cW (fun _=>False) w w'∧(d.eD=false→ ∀b o,pr b o→pr' b o)∧(∀b o,pr' b o→d.eD=false∧pr b o∨(w.heap.size≤b∧b<w'.heap.size))∧ai w' pr' aI v d.bare) a'.defers .returning w':=fun h'=>by
  split at h'
  ·rename_i x hx;simp only[aa,Bz]at h';obtain⟨d0,g1,g2⟩:=h';split at g2
   rotate_left
   ·cases g2
   rename_i JU;injection g2 with g2
   refine pK (S:= []) M' R' hd' hle fun Ω3 w3 J3 _ M3 R3=> ?_;obtain⟨w1,pr1,A1,tk,R1,U⟩:=R3;obtain⟨d1,k1,k2,k3⟩:=BZ M3 hx g1;obtain⟨v,hv1,hv2⟩:=jH R1 h4 k1
   have lt: ∀t q b c,J3.m t=some q→tk t=some (b,c)→b<w3.heap.size:=fun t q b c hm ht=>by
    obtain⟨b1,c1,g1,g2⟩:=(R1.mem.obj t q hm).place;rw[ht]at g1;cases g1;exact g2
   have hv3:=AG (pr':=fun b o=>pr1 b o∨bX tk J3.m b) R1.mem (fun _ _ h=> .inl h) (fun _ h _=> .inr h) k2 hv2;have hsz:=U.chg.size;have adz:=R1.chg.size
   have G1: ∀b,bX tk J3.m b→w.heap.size≤b∧b<w3.heap.size:=by
    rintro b ⟨t,q,c,hm,ht⟩;have hlt:=lt t q b c hm ht;rcases R1.live t q b c hm ht with h|h
    ·exact⟨by have:(⟨w,pr,pX⟩:eo).w.heap.size=w.heap.size:=rfl;omega,hlt⟩
    ·refine⟨Nat.le_of_not_lt fun hb=> ?_,hlt⟩;exact(U.sub b hb h:False)
   have hch:cW (fun _=>False) w w3:=U.chg.trans R1.chg fun b hb h=>(U.sub b hb h:False)
   have hd0:d0.eD=false:=by
    unfold D.eD;split
    ·simp[D.aK,D.aN,D.eF]at JU
    ·rfl
   unfold eR at g2;split at g2
   ·subst g2
    exact⟨v,hv1,v,fun b o=>pr1 b o∨bX tk J3.m b,rfl,hch,fun _ b o h=> .inl (U.sup b o h),fun b o h=>by
     rcases h with h|h
     ·have hlt:=R1.prlt b o h;rcases U.inf b o h with h|h|h
      ·exact .inl ⟨hd0,h⟩
      ·exact .inr ⟨h,by omega⟩
      ·exact(show False from h).elim
     ·exact .inr (G1 b h),by rw[rp hd0];exact hv3⟩
   ·split at g2
    ·rename_i hn;subst g2;exact⟨v,hv1,v,_,rfl,hch,(fun h=>by cases h),fun b o h=> .inr (G1 b h),Fs R1.mem k3 hn k2 hv2⟩
    ·subst g2
     exact⟨v,hv1,v,fun b o=>pr1 b o∨bX tk J3.m b,rfl,hch,fun _ b o h=> .inl (U.sup b o h),fun b o h=>by
      rcases h with h|h
      ·have hlt:=R1.prlt b o h;rcases U.inf b o h with h|h|h
       ·exact .inl ⟨hd0,h⟩
       ·exact .inr ⟨h,by omega⟩
       ·exact(show False from h).elim
      ·exact .inr (G1 b h),by rw[rp hd0];exact hv3⟩
  ·cases h'
 cases e with
 |normal=>exact fin he'
 |ret=>exact fin he'
 |exit i=>cases he'
end
noncomputable section
section
variable (C : Cx) (H : FP) (N : Nat)
def stepG(G:FP):FP:=fun f ds=>(H f ds).or ((lW C f).bind fun q=>if(ds.length=q.1∧ds.all D.aK=true)∧f<1000000 then aa G N q.2 [] ds else none)
def Gs:Nat→FP
 |0=>Vq
 |k+1=>stepG C H N (Gs k)
end
def LG{α β:Type}(g:α→Option β)(gs:Nat→α→Option β):Prop:= ∀a b,g a=some b→ ∃k0,∀k,k0≤k→gs k a=some b
section
variable {G : FP} {Gk : Nat → FP}
def GT(G:FP)(Gk:Nat→FP):Prop:= ∀f ds d,G f ds=some d→ ∃k0,∀k,k0≤k→Gk k f ds=some d
theorem qt(hG:GT G Gk){fl:Bool}{f:Nat}{ds:List D}{d:D}(h:gU G fl f ds=some d): ∃k0,∀k,k0≤k→gU (Gk k) fl f ds=some d:=by
 unfold gU at h;obtain⟨d0,h1,h2⟩:=Bz.1 h;obtain⟨k0,hk⟩:=hG f ds d0 h1;exact⟨k0,fun k hkk=>by unfold gU;rw[hk k hkk];exact h2⟩
theorem Fa(hG:GT G Gk){k:XK}{ds:List D}{d:D}(h:k.run G ds=some d): ∃k0,∀j,k0≤j→k.run (Gk j) ds=some d:=by
 cases k with
 |call fl f=>exact qt hG h
 |ccall fl=>
  simp only[XK.run]at h⊢;split at h
  ·split at h
   ·rename_i hlt;obtain⟨cs,h1,h2⟩:=Bz.1 h;obtain⟨k0,hk⟩:=qt hG h2;exact⟨k0,fun j hj=>by rw[if_pos hlt];simp only[h1,Oz];exact hk j hj⟩
   ·cases h
  ·cases h
 |ecall k f sz=>
  simp only[XK.run]at h⊢;split at h
  ·rename_i hc;split at h
   ·obtain⟨r,h1,h2⟩:=Bz.1 h;obtain⟨k0,hk⟩:=hG _ _ _ h1;exact⟨k0,fun j hj=>by rw[if_pos hc,hk j hj];exact h2⟩
   ·cases h
  ·cases h
 |_=>exact⟨0,fun j _=>h⟩
mutual
theorem iN(hG:GT G Gk){E:List D}: ∀(x:X) {d:D},X.ev G E x=some d→ ∃k0,∀k,k0≤k→X.ev (Gk k) E x=some d
 | .t i,d,h=>⟨0,fun _ _=>h⟩
 | .q e,d,h=>⟨0,fun _ _=>h⟩
 | .mk kk xs,d,h=>by
  obtain⟨ds,h1,h2⟩:=aH h;obtain⟨k1,g1⟩:=iC hG xs h1;obtain⟨k2,g2⟩:=Fa hG h2;exact⟨max k1 k2,fun k hk=>by simp only[X.ev,g1 k (by omega),Oz,g2 k (by omega)]⟩
 | .ite c a b,d,h=>by
  simp only[X.ev,Bz]at h;obtain⟨v,h1,x,h2,h3⟩:=h;obtain⟨k1,g1⟩:=iN hG c h1;cases x
  ·obtain⟨k2,g2⟩:=iN hG b (by simpa using h3);exact⟨max k1 k2,fun k hk=>by simp only[X.ev,g1 k (by omega),Oz,h2,cond_false,g2 k (by omega)]⟩
  ·obtain⟨k2,g2⟩:=iN hG a (by simpa using h3);exact⟨max k1 k2,fun k hk=>by simp only[X.ev,g1 k (by omega),Oz,h2,cond_true,g2 k (by omega)]⟩
theorem iC(hG:GT G Gk){E:List D}: ∀(xs:List X) {ds:List D},X.bh G E xs=some ds→ ∃k0,∀k,k0≤k→X.bh (Gk k) E xs=some ds
 | [],ds,h=>⟨0,fun _ _=>h⟩
 |x::r,ds,h=>by
  simp only[X.bh,Bz,Mz]at h;obtain⟨d,h1,ds',h2,rfl⟩:=h;obtain⟨k1,g1⟩:=iN hG x h1;obtain⟨k2,g2⟩:=iC hG r h2;exact⟨max k1 k2,fun k hk=>by simp only[X.bh,g1 k (by omega),g2 k (by omega),Oz,Pz]⟩
end
theorem wE{P:Nat→Nat→Prop}: ∀(m:Nat),(∀i,i<m→ ∃k0,∀k,k0≤k→P i k)→ ∃K,∀i,i<m→ ∀k,K≤k→P i k
 |0,_=>⟨0,fun _ h=>absurd h (Nat.not_lt_zero _)⟩
 |m+1,h=>by
  obtain⟨K,hK⟩:=wE m fun i hi=>h i (by omega);obtain⟨k0,h0⟩:=h m (by omega);refine⟨max K k0,fun i hi k hk=> ?_⟩;by_cases e:i=m
  ·subst e;exact h0 k (by omega)
  ·exact hK i (by omega) k (by omega)
theorem ib(hG:GT G Gk){N:Nat}: ∀(t:FT) {L:List (List D→Option D)} {Lk:Nat→List (List D→Option D)} {E:List D} {d:D},
  (∀(j:Nat) (f:List D→Option D),L[j]?=some f→ ∃fk:Nat→List D→Option D,(∀k,(Lk k)[j]?=some (fk k))∧LG f fk)→aa G N t L E=some d→ ∃k0,∀k,k0≤k→aa (Gk k) N t (Lk k) E=some d:=by
 intro t
 induction t with
 |ret x=>
  intro L Lk E d hL h;simp only[aa,Bz]at h;obtain⟨d0,h1,h2⟩:=h;obtain⟨k0,g⟩:=iN hG x h1;exact⟨k0,fun k hk=>by simp only[aa,g k hk,Oz];exact h2⟩
 |bm xs k ih=>
  intro L Lk E d hL h;simp only[aa,Bz]at h;obtain⟨ds,h1,h2⟩:=h;obtain⟨k1,g1⟩:=iC hG xs h1;obtain⟨k2,g2⟩:=ih hL h2;exact⟨max k1 k2,fun k hk=>by simp only[aa,g1 k (by omega),Oz,g2 k (by omega)]⟩
 |lets xs k ih=>
  intro L Lk E d hL h;simp only[aa,Bz]at h;obtain⟨ds,h1,h2⟩:=h;obtain⟨k1,g1⟩:=iC hG xs h1;obtain⟨k2,g2⟩:=ih hL h2;exact⟨max k1 k2,fun k hk=>by simp only[aa,g1 k (by omega),Oz,g2 k (by omega)]⟩
 |ite c a b iha ihb=>
  intro L Lk E d hL h;simp only[aa,Bz]at h;obtain⟨v,h1,x,h2,h3⟩:=h;obtain⟨k1,g1⟩:=iN hG c h1;cases x
  ·obtain⟨k2,g2⟩:=ihb hL (by simpa using h3);exact⟨max k1 k2,fun k hk=>by simp only[aa,g1 k (by omega),Oz,h2,cond_false,g2 k (by omega)]⟩
  ·obtain⟨k2,g2⟩:=iha hL (by simpa using h3);exact⟨max k1 k2,fun k hk=>by simp only[aa,g1 k (by omega),Oz,h2,cond_true,g2 k (by omega)]⟩
 |loop xs body ih=>
  intro L Lk E d hL h;simp only[aa,Bz]at h;obtain⟨ds,h1,h2⟩:=h;obtain⟨k1,g1⟩:=iC hG xs h1
  have key: ∀n,LG (iter (fun rec vs=>aa G N body (rec::L) (E++vs)) n) (fun k=>iter (fun rec vs=>aa (Gk k) N body (rec::Lk k) (E++vs)) n):=by
   intro n
   induction n with
   |zero=>intro a b h;cases h
   |succ n ihn=>
    intro a b h;simp only[iter]at h⊢;refine ih (Lk:=fun k=>iter (fun rec vs=>aa (Gk k) N body (rec::Lk k) (E++vs)) n::Lk k) (fun j f hf=> ?_) h;cases j with
    |zero=>simp at hf;subst hf;exact⟨_,fun k=>rfl,ihn⟩
    |succ j=>exact(hL j f (by simpa using hf)).imp fun fk hfk=>⟨fun k=>by simpa using hfk.1 k,hfk.2⟩
  obtain⟨k2,g2⟩:=key N ds d h2;exact⟨max k1 k2,fun k hk=>by simp only[aa,g1 k (by omega),Oz];exact g2 k (by omega)⟩
 |next j xs=>
  intro L Lk E d hL h;simp only[aa,Bz]at h;obtain⟨ds,h1,f,h2,h3⟩:=h;obtain⟨k1,g1⟩:=iC hG xs h1;obtain⟨fk,g2,g3⟩:=hL j f h2;obtain⟨k2,g4⟩:=g3 ds d h3;exact⟨max k1 k2,fun k hk=>by simp only[aa,g1 k (by omega),Oz,g2 k,g4 k (by omega)]⟩
 |jp b body ihb ih=>
  intro L Lk E d hL h;simp only[aa]at h⊢;refine ih (Lk:=fun k=>(fun vs=>aa (Gk k) N b (Lk k) (E++vs))::Lk k) (fun j f hf=> ?_) h;cases j with
  |zero=>simp at hf;subst hf;exact⟨_,fun k=>rfl,fun vs d' h'=>ihb hL h'⟩
  |succ j=>exact(hL j f (by simpa using hf)).imp fun fk hfk=>⟨fun k=>by simpa using hfk.1 k,hfk.2⟩
 |any x a b iha ihb=>
  intro L Lk E d hL h;simp only[aa,Bz]at h;obtain⟨v,h1,h2⟩:=h;obtain⟨k1,g1⟩:=iN hG x h1;unfold qV at h2;split at h2
  ·rename_i rows;cases rows with
   |nil=>cases h2
   |cons r0 L0=>
    obtain⟨j1,j2⟩:=wO h2;by_cases h0:L0= []
    ·subst h0;obtain⟨k2,g2⟩:=iha hL (j1 rfl);exact⟨max k1 k2,fun k hk=>by simp only[aa,g1 k (by omega),Oz,qV,any_none,g2 k (by omega)]⟩
    ·obtain⟨k2,g2⟩:=wE (P:=fun i k=> ∀c,L0[i]?=some c→aa (Gk k) N b (Lk k) (E++ [.list (c::L0.eraseIdx i)])=some d) L0.length fun i hi=>by
      obtain⟨k2,g2⟩:=ihb hL (j2 i _ (Ez hi));exact⟨k2,fun k hk c hc=>by rw[Ez hi]at hc;cases hc;exact g2 k hk⟩
     refine⟨max k1 k2,fun k hk=> ?_⟩;simp only[aa,g1 k (by omega),Oz];exact any_some (r:=r0) (f:=fun s=>aa (Gk k) N b (Lk k) (E++ [s])) h0 fun i c hc=>g2 i (Gz.1 hc).1 k (by omega) c hc
  ·cases h2
 |st Y=>intro L Lk E d hL h;cases h
 |bad _=>intro L Lk E d hL h;cases h
end
section
variable {P : Program} {C : Cx} {H : FP} {N : Nat}
theorem jP(hP:C.P=P)(hH:Sound P (bg H))(hm:P.follows .mixedOrders=true): ∀k,Sound P (bg (Gs C H N k))
 |0=>⟨fun f ds d _ h=>(by cases h),fun k f ds d _ _ h=>(by cases h),fun e f ds r _ h=>(by cases h)⟩
 |k+1=>⟨fun f ds d hlt h=>(by
  have h':(H f ds).or ((lW C f).bind fun q=>if(ds.length=q.1∧ds.all D.aK=true)∧f<1000000 then aa (Gs C H N k) N q.2 [] ds else none)=some d:=h;cases hh:H f ds with
  |some d0=>
   rw[hh]at h';cases h';exact hH.p f ds d hlt hh
  |none=>
   rw[hh,Option.none_or]at h';obtain⟨⟨n,t⟩,h1,h2⟩:=Bz.1 h';simp only[]at h2;split at h2
   ·rename_i hc;have hS:=jP hP hH hm k;unfold lW at h1;subst hP;split at h1
    ·rename_i fn hfn;split at h1
     ·rename_i c rs hb hr;split at h1<;>cases h1;rename_i hcc;refine GH (C:={C with rt:=f}) (inl:=vD {C with rt:=f} 8) (N:=N) (ks:=s_ fn) rfl hS hm (fun dr=>su (C:={C with rt:=f}) rfl hS hm 8) hfn hcc.1 hb hr (by omega) hc.1.2 ?_;rw[hc.1.1];exact h2
     ·cases h1
    ·cases h1
   ·cases h2),fun k' f ds d hlt h6 h=>(by
  have h':(H (1000000+(1000000*k'+f)) ds).or ((lW C (1000000+(1000000*k'+f))).bind fun q=>if(ds.length=q.1∧ds.all D.aK=true)∧1000000+(1000000*k'+f)<1000000 then aa (Gs C H N k) N q.2 [] ds else none)=some d:=h;cases hh:H (1000000+(1000000*k'+f)) ds with
  |some d0=>
   rw[hh]at h';cases h';exact hH.e k' f ds d hlt h6 hh
  |none=>
   rw[hh,Option.none_or]at h';obtain⟨q,_,h2⟩:=Bz.1 h';rw[if_neg (by omega)]at h2;cases h2),fun e f ds r hlt h=>(by
  obtain⟨d,hd,rfl⟩:=Mz.1 (show(Gs C H N (k+1) (1000001000000+(1000000*e+f)) ds).map _=some r from h);have h':(H (1000001000000+(1000000*e+f)) ds).or ((lW C (1000001000000+(1000000*e+f))).bind fun q=>if(ds.length=q.1∧ds.all D.aK=true)∧1000001000000+(1000000*e+f)<1000000 then aa (Gs C H N k) N q.2 [] ds else none)=some d:=hd;cases hh:H (1000001000000+(1000000*e+f)) ds with
  |some d0=>
   rw[hh]at h';cases h';exact hH.q e f ds _ hlt (show(H (1000001000000+(1000000*e+f)) ds).map _=_ by rw[hh];rfl)
  |none=>
   rw[hh,Option.none_or]at h';obtain⟨q,_,h2⟩:=Bz.1 h';rw[if_neg (by omega)]at h2
   cases h2)⟩
theorem CF: ∀k f ds d,Gs C H N k f ds=some d→Gs C H N (k+1) f ds=some d
 |0,f,ds,d,h=>by cases h
 |k+1,f,ds,d,h=>by
  have h':(H f ds).or ((lW C f).bind fun q=>if(ds.length=q.1∧ds.all D.aK=true)∧f<1000000 then aa (Gs C H N k) N q.2 [] ds else none)=some d:=h;show(H f ds).or ((lW C f).bind fun q=>if(ds.length=q.1∧ds.all D.aK=true)∧f<1000000 then aa (Gs C H N (k+1)) N q.2 [] ds else none)=some d;cases hh:H f ds with
  |some d0=>rw[hh]at h';exact h'
  |none=>
   rw[hh,Option.none_or]at h';rw[Option.none_or];obtain⟨q,h1,h2⟩:=Bz.1 h';rw[h1];simp only[Oz];split at h2
   ·rename_i hc;rw[if_pos hc];obtain⟨k0,hk⟩:=ib (G:=Gs C H N k) (Gk:=fun _=>Gs C H N (k+1)) (fun f ds d h=>⟨0,fun _ _=>CF k f ds d h⟩) (Lk:=fun _=> []) q.2 (fun j f hf=>by simp at hf) h2;exact hk k0 (Nat.le_refl _)
   ·cases h2
theorem FG{k j:Nat}(h:k≤j){f:Nat}{ds:List D}{d:D}(hd:Gs C H N k f ds=some d):Gs C H N j f ds=some d:=by
 induction h with
 |refl=>exact hd
 |step _ ih=>exact CF _ f ds d ih
open Classical in
def GG(C:Cx)(H:FP)(N:Nat):FP:=fun f ds=>if h: ∃d,∃k,Gs C H N k f ds=some d then some h.choose else none
theorem LD{k f:Nat}{ds:List D}{d:D}(h:Gs C H N k f ds=some d):GG C H N f ds=some d:=by
 have hex: ∃d,∃k,Gs C H N k f ds=some d:=⟨d,k,h⟩;simp only[GG,dif_pos hex];obtain⟨j,hj⟩:=hex.choose_spec;have h1:=FG (Nat.le_max_left k j) h;have h2:=FG (Nat.le_max_right k j) hj;rw[h1]at h2;exact h2.symm
theorem rm{f:Nat}{ds:List D}{d:D}(h:GG C H N f ds=some d): ∃k,Gs C H N k f ds=some d:=by
 by_cases hex: ∃d,∃k,Gs C H N k f ds=some d
 ·simp only[GG,dif_pos hex,Jz]at h;rw[←h];exact hex.choose_spec
 ·simp only[GG,dif_neg hex]at h;cases h
theorem jO(hP:C.P=P)(hH:Sound P (bg H))(hm:P.follows .mixedOrders=true):Sound P (bg (GG C H N)):=
 ⟨fun f ds d hlt h=>let⟨k,hk⟩:=rm (show GG C H N f ds=some d from h);(jP hP hH hm k).p f ds d hlt hk,
  fun k' f ds d hlt h6 h=>let⟨k,hk⟩:=rm (show GG C H N (1000000+(1000000*k'+f)) ds=some d from h);(jP hP hH hm k).e k' f ds d hlt h6 hk,
  fun e f ds r hlt h=>(by
   obtain⟨d,hd,rfl⟩:=Mz.1 (show(GG C H N (1000001000000+(1000000*e+f)) ds).map _=some r from h);obtain⟨k,hk⟩:=rm hd
   exact(jP hP hH hm k).q e f ds _ hlt (show(Gs C H N k (1000001000000+(1000000*e+f)) ds).map _=_ by rw[hk];rfl))⟩
theorem dL{f:Nat}{ds:List D}{d:D}(h:H f ds=some d):GG C H N f ds=some d:=
 LD (k:=1) (show(H f ds).or _=some d by rw[h];rfl)
theorem Je{f n:Nat}{t:FT}(hc:lW C f=some (n,t)){ds:List D}{d:D}(h0:H f ds=none)(hlt:f<1000000)(hl:ds.length=n)(hn:ds.all D.aK=true)(he:aa (GG C H N) N t [] ds=some d):GG C H N f ds=some d:=by
 obtain⟨k0,hk⟩:=ib (G:=GG C H N) (Gk:=fun k=>Gs C H N k) (fun f ds d h=>let⟨k,hk⟩:=rm h;⟨k,fun j hj=>FG hj hk⟩) (Lk:=fun _=> []) t (fun j f hf=>by simp at hf) he;refine LD (k:=k0+1) ?_;show(H f ds).or ((lW C f).bind fun q=>if(ds.length=q.1∧ds.all D.aK=true)∧f<1000000 then aa (Gs C H N k0) N q.2 [] ds else none)=some d;rw[h0,hc];simp only[Option.none_or,Oz];rw[if_pos ⟨⟨hl,hn⟩,hlt⟩];exact hk k0 (Nat.le_refl _)
end
end
section
structure rT(G:FP)(s:Cs)(E E':List D):Prop where
 l:s.rs.length=E.length
 v: ∀(i j:Nat),s.rs[i]?=some j→E'[j]?=E[i]?
 a: ∀(e:X) (j:Nat),(e,j)∈s.av→ ∃d,X.ev G E' e=some d∧E'[j]?=some d
section
variable {G : FP} {N : Nat} {s : Cs} {E E' : List D}
theorem rT.get(I:rT G s E E'){i j:Nat}(h:s.rs[i]?=some j): ∃d,E[i]?=some d∧E'[j]?=some d:=by
 have hi:i<E.length:=by rw[←I.l];exact(Gz.1 h).1
 exact⟨E[i],Ez hi,(I.v i j h).trans (Ez hi)⟩
theorem rT.more(I:rT G s E E')(t:List D):rT G s E (E'++t):=
 ⟨I.l,fun i j h=>by
  obtain⟨d,h1,h2⟩:=I.get h;rw[h1,Yz (Gz.1 h2).1,h2],fun e j h=>by
  obtain⟨d,h1,h2⟩:=I.a e j h
  exact⟨d,bn _ _ h1,by rw[Yz (Gz.1 h2).1,h2]⟩⟩
theorem mK: ∀{l:List (X×Nat)} {y:X} {j:Nat},zT l y=some j→(y,j)∈l
 |(e,i)::r,y,j,h=>by
  simp only[zT]at h;split at h
  ·rename_i hb;cases h;rw[aF e y hb];exact List.mem_cons_self ..
  ·exact Cz _ (mK h)
theorem RB(I:rT G s E E'){y:X}{d:D}(h:X.ev G E' (RA s y)=some d):X.ev G E' y=some d:=by
 unfold RA at h;split at h
 ·split at h
  ·rename_i j hj;obtain⟨d',h1,h2⟩:=I.a y j (mK hj);have h:E'[j]?=some d:=h
   grind
  ·exact h
 ·exact h
mutual
theorem nB(I:rT G s E E'): ∀(x:X) {d:D},X.ev G E' (n5 s x)=some d→X.ev G E x=some d
 | .t i,d,h=>by
  simp only[n5]at h;split at h
  ·rename_i j hj;have h:E'[j]?=some d:=h;rw[I.v i j hj]at h;exact h
  ·cases h
 | .q _,d,h=>h
 | .mk k xs,d,h=>by
  simp only[n5]at h;obtain⟨ds,h1,h2⟩:=aH (RB I h);simp only[X.ev,CH I xs h1,Oz,h2]
 | .ite c a b,d,h=>by
  simp only[n5,X.ev,Bz]at h⊢;obtain⟨v,h1,x,h2,h3⟩:=h;refine⟨v,nB I c h1,x,h2, ?_⟩;cases x
  ·exact nB I b h3
  ·exact nB I a h3
theorem CH(I:rT G s E E'): ∀(xs:List X) {ds:List D},X.bh G E' (CG s xs)=some ds→X.bh G E xs=some ds
 | [],ds,h=>h
 |x::r,ds,h=>by
  simp only[CG,X.bh,Bz,Mz]at h⊢;obtain⟨d,h1,ds',h2,rfl⟩:=h;exact⟨d,nB I x h1,ds',CH I r h2,rfl⟩
end
def Gn(G:FP):List X→List D→Option (List D)
 | [],E=>some E
 |x::r,E=>(X.ev G E x).bind fun d=>Gn G r (E++ [d])
theorem nJ: ∀(p q:List X) (E:List D),Gn G (p++q) E=(Gn G p E).bind (Gn G q)
 | [],q,E=>rfl
 |x::r,q,E=>by
  simp only[List.cons_append,Gn,Option.bind_assoc];congr 1;funext d;exact nJ r q _
theorem e_{L:List (List D→Option D)}{k:FT}: ∀(p:List X) (E:List D),aa G N (nA p k) L E=(Gn G p E).bind (aa G N k L)
 | [],E=>rfl
 |x::r,E=>by
  simp only[nA,aa,X.bh,Gn];cases hx:X.ev G E x with
  |none=>rfl
  |some d=>simp only[Oz,Pz,e_ r]
structure yE(G:FP)(s s':Cs)(E E1 E2:List D):Prop where
 i:rT G s' E E2
 n:s'.n=E2.length
 rs:s'.rs=s.rs
 ar:s'.ar=s.ar
 e: ∃t,E2=E1++t
theorem yE.mi(I:rT G s E E')(hn:s.n=E'.length):yE G s s E E' E':=⟨I,hn,rfl,rfl,[],by simp⟩
theorem yE.trans{s s1 s2:Cs}{E r0 r1 r2:List D}(h:yE G s s1 E r0 r1)(k:yE G s1 s2 E r1 r2):yE G s s2 E r0 r2:=by
 obtain⟨t,rfl⟩:=h.e;obtain⟨t',rfl⟩:=k.e;exact⟨k.i,k.n,k.rs.trans h.rs,k.ar.trans h.ar,t++t',by simp⟩
abbrev Jh(E':List D)(y:X):Prop:= ∀j,y= .t j→ ∃d,E'[j]?=some d
theorem Jh.more{E':List D}{y:X}(h:Jh E' y)(t:List D):Jh (E'++t) y:=fun j hj=>by
 obtain⟨d,h⟩:=h j hj;exact⟨d,by rw[Yz (Gz.1 h).1,h]⟩
mutual
theorem pW: ∀(x:X) {s s':Cs} {p:List X} {y:X} {E r1 r2:List D},rT G s E r1→s.n=r1.length→kp s x=((p,s'),y)→Gn G p r1=some r2→
  yE G s s' E r1 r2∧Jh r2 y∧kW y=kW x∧ ∀t d,X.ev G (r2++t) y=some d→X.ev G E x=some d
 | .t i,s,s',p,y,E,r1,r2,I,hn,h,hp=>by
  simp only[kp,Prod.mk.injEq]at h;obtain⟨⟨rfl,rfl⟩,rfl⟩:=h;cases hp;refine⟨.mi I hn,fun j hj=> ?_, ?_,fun t d hd=>nB (I.more t) (.t i) hd⟩
  ·simp only[n5]at hj;split at hj
   ·rename_i j' hj';cases hj;obtain⟨d,_,h⟩:=I.get hj';exact⟨d,h⟩
   ·cases hj
  ·simp only[n5];split<;>rfl
 | .q e,s,s',p,y,E,r1,r2,I,hn,h,hp=>by
  simp only[kp,Prod.mk.injEq]at h;obtain⟨⟨rfl,rfl⟩,rfl⟩:=h;cases hp;exact⟨.mi I hn,(fun j hj=>by cases hj),rfl,fun t d hd=>hd⟩
 | .mk k xs,s,s',p,y,E,r1,r2,I,hn,h,hp=>by
  simp only[kp]at h;cases hq:gY s xs with
  |mk ps ys=>
   obtain⟨p1,s1⟩:=ps;rw[hq]at h;simp only[]at h
   have run: ∀{r:List D} {d:D},(∀ds,X.bh G r ys=some ds→X.bh G E xs=some ds)→X.ev G r (.mk k ys)=some d→X.ev G E (.mk k xs)=some d:=fun hh hd=>by
    obtain⟨ds,h1,h2⟩:=aH hd;simp only[X.ev,hh ds h1,Oz,h2]
   split at h
   ·rename_i oz;have Ev:kW (.mk k xs)=false:=by cases k<;>first|rfl|cases oz
    split at h
    ·rename_i j hj;simp only[Prod.mk.injEq]at h;obtain⟨⟨rfl,rfl⟩,rfl⟩:=h;obtain⟨h1,h2⟩:=iq xs I hn hq hp;obtain⟨d0,a1,a2⟩:=h1.i.a _ _ (mK hj);refine⟨h1,fun j' hj'=>by cases hj';exact⟨d0,a2⟩,Ev.symm,fun t d hd=> ?_⟩;obtain⟨d1,b1,b2⟩:=(h1.i.more t).a _ _ (mK hj);have hd:(r2++t)[j]?=some d:=hd;rw[b2]at hd;cases hd;exact run (h2.2 t) b1
    ·simp only[Prod.mk.injEq]at h;obtain⟨⟨rfl,rfl⟩,rfl⟩:=h;rw[nJ]at hp;obtain⟨r3,hp1,hp2⟩:=Bz.1 hp;obtain⟨h1,h2⟩:=iq xs I hn hq hp1;simp only[Gn,Bz]at hp2;obtain⟨dc,c1,c2⟩:=hp2;cases c2;have fp:(r3++ [dc])[s1.n]?=some dc:=by rw[h1.n];simp
     refine⟨h1.trans ⟨⟨h1.i.l,(h1.i.more [dc]).v,fun e j hm=> ?_⟩,by simp[Cs.name,h1.n],rfl,rfl,[dc],rfl⟩,fun j hj=>by cases hj;exact⟨dc,fp⟩,Ev.symm,fun t d hd=> ?_⟩
     ·simp only[Cs.name,List.mem_cons,Prod.mk.injEq]at hm;rcases hm with⟨rfl,rfl⟩|hm
      ·exact⟨dc,bn _ _ c1,fp⟩
      ·exact(h1.i.more [dc]).a e j hm
     ·have hd:(r3++ [dc]++t)[s1.n]?=some d:=hd;rw[Yz (by rw[h1.n];simp),fp]at hd;cases hd;exact run (fun ds he=>h2.2 [] ds (by simpa using he)) c1
   ·simp only[Prod.mk.injEq]at h;obtain⟨⟨rfl,rfl⟩,rfl⟩:=h;obtain⟨h1,h2⟩:=iq xs I hn hq hp;refine⟨h1,(fun j hj=>by cases hj), ?_,fun t d hd=>run (h2.2 t) hd⟩;cases k<;>rfl
 | .ite c a b,s,s',p,y,E,r1,r2,I,hn,h,hp=>by
  simp only[kp]at h;cases hq:kp s c with
  |mk ps c'=>
   obtain⟨p1,s1⟩:=ps;rw[hq]at h;simp only[Prod.mk.injEq]at h;obtain⟨⟨rfl,rfl⟩,rfl⟩:=h;obtain⟨h1,_,_,h2⟩:=pW c I hn hq hp;refine⟨h1,(fun j hj=>by cases hj),rfl,fun t d hd=> ?_⟩;simp only[X.ev,Bz]at hd⊢;obtain⟨v,g1,x,g2,g3⟩:=hd;refine⟨v,h2 t v g1,x,g2, ?_⟩;cases x
   ·exact nB (h1.i.more t) b g3
   ·exact nB (h1.i.more t) a g3
theorem iq: ∀(xs:List X) {s s':Cs} {p:List X} {ys:List X} {E r1 r2:List D},rT G s E r1→s.n=r1.length→gY s xs=((p,s'),ys)→Gn G p r1=some r2→
  yE G s s' E r1 r2∧((∀y∈ys,Jh r2 y)∧(∀ds,tx ys ds=tx xs ds)∧ys.length=xs.length)∧ ∀t ds,X.bh G (r2++t) ys=some ds→X.bh G E xs=some ds
 | [],s,s',p,ys,E,r1,r2,I,hn,h,hp=>by
  simp only[gY,Prod.mk.injEq]at h;obtain⟨⟨rfl,rfl⟩,rfl⟩:=h;cases hp;exact⟨.mi I hn,⟨(fun y hy=>by cases hy),fun ds=>rfl,rfl⟩,fun t ds hd=>hd⟩
 |x::r,s,s',p,ys,E,r1,r2,I,hn,h,hp=>by
  simp only[gY]at h;cases hq:kp s x with
  |mk ps y=>
   obtain⟨p1,s1⟩:=ps;rw[hq]at h;simp only[]at h;cases hq2:gY s1 r with
   |mk ps2 zs=>
    obtain⟨p2,s2⟩:=ps2;rw[hq2]at h;simp only[Prod.mk.injEq]at h;obtain⟨⟨rfl,rfl⟩,rfl⟩:=h;rw[nJ]at hp;obtain⟨r3,hp1,hp2⟩:=Bz.1 hp;obtain⟨h1,h2,h3,h4⟩:=pW x I hn hq hp1;obtain⟨k1,⟨k2,k3,k5⟩,k4⟩:=iq r h1.i h1.n hq2 hp2;obtain⟨u,rfl⟩:=k1.e;refine⟨h1.trans k1,⟨fun z hz=> ?_,fun ds=> ?_,by simp[k5]⟩,fun t ds hd=> ?_⟩
    ·rcases List.mem_cons.1 hz with rfl|hz
     ·exact h2.more u
     ·exact k2 z hz
    ·cases ds with
     |nil=>rfl
     |cons d ds=>
      simp only[tx,k3 ds];congr 1;cases d<;>first|rfl|skip
      rename_i es;cases es with
      |nil=>rfl
      |cons e es=>
       have own: ∀(z:X),lJ z (.list (e::es))=if kW z then(e::es).all fun c=>c.all D.bB else false:=fun z=>by
        cases z with
        |mk k xs=>cases k<;>rfl
        |_=>rfl
       rw[own,own,h3]
    ·simp only[X.bh,Bz,Mz]at hd⊢;obtain⟨d,g1,ds',g2,rfl⟩:=hd;exact⟨d,h4 (u++t) d (by simpa using g1),ds',k4 t ds' g2,rfl⟩
end
theorem oN{x y:X}(h:kW y=kW x)(d:D):lJ y d=lJ x d:=by
 cases d<;>first|rfl|skip
 rename_i es;cases es with
 |nil=>rfl
 |cons e es=>
  have own: ∀(z:X),lJ z (.list (e::es))=if kW z then(e::es).all fun c=>c.all D.bB else false:=fun z=>by
   cases z with
   |mk k xs=>cases k<;>rfl
   |_=>rfl
  grind
theorem Kx{x:X}{s s':Cs}{p:List X}{y:X}{r1 r2:List D}(I:rT G s E r1)(hn:s.n=r1.length)(h:kp s x=((p,s'),y))(hp:Gn G p r1=some r2)(d:D):eR y d=eR x d:=by
 obtain⟨_,_,h3,_⟩:=pW x I hn h hp
 have hT:q_ y d=q_ x d:=by
  cases d with
  |tup ds=>
   cases x with
   |mk k xs=>
    simp only[kp]at h;cases hq:gY s xs with
    |mk ps ys=>
     rw[hq]at h;split at h
     ·rename_i oz;have:q_ (.mk k xs) (.tup ds)=false:=by cases k<;>first|rfl|cases oz
      rw[this];split at h<;>(simp only[Prod.mk.injEq]at h;obtain⟨_,rfl⟩:=h;rfl)
     ·simp only[Prod.mk.injEq]at h;obtain⟨⟨rfl,rfl⟩,rfl⟩:=h;obtain⟨_,⟨_,k3,_⟩,_⟩:=iq xs I hn hq hp;cases k<;>first|exact k3 ds|rfl
   |t i=>
    simp only[kp,n5]at h;obtain⟨_,rfl⟩:=h;split<;>rfl
   |q e=>
    simp only[kp]at h
    grind
   |ite c a b=>
    cases hq:kp s c with
    |mk ps c'=>
     obtain⟨_,rfl⟩:=h;rfl
  |_=>
   have nt: ∀(z:X) (d:D),(∀ds,d≠ .tup ds)→q_ z d=lJ z d:=fun z d hd=>by
    unfold q_;split
    ·exact absurd rfl (hd _)
    ·rfl
   rw[nt y _ (fun ds h=>by cases h),nt x _ (fun ds h=>by cases h),oN h3]
 unfold eR;rw[hT]
theorem kS: ∀{ys:List X} {E' ds:List D},(∀y∈ys,Jh E' y)→X.bh G E' (ys.filter QY)=some ds→ ∃ds',X.bh G E' ys=some ds'
 | [],E',ds,_,_=>⟨[],rfl⟩
 |y::r,E',ds,ht,h=>by
  have one: ∀d,X.ev G E' y=some d→(∃ds',X.bh G E' r=some ds')→ ∃ds',X.bh G E' (y::r)=some ds':=fun d h1 ⟨ds',h2⟩=>⟨d::ds',by simp only[X.bh,h1,h2,Oz,Pz]⟩;have htr: ∀y∈r,Jh E' y:=fun y hy=>ht y (Cz _ hy);cases hy:QY y with
  |true=>
   rw[List.filter_cons_of_pos hy]at h;simp only[X.bh,Bz,Mz]at h;obtain⟨d,h1,ds',h2,_⟩:=h;exact one d h1 (kS htr h2)
  |false=>
   cases y with
   |t j=>obtain⟨d,hd⟩:=ht (.t j) (List.mem_cons_self ..) j rfl;exact one d hd (kS htr h)
   |q e=>exact one e rfl (kS htr h)
   |mk=>cases hy
   |ite=>cases hy
theorem rT.snoc(I:rT G s E E'){j:Nat}{d:D}(h:E'[j]?=some d):rT G {s with rs:=s.rs++ [j]} (E++ [d]) E':=
 ⟨by simp[I.l],fun i k hk=>by
  by_cases hi:i<s.rs.length
  ·rw[Yz hi]at hk;rw[Yz (by rw[←I.l];exact hi)];exact I.v i k hk
  ·have hl:=(Gz.1 hk).1;simp only[List.length_append,List.length_cons,List.length_nil]at hl;have he:i=s.rs.length:=by omega
   subst he;rw[Xz (Nat.le_refl _),Nat.sub_self]at hk;simp only[List.getElem?_cons_zero,Jz]at hk;subst hk;rw[I.l,Xz (Nat.le_refl _),Nat.sub_self,h]
   rfl,I.a⟩
theorem Ki(s:Cs)(j:Nat)(r:List X)(κ:Cs→FT):cse.letsY s (.t j::r) κ=cse.letsY {s with rs:=s.rs++ [j]} r κ:=by
 rfl
theorem Kh(s:Cs)(y:X)(hy: ∀j,y≠ .t j)(r:List X)(κ:Cs→FT):cse.letsY s (y::r) κ= .lets [y] (cse.letsY {s with rs:=s.rs++ [s.n],n:=s.n+1} r κ):=by
 cases y with
 |t j=>exact absurd rfl (hy j)
 |_=>simp only[cse.letsY]
theorem ti{L:List (List D→Option D)}{κ:Cs→FT}{d:D}: ∀(ys:List X) {s:Cs} {E E':List D},rT G s E E'→s.n=E'.length→(∀y∈ys,Jh E' y)→aa G N (cse.letsY s ys κ) L E'=some d→
  ∃ds s2 E2,aa G N (κ s2) L E2=some d∧rT G s2 (E++ds) E2∧s2.n=E2.length∧s2.ar=s.ar∧(∃t,E2=E'++t)∧X.bh G E2 ys=some ds
 | [],s,E,E',I,hn,_,h=>⟨[],s,E',by simpa[cse.letsY]using h,by simpa using I,hn,rfl,⟨[],by simp⟩,rfl⟩
 |y::r,s,E,E',I,hn,ht,h=>by
  have htr: ∀t:List D,∀y∈r,Jh (E'++t) y:=fun t y hy=>(ht y (Cz _ hy)).more t;by_cases hy: ∃j,y= .t j
  ·obtain⟨j,rfl⟩:=hy;rw[Ki]at h;obtain⟨d0,h0⟩:=ht (.t j) (List.mem_cons_self ..) j rfl;obtain⟨ds,s2,E2,k1,k2,k3,k4,⟨t,rfl⟩,k6⟩:=ti r (I.snoc h0) hn (fun y hy=>ht y (Cz _ hy)) h;refine⟨d0::ds,s2,_,k1,by simpa using k2,k3,k4,⟨t,rfl⟩, ?_⟩;simp only[X.bh,X.ev,k6,Pz]
   grind
  ·have hy': ∀j,y≠ .t j:=fun j e=>hy ⟨j,e⟩;rw[Kh s y hy']at h;simp only[aa,X.bh,Bz,Mz]at h;obtain⟨ds0,⟨d0,g1,_,g2,rfl⟩,g3⟩:=h;cases g2;have fp:(E'++ [d0])[s.n]?=some d0:=by rw[hn];simp
   have I2:rT G {s with rs:=s.rs++ [s.n],n:=s.n+1} (E++ [d0]) (E'++ [d0]):=by
    have:=(I.more [d0]).snoc fp;exact⟨this.l,this.v,this.a⟩
   obtain⟨ds,s2,E2,k1,k2,k3,k4,⟨t,rfl⟩,k6⟩:=ti r I2 (by simp[hn]) (fun y hy=>htr [d0] y hy) g3;refine⟨d0::ds,s2,_,k1,by simpa using k2,k3,k4,⟨d0::t,by simp⟩, ?_⟩;simp only[X.bh,k6,Pz];rw[show E'++ [d0]++t=E'++(d0::t) by simp,bn _ _ g1];rfl
theorem rT.vars(I:rT G s E E')(hn:s.n=E'.length){vs:List D}{m:Nat}(hm:vs.length=m)(ar:List Nat):rT G {s.vars m with ar:=ar} (E++vs) (E'++vs):=
 ⟨by simp[Cs.vars,I.l,hm],fun i j h=>by
  simp only[Cs.vars]at h;by_cases hi:i<s.rs.length
  ·rw[Yz hi]at h;obtain⟨d,h1,h2⟩:=I.get h;rw[Yz (Gz.1 h2).1,Yz (Gz.1 h1).1,h1,h2]
  ·have hi:s.rs.length≤i:=by omega
   rw[Xz hi]at h;obtain⟨h3,h4⟩:=Gz.1 h;rw[List.getElem_range']at h4;have e1:E'.length≤j:=by omega
   rw[Xz e1,Xz (by rw[←I.l];exact hi)];congr 1
   rw[←I.l];omega,fun e j h=>(I.more vs).a e j h⟩
def Tf(ar:List Nat)(L L':List (List D→Option D)):Prop:= ∀(j m:Nat),ar[j]?=some m→ ∀f':List D→Option D,L'[j]?=some f'→ ∃f:List D→Option D,L[j]?=some f∧ ∀(vs:List D) (d:D),vs.length=m→f' vs=some d→f vs=some d
theorem Tf.cons{ar:List Nat}{L L':List (List D→Option D)}(h:Tf ar L L'){m:Nat}{f f':List D→Option D}(hf: ∀vs d,vs.length=m→f' vs=some d→f vs=some d):Tf (m::ar) (f::L) (f'::L'):=fun j k hj g hg=>by
 cases j with
 |zero=>
  grind
 |succ j=>exact h j k (by simpa using hj) g (by simpa using hg)
theorem Ps: ∀(t:FT) {s:Cs} {E E':List D} {L L':List (List D→Option D)} {d:D},rT G s E E'→s.n=E'.length→Tf s.ar L L'→aa G N (cse s t) L' E'=some d→aa G N t L E=some d:=by
 intro t
 induction t with
 |ret x=>
  intro s E E' L L' d I hn hL h;simp only[cse]at h;cases hq:kp s x with
  |mk ps y=>
   obtain⟨p,s1⟩:=ps;rw[hq]at h;simp only[e_,Bz]at h;obtain⟨r2,hp,h⟩:=h;simp only[aa,Bz]at h⊢;obtain⟨d0,g1,g2⟩:=h;refine⟨d0,(pW x I hn hq hp).2.2.2 [] d0 (by simpa using g1), ?_⟩;rw[←Kx I hn hq hp d0];exact g2
 |bm xs k ih=>
  intro s E E' L L' d I hn hL h;simp only[cse]at h;cases hq:gY s xs with
  |mk ps ys=>
   obtain⟨p,s1⟩:=ps;rw[hq]at h;simp only[e_,Bz]at h;obtain⟨r2,hp,h⟩:=h;obtain⟨h1,⟨h2,_,_⟩,h3⟩:=iq xs I hn hq hp;rw[iO,Bz]at h;obtain⟨ds,g1,g2⟩:=h;obtain⟨ds',g3⟩:=kS h2 g1;simp only[aa,h3 [] ds' (by simpa using g3),Oz];exact ih h1.i h1.n (by rw[h1.ar];exact hL) g2
 |lets xs k ih=>
  intro s E E' L L' d I hn hL h;simp only[cse]at h;cases hq:gY s xs with
  |mk ps ys=>
   obtain⟨p,s1⟩:=ps;rw[hq]at h;simp only[e_,Bz]at h;obtain⟨r2,hp,h⟩:=h;obtain⟨h1,⟨h2,_,_⟩,h3⟩:=iq xs I hn hq hp;obtain⟨ds,s2,E2,k1,k2,k3,k4,⟨t,rfl⟩,k6⟩:=ti ys h1.i h1.n h2 h;simp only[aa,h3 t ds k6,Oz];exact ih k2 k3 (by rw[k4,h1.ar];exact hL) k1
 |ite c a b iha ihb=>
  intro s E E' L L' d I hn hL h;simp only[cse]at h;cases hq:kp s c with
  |mk ps y=>
   obtain⟨p,s1⟩:=ps;rw[hq]at h;simp only[e_,Bz]at h;obtain⟨r2,hp,h⟩:=h;obtain⟨h1,_,_,h3⟩:=pW c I hn hq hp;simp only[aa,Bz]at h⊢;obtain⟨v,g1,x,g2,g3⟩:=h;refine⟨v,h3 [] v (by simpa using g1),x,g2, ?_⟩;cases x
   ·exact ihb h1.i h1.n (by rw[h1.ar];exact hL) g3
   ·exact iha h1.i h1.n (by rw[h1.ar];exact hL) g3
 |loop xs b ih=>
  intro s E E' L L' d I hn hL h;simp only[cse]at h;cases hq:gY s xs with
  |mk ps ys=>
   obtain⟨p,s1⟩:=ps;rw[hq]at h;simp only[e_,Bz]at h;obtain⟨r2,hp,h⟩:=h;obtain⟨h1,⟨_,_,h5⟩,h3⟩:=iq xs I hn hq hp;simp only[aa,Bz]at h⊢;obtain⟨ds,g1,g2⟩:=h;refine⟨ds,h3 [] ds (by simpa using g1), ?_⟩;have hlen:=dg g1
   have key: ∀n vs d,vs.length=ys.length→iter (fun rec vs=>aa G N (cse {s1.vars ys.length with ar:=ys.length::s1.ar} b) (rec::L') (r2++vs)) n vs=some d→iter (fun rec vs=>aa G N b (rec::L) (E++vs)) n vs=some d:=by
    intro n
    induction n with
    |zero=>intro vs d _ h;cases h
    |succ n ihn=>
     intro vs d hv h;simp only[iter]at h⊢;exact ih (h1.i.vars h1.n hv _) (by simp[Cs.vars,h1.n,hv]) ((show Tf s1.ar L L' by rw[h1.ar];exact hL).cons fun vs d hv h=>ihn vs d hv h) h
   exact key N ds d hlen g2
 |next j xs=>
  intro s E E' L L' d I hn hL h;simp only[cse]at h;cases hq:gY s xs with
  |mk ps ys=>
   obtain⟨p,s1⟩:=ps;rw[hq]at h;simp only[]at h;split at h
   ·rename_i har;simp only[e_,Bz]at h;obtain⟨r2,hp,h⟩:=h;obtain⟨h1,⟨_,_,h5⟩,h3⟩:=iq xs I hn hq hp;simp only[aa,Bz]at h⊢;obtain⟨ds,g1,f',g2,g3⟩:=h;rw[h1.ar]at har;obtain⟨f,k1,k2⟩:=hL j _ har f' g2;exact⟨ds,h3 [] ds (by simpa using g1),f,k1,k2 ds d (dg g1) g3⟩
   ·cases h
 |jp k b ihk ihb=>
  intro s E E' L L' d I hn hL h;simp only[cse]at h;split at h
  ·rename_i m _;simp only[aa]at h⊢;refine ihb (s:={s with ar:=m::s.ar}) ⟨I.l,I.v,I.a⟩ hn (hL.cons fun vs d hv h=> ?_) h;exact ihk (s:=s.vars m) (I.vars hn hv s.ar) (by simp[Cs.vars,hn,hv]) hL h
  ·simp only[aa]at h⊢;refine ihb (s:={s with ar:=0::s.ar}) ⟨I.l,I.v,I.a⟩ hn (hL.cons fun vs d hv h=> ?_) h;cases h
 |any x a b iha ihb=>
  intro s E E' L L' d I hn hL h;simp only[cse]at h;cases hq:kp s x with
  |mk ps y=>
   obtain⟨p,s1⟩:=ps;rw[hq]at h;simp only[e_,Bz]at h;obtain⟨r2,hp,h⟩:=h;obtain⟨h1,_,_,h3⟩:=pW x I hn hq hp;simp only[aa,Bz]at h⊢;obtain⟨v,g1,g2⟩:=h;refine⟨v,h3 [] v (by simpa using g1), ?_⟩;unfold qV at g2;split at g2
   ·rename_i rows;cases rows with
    |nil=>cases g2
    |cons r0 L0=>
     obtain⟨k1,k2⟩:=wO g2;by_cases h0:L0= []
     ·subst h0;exact(any_none (z:=aa G N a L E) (f:=fun s=>aa G N b L (E++ [s])) (r:=r0)).trans (iha h1.i h1.n (by rw[h1.ar];exact hL) (k1 rfl))
     ·exact any_some (r:=r0) (f:=fun s=>aa G N b L (E++ [s])) h0 fun i c hc=>ihb (s:=s1.vars 1) (h1.i.vars (vs:= [.list (c::L0.eraseIdx i)]) (m:=1) h1.n rfl s1.ar) (by simp[Cs.vars,h1.n]) (by rw[show(s1.vars 1).ar=s1.ar from rfl,h1.ar];exact hL) (k2 i c hc)
   ·cases g2
 |st Y=>intro s E E' L L' d I hn hL h;cases h
 |bad w Y=>intro s E E' L L' d I hn hL h;cases h
theorem wZ{q:Nat×FT}{ds:List D}{d:D}(hl:ds.length=q.1)(h:aa G N (ZW q).2 [] ds=some d):aa G N q.2 [] ds=some d:=by
 refine Ps q.2 (s:=Jv q.1) ⟨by simp[Jv,hl],fun i j h=> ?_,fun e j h=>by cases h⟩ hl.symm (fun j m h=>by simp[Jv]at h) h;simp only[Jv]at h;obtain⟨h1,h2⟩:=Gz.1 h;simp at h2;rw[h2]
end
end
section
def kA(e:Nat)(rs:List e8)(x:VE)(Y:Sy):FT:=
 match x with
 | .exit _=> .bad 100021
 |_=>match rs with
  | [.t i]=>(match bH Y (.t i)with
   | .gl n _=>(match find Y.h n with
    |some (.aA e' _ c)=>if e'=e then .ret c else .bad 100051
    |_=> .bad 100052)
   |_=> .bad 100053)
  |_=> .bad 100054
def CZ(C:Cx)(e f:Nat):Option (Nat×FT):=
 match C.P.funcs[f]? with
 |some fn=>match fn.body,fn.results.toList.mapM (uO C.P fn.ntmps)with
  | some c, some rs => if (fn.name == "runtime.NumGoroutine") = false ∧ fn.params.size + fn.nfree ≤ fn.ntmps then some (fn.params.size + fn.nfree, c_ { C with rt := f } (vD { C with rt := f } 8) f fn.ntmps Td false 0 (s_ fn) c (AR (fn.params.size + fn.nfree)) (kA e rs)) else none
  |_,_=>none
 |none=>none
theorem QB{G:FP}{N e:Nat}{rs:List e8}{x:VE}{Y:Sy}{L:List (List D→Option D)}{E:List D}{d:D}:aa G N (kA e rs x Y) L E=some d→
  ∃i n sz sz' c,rs= [.t i]∧bH Y (.t i)= .gl n sz∧find Y.h n=some (.aA e sz' c)∧aa G N (.ret c) L E=some d:=by
 have key: ∀(rs:List e8),aa G N (match rs with
  | [.t i]=>(match bH Y (.t i)with
   | .gl n _=>(match find Y.h n with
    |some (.aA e' _ c)=>if e'=e then FT.ret c else .bad 100051
    |_=> .bad 100052)
   |_=> .bad 100053)
  |_=> .bad 100054) L E=some d→ ∃i n sz sz' c,rs= [.t i]∧bH Y (.t i)= .gl n sz∧find Y.h n=some (.aA e sz' c)∧aa G N (.ret c) L E=some d:=fun rs h=>by
  split at h
  ·split at h
   ·rename_i hv;split at h
    ·rename_i hf;split at h
     ·grind
     ·cases h
    ·cases h
   ·cases h
  ·cases h
 intro h;cases x with
 |normal=>exact key rs h
 |ret=>exact key rs h
 |exit i=>cases h
theorem Em{P:Program}{C:Cx}{inl:FH}{ks:List Nat}{G:FP}{N:Nat}(hP:C.P=P)(hG:Sound P (bg G))(hm:P.follows .mixedOrders=true){f e0:Nat}(hI: ∀dr,qm P G N dr inl){fn:Func}{c:Code}{rs:List e8}(h1:P.funcs[f]?=some fn)
  (h2 : (fn.name == "runtime.NumGoroutine") = false) (h3 : fn.body = some c) (h4 : fn.results.toList.mapM (uO P fn.ntmps) = some rs) {ds : List D} {es : List (List D)} (hlen : ds.length ≤ fn.ntmps) (hn : ds.all D.aK = true) (hne : es ≠ []) (hes : (es.all fun c => c.all D.bB) = true)
  (he:(aa G N (c_ C inl f fn.ntmps Td false 0 ks c (AR ds.length) (kA e0 rs)) [] ds).map D.bare=some (.list es)):YV P f e0 ds es:=by
 refine⟨⟨fn,h1,by rw[h3];rfl,h2⟩,fun w pr cargs hpr hg jo=> ?_⟩;obtain⟨d,he,hd⟩:=Mz.1 he;have hY0:gL P G N d Td (⟨w,pr,pX⟩:eo).A.sv fn.ntmps tJ:=fun h=>by cases h
 refine iJ.1 (callsIn_of_wp_marks (F:=wF none) (n:=0) h1 h3 trivial ?_);refine jl (r:=none) (Ω0:=tJ) (Ω:=tJ) hP hG hm (hI d) c (fun _=>rfl) hY0 (mt0 hn) (zI hpr hg jo hlen) DM.nil rfl he ?_;rintro ex Ω' Y' L' E' ι' γ' J' a' w' hle M' R' hd' _ _ _ he';obtain⟨i,n,sz,sz',c',rfl,hv,hf,h'⟩:=QB he'
 have fin:LeavesInM (wF none) 0 P fn a'.tmps (fun ex w'=> ∃b cap C,ex= .returned (.slice (some ⟨b,0,none⟩) es.length cap)∧cW (fun _=>False) w w'∧w.heap.size≤b∧w'.heap[b]?=some (.cells C e0 (0,0))∧es.length≤cap∧cap≤maxLen∧C.size=cap*P.cellsOf e0∧bf P w' (fun _ _=>False) aI C e0 es) a'.defers .returning w':=by
  simp only[aa,Bz]at h';obtain⟨d0,g1,g2⟩:=h';split at g2
  rotate_left
  ·cases g2
  rename_i JU;injection g2 with g2
  have hd0:d0.bare= .list es→d0= .list es:=fun h=>by
   unfold D.bare at h;split at h
   ·simp[D.aK,D.aN,D.eF]at JU
   ·exact h
  have hd1:d0= .list es:=by
   refine hd0 ?_;rw[←hd,←g2];unfold eR;split
   ·rfl
   ·split
    ·have:d0.bare=d0:=by
      unfold D.bare;split
      ·simp[D.aK,D.aN,D.eF]at JU
      ·rfl
     rw[this];rfl
    ·rfl
  subst hd1;refine pK (S:= []) M' R' hd' hle fun Ω3 w3 J3 _ M3 R3=> ?_;obtain⟨w1,pr1,A1,tk,R1,U⟩:=R3;obtain⟨v,hv1,hv2⟩:=jH (rs:= [.t i]) (d:=J3.s i) R1 h4 rfl;have hVR:=ay M3 (.t i);rw[hv]at hVR;obtain⟨es2,q1,q2,q3⟩:=M3.aA _ _ _ _ hf;rw[g1]at q1;injection q1 with q1
  injection q1 with q1
  subst q1;rcases q3 with⟨_,q3⟩|⟨q3,q4⟩
  ·grind
  have hsl:J3.s i= .sl (ι' n) sz 0 es.length none:=by
   generalize hz:aM.val J3.s (.t i)=z at hVR;have hz:J3.s i=z:=hz;rw[hz];cases hVR with
   |gln hf' hi=>exact absurd hi q3
   |gl hf' hc hi=>
    grind
  rw[hsl]at hv2;obtain⟨b,cap,C2,p1,p2,p3,p4,p5,p6⟩:=R1.mem.obj _ _ q4;cases hv2 with
  |sl ht hc hl ho=>
   rw[p1]at ht;cases ht;simp at hc;subst hc;have ho2:=ho.resolve_right (by omega);simp at ho2;subst ho2;have hlt:b<w3.heap.size:=(Array.getElem?_eq_some_iff.1 p2).1;refine⟨_,hv1,b,_,C2,rfl,U.chg.trans R1.chg fun b hb h=>(U.sub b hb h:False), ?_,p2,p3,p4,p5,p6.1,fun i c hc j x hx=> ?_⟩
   ·rcases R1.live _ _ b _ q4 p1 with h|h
    ·have:=U.chg.size;have:(⟨w,pr,pX⟩:eo).w.heap.size=w.heap.size:=rfl;omega
    ·exact Nat.le_of_not_lt fun hb=>(U.sub b hb h:False)
   ·obtain⟨u,u1,u2,u3⟩:=p6.2 i c hc j x hx;exact⟨u,u1,u2,cM u3 (Tz.1 (Tz.1 hes c (Lz hc)) x (Lz hx))⟩
 cases ex with
 |normal=>exact fin
 |ret=>exact fin
 |exit i=>cases he'
theorem yV{P:Program}{C:Cx}{H:FP}{N k f e n:Nat}{t:FT}(hP:C.P=P)(hH:Sound P (bg H))(hm:P.follows .mixedOrders=true)(h1:CZ C e f=some (n,t)){ds:List D}{es:List (List D)}(hl:ds.length=n)(hn:ds.all D.aK=true)
  (hne:es≠ []) (hes:(es.all fun c=>c.all D.bB)=true) (he:(aa (Gs C H N k) N t [] ds).map D.bare=some (.list es)):YV P f e ds es:=by
 have hS:=jP (N:=N) hP hH hm k;unfold CZ at h1;subst hP;split at h1
 ·rename_i fn hfn;split at h1
  ·rename_i c rs hb hr;split at h1<;>cases h1;rename_i hcc;refine Em (C:={C with rt:=f}) (inl:=vD {C with rt:=f} 8) (N:=N) (ks:=s_ fn) rfl hS hm (fun dr=>su (C:={C with rt:=f}) rfl hS hm 8) hfn hcc.1 hb hr (by omega) hn hne hes ?_;rw[hl];exact he
  ·cases h1
 ·cases h1
end
noncomputable section
abbrev Rd(α:Type):=List Nat→α×List Nat
def rN:Rd Nat
 |a::r=>(a,r)
 | []=>(0,[])
def rB:Rd Bool:=fun l=>match rN l with|(a,r)=>(a==1,r)
def rI:Rd Int:=fun l=>match rN l with
 |(0,r)=>(match rN r with|(m,r)=>(Int.ofNat m,r))
 |(_,r)=>(match rN r with|(m,r)=>(Int.negSucc m,r))
def rL{α:Type}(p:Rd α):Nat→Rd (List α)
 |0,l=>([],l)
 |k+1,l=>match rN l with
  |(0,r)=>([],r)
  |(_,r)=>match p r with
   |(a,r)=>match rL p k r with
    |(q,r)=>(a::q,r)
def UM(n:Nat):IntKind:=match n with|0=> .i8|1=> .i16|2=> .i32|3=> .i64|4=> .u8|5=> .u16|6=> .u32|_=> .u64
def Pc(n:Nat):BinOp:=match n with|0=> .add|1=> .sub|2=> .mul|3=> .quo|4=> .rem|5=> .and|6=> .or|7=> .xor|8=> .shl|9=> .shr|10=> .andNot|11=> .eql|12=> .neq|13=> .lss|14=> .leq|15=> .gtr|_=> .geq
def rV:Rd Value:=fun l=>match rN l with
 |(0,r)=>(match rN r with|(k,r)=>match rI r with|(z,r)=>(.int (UM k) z,r))
 |(1,r)=>(match rB r with|(b,r)=>(.bool b,r))
 |(3,r)=>(.nilFunc,r)
 |(4,r)=>(.nilIface,r)
 |(5,r)=>(.pointer none,r)
 |(_,r)=>(.bool false,r)
def rD:Nat→Rd D
 |0,l=>(.undef,l)
 |n+1,l=>match rN l with
  |(1,r)=>(match rV r with|(v,r)=>(.v v,r))
  |(2,r)=>(.nil,r)
  |(3,r)=>(.mt,r)
  |(4,r)=>(match rL (rL (rD n) 99) 99 r with|(es,r)=>(.list es,r))
  |(5,r)=>(match rL (rD n) 999 r with|(xs,r)=>(.agg xs,r))
  |(6,r)=>(match rL (rD n) 999 r with|(xs,r)=>(.tup xs,r))
  |(7,r)=>(match rL (rD n) 999 r with|(xs,r)=>(.lptr xs,r))
  |(8,r)=>(match rN r with|(f,r)=>match rL (rD n) 999 r with|(xs,r)=>(.clo f xs,r))
  |(9,r)=>(.nilmap,r)
  |(_,r)=>(.undef,r)
def rNP:Rd (Nat×Nat):=fun l=>match rN l with|(a,r)=>match rN r with|(b,r)=>((a,b),r)
def rPK:Rd PK:=fun l=>match rN l with
 |(0,r)=>(.mv,r)
 |(1,r)=>(.pick,r)
 |(2,r)=>(match(fun l=>match rN l with|(a,r)=>(Pc a,r)) r with|(a0,r)=>(.ibin a0,r))
 |(3,r)=>(match(fun l=>match rN l with|(a,r)=>(Pc a,r)) r with|(a0,r)=>(.ishift a0,r))
 |(4,r)=>(match rB r with|(a0,r)=>(.beq a0,r))
 |(5,r)=>(match rB r with|(a0,r)=>(.seq a0,r))
 |(6,r)=>(match rB r with|(a0,r)=>match rL rN 999 r with|(a1,r)=>(.aeq a0 a1,r))
 |(7,r)=>(match rB r with|(a0,r)=>(.snil a0,r))
 |(8,r)=>(match(fun l=>match rN l with|(a,r)=>(Pc a,r)) r with|(a0,r)=>(.sop a0,r))
 |(9,r)=>(.inot,r)
 |(10,r)=>(.ineg,r)
 |(11,r)=>(.llen,r)
 |(12,r)=>(.slen,r)
 |(13,r)=>(match rN r with|(a0,r)=>match rB r with|(a1,r)=>(.load a0 a1,r))
 |(14,r)=>(match rN r with|(a0,r)=>(.fld a0,r))
 |(15,r)=>(match rN r with|(a0,r)=>match rN r with|(a1,r)=>(.idx a0 a1,r))
 |(16,r)=>(match rN r with|(a0,r)=>match rN r with|(a1,r)=>(.aidx a0 a1,r))
 |(17,r)=>(match rN r with|(a0,r)=>(.ext a0,r))
 |(18,r)=>(match(fun l=>match rN l with|(a,r)=>(UM a,r)) r with|(a0,r)=>(.conv a0,r))
 |(19,r)=>(match rN r with|(a0,r)=>match rN r with|(a1,r)=>match rB r with|(a2,r)=>(.afld a0 a1 a2,r))
 |(20,r)=>(match rL (rD 9) 999 r with|(a0,r)=>match rL rNP 999 r with|(a1,r)=>(.build a0 a1,r))
 |(21,r)=>(match rN r with|(a0,r)=>(.clo a0,r))
 |(22,r)=>(match rB r with|(a0,r)=>(.mx2 a0,r))
 |(23,r)=>(match rB r with|(a0,r)=>(.mx3 a0,r))
 |(24,r)=>(match rN r with|(a0,r)=>match rN r with|(a1,r)=>match rB r with|(a2,r)=>(.aix a0 a1 a2,r))
 |(25,r)=>(.bm,r)
 |(26,r)=>(match rN r with|(a0,r)=>match rB r with|(a1,r)=>match rB r with|(a2,r)=>match rB r with|(a3,r)=>(.slc a0 a1 a2 a3,r))
 |(27,r)=>(match rN r with|(a0,r)=>match rN r with|(a1,r)=>match rB r with|(a2,r)=>match rB r with|(a3,r)=>(.sla a0 a1 a2 a3,r))
 |(28,r)=>(match rL rN 999 r with|(a0,r)=>match rD 9 r with|(a1,r)=>match rB r with|(a2,r)=>(.lkp a0 a1 a2,r))
 |(29,r)=>(.ent,r)
 |(30,r)=>(match rN r with|(a0,r)=>(.call a0,r))
 |(32,r)=>(match rN r with|(a0,r)=>(.fbox a0,r))
 |(33,r)=>(match rB r with|(a0,r)=>(.pnil a0,r))
 |(_,r)=>(.mv,r)
def rXK:Rd XK:=fun l=>match rN l with
 |(0,r)=>(match rPK r with|(k,r)=>(.pk k,r))
 |(1,r)=>(match rB r with|(a0,r)=>match rN r with|(a1,r)=>(.call a0 a1,r))
 |(2,r)=>(match rB r with|(a0,r)=>(.ccall a0,r))
 |(3,r)=>(.agg,r)
 |(4,r)=>(.tup,r)
 |(5,r)=>(match rN r with|(a0,r)=>(.clo a0,r))
 |(6,r)=>(.lptr,r)
 |(7,r)=>(match rN r with|(a0,r)=>match rN r with|(a1,r)=>(.cell a0 a1,r))
 |(8,r)=>(.eV,r)
 |(9,r)=>(match rB r with|(a0,r)=>(.gv a0,r))
 |(10,r)=>(.aj,r)
 |(11,r)=>(.aO,r)
 |(12,r)=>(match rN r with|(a0,r)=>(.app a0,r))
 |(13,r)=>(match rN r with|(a0,r)=>match rN r with|(a1,r)=>match rL (rD 9) 999 r with|(a2,r)=>match rL rNP 999 r with|(a3,r)=>(.lit a0 a1 a2 a3,r))
 |(14,r)=>(match rN r with|(a0,r)=>match rL (rD 9) 999 r with|(a1,r)=>(.mks a0 a1,r))
 |(15,r)=>(match rN r with|(a0,r)=>match rN r with|(a1,r)=>match rN r with|(a2,r)=>(.setl a0 a1 a2,r))
 |(16,r)=>(.take,r)
 |(17,r)=>(match rL rN 999 r with|(a0,r)=>match rD 9 r with|(a1,r)=>match rB r with|(a2,r)=>(.mget a0 a1 a2,r))
 |(18,r)=>(match rL rN 999 r with|(a0,r)=>(.mset a0,r))
 |(19,r)=>(match rN r with|(a0,r)=>(.rngi a0,r))
 |(20,r)=>(match rN r with|(a0,r)=>match rN r with|(a1,r)=>match rN r with|(a2,r)=>match rN r with|(a3,r)=>match rB r with|(a4,r)=>(.geta a0 a1 a2 a3 a4,r))
 |(21,r)=>(match rN r with|(a0,r)=>match rN r with|(a1,r)=>match rN r with|(a2,r)=>match rN r with|(a3,r)=>(.seta a0 a1 a2 a3,r))
 |(22,r)=>(match rN r with|(a0,r)=>match rN r with|(a1,r)=>match rN r with|(a2,r)=>(.ecall a0 a1 a2,r))
 |(23,r)=>(.mkl,r)
 |(24,r)=>(match rN r with|(a0,r)=>match rN r with|(a1,r)=>(.isc a0 a1,r))
 |(25,r)=>(match rN r with|(a0,r)=>match rN r with|(a1,r)=>match rN r with|(a2,r)=>(.capc a0 a1 a2,r))
 |(26,r)=>(match rL rN 999 r with|(a0,r)=>match rN r with|(a1,r)=>(.mapp a0 a1,r))
 |(27,r)=>(.fmk,r)
 |(28,r)=>(.drp,r)
 |(29,r)=>(match rL (rD 9) 999 r with|(a0,r)=>(.clr a0,r))
 |(30,r)=>(.adn,r)
 |(31,r)=>(.own,r)
 |(32,r)=>(match rL rN 999 r with|(a0,r)=>(.mix a0,r))
 |(33,r)=>(match rN r with|(a0,r)=>match rL rN 999 r with|(a1,r)=>match rN r with|(a2,r)=>match rN r with|(a3,r)=>(.pm a0 a1 a2 a3,r))
 |(_,r)=>(.tup,r)
def rX:Nat→Rd X
 |0,l=>(C4,l)
 |n+1,l=>match rN l with
  |(0,r)=>(match rN r with|(k,r)=>(.t k,r))
  |(1,r)=>(match rD 9 r with|(d,r)=>(.q d,r))
  |(2,r)=>(match rXK r with|(k,r)=>match rL (rX n) 999 r with|(xs,r)=>(.mk k xs,r))
  |(_,r)=>(match rX n r with|(c,r)=>match rX n r with|(a,r)=>match rX n r with|(b,r)=>(.ite c a b,r))
def Xg:Nat→Rd SV
 |0,l=>(.un,l)
 |n+1,l=>match rN l with
  |(1,r)=>(match rX 99 r with|(x,r)=>(.x x,r))
  |(2,r)=>(match rL (Xg n) 999 r with|(vs,r)=>(.agg vs,r))
  |(3,r)=>(match rL (Xg n) 999 r with|(vs,r)=>(.tup vs,r))
  |(4,r)=>(match rN r with|(f,r)=>match rL (Xg n) 999 r with|(vs,r)=>(.clo f vs,r))
  |(5,r)=>(match rN r with|(a,r)=>match rN r with|(b,r)=>(.ptr a b,r))
  |(7,r)=>(match rN r with|(a,r)=>match rN r with|(b,r)=>(.gl a b,r))
  |(8,r)=>(match rN r with|(a,r)=>match rN r with|(b,r)=>match rX 99 r with|(k,r)=>(.gs a b k,r))
  |(9,r)=>(match rN r with|(a,r)=>match rN r with|(b,r)=>match rX 99 r with|(i,r)=>match rN r with|(j,r)=>(.ep a b i j,r))
  |(10,r)=>(match rN r with|(a,r)=>match rN r with|(b,r)=>match rN r with|(c,r)=>(.sb a b c,r))
  |(11,r)=>(match rN r with|(a,r)=>match rN r with|(b,r)=>(.rb a b,r))
  |(12,r)=>(match rN r with|(a,r)=>(.mp a,r))
  |(13,r)=>(match rN r with|(a,r)=>(.yl a,r))
  |(14,r)=>(match rX 99 r with|(g,r)=>match Xg n r with|(v,r)=>(.gd g v,r))
  |(15,r)=>(match rN r with|(a,r)=>match rN r with|(b,r)=>match rX 99 r with|(k,r)=>(.gt a b k,r))
  |(17,r)=>(match rN r with|(a,r)=>match rX 99 r with|(k,r)=>match rN r with|(b,r)=>(.bp a k b,r))
  |(18,r)=>(match rN r with|(a,r)=>(.it a,r))
  |(_,r)=>(.un,r)
def rRS:Rd RS:=fun l=>match rN l with
 |(0,r)=>(.ready,r)
 |(1,r)=>(.busy,r)
 |(2,r)=>(match rN r with
  |(0,r)=>(.done .normal,r)
  |(1,r)=>(match rN r with|(i,r)=>(.done (.exit i),r))
  |(_,r)=>(.done .ret,r))
 |(_,r)=>(.over,r)
def rSk:Rd Sk:=fun l=>match rN l with
 |(0,r)=>(match rN r with|(k,r)=>(.box k,r))
 |(1,r)=>(match rN r with|(e,r)=>match rN r with|(s,r)=>(.aA e s,r))
 |(2,r)=>(.map,r)
 |(3,r)=>(match rN r with|(e,r)=>match rN r with|(s,r)=>(.bL e s,r))
 |(5,r)=>(match rN r with
  |(0,r)=>(.itr none,r)
  |(_,r)=>(match rN r with|(m,r)=>(.itr (some m),r)))
 |(_,r)=>(match rRS r with|(k,r)=>(.raw k,r))
def rLc{α:Type}(p:Rd α):Nat→Rd (List α)
 |0,l=>([],l)
 |k+1,l=>match p l with
  |(a,r)=>match rLc p k r with
   |(q,r)=>(a::q,r)
def Zr{α:Type}(p:Rd α):Rd (List α):=fun l=>match rN l with
 |(k,r)=>rLc p k r
def abp:Rd yD:=fun l=>match rN l with
 |(4,r)=>(.same .un,r)
 |(0,r)=>(.drop,r)
 |(1,r)=>(match Xg 99 r with|(v,r)=>(.same v,r))
 |(2,r)=>(.var,r)
 |(_,r)=>(match rN r with|(e,r)=>match rN r with|(s,r)=>(.aA e s,r))
def rHd:Rd Hd:=fun l=>match Zr rN l with
 |(ids,r)=>match Zr rNP r with
  |(ts,r)=>match Zr (fun l=>match rN l with|(n,r)=>match rSk r with|(k,r)=>((n,k),r)) r with
   |(os,r)=>match Zr abp r with
    |(row,r)=>(⟨ids,ts,os,row.map fun p=>(0,p)⟩,r)
def BT{α:Type}(i:Nat)(l:List α):Option α:= @Nat.rec (fun _=>List α→Option α) (fun l=>l.casesOn none fun a _=>some a) (fun _ ih l=>l.casesOn none fun _ r=>ih r) i l
def nn{α:Type}(d:α)(T:List (List α))(i:Nat):α:=((BT (i/32) T).bind (BT (i%32))).getD d
def ex(T:List (List (List Nat)))(k:Nat):List Nat→List Nat:= @Nat.rec (fun _=>List Nat→List Nat) (fun l=>l) (fun _ ih l=> @List.rec Nat (fun _=>List Nat) [] (fun a _ r=>
 (nn [] T a).casesOn r fun v s=>s.casesOn (v::r) fun b s=>List.append (ih (v::b::s)) r) l) k
def Yp:Nat→Nat→List Nat
 |0,_=> []
 |k+1,n=>match Nat.ble n 1 with
  |true=> []
  |false=>match Nat.blt (n%16) 12 with
   |true=>(n%16*16+n/16%16)::Yp k (n/256)
   |false=>((n%16-12)*256+(192+n/16%256))::Yp k (n/4096)
def dl(l:List Nat):Nat→List Nat:= @List.rec Nat (fun _=>Nat→List Nat) (fun _=> []) (fun a _ r p=>
 bif Nat.blt a 100 then a::r p else(fun v=>v::r v) (bif Nat.beq (a%2) 0 then p+(a-100)/2 else p-(a-99)/2)) l
def hn(l:List Nat):Nat:=l.foldl (fun a x=>a*10000000+x) 1
inductive FF where
 |cst (d:D)
 |op (k:XK) (n:Nat)
 |ite
def Ro(p:Rd X):Nat→Rd (List X)
 |0,l=>([],l)
 |k+1,l=>match p l with
  |(a,r)=>match Ro p k r with
   |(q,r)=>(a::q,r)
def gX(O:Nat→FF):Nat→Rd X
 |0,l=>(C4,l)
 |n+1,l=>match l with
  | []=>(C4,[])
  |a::r=>bif Nat.beq (a%2) 0 then(.t (a/2),r)else match O (a/2)with
   | .cst d=>(.q d,r)
   | .op k m=>match Ro (gX O n) m r with
    |(xs,r)=>(.mk k xs,r)
   | .ite=>match gX O n r with
    |(c,r)=>match gX O n r with
     |(a,r)=>match gX O n r with
      |(b,r)=>(.ite c a b,r)
def Y_(O:Nat→FF):Rd (List X):=fun l=>match rN l with|(n,r)=>Ro (gX O 99) n r
def GJ(O:Nat→FF)(B:List FT):Nat→Rd FT
 |0,l=>(.bad 0,l)
 |n+1,l=>match rN l with
  |(0,r)=>(match gX O 99 r with|(x,r)=>(.ret x,r))
  |(1,r)=>(match Y_ O r with|(xs,r)=>match GJ O B n r with|(k,r)=>(.bm xs k,r))
  |(2,r)=>(match Y_ O r with|(xs,r)=>match GJ O B n r with|(k,r)=>(.lets xs k,r))
  |(3,r)=>(match gX O 99 r with|(c,r)=>match GJ O B n r with|(a,r)=>match GJ O B n r with|(b,r)=>(.ite c a b,r))
  |(4,r)=>(match Y_ O r with|(xs,r)=>match GJ O B n r with|(k,r)=>(.loop xs k,r))
  |(5,r)=>(match rN r with|(j,r)=>match Y_ O r with|(xs,r)=>(.next j xs,r))
  |(6,r)=>(match GJ O B n r with|(b,r)=>match GJ O B n r with|(k,r)=>(.jp k b,r))
  |(8,r)=>(match rN r with|(k,r)=>(B.getD k (.bad 0),r))
  |(9,r)=>(match gX O 99 r with|(c,r)=>match GJ O B n r with|(a,r)=>match GJ O B n r with|(b,r)=>(.any c a b,r))
  |(_,r)=>(match rN r with|(w,r)=>(.bad w,r))
def hintOf(T:List (Nat×List (Nat×List Nat)))(f key:Nat):Option (Option (Hd×Nat)):=match find ((find T f).getD []) key with
 |some (n::l)=>some (some ((rHd l).1,n))
 |_=>some none
def FO(l:List (Nat×List Nat))(f:Nat):List Nat:=(find l f).getD []
def OQ(l:List (Nat×List (Nat×Nat)))(f i:Nat):Nat:=(find ((find l f).getD []) i).getD 0
end
noncomputable section
def eY(k:PK)(ds:List D):Option D:=(k.run (bg Vq) eh ds).bind fun d=>if d.aK then some d else none
def CD(G:FP)(fl:Bool)(f:Nat)(ds:List D):Option D:=gU G fl f ds
def LA(G:FP)(fl:Bool)(ds:List D):Option D:=match ds with
  | .clo f eT::r=>if f<1000000 then(eT.mapM (bD eh)).bind fun cs=>gU G fl f (r++cs)else none
  |_=>none
def I9(ds:List D):Option D:=if ds.all D.aN then some (.agg ds)else none
def YS(ds:List D):Option D:=some (.tup ds)
def YI(f:Nat)(ds:List D):Option D:=if ds.all D.aN then some (.clo f ds)else none
def SD(ds:List D):Option D:=some (.lptr ds)
def yA(j n:Nat)(ds:List D):Option D:=match ds with
  | [d]=>if d.cells.length=n∧d.cells.all D.gE=true∧d.cells.all D.aN=true then d.cells[j]? else none
  |_=>none
def YQ(ds:List D):Option D:=match ds with
  | [d]=>if d.gE=true∧d.aK=true then some d else none
  |_=>none
def I'(w:Bool)(ds:List D):Option D:=match ds with
  | [.v (.bool b)]=>some (bv (b==w))
  | [.tup _]=>some (bv false)
  |_=>none
def uI(ds:List D):Option D:=match ds with
  | [d]=>if d.aK then bD eh d else none
  |_=>none
def yC(ds:List D):Option D:=match ds with
  | [d]=>if d.aN then az eh 6 d else none
  |_=>none
def YH(size:Nat)(ds:List D):Option D:=match ds with
  | [a,b]=>(l8 a).bind fun a=>(l8 b).bind fun b=>if bj size b=true∧a.length+b.length≤bx then some (.list (a++b))else none
  |_=>none
def YN(size len:Nat)(zero:List D)(places:List (Nat×Nat))(ds:List D):Option D:=if ds.all (fun d=>d.cells.all D.gE)then(nb zero places ds).bind fun cs=>if cs.length=len*size∧bj size (kL size len (cs.map D.nz))=true then some (.list (kL size len (cs.map D.nz)))else none else none
def YP(size:Nat)(zero:List D)(ds:List D):Option D:=match ds with
  | [.v (.int _ l), .v (.int _ c)]=>if 0≤l∧l≤c∧c≤bx∧c.toNat*size≤16777216∧zero.length=size∧zero.all D.rG=true then some (.list (List.replicate l.toNat zero))else none
  |_=>none
def SI(size j n:Nat)(ds:List D):Option D:=match ds with
  | [.list es, .v (.int _ i),v]=>if i<0 then none else(es[i.toNat]?).bind fun c=>if v.cells.length=n∧j+n≤size∧c.length=size∧v.cells.all D.gE=true∧v.cells.all D.rG=true then some (.list (es.set i.toNat (putAt c j v.cells)))else none
  |_=>none
def qk(ds:List D):Option D:=match ds with
  | [.list es, .v (.int _ k)]=>if 0≤k∧k≤es.length then some (.list (es.take k.toNat))else none
  |_=>none
def yB(ks:List Nat)(z:D)(ok:Bool)(ds:List D):Option D:=match ds with
  | [.list rows,k]=>(aB rows).bind fun es=>(oM ks z ok es k).bind fun d=>if d.aK then some d else none
  |_=>none
def mA(ks:List Nat)(ds:List D):Option D:=match ds with
  | [.list rows,k,v]=>(aB rows).bind fun es=>(lC ks es k v).map fun es=> .list (aG es)
  |_=>none
def SG(n:Nat)(ds:List D):Option D:=match ds with
  | [.v (.int _ i)]=>if 0≤i∧i<n then some (.tup [])else none
  |_=>none
def SC(n s j m:Nat)(g:Bool)(ds:List D):Option D:=match ds with
  | [.agg xs, .v (.int _ i)]=>if 0≤i∧i<n∧j+m≤s∧n*s≤xs.length then(if g then(if((xs.drop (i.toNat*s+j)).take m).all D.aN then some (.agg ((xs.drop (i.toNat*s+j)).take m))else none)else(xs[i.toNat*s+j]?).bind fun d=>if d.aK then some d else none)else none
  |_=>none
def SH(n s j m:Nat)(ds:List D):Option D:=match ds with
  | [.agg xs, .v (.int _ i),v]=>if 0≤i∧i<n∧j+m≤s∧n*s≤xs.length∧v.cells.length=m∧v.cells.all D.gE=true∧v.cells.all D.aN=true∧xs.all D.aN=true then some (.agg (putAt xs (i.toNat*s+j) v.cells))else none
  |_=>none
def LB(G:FP)(k f sz:Nat)(ds:List D):Option D:=if(ds.set k .nil).all D.aK=true∧f<1000000 then(match ds[k]? with
  |some (.list es)=>(G (1000000+(1000000*k+f)) ds).bind fun r=>match r with
   | .tup [d, .list es']=>if d.aK=true∧es'.length=es.length∧bj sz es'=true then some (.tup [d, .list es'])else none
   |_=>none
  |_=>none)else none
def YK(ds:List D):Option D:=match ds with
  | [.list es, .v (.int _ k)]=>if 0≤k∧k≤es.length then some (.list (es.drop k.toNat))else none
  |_=>none
def YJ(zero:List D)(ds:List D):Option D:=match ds with
  | [.list es, .v (.int _ k)]=>if 0≤k∧k≤es.length then some (.list (es.take k.toNat++List.replicate (es.length-k.toNat) zero))else none
  |_=>none
def YG(ds:List D):Option D:=match ds with
  | [.v (.int _ a), .v (.int q b)]=>if 0≤a∧0≤b then some (.v (.int q (a+b)))else none
  |_=>none
def YL(ds:List D):Option D:=match ds with
  | [.list rows]=>(aB rows).bind fun es=>if es.all (fun p=>p.1.aK&&p.2.aK)then some (.fm rows)else none
  |_=>none
def SE(ks:List Nat)(sz:Nat)(ds:List D):Option D:=match ds with
  | [.list rows,k,b]=>(aB rows).bind fun es=>(l8 b).bind fun b=>(Dq ks sz es k b).map fun es=> .list (aG es)
  |_=>none
def YR(ds:List D):Option D:=match ds with
  | [d]=>some d
  |_=>none
def YO(ds:List D):Option D:=some (.list (ds.map fun d=> [d]))
def YM(f n:Nat)(ds:List D):Option D:=match ds with
  | [.clo g xs]=>if g=f∧xs.length=n then some (.tup [])else none
  |_=>none
def SB(f i n:Nat)(ds:List D):Option D:=match ds with
  | [.clo g xs]=>if g=f∧xs.length=n then(xs[i]?).bind fun d=>if d.aK then some d else none else none
  |_=>none
def B3(G:FP):XK→List D→Option D
 | .pk k=>eY k
 | .call fl f=>CD G fl f
 | .ccall fl=>LA G fl
 | .agg=>I9
 | .tup=>YS
 | .clo f=>YI f
 | .lptr=>SD
 | .cell j n=>yA j n
 | .eV=>YQ
 | .gv w=>I' w
 | .aj=>uI
 | .aO=>yC
 | .app size=>YH size
 | .lit size len zero places=>YN size len zero places
 | .mks size zero=>YP size zero
 | .setl size j n=>SI size j n
 | .take=>qk
 | .mget ks z ok=>yB ks z ok
 | .mset ks=>mA ks
 | .mix ks=>XK.run G (.mix ks)
 | .pm q ks a b=>EZ q ks a b
 | .rngi n=>SG n
 | .geta n s j m g=>SC n s j m g
 | .seta n s j m=>SH n s j m
 | .ecall k f sz=>LB G k f sz
 | .drp=>YK
 | .clr zero=>YJ zero
 | .adn=>YG
 | .fmk=>YL
 | .mapp ks sz=>SE ks sz
 | .own=>YR
 | .mkl=>YO
 | .isc f n=>YM f n
 | .capc f i n=>SB f i n
theorem KR(G:FP)(k:XK)(ds:List D):B3 G k ds=k.run G ds:=by cases k<;>rfl
def nth(l:List D)(i:Nat):Option D:= @Nat.rec (fun _=>List D→Option D) (fun l=>l.casesOn none fun a _=>some a) (fun _ ih l=>l.casesOn none fun _ r=>ih r) i l
theorem nS: ∀(i:Nat) (l:List D),nth l i=l[i]?
 |0,[]=>rfl
 |0,_::_=>rfl
 |_+1,[]=>rfl
 |i+1,_::r=>nS i r
def zk(G:FP)(x:X):List D→Option D:=
 @X.rec (fun _=>List D→Option D) (fun _=>List D→Option (List D)) (fun i E=>nth E i) (fun d _=>some d) (fun k _ ih E=>(ih E).bind (B3 G k))
  (fun _ _ _ hc ha hb E=>(hc E).bind fun v=>v.asBool.bind fun x=>bif x then ha E else hb E) (fun _=>some []) (fun _ _ hx hr E=>(hx E).bind fun d=>(hr E).bind fun ds=>some (d::ds)) x
def lG(G:FP)(xs:List X):List D→Option (List D):=
 @X.rec_1 (fun _=>List D→Option D) (fun _=>List D→Option (List D)) (fun i E=>nth E i) (fun d _=>some d) (fun k _ ih E=>(ih E).bind (B3 G k))
  (fun _ _ _ hc ha hb E=>(hc E).bind fun v=>v.asBool.bind fun x=>bif x then ha E else hb E) (fun _=>some []) (fun _ _ hx hr E=>(hx E).bind fun d=>(hr E).bind fun ds=>some (d::ds)) xs
mutual
theorem nK(G:FP)(E:List D): ∀(x:X),zk G x E=X.ev G E x
 | .t i=>nS i E
 | .q _=>rfl
 | .mk k xs=>by
  show(lG G xs E).bind (B3 G k)=_;rw[mH G E xs];simp only[X.ev];congr 1;funext ds;exact KR G k ds
 | .ite c a b=>by
  show(zk G c E).bind _=_;rw[nK G E c];simp only[X.ev];congr 1;funext v;congr 1;funext x;cases x
  ·exact nK G E b
  ·exact nK G E a
theorem mH(G:FP)(E:List D): ∀(xs:List X),lG G xs E=X.bh G E xs
 | []=>rfl
 |x::r=>by
  show(zk G x E).bind (fun d=>(lG G r E).bind fun ds=>some (d::ds))=_;rw[nK G E x,mH G E r];simp only[X.bh];congr 1;funext d;cases X.bh G E r<;>rfl
end
def pc(G:FP)(N:Nat)(t:FT):List (List D→Option D)→List D→Option D:=
 @FT.rec (fun _=>List (List D→Option D)→List D→Option D)
  (fun x _ E=>(zk G x E).bind fun d=>bif d.aK then some (eR x d)else none)
  (fun xs _ ih L E=>(lG G xs E).bind fun _=>ih L E)
  (fun xs _ ih L E=>(lG G xs E).bind fun ds=>ih L (E++ds))
  (fun c _ _ ha hb L E=>(zk G c E).bind fun v=>v.asBool.bind fun x=>bif x then ha L E else hb L E)
  (fun xs _ ih L E=>(lG G xs E).bind fun ds=>iter (fun rec vs=>ih (rec::L) (E++vs)) N ds)
  (fun j xs L E=>(lG G xs E).bind fun ds=>(L[j]?).bind fun f=>f ds)
  (fun _ _ hk hb L E=>hb ((fun vs=>hk L (E++vs))::L) E)
  (fun x _ _ ha hb L E=>(zk G x E).bind (qV (ha L E) fun s=>hb L (E++ [s])))
  (fun _ _ _=>none) (fun _ _ _ _=>none) t
theorem Bg(G:FP)(N:Nat): ∀(t:FT) (L:List (List D→Option D)) (E:List D),pc G N t L E=aa G N t L E:=by
 intro t
 induction t with
 |ret x=>
  intro L E;show(zk G x E).bind _=_;rw[nK];simp only[aa]
  grind
 |bm xs k ih=>
  intro L E;show(lG G xs E).bind (fun _=>pc G N k L E)=_;simp only[mH,ih,aa]
 |lets xs k ih=>
  intro L E;show(lG G xs E).bind (fun ds=>pc G N k L (E++ds))=_;simp only[mH,ih,aa]
 |ite c a b iha ihb=>
  intro L E;show(zk G c E).bind (fun v=>v.asBool.bind fun x=>bif x then pc G N a L E else pc G N b L E)=_;simp only[nK,iha,ihb,aa]
 |loop xs k ih=>
  intro L E;show(lG G xs E).bind (fun ds=>iter (fun rec vs=>pc G N k (rec::L) (E++vs)) N ds)=_;simp only[mH,ih,aa]
 |next j xs=>
  intro L E;show(lG G xs E).bind _=_;simp only[mH,aa]
 |jp k b ihk ihb=>
  intro L E;show pc G N b ((fun vs=>pc G N k L (E++vs))::L) E=_;simp only[ihk,ihb,aa]
 |any x a b iha ihb=>
  intro L E;show(zk G x E).bind (qV (pc G N a L E) fun s=>pc G N b L (E++ [s]))=_;simp only[nK,iha,ihb,aa]
 |st Y=>intro L E;rfl
 |bad w Y=>intro L E;rfl
def JH(T:Nat→Option (Nat×FT))(H:FP)(N k:Nat):FP:=
 @Nat.rec (fun _=>FP) (fun _ _=>none) (fun _ ih f ds=>(H f ds).casesOn ((T f).bind fun q=>bif Nat.beq ds.length q.1&&ds.all D.aK&&Nat.blt f 1000000 then pc ih N q.2 [] ds else none) some) k
end
section
def dR:FT→FT→Bool
 | .ret x, .ret y=>cZ x y
 | .bm xs k, .bm ys l=>oa xs ys&&dR k l
 | .lets xs k, .lets ys l=>oa xs ys&&dR k l
 | .ite c a b, .ite c' a' b'=>cZ c c'&&(dR a a'&&dR b b')
 | .loop xs k, .loop ys l=>oa xs ys&&dR k l
 | .next i xs, .next j ys=>Nat.beq i j&&oa xs ys
 | .jp a b, .jp a' b'=>dR a a'&&dR b b'
 | .any c a b, .any c' a' b'=>cZ c c'&&(dR a a'&&dR b b')
 | .bad w none, .bad w' none=>Nat.beq w w'
 |_,_=>false
theorem eu: ∀(a b:FT),dR a b=true→a=b
 | .ret x,b,h=>by cases b<;>simp[dR]at h;rw[aF _ _ h]
 | .bm xs k,b,h=>by cases b<;>simp[dR]at h;rw[jU _ _ h.1,eu _ _ h.2]
 | .lets xs k,b,h=>by cases b<;>simp[dR]at h;rw[jU _ _ h.1,eu _ _ h.2]
 | .ite c x y,b,h=>by cases b<;>simp[dR]at h;rw[aF _ _ h.1,eu _ _ h.2.1,eu _ _ h.2.2]
 | .loop xs k,b,h=>by cases b<;>simp[dR]at h;rw[jU _ _ h.1,eu _ _ h.2]
 | .next i xs,b,h=>by cases b<;>simp[dR]at h;rw[h.1,jU _ _ h.2]
 | .jp x y,b,h=>by cases b<;>simp[dR]at h;rw[eu _ _ h.1,eu _ _ h.2]
 | .any c x y,b,h=>by cases b<;>simp[dR]at h;rw[aF _ _ h.1,eu _ _ h.2.1,eu _ _ h.2.2]
 | .st Y,b,h=>by cases b<;>simp[dR]at h
 | .bad w o,b,h=>by
  cases o with
  |some Y=>cases b<;>simp[dR]at h
  |none=>
   cases b with
   |bad w' o'=>
    cases o' with
    |some Y=>simp[dR]at h
    |none=>simp[dR]at h;rw[h]
   |_=>simp[dR]at h
def okF(C:Cx)(f n:Nat)(t:FT):Bool:=match lW C f with
 |some q=>Nat.beq q.1 n&&dR (cse (Jv q.1) q.2) t
 |none=>false
def a_(C:Cx)(f n:Nat)(t:FT):Prop:= ∃t0,lW C f=some (n,t0)∧cse (Jv n) t0=t
theorem okF_eq{C:Cx}{f n:Nat}{t:FT}(h:okF C f n t=true):a_ C f n t:=by
 unfold okF at h;split at h
 ·rename_i q hq;obtain⟨m,t0⟩:=q;simp only[Az]at h;obtain rfl:=Nat.eq_of_beq_eq_true h.1;exact⟨t0,hq,eu _ _ h.2⟩
 ·cases h
inductive Tr where
 |no
 |lf (f n:Nat) (t:FT)
 |nd (m:Nat) (a b:Tr)
noncomputable def Tr.get(r:Tr)(f:Nat):Option (Nat×FT):=
 @Tr.rec (fun _=>Option (Nat×FT)) none (fun g n t=>bif Nat.beq f g then some (n,t)else none) (fun m _ _ a b=>bif Nat.blt f m then a else b) r
def Tr.OI(C:Cx):Tr→Prop
 | .no=>True
 | .lf f n t=>a_ C f n t
 | .nd _ a b=>a.OI C∧b.OI C
theorem Tr.Bo{C:Cx}{f n:Nat}{t:FT}: ∀{r:Tr},r.OI C→r.get f=some (n,t)→a_ C f n t
 | .no,_,h=>by cases h
 | .lf g m u,ha,h=>by
  have h:(bif Nat.beq f g then some (m,u)else none)=some (n,t):=h;cases hb:Nat.beq f g with
  |true=>rw[hb]at h;cases h;rw[Nat.eq_of_beq_eq_true hb];exact ha
  |false=>rw[hb]at h;cases h
 | .nd m a b,ha,h=>by
  have h:(bif Nat.blt f m then a.get f else b.get f)=some (n,t):=h;cases hb:Nat.blt f m with
  |true=>rw[hb]at h;exact Bo ha.1 h
  |false=>rw[hb]at h;exact Bo ha.2 h
theorem Be{C:Cx}{H:FP}{N:Nat}{r:Tr}(hr:r.OI C): ∀(k f:Nat) (ds:List D) (d:D),JH r.get H N k f ds=some d→Gs C H N k f ds=some d
 |0,f,ds,d,h=>by cases h
 |k+1,f,ds,d,h=>by
  show(H f ds).or _=some d;cases hh:H f ds with
  |some d0=>
   have h:(H f ds).casesOn ((r.get f).bind fun q=>bif Nat.beq ds.length q.1&&ds.all D.aK&&Nat.blt f 1000000 then pc (JH r.get H N k) N q.2 [] ds else none) some=some d:=h;rw[hh]at h;exact h
  |none=>
   have h:(H f ds).casesOn ((r.get f).bind fun q=>bif Nat.beq ds.length q.1&&ds.all D.aK&&Nat.blt f 1000000 then pc (JH r.get H N k) N q.2 [] ds else none) some=some d:=h;rw[hh]at h;obtain⟨⟨n,t⟩,h1,h2⟩:=Bz.1 (show((r.get f).bind fun q=>bif Nat.beq ds.length q.1&&ds.all D.aK&&Nat.blt f 1000000 then pc (JH r.get H N k) N q.2 [] ds else none)=some d from h);cases hc:(Nat.beq ds.length n&&ds.all D.aK&&Nat.blt f 1000000)with
   |false=>rw[hc]at h2;cases h2
   |true=>
    rw[hc]at h2;simp only[Az]at hc;obtain⟨⟨c1,c2⟩,c3⟩:=hc;obtain rfl:=Nat.eq_of_beq_eq_true c1;have c3:f<1000000:=by simpa[Nat.blt_eq]using c3
    obtain⟨t0,k1,k2⟩:=Tr.Bo hr h1;rw[k1,Oz];rw[if_pos ⟨⟨rfl,c2⟩,c3⟩];rw[Bg]at h2;obtain⟨k0,hk⟩:=ib (G:=JH r.get H N k) (Gk:=fun _=>Gs C H N k) (fun f ds d h=>⟨0,fun _ _=>Be hr k f ds d h⟩) (Lk:=fun _=> []) t (fun j f hf=>by simp at hf) h2;exact wZ (q:=(ds.length,t0)) rfl (by rw[←k2]at hk;exact hk k0 (Nat.le_refl _))
structure cV where
 ds:List D
 r:D
abbrev KT:=List (Nat×List cV)
def KT.OK(P:Program)(l:KT):Prop:= ∀p∈l,∀e∈p.2,p.1<1000000∧Tk P p.1 e.ds e.r
theorem KT.OK.append{P:Program}{l m:KT}(h:l.OK P)(k:m.OK P):KT.OK P (l++m):=fun p hp=>(List.mem_append.1 hp).elim (h p) (k p)
end
noncomputable section
def ft{α β:Type}(o:Option α)(f:α→Option β):Option β:= @Option.rec α (fun _=>Option β) none f o
theorem b8{α β:Type}(o:Option α)(f:α→Option β):ft o f=o.bind f:=by cases o<;>rfl
def b6{α:Type}(b:Bool)(x y:α):α:= @Bool.rec (fun _=>α) y x b
theorem bV{α:Type}(b:Bool)(x y:α):b6 b x y=if b=true then x else y:=by cases b<;>rfl
theorem sX{α:Type}(x y:α):b6 true x y=x:=rfl
theorem EA{α:Type}(x y:α):b6 false x y=y:=rfl
def dV{α:Type}(z:α)(f:Value→α)(d:D):α:= @D.casesOn (fun _=>α) d z f z z (fun _=>z) (fun _=>z) (fun _=>z) (fun _=>z) (fun _ _=>z) (fun _ _ _ _ _=>z) (fun _ _=>z) (fun _ _ _ _=>z) (fun _=>z) z (fun _=>z)
def dList{α:Type}(z:α)(f:List (List D)→α)(d:D):α:= @D.casesOn (fun _=>α) d z (fun _=>z) z z f (fun _=>z) (fun _=>z) (fun _=>z) (fun _ _=>z) (fun _ _ _ _ _=>z) (fun _ _=>z) (fun _ _ _ _=>z) (fun _=>z) z (fun _=>z)
def oc{α:Type}(z:α)(f:List D→α)(d:D):α:= @D.casesOn (fun _=>α) d z (fun _=>z) z z (fun _=>z) f (fun _=>z) (fun _=>z) (fun _ _=>z) (fun _ _ _ _ _=>z) (fun _ _=>z) (fun _ _ _ _=>z) (fun _=>z) z (fun _=>z)
def Ea{α:Type}(z:α)(f:List D→α)(d:D):α:= @D.casesOn (fun _=>α) d z (fun _=>z) z z (fun _=>z) (fun _=>z) f (fun _=>z) (fun _ _=>z) (fun _ _ _ _ _=>z) (fun _ _=>z) (fun _ _ _ _=>z) (fun _=>z) z (fun _=>z)
def vE{α:Type}(z:α)(f:List D→α)(d:D):α:= @D.casesOn (fun _=>α) d z (fun _=>z) z z (fun _=>z) (fun _=>z) (fun _=>z) f (fun _ _=>z) (fun _ _ _ _ _=>z) (fun _ _=>z) (fun _ _ _ _=>z) (fun _=>z) z (fun _=>z)
def vI{α:Type}(z:α)(f:IntKind→Int→α)(v:Value):α:= @Value.casesOn (fun _=>α) v (fun _=>z) f (fun _ _=>z) (fun _ _ _=>z) (fun _=>z) (fun _=>z) (fun _ _ _=>z) (fun _=>z) (fun _=>z) (fun _ _ _=>z) z (fun _ _=>z) z (fun _=>z) (fun _=>z)
def vB{α:Type}(z:α)(f:Bool→α)(v:Value):α:= @Value.casesOn (fun _=>α) v f (fun _ _=>z) (fun _ _=>z) (fun _ _ _=>z) (fun _=>z) (fun _=>z) (fun _ _ _=>z) (fun _=>z) (fun _=>z) (fun _ _ _=>z) z (fun _ _=>z) z (fun _=>z) (fun _=>z)
def gp(p:D→Bool)(l:List D):Bool:= @List.rec D (fun _=>Bool) true (fun a _ ih=>b6 (p a) ih false) l
theorem dZ(p:D→Bool): ∀l,gp p l=l.all p
 | []=>rfl
 |a::r=>by
  show b6 (p a) (gp p r) false=_;rw[dZ p r,List.all_cons];cases p a<;>rfl
def PL(d:D):Bool:= @D.casesOn (fun _=>Bool) d false (fun _=>true) true true (fun _=>true) (fun _=>false) (fun _=>false) (fun _=>true) (fun _ _=>false) (fun _ _ _ _ _=>false) (fun _ _=>false) (fun _ _ _ _=>false) (fun _=>false) true (fun _=>true)
theorem Bj:PL=D.eF:=by funext d;cases d<;>rfl
def LR(d:D):Bool:= @D.casesOn (fun _=>Bool) d false (fun _=>true) true true (fun _=>true) (fun _=>false) (fun _=>false) (fun _=>true) (fun _ xs=>gp PL xs) (fun _ _ _ _ _=>false) (fun _ _=>false) (fun _ _ _ _=>false) (fun _=>false) true (fun _=>true)
theorem xn:LR=D.aN:=by
 funext d;cases d<;>try rfl
 show gp PL _=_;rw[dZ,Bj];rfl
def Z8(d:D):Bool:= @D.casesOn (fun _=>Bool) d false (fun _=>true) true true (fun _=>true) (fun xs=>gp LR xs) (fun _=>false) (fun _=>true) (fun _ xs=>gp PL xs) (fun _ _ _ _ _=>false) (fun _ _=>false) (fun _ _ _ _=>false) (fun _=>false) true (fun _=>true)
theorem PM:Z8=fun d=>match d with
  | .agg ys=>ys.all D.aN
  |d=>d.aN:=by
 funext d;cases d<;>first|rfl|(show gp LR _=_;rw[dZ,xn];done)|(show gp PL _=_;rw[dZ,Bj];rfl)
def fT(d:D):Bool:= @D.casesOn (fun _=>Bool) d false (fun _=>true) true true (fun _=>true) (fun xs=>gp LR xs) (fun xs=>gp Z8 xs) (fun _=>true) (fun _ xs=>gp LR xs) (fun _ _ _ _ _=>false) (fun _ _=>false) (fun _ _ _ _=>false) (fun _=>false) true (fun _=>true)
theorem sH:fT=D.aK:=by
 funext d;cases d<;>first|rfl|(show gp LR _=_;rw[dZ,xn];rfl)|(show gp Z8 _=_;rw[dZ,PM];rfl)
def Z7(d:D):Bool:= @D.casesOn (fun _=>Bool) d false (fun _=>true) true true (fun _=>true) (fun _=>false) (fun _=>false) (fun _=>true) (fun _ xs=>gp PL xs) (fun _ _ _ _ _=>false) (fun _ _=>false) (fun _ _ _ _=>false) (fun _=>false) true (fun _=>true)
theorem PJ(d:D):Z7 d=(d.gE&&d.aN):=by
 cases d<;>first|rfl|(show gp PL _=_;rw[dZ,Bj];rfl)
def JK(d:D):Bool:=dV false (fun _=>true) d
theorem Bi:JK=D.bB:=by funext d;cases d<;>rfl
def qZ{α:Type}(l:List α):Nat→Nat:= @List.rec α (fun _=>Nat→Nat) (fun n=>n) (fun _ _ ih n=>ih (Nat.add n 1)) l
theorem ij{α:Type}: ∀(l:List α) (n:Nat),qZ l n=n+l.length
 | [],_=>rfl
 |_::r,n=>by
  show qZ r (n+1)=_;rw[ij r,List.length_cons];omega
def HD(l:List D)(n:Nat):Bool:=Nat.beq (qZ l 0) n
theorem HF(l:List D)(n:Nat):HD l n=decide (l.length=n):=by
 unfold HD;rw[ij,Nat.zero_add];cases h:Nat.beq l.length n with
 |true=>simp[Nat.eq_of_beq_eq_true h]
 |false=>symm;simp only[decide_eq_false_iff_not];intro e;rw[e,Nat.beq_refl]at h;cases h
def PO{α:Type}(n:Nat)(f:Nat→α):α:= @Nat.casesOn (fun _=>α) n (f 0) fun m=>f (Nat.succ m)
theorem pG{α:Type}(n:Nat)(f:Nat→α):PO n f=f n:=by cases n<;>rfl
def fcI{α:Type}(z:Int)(f:Int→α):α:= @Int.casesOn (fun _=>α) z (fun n=>PO n fun n=>f (Int.ofNat n)) fun n=>PO n fun n=>f (Int.negSucc n)
theorem PN{α:Type}(z:Int)(f:Int→α):fcI z f=f z:=by
 cases z with
 |ofNat n=>exact pG n fun n=>f (Int.ofNat n)
 |negSucc n=>exact pG n fun n=>f (Int.negSucc n)
def uW(m n:Nat):Int:=b6 (Nat.ble n m) (Int.ofNat (Nat.sub m n)) (Int.negSucc (Nat.sub (Nat.sub n m) 1))
theorem rH(m n:Nat):uW m n=(m:Int)-n:=by
 unfold uW;cases h:Nat.ble n m with
 |true=>
  have h:=Nat.le_of_ble_eq_true h;show((m-n:Nat):Int)=_;omega
 |false=>
  have h: ¬n≤m:=fun e=>by rw[Nat.ble_eq_true_of_le e]at h;cases h
  show Int.negSucc (n-m-1)=_;omega
def Tl(a b:Int):Int:= @Int.casesOn (fun _=>Int) a (fun m=> @Int.casesOn (fun _=>Int) b (fun n=>Int.ofNat (Nat.add m n)) fun n=>uW m (Nat.succ n)) fun m=> @Int.casesOn (fun _=>Int) b (fun n=>uW n (Nat.succ m)) fun n=>Int.negSucc (Nat.succ (Nat.add m n))
theorem Ji(a b:Int):Tl a b=a+b:=by
 cases a<;>cases b<;>rename_i m n
 ·rfl
 ·show uW _ _=_;rw[rH,Int.ofNat_eq_natCast];omega
 ·show uW _ _=_;rw[rH,Int.ofNat_eq_natCast];omega
 ·rfl
def XG(a b:Int):Int:= @Int.casesOn (fun _=>Int) a (fun m=> @Int.casesOn (fun _=>Int) b (fun n=>uW m n) fun n=>Int.ofNat (Nat.add m (Nat.succ n))) fun m=> @Int.casesOn (fun _=>Int) b (fun n=>Int.negSucc (Nat.add m n)) fun n=>uW n m
theorem K6(a b:Int):XG a b=a-b:=by
 cases a<;>cases b
 ·show uW _ _=_;rw[rH];rfl
 ·rename_i m n;show((m+(n+1):Nat):Int)=(m:Int)-Int.negSucc n;omega
 ·rename_i m n;show Int.negSucc (m+n)=Int.negSucc m-(n:Int);omega
 ·rename_i m n;show uW _ _=_;rw[rH];omega
def SX(a b:Int):Bool:= @Int.casesOn (fun _=>Bool) a (fun m=> @Int.casesOn (fun _=>Bool) b (fun n=>Nat.blt m n) fun _=>false) fun m=> @Int.casesOn (fun _=>Bool) b (fun _=>true) fun n=>Nat.blt n m
theorem QP(a b:Int):SX a b=decide (a<b):=by
 cases a<;>cases b<;>rename_i m n
 ·show Nat.blt m n=_;rw[Bool.eq_iff_iff];simp[Nat.blt_eq]
 ·symm;show decide ((m:Int)<Int.negSucc n)=false;simp only[decide_eq_false_iff_not];omega
 ·symm;show decide (Int.negSucc m<(n:Int))=true;simp only[decide_eq_true_eq];omega
 ·show Nat.blt n m=_;rw[Bool.eq_iff_iff,Nat.blt_eq,decide_eq_true_eq];omega
def TF(a b:Int):Bool:= @Int.casesOn (fun _=>Bool) a (fun m=> @Int.casesOn (fun _=>Bool) b (fun n=>Nat.beq m n) fun _=>false) fun m=> @Int.casesOn (fun _=>Bool) b (fun _=>false) fun n=>Nat.beq m n
theorem EU(m n:Nat):Nat.beq m n=decide (m=n):=by
 cases h:Nat.beq m n with
 |true=>simp[Nat.eq_of_beq_eq_true h]
 |false=>symm;simp only[decide_eq_false_iff_not];intro e;rw[e,Nat.beq_refl]at h;cases h
theorem Bd(a b:Int):TF a b=(a==b):=by
 cases a<;>cases b<;>rename_i m n
 ·show Nat.beq m n=_;rw[Bool.eq_iff_iff];simp;omega
 ·rfl
 ·rfl
 ·show Nat.beq m n=_;rw[Bool.eq_iff_iff];simp
def Za(k:IntKind):Nat:= @IntKind.casesOn (fun _=>Nat) k 128 32768 2147483648 9223372036854775808 256 65536 4294967296 18446744073709551616
def Zh(k:IntKind):Nat:= @IntKind.casesOn (fun _=>Nat) k 128 32768 2147483648 9223372036854775808 0 0 0 0
def I7(k:IntKind)(z:Int):Int:= @Int.casesOn (fun _=>Int) z (fun n=>b6 (Nat.blt n (Za k)) (Int.ofNat n) (k.wrap (Int.ofNat n))) fun n=>b6 (Nat.blt n (Zh k)) (Int.negSucc n) (k.wrap (Int.negSucc n))
theorem mV(k:IntKind)(z:Int)(h1: -(Zh k:Int)≤z)(h2:z<(Za k:Int)):k.wrap z=z:=by
 cases k
 case i8=>replace h1: -(128:Int)≤z:=h1;replace h2:z<(128:Int):=h2;simp only[IntKind.wrap,IntKind.bits,IntKind.signed,Bool.true_and];split<;>rename_i h<;>simp at h<;>omega
 case i16=>replace h1: -(32768:Int)≤z:=h1;replace h2:z<(32768:Int):=h2;simp only[IntKind.wrap,IntKind.bits,IntKind.signed,Bool.true_and];split<;>rename_i h<;>simp at h<;>omega
 case i32=>replace h1: -(2147483648:Int)≤z:=h1;replace h2:z<(2147483648:Int):=h2;simp only[IntKind.wrap,IntKind.bits,IntKind.signed,Bool.true_and];split<;>rename_i h<;>simp at h<;>omega
 case i64=>replace h1: -(9223372036854775808:Int)≤z:=h1;replace h2:z<(9223372036854775808:Int):=h2;simp only[IntKind.wrap,IntKind.bits,IntKind.signed,Bool.true_and];split<;>rename_i h<;>simp at h<;>omega
 case u8=>replace h1: -(0:Int)≤z:=h1;replace h2:z<(256:Int):=h2;simp[IntKind.wrap,IntKind.bits,IntKind.signed];omega
 case u16=>replace h1: -(0:Int)≤z:=h1;replace h2:z<(65536:Int):=h2;simp[IntKind.wrap,IntKind.bits,IntKind.signed];omega
 case u32=>replace h1: -(0:Int)≤z:=h1;replace h2:z<(4294967296:Int):=h2;simp[IntKind.wrap,IntKind.bits,IntKind.signed];omega
 case u64=>replace h1: -(0:Int)≤z:=h1;replace h2:z<(18446744073709551616:Int):=h2;simp[IntKind.wrap,IntKind.bits,IntKind.signed];omega
theorem I8(k:IntKind)(z:Int):I7 k z=k.wrap z:=by
 cases z with
 |ofNat n=>
  show b6 (Nat.blt n (Za k)) (Int.ofNat n) (k.wrap (Int.ofNat n))=_;cases h:Nat.blt n (Za k)with
  |false=>rfl
  |true=>
   rw[Nat.blt_eq]at h;rw[sX,mV k _ (by rw[Int.ofNat_eq_natCast];omega) (by rw[Int.ofNat_eq_natCast];omega)]
 |negSucc n=>
  show b6 (Nat.blt n (Zh k)) (Int.negSucc n) (k.wrap (Int.negSucc n))=_;cases h:Nat.blt n (Zh k)with
  |false=>rfl
  |true=>
   rw[Nat.blt_eq]at h;rw[sX,mV k _ (by omega) (by omega)]
def U3(k:IntKind):Nat:= @IntKind.casesOn (fun _=>Nat) k 0 1 2 3 4 5 6 7
def JF(k k':IntKind):Bool:=Nat.beq (U3 k) (U3 k')
theorem C3(k k':IntKind):JF k k'=decide (k=k'):=by cases k<;>cases k'<;>rfl
end
noncomputable section
def uX(z:Option D)(f:D→Option D)(ds:List D):Option D:=ds.casesOn z fun a r=>r.casesOn (f a) fun _ _=>z
def Ab(z:Option D)(f:D→D→Option D)(ds:List D):Option D:=ds.casesOn z fun a r=>r.casesOn z fun b s=>s.casesOn (f a b) fun _ _=>z
theorem ir{z:Option D}{f:D→Option D}{ds:List D}(h: ∀a,ds= [a]→f a=z):uX z f ds=z:=by
 rcases ds with _|⟨a,_|⟨b,r⟩⟩
 ·rfl
 ·exact h a rfl
 ·rfl
theorem mP{z:Option D}{f:D→D→Option D}{ds:List D}(h: ∀a b,ds= [a,b]→f a b=z):Ab z f ds=z:=by
 rcases ds with _|⟨a,_|⟨b,_|⟨c,r⟩⟩⟩
 ·rfl
 ·rfl
 ·exact h a b rfl
 ·rfl
theorem qu{α:Type}{z:α}{f:Value→α}{d:D}(h: ∀v,d= .v v→f v=z):dV z f d=z:=by cases d<;>first|rfl|exact h _ rfl
theorem lZ{α:Type}{z:α}{f:List (List D)→α}{d:D}(h: ∀v,d= .list v→f v=z):dList z f d=z:=by cases d<;>first|rfl|exact h _ rfl
theorem rz{α:Type}{z:α}{f:List D→α}{d:D}(h: ∀v,d= .agg v→f v=z):oc z f d=z:=by cases d<;>first|rfl|exact h _ rfl
theorem Jy{α:Type}{z:α}{f:List D→α}{d:D}(h: ∀v,d= .tup v→f v=z):Ea z f d=z:=by cases d<;>first|rfl|exact h _ rfl
theorem y8{α:Type}{z:α}{f:List D→α}{d:D}(h: ∀v,d= .lptr v→f v=z):vE z f d=z:=by cases d<;>first|rfl|exact h _ rfl
theorem qR{α:Type}{z:α}{f:IntKind→Int→α}{v:Value}(h: ∀k n,v= .int k n→f k n=z):vI z f v=z:=by cases v<;>first|rfl|exact h _ _ rfl
theorem OC{α:Type}{z:α}{f:Bool→α}{v:Value}(h: ∀b,v= .bool b→f b=z):vB z f v=z:=by cases v<;>first|rfl|exact h _ rfl
def wC{α:Type}(p:α→Bool)(n:Nat):List α→(List α→Option D)→Option D:= @Nat.rec (fun _=>List α→(List α→Option D)→Option D) (fun _ f=>f []) (fun _ ih l f=>l.casesOn none fun a r=>b6 (p a) (ih r fun t=>f (a::t)) none) n
theorem ur{α:Type}(p:α→Bool): ∀(n:Nat) (l:List α) (f:List α→Option D),wC p n l f=if n≤l.length∧(l.take n).all p=true then f (l.take n)else none
 |0,l,f=>by show f []=_;simp
 |n+1,[],f=>by simp[wC]
 |n+1,a::r,f=>by
  show b6 (p a) (wC p n r fun t=>f (a::t)) none=_;rw[ur p n r,bV];simp only[List.length_cons,List.take_succ_cons,List.all_cons,Az,Nat.add_le_add_iff_right];cases p a<;>simp
def Gj(n:Nat):List D→(List D→Option D)→Option D:= @Nat.rec (fun _=>List D→(List D→Option D)→Option D) (fun l f=>f l) (fun _ ih l f=>l.casesOn (f []) fun _ r=>ih r f) n
theorem zf: ∀(n:Nat) (l:List D) (f:List D→Option D),Gj n l f=f (l.drop n)
 |0,_,_=>rfl
 |n+1,[],f=>rfl
 |n+1,a::r,f=>by
  show Gj n r f=_;rw[zf n r,List.drop_succ_cons]
theorem xF{α:Type}: ∀(i:Nat) (l:List α),BT i l=l[i]?
 |0,[]=>rfl
 |0,_::_=>rfl
 |_+1,[]=>rfl
 |i+1,_::r=>xF i r
def Zp(n:Nat)(l:List D):Nat→Bool:= @List.rec D (fun _=>Nat→Bool) (fun m=>Nat.beq m n) (fun a _ ih m=>b6 (Z7 a) (ih (Nat.add m 1)) false) l
theorem H0(n:Nat): ∀(l:List D) (m:Nat),Zp n l m=(decide (m+l.length=n)&&(l.all D.gE&&l.all D.aN))
 | [],m=>by show Nat.beq m n=_;rw[EU];simp
 |a::r,m=>by
  show b6 (Z7 a) (Zp n r (m+1)) false=_;rw[H0 n r,PJ,List.length_cons,List.all_cons,List.all_cons,show m+1+r.length=m+(r.length+1) by omega];cases a.gE<;>cases a.aN<;>simp[b6]
def sB(b:Bool):Option D:=b6 b (some (bv true)) (some (bv false))
theorem MS(b:Bool):sB b=some (bv b):=by cases b<;>rfl
def sI(k:IntKind)(z:Int):Option D:=fcI z fun z=>some (.v (.int k z))
theorem Xy(k:IntKind)(z:Int):sI k z=some (.v (.int k z)):=PN _ _
def Zb(op:BinOp):IntKind→Int→Int→Option D:=match op with
 | .add=>fun k a b=>sI k (I7 k (Tl a b))
 | .sub=>fun k a b=>sI k (I7 k (XG a b))
 | .eql=>fun _ a b=>sB (TF a b)
 | .neq=>fun _ a b=>sB (not (TF a b))
 | .lss=>fun _ a b=>sB (SX a b)
 | .leq=>fun _ a b=>sB (not (SX b a))
 | .gtr=>fun _ a b=>sB (SX b a)
 | .geq=>fun _ a b=>sB (not (SX a b))
 |op=>fun k a b=>cN op k a b
theorem Qg(op:BinOp)(k:IntKind)(a b:Int):Zb op k a b=cN op k a b:=by
 cases op<;>try rfl
 all_goals simp only[Zb,cN,MS,Xy,I8,Ji,K6,Bd,QP]
 ·rfl
 ·congr 2;simp[←Bool.decide_eq_false,Int.not_lt]
 ·congr 2;simp[←Bool.decide_eq_false,Int.not_lt]
theorem Ex{op:BinOp}{k:IntKind}{a b:Int}{d:D}(h:cN op k a b=some d):d.aK=true:=by
 unfold cN at h;split at h<;>first|(cases h;rfl)|(split at h<;>cases h;rfl)|cases h
def kb2(op:BinOp)(k:IntKind)(a:Int)(k':IntKind)(b:Int):Option D:=b6 (JF k k') (Zb op k a b) none
def kb1(z:Option D)(op:BinOp)(y:D)(k:IntKind)(a:Int):Option D:=dV z (vI z (kb2 op k a)) y
def Mg(op:BinOp)(ds:List D):Option D:=Ab (eY (.ibin op) ds) (fun x y=>dV (eY (.ibin op) ds) (vI (eY (.ibin op) ds) (kb1 (eY (.ibin op) ds) op y)) x) ds
theorem Hi(op:BinOp):Mg op=eY (.ibin op):=funext fun ds=>mP fun x y e=>qu fun v ev=>qR fun k a ea=>qu fun w ew=>qR fun k' b eb=>by
 subst e ev ea ew eb;show b6 (JF k k') (Zb op k a b) none=(if k=k' then cN op k a b else none).bind fun d=>if d.aK then some d else none
 rw[C3,bV,Qg];by_cases h:k=k'
 ·rw[if_pos h,if_pos (by simp[h])];cases hb:cN op k a b with
  |none=>rfl
  |some d=>rw[Oz,if_pos (Ex hb)]
 ·rw[if_neg h,if_neg (by simp[h])];rfl
def Ml(ds:List D):Option D:=uX (eY .llen ds) (dList (eY .llen ds) fun es=>PO (qZ es 0) fun n=>some (.v (.int .i64 (Int.ofNat n)))) ds
theorem Hn:Ml=eY .llen:=funext fun ds=>ir fun d e=>lZ fun es ee=>by
 subst e ee;rw[pG,ij,Nat.zero_add];rfl
def U0(n:Nat)(xs:List D):Option D:=b6 (Nat.ble n (qZ xs 0)) (ft (nth xs 0) fun d=>b6 (fT d) (some d) none) none
def Ho(n:Nat)(g:Bool)(ds:List D):Option D:=uX (eY (.load n g) ds) (vE (eY (.load n g) ds) fun xs=>b6 g (wC LR n xs fun l=>some (.agg l)) (U0 n xs)) ds
theorem EG(n:Nat)(g:Bool):Ho n g=eY (.load n g):=funext fun ds=>ir fun d e=>y8 fun xs ee=>by
 subst e ee;show _=(if n≤xs.length then(if g then some (.agg (xs.take n))else xs[0]?)else none).bind fun d=>if d.aK then some d else none
 cases g with
 |true=>
  rw[sX,ur,xn];by_cases h1:n≤xs.length
  ·rw[if_pos h1];show _=if(xs.take n).all D.aN=true then _ else none
   by_cases h2:(xs.take n).all D.aN=true
   ·rw[if_pos ⟨h1,h2⟩,if_pos h2]
   ·rw[if_neg (fun c=>h2 c.2),if_neg h2]
  ·rw[if_neg h1,if_neg (fun c=>h1 c.1)];rfl
 |false=>
  rw[EA];unfold U0;rw[ij,Nat.zero_add,nS,b8,bV,sH];by_cases h1:n≤xs.length
  ·rw[if_pos (Nat.ble_eq_true_of_le h1),if_pos h1];congr 1;funext d;rw[bV]
  ·rw[if_neg h1,if_neg (fun c=>h1 (Nat.le_of_ble_eq_true c))];rfl
def ki1(size:Nat)(c:List D):Option D:=b6 (HD c size) (some (.lptr c)) none
def ki2(es:List (List D))(size:Nat)(i:Int):Option D:= @Int.casesOn (fun _=>Option D) i (fun n=>ft (BT n es) (ki1 size)) fun _=>none
def ki3(z:Option D)(size:Nat)(b:D)(es:List (List D)):Option D:=dV z (vI z fun _ i=>ki2 es size i) b
def Mj(e size:Nat)(ds:List D):Option D:=Ab (eY (.idx e size) ds) (fun a b=>dList (eY (.idx e size) ds) (ki3 (eY (.idx e size) ds) size b) a) ds
theorem Hm(e size:Nat):Mj e size=eY (.idx e size):=funext fun ds=>mP fun a b e1=>lZ fun es e2=>qu fun v e3=>qR fun k i e4=>by
 subst e1 e2 e3 e4;show ki2 es size i=(if i<0 then none else(es[i.toNat]?).bind fun c=>if c.length=size then some (D.lptr c)else none).bind fun d=>if d.aK then some d else none
 cases i with
 |ofNat n=>
  show ft (BT n es) (ki1 size)=_;rw[if_neg (by rw[Int.ofNat_eq_natCast];omega),b8,xF];show _=((es[n]?).bind _).bind _;cases es[n]? with
  |none=>rfl
  |some c=>
   rw[Oz,Oz];unfold ki1;rw[HF,bV];by_cases h:c.length=size
   ·rw[if_pos h,if_pos (by simp[h])];rfl
   ·rw[if_neg h,if_neg (by simp[h])];rfl
 |negSucc n=>rw[if_pos (by omega)];rfl
def Mi(off:Nat)(ds:List D):Option D:=uX (eY (.fld off) ds) (vE (eY (.fld off) ds) fun xs=>Gj off xs fun l=>some (.lptr l)) ds
theorem Hl(off:Nat):Mi off=eY (.fld off):=funext fun ds=>ir fun d e=>y8 fun xs ee=>by
 subst e ee;rw[zf];rfl
def Mm(ds:List D):Option D:=uX (eY .inot ds) (dV (eY .inot ds) (vB (eY .inot ds) fun b=>sB (not b))) ds
theorem Hr:Mm=eY .inot:=funext fun ds=>ir fun d e=>qu fun v e1=>OC fun b e2=>by
 subst e e1 e2;rw[MS];rfl
def Kc(d:D):Option D:=b6 (fT d) (some d) none
def Mh(k:Nat)(ds:List D):Option D:=uX (eY (.ext k) ds) (Ea (eY (.ext k) ds) fun xs=>ft (nth xs k) Kc) ds
theorem Hk(k:Nat):Mh k=eY (.ext k):=funext fun ds=>ir fun d e=>Jy fun xs ee=>by
 subst e ee;rw[b8,nS];show(xs[k]?).bind Kc=(xs[k]?).bind _;congr 1;funext d;unfold Kc;rw[bV,sH]
def lA(n:Nat)(x y:D):Option Bool:=ae [n] [x] [y]
def kq2(z:Option Bool)(n:Nat)(k:IntKind)(a:Int)(k':IntKind)(b:Int):Option Bool:=b6 (Nat.beq n (U3 k)) (b6 (Nat.beq n (U3 k')) (some (TF a b)) z) z
def kq1(z:Option Bool)(n:Nat)(y:D)(k:IntKind)(a:Int):Option Bool:=dV z (vI z (kq2 z n k a)) y
def vA(n:Nat)(x y:D):Option Bool:=dV (lA n x y) (vI (lA n x y) (kq1 (lA n x y) n y)) x
theorem Hz(k:IntKind):U3 k=br k:=by cases k<;>rfl
theorem yQ(n:Nat)(x y:D):vA n x y=lA n x y:=qu fun v e1=>qR fun k a e2=>qu fun w e3=>qR fun k' b e4=>by
 subst e1 e2 e3 e4;unfold kq2;rw[Hz,Hz,EU,EU,bV,bV];by_cases h:n=br k
 ·by_cases h':n=br k'
  ·rw[if_pos (by simp[h]),if_pos (by simpa using h')];show _=if n=br k∧n=br k' then _ else none
   rw[if_pos ⟨h,h'⟩,Bd];simp[ae]
  ·rw[if_pos (by simp[h]),if_neg (by simpa using h')]
 ·rw[if_neg (by simpa using h)]
def Gm(ks:List Nat):List D→List D→Option Bool:= @List.rec Nat (fun _=>List D→List D→Option Bool) (fun xs ys=>xs.casesOn (ys.casesOn (some true) fun _ _=>none) fun _ _=>none)
 (fun n _ ih xs ys=>xs.casesOn none fun x r=>ys.casesOn none fun y s=>ft (vA n x y) fun a=>ft (ih r s) fun b=>some (b6 a b false)) ks
theorem sD(n:Nat)(ks:List Nat)(x:D)(xs:List D)(y:D)(ys:List D):ae (n::ks) (x::xs) (y::ys)=(lA n x y).bind fun a=>(ae ks xs ys).bind fun b=>some (a&&b):=by
 unfold lA;have key:ae [] [] []=some true:=rfl;have a: ∀(a:Bool),((ae ks xs ys).map fun r=>a&&r)=(ae ks xs ys).bind fun b=>some (a&&b):=fun a=>by cases ae ks xs ys<;>rfl
 rw[ae.eq_def (n::ks),ae.eq_def [n]];split
 ·rename_i h _ _;cases h
 ·rename_i n0 ks0 k a0 xs0 k' b0 ys0 h1 h2 h3;cases h1;cases h2;cases h3;simp only[key,Pz,Bool.and_true];split
  ·exact a _
  ·rfl
 ·rename_i h1 h2 h3;cases h1;cases h2;cases h3;simp only[key,Pz,Bool.and_true];exact a _
 ·rename_i h1 h2 h3;cases h1;cases h2;cases h3;simp only[key,Pz,Bool.and_true];exact a _
 ·rename_i h0 h1 h2 h3;split
  ·rename_i h _ _;cases h
  ·rename_i e1 e2 e3;cases e1;cases e2;cases e3;exact(h1 _ _ _ _ _ _ _ _ rfl rfl rfl).elim
  ·rename_i e1 e2 e3;cases e1;cases e2;cases e3;exact(h2 _ _ _ _ _ rfl rfl rfl).elim
  ·rename_i e1 e2 e3;cases e1;cases e2;cases e3;exact(h3 _ _ _ _ _ rfl rfl rfl).elim
  ·rfl
theorem xk: ∀(ks:List Nat) (xs ys:List D),Gm ks xs ys=ae ks xs ys
 | [],[],[]=>rfl
 | [],[],_::_=>by simp[ae];rfl
 | [],_::_,_=>by simp[ae];rfl
 |n::ks,[],_=>by simp[ae];rfl
 |n::ks,x::xs,[]=>by simp[ae];rfl
 |n::ks,x::xs,y::ys=>by
  show ft (vA n x y) (fun a=>ft (Gm ks xs ys) fun b=>some (b6 a b false))=_;rw[sD,b8,yQ,xk ks xs ys];congr 1;funext a;rw[b8];congr 1;funext b;cases a<;>rfl
def kae(neg:Bool)(r:Bool):Option D:=b6 neg (sB (not r)) (sB r)
def Mf(neg:Bool)(ks:List Nat)(ds:List D):Option D:=Ab (eY (.aeq neg ks) ds) (fun a b=>oc (eY (.aeq neg ks) ds) (fun xs=>oc (eY (.aeq neg ks) ds) (fun ys=>ft (Gm ks xs ys) (kae neg)) b) a) ds
theorem Hf(neg:Bool)(ks:List Nat):Mf neg ks=eY (.aeq neg ks):=funext fun ds=>mP fun a b e=>rz fun xs e1=>rz fun ys e2=>by
 subst e e1 e2;rw[b8,xk];show _=((ae ks xs ys).map fun r=>bv (if neg then !r else r)).bind fun d=>if d.aK then some d else none
 cases ae ks xs ys with
 |none=>rfl
 |some r=>cases neg<;>cases r<;>rfl
def pkK(k:PK):List D→Option D:=match k with
 | .ibin op=>Mg op
 | .llen=>Ml
 | .load n g=>Ho n g
 | .idx e s=>Mj e s
 | .fld o=>Mi o
 | .inot=>Mm
 | .ext k=>Mh k
 | .aeq n ks=>Mf n ks
 |k=>eY k
theorem Q'(k:PK):pkK k=eY k:=by
 cases k<;>first|rfl|exact Hi _|exact Hn|exact EG _ _|exact Hm _ _|exact Hl _|exact Hr|exact Hk _|exact Hf _ _
def kce(j n:Nat)(v:Value):Option D:=b6 (Nat.beq n 1) (b6 (Nat.beq j 0) (some (.v v)) none) none
def Hj(j n:Nat)(ds:List D):Option D:=uX (yA j n ds) (fun d=>oc (dV (yA j n ds) (kce j n) d) (fun xs=>b6 (Zp n xs 0) (nth xs j) none) d) ds
theorem EF(j n:Nat):Hj j n=yA j n:=funext fun ds=>ir fun d e=>by
 subst e;cases d<;>try rfl
 ·rename_i v;show kce j n v=if([D.v v].length=n∧ [D.v v].all D.gE=true∧ [D.v v].all D.aN=true)then [D.v v][j]? else none
  unfold kce;rw[EU,bV];by_cases h:n=1
  ·rw[if_pos (by simp[h]),if_pos ⟨by simp[h],rfl,rfl⟩,EU,bV];cases j<;>simp
  ·rw[if_neg (by simp[h]),if_neg (fun c=>h c.1.symm)]
 ·rename_i xs;show b6 (Zp n xs 0) (nth xs j) none=if(xs.length=n∧xs.all D.gE=true∧xs.all D.aN=true)then xs[j]? else none
  rw[H0,bV,nS,Nat.zero_add];by_cases h:xs.length=n<;>cases xs.all D.gE<;>cases xs.all D.aN<;>simp[h]
def UU(w:Bool)(ds:List D):Option D:=uX (I' w ds) (dV (I' w ds) (vB (I' w ds) fun b=>b6 b (sB w) (sB (not w)))) ds
theorem Kb(w:Bool):UU w=I' w:=funext fun ds=>ir fun d e=>qu fun v e1=>OC fun b e2=>by
 subst e e1 e2;cases b<;>cases w<;>rfl
def Mn(ds:List D):Option D:=uX (uI ds) (fun d=>oc (dV (dList (uI ds) (fun _=>some d) d) (fun _=>some d) d) (fun xs=>b6 (gp JK xs) (some d) (uI ds)) d) ds
theorem Hu:Mn=uI:=funext fun ds=>ir fun d e=>by
 subst e;cases d<;>try rfl
 rename_i xs;show b6 (gp JK xs) (some (.agg xs)) (uI [.agg xs])=uI [.agg xs];rw[dZ,Bi,bV];by_cases h:xs.all D.bB=true
 ·rw[if_pos h]
  have hn:(D.agg xs).aK=true:=by
   show xs.all D.aN=true;rw[Tz]at h⊢;intro x hx;have:=h x hx;cases x<;>first|rfl|(simp[D.bB]at this;done)
  show _=if(D.agg xs).aK then bD eh (.agg xs)else none
  rw[if_pos hn];show _=(aS (az eh 6) xs).map D.agg;unfold aS;rw[if_pos h];rfl
 ·rw[if_neg h]
def Ht(ds:List D):Option D:=uX (yC ds) (fun d=>dV (dList (yC ds) (fun _=>some d) d) (fun _=>some d) d) ds
theorem EJ:Ht=yC:=funext fun ds=>ir fun d e=>by
 subst e;cases d<;>rfl
def kt1(es:List (List D))(k:Int):Option D:= @Int.casesOn (fun _=>Option D) k (fun n=>wC (fun _=>true) n es fun l=>some (.list l)) fun _=>none
def Hv(ds:List D):Option D:=Ab (qk ds) (fun a b=>dList (qk ds) (fun es=>dV (qk ds) (vI (qk ds) fun _ i=>kt1 es i) b) a) ds
theorem EK:Hv=qk:=funext fun ds=>mP fun a b e1=>lZ fun es e2=>qu fun v e3=>qR fun k i e4=>by
 subst e1 e2 e3 e4;show kt1 es i=if 0≤i∧i≤es.length then some (D.list (es.take i.toNat))else none
 cases i with
 |ofNat n=>
  show wC (fun _=>true) n es _=_;rw[ur];by_cases h:n≤es.length
  ·rw[if_pos ⟨h,by simp⟩,if_pos ⟨by rw[Int.ofNat_eq_natCast];omega,by rw[Int.ofNat_eq_natCast];omega⟩];rfl
  ·rw[if_neg (fun c=>h c.1),if_neg (fun c=>h (by have:=c.2;rw[Int.ofNat_eq_natCast]at this;omega))]
 |negSucc n=>rw[if_neg (fun c=>by omega)];rfl
def Hg(ds:List D):Option D:=b6 (gp LR ds) (some (.agg ds)) none
theorem Hh:Hg=I9:=funext fun ds=>by
 unfold Hg I9;rw[dZ,xn,bV]
def fFU(d:D):Bool:=oc (JK d) (fun ys=>gp JK ys) d
def fF(d:D):Bool:=oc (Ea (JK d) (fun xs=>gp fFU xs) d) (fun xs=>gp JK xs) d
theorem LQ:fF=D.flat:=by
 funext d;cases d<;>try rfl
 ·show gp JK _=_;rw[dZ,Bi];rfl
 ·rename_i xs;show gp fFU xs=_;rw[dZ];unfold D.flat;congr 1;funext x;cases x<;>try rfl
  show gp JK _=_;rw[dZ,Bi]
def kr2(fl:Bool)(r b:D):Option D:=b6 (b6 fl (b6 (fF b) true (b6 r.eD (fT b) false)) (fT b)) (some b) none
def BF(G:FP)(fl:Bool)(f:Nat)(ds:List D):Option D:=ft (G f ds) fun r=>kr2 fl r r.bare
theorem EE(G:FP)(fl:Bool)(f:Nat):BF G fl f=CD G fl f:=funext fun ds=>by
 unfold BF CD gU;rw[b8];congr 1;funext r;unfold kr2;rw[bV,LQ,sH];cases fl<;>cases r.bare.flat<;>cases r.eD<;>cases r.bare.aK<;>rfl
def jr(ks:List Nat)(x y:D):Option Bool:= @List.casesOn Nat (fun _=>Option Bool) ks none fun n r=>b6 (Nat.beq n 99) (oc (cj (n::r) x y) (fun xs=>oc (cj (n::r) x y) (fun ys=>Gm r xs ys) y) x) (r.casesOn (vA n x y) fun _ _=>none)
theorem ta(ks:List Nat)(x y:D):jr ks x y=cj ks x y:=by
 cases ks with
 |nil=>rfl
 |cons n r=>
  show b6 (Nat.beq n 99) (oc (cj (n::r) x y) (fun xs=>oc (cj (n::r) x y) (fun ys=>Gm r xs ys) y) x) (r.casesOn (vA n x y) fun _ _=>none)=_;rw[EU,bV];by_cases h:n=99
  ·subst h;rw[if_pos (by simp)];exact rz fun xs e1=>rz fun ys e2=>by subst e1 e2;rw[xk];rfl
  ·rw[if_neg (by simpa using h)];cases r with
   |nil=>
    show vA n x y=_;rw[yQ];unfold lA;simp[cj,h]
   |cons m s=>
    show(none:Option Bool)=_;simp[cj,h]
def u0{α:Type}(z:α)(f:D→D→α)(c:List D):α:= @List.casesOn D (fun _=>α) c z fun a r=> @List.casesOn D (fun _=>α) r z fun b s=> @List.casesOn D (fun _=>α) s (f a b) fun _ _=>z
def ky(l:List (List D)):Bool:= @List.rec (List D) (fun _=>Bool) true (fun c _ ih=>u0 false (fun _ _=>ih) c) l
def Bn(ks:List Nat)(k:D)(l:List (List D)):Option (Option D):= @List.rec (List D) (fun _=>Option (Option D)) (some none) (fun c r ih=>u0 none (fun a b=>ft (jr ks k a) fun e=>b6 e (b6 (ky r) (some (some b)) none) ih) c) l
def Au(ks:List Nat)(k v:D)(l:List (List D)):Option (List (List D)):= @List.rec (List D) (fun _=>Option (List (List D))) (some [[k,v]]) (fun c r ih=>u0 none (fun a _=>ft (jr ks k a) fun e=>b6 e (b6 (ky r) (some ([a,v]::r)) none) (ft ih fun t=>some (c::t))) c) l
theorem la{α:Type}{z:α}{f:D→D→α}{c:List D}:(∃a b,c= [a,b]∧u0 z f c=f a b)∨(∀a b,c≠ [a,b])∧u0 z f c=z:=by
 rcases c with _|⟨a,_|⟨b,_|⟨d,s⟩⟩⟩
 ·exact .inr ⟨fun a b h=>by simp at h,rfl⟩
 ·exact .inr ⟨fun a b h=>by simp at h,rfl⟩
 ·exact .inl ⟨a,b,rfl,rfl⟩
 ·exact .inr ⟨fun a b h=>by simp at h,rfl⟩
theorem jc{c:List D}{r:List (List D)}(h: ∀a b,c≠ [a,b]):aB (c::r)=none:=by
 rcases c with _|⟨a,_|⟨b,_|⟨d,s⟩⟩⟩<;>first|rfl|exact absurd rfl (h _ _)
theorem mj: ∀(l:List (List D)),ky l=(aB l).isSome
 | []=>rfl
 |c::r=>by
  show u0 false (fun _ _=>ky r) c=_;rcases la (z:=false) (f:=fun _ _=>ky r) (c:=c)with⟨a,b,rfl,h⟩|⟨h1,h⟩
  ·rw[h,mj r];simp[aB]
  ·rw[h,jc h1];rfl
theorem sK{ks:List Nat}{k:D}: ∀{es:List (D×D)} {j i:Nat},bq ks k es j=some (some i)→j≤i
 | [],_,_,h=>by simp[bq]at h
 |p::r,j,i,h=>by
  simp only[bq,Bz]at h;obtain⟨b,_,h⟩:=h;cases b with
  |true=>simp at h;omega
  |false=>have:=sK (by simpa using h);omega
theorem C9{ks:List Nat}{k:D}: ∀{l:List (List D)} {es:List (D×D)} {j:Nat},aB l=some es→Bn ks k l=(bq ks k es j).bind fun r=>match r with
  |none=>some none
  |some i=>(es[i-j]?).map fun p=>some p.2
 | [],es,j,h=>by cases h;rfl
 |c::r,es,j,h=>by
  show u0 none (fun a b=>ft (jr ks k a) fun e=>b6 e (b6 (ky r) (some (some b)) none) (Bn ks k r)) c=_;rcases la (z:=none) (f:=fun a b=>ft (jr ks k a) fun e=>b6 e (b6 (ky r) (some (some b)) none) (Bn ks k r)) (c:=c)with⟨a,b,rfl,h1⟩|⟨h1,_⟩
  ·rw[h1];obtain⟨es',h2,rfl⟩:=Mz.1 (show(aB r).map ((a,b):: ·)=some es from h);rw[b8,ta,mj,h2];simp only[bq,Option.bind_assoc];congr 1;funext e;cases e with
   |true=>simp[b6]
   |false=>
    rw[bV,if_neg (by simp),if_neg (by simp),C9 (j:=j+1) h2];cases hf:bq ks k es' (j+1)with
    |none=>rfl
    |some o=>
     cases o with
     |none=>rfl
     |some i=>
      have:=sK hf;simp only[Oz];rw[show i-j=(i-(j+1))+1 by omega,List.getElem?_cons_succ]
  ·rw[jc h1]at h;cases h
theorem vL{ks:List Nat}{k:D}: ∀{l:List (List D)},aB l=none→Bn ks k l=none
 | [],h=>by cases h
 |c::r,h=>by
  show u0 none (fun a b=>ft (jr ks k a) fun e=>b6 e (b6 (ky r) (some (some b)) none) (Bn ks k r)) c=_;rcases la (z:=none) (f:=fun a b=>ft (jr ks k a) fun e=>b6 e (b6 (ky r) (some (some b)) none) (Bn ks k r)) (c:=c)with⟨a,b,rfl,h1⟩|⟨_,h1⟩
  ·rw[h1]
   have h2:aB r=none:=by
    cases hr:aB r with
    |none=>rfl
    |some es=>simp[aB,hr]at h
   rw[b8,mj,h2,vL h2];cases jr ks k a with
   |none=>rfl
   |some e=>cases e<;>rfl
  ·exact h1
theorem DQ{ks:List Nat}{k v:D}: ∀{l:List (List D)} {es:List (D×D)} {j:Nat},aB l=some es→Au ks k v l=(bq ks k es j).bind fun r=>match r with
  |none=>some (aG (es++ [(k,v)]))
  |some i=>(es[i-j]?).map fun p=>aG (es.set (i-j) (p.1,v))
 | [],es,j,h=>by cases h;rfl
 |c::r,es,j,h=>by
  show u0 none (fun a _=>ft (jr ks k a) fun e=>b6 e (b6 (ky r) (some ([a,v]::r)) none) (ft (Au ks k v r) fun t=>some (c::t))) c=_;rcases la (z:=none) (f:=fun a _=>ft (jr ks k a) fun e=>b6 e (b6 (ky r) (some ([a,v]::r)) none) (ft (Au ks k v r) fun t=>some (c::t))) (c:=c)with⟨a,b,rfl,h1⟩|⟨h1,_⟩
  ·rw[h1];obtain⟨es',h2,rfl⟩:=Mz.1 (show(aB r).map ((a,b):: ·)=some es from h)
   have h3:aG es'=r:=by
    have: ∀{r:List (List D)} {es:List (D×D)},aB r=some es→aG es=r:=by
     intro r
     induction r with
     |nil=>intro es h;cases h;rfl
     |cons c r ih=>
      intro es h;rcases la (z:=0) (f:=fun _ _=>1) (c:=c)with⟨a,b,rfl,_⟩|⟨h1,_⟩
      ·obtain⟨es',h2,rfl⟩:=Mz.1 (show(aB r).map ((a,b):: ·)=some es from h);show [a,b]::aG es'=_;rw[ih h2]
      ·rw[jc h1]at h;cases h
    exact this h2
   rw[b8,ta,mj,h2];simp only[bq,Option.bind_assoc];congr 1;funext e;cases e with
   |true=>simp[b6,aG]at h3⊢;exact h3.symm
   |false=>
    rw[bV,if_neg (by simp),if_neg (by simp),b8,DQ (j:=j+1) h2];cases hf:bq ks k es' (j+1)with
    |none=>rfl
    |some o=>
     cases o with
     |none=>rfl
     |some i=>
      have:=sK hf;simp only[Oz];rw[show i-j=(i-(j+1))+1 by omega,List.getElem?_cons_succ];cases es'[i-(j+1)]? with
      |none=>rfl
      |some p=>rfl
  ·rw[jc h1]at h;cases h
theorem wx{ks:List Nat}{k v:D}: ∀{l:List (List D)},aB l=none→Au ks k v l=none
 | [],h=>by cases h
 |c::r,h=>by
  show u0 none (fun a _=>ft (jr ks k a) fun e=>b6 e (b6 (ky r) (some ([a,v]::r)) none) (ft (Au ks k v r) fun t=>some (c::t))) c=_;rcases la (z:=none) (f:=fun a _=>ft (jr ks k a) fun e=>b6 e (b6 (ky r) (some ([a,v]::r)) none) (ft (Au ks k v r) fun t=>some (c::t))) (c:=c)with⟨a,b,rfl,h1⟩|⟨_,h1⟩
  ·rw[h1]
   have h2:aB r=none:=by
    cases hr:aB r with
    |none=>rfl
    |some es=>simp[aB,hr]at h
   rw[b8,mj,h2,wx h2];cases jr ks k a with
   |none=>rfl
   |some e=>cases e<;>rfl
  ·exact h1
def zZ(ks:List Nat)(k:D):Bool:=b6 k.rJ (@Option.rec Bool (fun _=>Bool) false (fun b=>b) (jr ks k k)) false
theorem z_(ks:List Nat)(k:D):zZ ks k=decide (k.rJ=true∧cj ks k k=some true):=by
 unfold zZ;rw[bV,ta];cases k.rJ<;>cases h:cj ks k k with
 |none=>simp
 |some b=>cases b<;>simp
def U2(z:D)(ok:Bool)(o:Option D):Option D:= @Option.rec D (fun _=>Option D) (b6 ok (Kc (.tup [z,bv false])) (Kc z)) (fun b=>b6 ok (Kc (.tup [b,bv true])) (Kc b)) o
def Hp(ks:List Nat)(z:D)(ok:Bool)(ds:List D):Option D:=Ab (yB ks z ok ds) (fun a k=>dList (yB ks z ok ds) (fun rows=>b6 (zZ ks k) (ft (Bn ks k rows) (U2 z ok)) none) a) ds
theorem EH(ks:List Nat)(z:D)(ok:Bool):Hp ks z ok=yB ks z ok:=funext fun ds=>mP fun a k e=>lZ fun rows e1=>by
 subst e e1;rw[bV,z_];show _=(aB rows).bind fun es=>(oM ks z ok es k).bind fun d=>if d.aK then some d else none
 have hk: ∀d,Kc d=if d.aK then some d else none:=fun d=>by unfold Kc;rw[bV,sH]
 cases h:aB rows with
 |none=>rw[vL h];split<;>rfl
 |some es=>
  rw[C9 (j:=0) h];simp only[Oz];unfold oM;by_cases hc:k.rJ=true∧cj ks k k=some true
  ·rw[if_pos (by simpa using hc),if_pos hc,b8,Option.bind_assoc,Option.bind_assoc];congr 1;funext r;cases r with
   |none=>
    show U2 z ok none=_;unfold U2;simp only[];rw[bV,hk,hk];cases ok<;>simp
   |some i=>
    simp only[Nat.sub_zero];cases es[i]? with
    |none=>rfl
    |some p=>
     show U2 z ok (some p.2)=_;unfold U2;simp only[];rw[bV,hk,hk];cases ok<;>simp
  ·rw[if_neg (by simpa using hc),if_neg hc];rfl
def Hq(ks:List Nat)(ds:List D):Option D:= @List.casesOn D (fun _=>Option D) ds none fun a r=>Ab (mA ks ds) (fun k v=>dList (mA ks ds) (fun rows=>b6 (Nat.blt (qZ rows 0) 1048576) (b6 (b6 v.rJ (zZ ks k) false) (ft (Au ks k v rows) fun t=>some (.list t)) none) (mA ks ds)) a) r
theorem uz: ∀{l:List (List D)} {es:List (D×D)},aB l=some es→es.length=l.length
 | [],es,h=>by cases h;rfl
 |c::r,es,h=>by
  rcases la (z:=0) (f:=fun _ _=>1) (c:=c)with⟨a,b,rfl,_⟩|⟨h1,_⟩
  ·obtain⟨es',h2,rfl⟩:=Mz.1 (show(aB r).map ((a,b):: ·)=some es from h);simp[uz h2]
  ·rw[jc h1]at h;cases h
theorem EI(ks:List Nat):Hq ks=mA ks:=funext fun ds=>by
 cases ds with
 |nil=>rfl
 |cons a r=>
  show Ab (mA ks (a::r)) (fun k v=>dList (mA ks (a::r)) (fun rows=>b6 (Nat.blt (qZ rows 0) 1048576) (b6 (b6 v.rJ (zZ ks k) false) (ft (Au ks k v rows) fun t=>some (.list t)) none) (mA ks (a::r))) a) r=_;refine mP fun k v e=>lZ fun rows e1=> ?_;subst e e1;rw[bV,ij,Nat.zero_add];split
  rotate_left
  ·rfl
  rename_i hlen;have hlen:rows.length<1048576:=by simpa[Nat.blt_eq]using hlen
  rw[bV,bV,z_];show _=(aB rows).bind fun es=>(lC ks es k v).map fun es=>D.list (aG es);cases h:aB rows with
  |none=>rw[wx h];cases v.rJ<;>simp[ft]
  |some es=>
   have hl:=uz h;rw[DQ (j:=0) h];simp only[Oz];unfold lC;by_cases hv:v.rJ=true
   ·by_cases hc:k.rJ=true∧cj ks k k=some true
    ·rw[if_pos (by simp[hv,hc]),if_pos ⟨hv,hc⟩,b8,Option.bind_assoc,Option.map_bind];congr 1;funext r;cases r with
     |none=>
      simp only[Oz,Function.comp_def];rw[if_pos (show es.length<bx from by rw[hl];exact hlen)];rfl
     |some i=>
      simp only[Nat.sub_zero,Function.comp_def];cases es[i]? with
      |none=>rfl
      |some p=>rfl
    ·rw[if_neg (by simp[hv,hc]),if_neg (fun h=>hc h.2)];rfl
   ·rw[if_neg (by simp[hv]),if_neg (fun h=>hv h.1)];rfl
def runK(G:FP)(k:XK):List D→Option D:=match k with
 | .pk k=>pkK k
 | .call fl f=>BF G fl f
 | .cell j n=>Hj j n
 | .gv w=>UU w
 | .aj=>Mn
 | .aO=>Ht
 | .take=>Hv
 | .agg=>Hg
 | .mget ks z ok=>Hp ks z ok
 | .mset ks=>Hq ks
 |k=>B3 G k
theorem KS(G:FP)(k:XK):runK G k=B3 G k:=by
 cases k<;>first|rfl|exact Q' _|exact EE _ _ _|exact EF _ _|exact Kb _|exact Hu|exact EJ|exact EK|exact Hh|exact EH _ _ _|exact EI _
end
noncomputable section
def SK{α:Type}(v:D)(a b:Option α):Option α:=dV none (vB none fun x=>b6 x a b) v
theorem FN{α:Type}(v:D)(a b:Option α):SK v a b=v.asBool.bind fun x=>bif x then a else b:=by
 cases v<;>try rfl
 rename_i v;cases v<;>try rfl
 rename_i x;cases x<;>rfl
def Ik(l:List D):List D→List D:= @List.rec D (fun _=>List D→List D) (fun acc=>acc) (fun a _ ih acc=>ih (a::acc)) l
theorem rO: ∀(l acc:List D),Ik l acc=l.reverse++acc
 | [],_=>rfl
 |a::r,acc=>by
  show Ik r (a::acc)=_;rw[rO r,List.reverse_cons,List.append_assoc];rfl
def kx(G:FP)(x:X):Nat→List D→Option D:=
 @X.rec (fun _=>Nat→List D→Option D) (fun _=>Nat→List D→Option (List D)) (fun i n E=>b6 (Nat.blt i n) (nth E (Nat.sub (Nat.sub n 1) i)) none) (fun d _ _=>some d) (fun k _ ih n E=>ft (ih n E) (runK G k))
  (fun _ _ _ hc ha hb n E=>ft (hc n E) fun v=>SK v (ha n E) (hb n E)) (fun _ _=>some []) (fun _ _ hx hr n E=>ft (hx n E) fun d=>ft (hr n E) fun ds=>some (d::ds)) x
def HA(G:FP)(xs:List X):Nat→List D→Option (List D):=
 @X.rec_1 (fun _=>Nat→List D→Option D) (fun _=>Nat→List D→Option (List D)) (fun i n E=>b6 (Nat.blt i n) (nth E (Nat.sub (Nat.sub n 1) i)) none) (fun d _ _=>some d) (fun k _ ih n E=>ft (ih n E) (runK G k))
  (fun _ _ _ hc ha hb n E=>ft (hc n E) fun v=>SK v (ha n E) (hb n E)) (fun _ _=>some []) (fun _ _ hx hr n E=>ft (hx n E) fun d=>ft (hr n E) fun ds=>some (d::ds)) xs
mutual
theorem tf(G:FP)(E:List D): ∀(x:X),kx G x E.length E.reverse=zk G x E
 | .t i=>by
  show b6 (Nat.blt i E.length) (nth E.reverse (E.length-1-i)) none=nth E i;rw[nS,nS,bV];by_cases h:i<E.length
  ·rw[if_pos (by simpa[Nat.blt_eq]using h),List.getElem?_reverse (by omega)];congr 1;omega
  ·rw[if_neg (by simpa[Nat.blt_eq]using h)];simp at h⊢;omega
 | .q _=>rfl
 | .mk k xs=>by
  show ft (HA G xs E.length E.reverse) (runK G k)=(lG G xs E).bind (B3 G k);rw[pS G E xs,b8,KS]
 | .ite c a b=>by
  show ft (kx G c E.length E.reverse) (fun v=>SK v (kx G a E.length E.reverse) (kx G b E.length E.reverse))=(zk G c E).bind fun v=>v.asBool.bind fun x=>bif x then zk G a E else zk G b E
  rw[tf G E c,tf G E a,tf G E b,b8];congr 1;funext v;exact FN _ _ _
theorem pS(G:FP)(E:List D): ∀(xs:List X),HA G xs E.length E.reverse=lG G xs E
 | []=>rfl
 |x::r=>by
  show ft (kx G x E.length E.reverse) (fun d=>ft (HA G r E.length E.reverse) fun ds=>some (d::ds))=(zk G x E).bind fun d=>(lG G r E).bind fun ds=>some (d::ds);rw[tf G E x,pS G E r,b8];congr 1;funext d;exact b8 _ _
end
def Zd{α β:Type}(F:(α→Option β)→α→Option β)(N:Nat):α→Option β:= @Nat.rec (fun _=>α→Option β) (fun _=>none) (fun _ ih=>F ih) N
theorem Ha{α β:Type}(F:(α→Option β)→α→Option β): ∀N,Zd F N=iter F N
 |0=>rfl
 |n+1=>by
  show F (Zd F n)=F (iter F n);rw[Ha F n]
def RI(x:X)(d:D):D:=b6 (fF d) d (eR x d)
theorem K9(x:X)(d:D):RI x d=eR x d:=by
 unfold RI;rw[bV,LQ];split
 ·unfold eR;rw[if_pos (by assumption)]
 ·rfl
def QC(x:X)(d:D):Option D:=b6 (fT d) (some (RI x d)) none
def ED(f:Nat→List D→Option D)(n:Nat)(E vs:List D):Option D:=PO (qZ vs n) fun m=>f m (Ik vs E)
def kf(G:FP)(N:Nat)(t:FT):List (List D→Option D)→Nat→List D→Option D:=
 @FT.rec (fun _=>List (List D→Option D)→Nat→List D→Option D)
  (fun x _ n E=>ft (kx G x n E) (QC x))
  (fun xs _ ih L n E=>ft (HA G xs n E) fun _=>ih L n E)
  (fun xs _ ih L n E=>ft (HA G xs n E) (ED (ih L) n E))
  (fun c _ _ ha hb L n E=>ft (kx G c n E) fun v=>SK v (ha L n E) (hb L n E))
  (fun xs _ ih L n E=>ft (HA G xs n E) (Zd (fun rec vs=>ED (ih (rec::L)) n E vs) N))
  (fun j xs L n E=>ft (HA G xs n E) fun ds=>ft (BT j L) fun f=>f ds)
  (fun _ _ hk hb L n E=>hb (ED (hk L) n E::L) n E)
  (fun x _ _ ha hb L n E=>ft (kx G x n E) (qV (ha L n E) fun s=>ED (hb L) n E [s]))
  (fun _ _ _ _=>none) (fun _ _ _ _ _=>none) t
theorem xz(f:Nat→List D→Option D)(g:List D→Option D)(h: ∀E:List D,f E.length E.reverse=g E)(E vs:List D):ED f E.length E.reverse vs=g (E++vs):=by
 unfold ED;rw[pG,ij,rO,←h (E++vs),List.length_append,List.reverse_append]
theorem Mp(G:FP)(N:Nat): ∀(t:FT) (L:List (List D→Option D)) (E:List D),kf G N t L E.length E.reverse=pc G N t L E:=by
 intro t
 induction t with
 |ret x=>
  intro L E;show ft (kx G x E.length E.reverse) (QC x)=(zk G x E).bind fun d=>bif d.aK then some (eR x d)else none
  rw[tf,b8];congr 1;funext d;unfold QC;rw[sH,K9];cases d.aK<;>rfl
 |bm xs k ih=>
  intro L E;show ft (HA G xs E.length E.reverse) (fun _=>kf G N k L E.length E.reverse)=(lG G xs E).bind fun _=>pc G N k L E;rw[pS,b8,ih]
 |lets xs k ih=>
  intro L E;show ft (HA G xs E.length E.reverse) (ED (kf G N k L) E.length E.reverse)=(lG G xs E).bind fun ds=>pc G N k L (E++ds);rw[pS,b8];congr 1;funext ds;exact xz _ _ (ih L) E ds
 |ite c a b iha ihb=>
  intro L E;show ft (kx G c E.length E.reverse) (fun v=>SK v (kf G N a L E.length E.reverse) (kf G N b L E.length E.reverse))=(zk G c E).bind fun v=>v.asBool.bind fun x=>bif x then pc G N a L E else pc G N b L E
  rw[tf,b8,iha,ihb];congr 1;funext v;exact FN _ _ _
 |loop xs k ih=>
  intro L E;show ft (HA G xs E.length E.reverse) (Zd (fun rec vs=>ED (kf G N k (rec::L)) E.length E.reverse vs) N)=(lG G xs E).bind fun ds=>iter (fun rec vs=>pc G N k (rec::L) (E++vs)) N ds;rw[pS,b8,Ha]
  have e:(fun(rec:List D→Option D) vs=>ED (kf G N k (rec::L)) E.length E.reverse vs)=fun rec vs=>pc G N k (rec::L) (E++vs):=by
   funext rec vs;exact xz _ _ (ih (rec::L)) E vs
  rw[e]
 |next j xs=>
  intro L E;show ft (HA G xs E.length E.reverse) (fun ds=>ft (BT j L) fun f=>f ds)=(lG G xs E).bind fun ds=>(L[j]?).bind fun f=>f ds;rw[pS,b8];congr 1;funext ds;rw[b8,xF]
 |jp k b ihk ihb=>
  intro L E;show kf G N b (ED (kf G N k L) E.length E.reverse::L) E.length E.reverse=pc G N b ((fun vs=>pc G N k L (E++vs))::L) E
  have e:ED (kf G N k L) E.length E.reverse=fun vs=>pc G N k L (E++vs):=by
   funext vs;exact xz _ _ (ihk L) E vs
  rw[ihb,e]
 |any x a b iha ihb=>
  intro L E;show ft (kx G x E.length E.reverse) (qV (kf G N a L E.length E.reverse) fun s=>ED (kf G N b L) E.length E.reverse [s])=(zk G x E).bind (qV (pc G N a L E) fun s=>pc G N b L (E++ [s]));have e:(fun s=>ED (kf G N b L) E.length E.reverse [s])=fun s=>pc G N b L (E++ [s]):=funext fun s=>xz _ _ (ihb L) E [s];rw[tf,b8,iha,e]
 |st Y=>intro L E;rfl
 |bad w Y=>intro L E;rfl
def He(G:FP)(N f:Nat)(ds:List D)(q:Nat×FT):Option D:=b6 (Nat.beq (qZ ds 0) q.1) (b6 (gp fT ds) (b6 (Nat.blt f 1000000) (PO (qZ ds 0) fun m=>kf G N q.2 [] m (Ik ds [])) none) none) none
def h_(T:Nat→Option (Nat×FT))(H:FP)(N k:Nat):FP:=
 @Nat.rec (fun _=>FP) (fun _ _=>none) (fun _ ih f ds=> @Option.rec D (fun _=>Option D) (ft (T f) (He ih N f ds)) some (H f ds)) k
theorem Bf(T:Nat→Option (Nat×FT))(H:FP)(N:Nat): ∀k,h_ T H N k=JH T H N k
 |0=>rfl
 |k+1=>by
  funext f ds;show @Option.rec D (fun _=>Option D) (ft (T f) (He (h_ T H N k) N f ds)) some (H f ds)=(H f ds).casesOn ((T f).bind fun q=>bif Nat.beq ds.length q.1&&ds.all D.aK&&Nat.blt f 1000000 then pc (JH T H N k) N q.2 [] ds else none) some;rw[b8,Bf T H N k];congr 1;congr 1;funext q;unfold He;have h:=Mp (JH T H N k) N q.2 [] ds;rw[pG,ij,Nat.zero_add,rO,List.append_nil,h,dZ,sH];cases Nat.beq ds.length q.1<;>cases ds.all D.aK<;>cases Nat.blt f 1000000<;>rfl
def yM(x y:Value):Bool:=vI (py x y) (fun k a=>vI (py x y) (fun k' b=>b6 (JF k k') (TF a b) false) y) x
theorem FY{x y:Value}(h:yM x y=true):x=y:=by
 have key:yM x y=py x y:=qR fun k a e1=>qR fun k' b e2=>by
  subst e1 e2;rw[C3,Bd,bV];show _=decide (k=k'∧a=b)
  grind
 rw[key]at h;exact vz h
def Pu{α:Type}(z:α)(f:Nat→List D→α)(d:D):α:= @D.casesOn (fun _=>α) d z (fun _=>z) z z (fun _=>z) (fun _=>z) (fun _=>z) (fun _=>z) f (fun _ _ _ _ _=>z) (fun _ _=>z) (fun _ _ _ _=>z) (fun _=>z) z (fun _=>z)
def Qn(d:D):Bool:= @D.casesOn (fun _=>Bool) d false (fun _=>false) true false (fun _=>false) (fun _=>false) (fun _=>false) (fun _=>false) (fun _ _=>false) (fun _ _ _ _ _=>false) (fun _ _=>false) (fun _ _ _ _=>false) (fun _=>false) false (fun _=>false)
def Qm(d:D):Bool:= @D.casesOn (fun _=>Bool) d false (fun _=>false) false true (fun _=>false) (fun _=>false) (fun _=>false) (fun _=>false) (fun _ _=>false) (fun _ _ _ _ _=>false) (fun _ _=>false) (fun _ _ _ _=>false) (fun _=>false) false (fun _=>false)
def Qo(d:D):Bool:= @D.casesOn (fun _=>Bool) d false (fun _=>false) false false (fun _=>false) (fun _=>false) (fun _=>false) (fun _=>false) (fun _ _=>false) (fun _ _ _ _ _=>false) (fun _ _=>false) (fun _ _ _ _=>false) (fun _=>false) true (fun _=>false)
def yJ(a:D):D→Bool:=
 @D.rec (fun _=>D→Bool) (fun _=>List (List D)→Bool) (fun _=>List D→Bool) (fun _=>false) (fun x=>dV false (yM x)) Qn Qm (fun _ ih=>dList false ih) (fun _ ih=>oc false ih) (fun _ ih=>Ea false ih) (fun _ ih=>vE false ih)
  (fun f _ ih=>Pu false fun g ys=>b6 (Nat.beq f g) (ih ys) false) (fun _ _ _ _ _ _=>false) (fun _ _ _=>false) (fun _ _ _ _ _=>false) (fun _ _=>false) Qo (fun _ _ _=>false)
  (fun b=>b.casesOn true fun _ _=>false) (fun _ _ h t b=>b.casesOn false fun y s=>b6 (h y) (t s) false) (fun b=>b.casesOn true fun _ _=>false) (fun _ _ h t b=>b.casesOn false fun y s=>b6 (h y) (t s) false) a
def FV(a:List (List D)):List (List D)→Bool:=
 @D.rec_1 (fun _=>D→Bool) (fun _=>List (List D)→Bool) (fun _=>List D→Bool) (fun _=>false) (fun x=>dV false (yM x)) Qn Qm (fun _ ih=>dList false ih) (fun _ ih=>oc false ih) (fun _ ih=>Ea false ih) (fun _ ih=>vE false ih)
  (fun f _ ih=>Pu false fun g ys=>b6 (Nat.beq f g) (ih ys) false) (fun _ _ _ _ _ _=>false) (fun _ _ _=>false) (fun _ _ _ _ _=>false) (fun _ _=>false) Qo (fun _ _ _=>false)
  (fun b=>b.casesOn true fun _ _=>false) (fun _ _ h t b=>b.casesOn false fun y s=>b6 (h y) (t s) false) (fun b=>b.casesOn true fun _ _=>false) (fun _ _ h t b=>b.casesOn false fun y s=>b6 (h y) (t s) false) a
def CQ(a:List D):List D→Bool:=
 @D.rec_2 (fun _=>D→Bool) (fun _=>List (List D)→Bool) (fun _=>List D→Bool) (fun _=>false) (fun x=>dV false (yM x)) Qn Qm (fun _ ih=>dList false ih) (fun _ ih=>oc false ih) (fun _ ih=>Ea false ih) (fun _ ih=>vE false ih)
  (fun f _ ih=>Pu false fun g ys=>b6 (Nat.beq f g) (ih ys) false) (fun _ _ _ _ _ _=>false) (fun _ _ _=>false) (fun _ _ _ _ _=>false) (fun _ _=>false) Qo (fun _ _ _=>false)
  (fun b=>b.casesOn true fun _ _=>false) (fun _ _ h t b=>b.casesOn false fun y s=>b6 (h y) (t s) false) (fun b=>b.casesOn true fun _ _=>false) (fun _ _ h t b=>b.casesOn false fun y s=>b6 (h y) (t s) false) a
theorem cS{a b:Bool}(h:b6 a b false=true):a=true∧b=true:=by cases a<;>cases b<;>first|exact⟨rfl,rfl⟩|cases h
mutual
theorem mC: ∀{a b:D},yJ a b=true→a=b
 | .undef,_,h=>by cases h
 | .v x,b,h=>by
  cases b<;>try (cases h;done)
  exact congrArg _ (FY h)
 | .nil,b,h=>by cases b<;>first|rfl|cases h
 | .mt,b,h=>by cases b<;>first|rfl|cases h
 | .nilmap,b,h=>by cases b<;>first|rfl|cases h
 | .list es,b,h=>by
  cases b<;>try (cases h;done)
  exact congrArg _ (vy (a:=es) h)
 | .agg es,b,h=>by
  cases b<;>try (cases h;done)
  exact congrArg _ (jR (a:=es) h)
 | .tup es,b,h=>by
  cases b<;>try (cases h;done)
  exact congrArg _ (jR (a:=es) h)
 | .lptr es,b,h=>by
  cases b<;>try (cases h;done)
  exact congrArg _ (jR (a:=es) h)
 | .clo f es,b,h=>by
  cases b<;>try (cases h;done)
  rename_i g ys
  replace h:b6 (Nat.beq f g) (CQ es ys) false=true:=h
  rw[Nat.eq_of_beq_eq_true (cS h).1,jR (cS h).2]
 | .sl ..,_,h=>by cases h
 | .ptr ..,_,h=>by cases h
 | .rptr ..,_,h=>by cases h
 | .mp ..,_,h=>by cases h
 | .fm ..,_,h=>by cases h
theorem jR: ∀{a b:List D},CQ a b=true→a=b
 | [],[],_=>rfl
 | [],_::_,h=>by cases h
 |_::_,[],h=>by cases h
 |x::r,y::s,h=>by
  replace h:b6 (yJ x y) (CQ r s) false=true:=h
  rw[mC (cS h).1,jR (cS h).2]
theorem vy: ∀{a b:List (List D)},FV a b=true→a=b
 | [],[],_=>rfl
 | [],_::_,h=>by cases h
 |_::_,[],h=>by cases h
 |x::r,y::s,h=>by
  replace h:b6 (CQ x y) (FV r s) false=true:=h
  rw[jR (cS h).1,vy (cS h).2]
end
end
noncomputable section
def DT:List Nat→List cV→List cV
 | [],_=> []
 |g::r,es=>match es.drop g with
  |e::s=>e::DT r s
  | []=> []
theorem wD: ∀{gs:List Nat} {l:List cV} {e:cV},e∈DT gs l→e∈l
 | [],_,_,h=>by cases h
 |g::r,l,e,h=>by
  unfold DT at h;split at h
  ·rename_i a s hd;have hs: ∀x,x∈a::s→x∈l:=fun x hx=>by rw[←hd]at hx;exact List.mem_of_mem_drop hx
   rcases List.mem_cons.1 h with rfl|h
   ·grind
   ·exact hs _ (Cz _ (wD h))
  ·cases h
abbrev gI:=List (Nat×List cV×List Nat)
def aY:gI→KT
 | []=> []
 |(f,l,gs)::r=>(f,DT gs l)::aY r
def YT(P:Program)(f:Nat)(ds:List D)(r:D):Prop:=(f<1000000∧Tk P f ds r)∨ ∃e g es,g<1000000∧f=1000001000000+(1000000*e+g)∧r= .list es∧YV P g e ds es
def KT.AP(P:Program)(l:KT):Prop:= ∀p∈l,∀e∈p.2,YT P p.1 e.ds e.r
def dw(P:Program)(f:Nat)(l:List cV):Prop:= ∀e∈l,YT P f e.ds e.r
def jN(P:Program):gI→Prop
 | []=>True
 |(f,l,_)::r=>dw P f l∧jN P r
theorem jN.nil{P:Program}:jN P []:=trivial
theorem jN.cons{P:Program}{f:Nat}{l:List cV}{gs:List Nat}{r:gI}(h:dw P f l)(k:jN P r):jN P ((f,l,gs)::r):=⟨h,k⟩
theorem xJ{P:Program}: ∀{s:gI},jN P s→(aY s).AP P
 | [],_=>fun p hp=>by cases hp
 |(f,l,gs)::r,h=>fun p hp e he=>by
  rcases List.mem_cons.1 hp with rfl|hp
  ·exact h.1 e (wD he)
  ·exact xJ h.2 p hp e he
def CP(a:List D):List D→Bool:= @List.rec D (fun _=>List D→Bool) (fun b=>b.casesOn true fun _ _=>false) (fun a _ ih b=>b.casesOn false fun y s=>b6 (ih s) (yJ a y) false) a
theorem yK: ∀{a b:List D},CP a b=true→a=b
 | [],[],_=>rfl
 | [],_::_,h=>by cases h
 |_::_,[],h=>by cases h
 |x::r,y::s,h=>by
  rw[yK (cS h).1,mC (cS h).2]
def An(ds:List D)(z:Option D)(es:List cV):Option D:= @List.rec cV (fun _=>Option D) z (fun e _ ih=>b6 (CP e.ds ds) (some e.r) ih) es
theorem Ao{ds:List D}{z:Option D}{d:D}: ∀{es:List cV},An ds z es=some d→(∃e∈es,e.ds=ds∧e.r=d)∨z=some d
 | [],h=> .inr h
 |e::r,h=>by
  replace h:b6 (CP e.ds ds) (some e.r) (An ds z r)=some d:=h
  cases hb:CP e.ds ds with
  |true=>rw[hb]at h;cases h;exact .inl ⟨e,List.mem_cons_self ..,yK hb,rfl⟩
  |false=>rw[hb]at h;exact(Ao h).imp (fun⟨e,he,k⟩=>⟨e,Cz _ he,k⟩) id
def dG(l:KT)(H:FP)(f:Nat)(ds:List D):Option D:= @List.rec (Nat×List cV) (fun _=>Option D) (H f ds) (fun p _ ih=>b6 (Nat.beq p.1 f) (An ds (H f ds) p.2) ih) l
theorem BH{H:FP}{f:Nat}{ds:List D}{d:D}: ∀{l:KT},dG l H f ds=some d→(∃p∈l,p.1=f∧ ∃e∈p.2,e.ds=ds∧e.r=d)∨H f ds=some d
 | [],h=> .inr h
 |p::r,h=>by
  replace h:b6 (Nat.beq p.1 f) (An ds (H f ds) p.2) (dG r H f ds)=some d:=h
  cases hb:Nat.beq p.1 f with
  |true=>rw[hb]at h;exact(Ao h).imp (fun⟨e,he⟩=>⟨p,List.mem_cons_self ..,Nat.eq_of_beq_eq_true hb,e,he⟩) id
  |false=>rw[hb]at h;exact(BH h).imp (fun⟨q,hq,k⟩=>⟨q,Cz _ hq,k⟩) id
theorem mJ{P:Program}{H:FP}{l:KT}(hH:Sound P (bg H))(hl:l.AP P):Sound P (bg (dG l H)):=by
 have key: ∀{f:Nat} {ds:List D} {d:D},dG l H f ds=some d→YT P f ds d∨H f ds=some d:=fun{f ds d} h=>(BH h).imp (fun⟨p,hp,h1,e,he,h2,h3⟩=>by
  subst h1 h2 h3;exact hl p hp e he) id
 refine⟨fun f ds d hlt h=> ?_,fun k f ds r hlt h6 h=> ?_,fun e f ds r hlt h=> ?_⟩
 ·rcases key (show dG l H f ds=some d from h)with(h|⟨e,g,es,_,h,_⟩)|h
  ·grind
  ·omega
  ·exact hH.p f ds d hlt h
 ·rcases key (show dG l H (1000000+(1000000*k+f)) ds=some r from h)with(h|⟨e,g,es,_,h,_⟩)|h
  ·omega
  ·omega
  ·exact hH.e k f ds r hlt h6 h
 ·obtain⟨d,hd,rfl⟩:=Mz.1 (show(dG l H (1000001000000+(1000000*e+f)) ds).map _=some r from h);rcases key hd with(hd|⟨e',g,es,hg,hk,rfl,hv⟩)|hd
  ·omega
  ·have he:e=e':=by omega
   have hf:f=g:=by omega
   subst he hf;exact⟨es,rfl,hv⟩
  ·exact hH.q e f ds _ hlt (show Option.map _ _=_ by rw[hd];rfl)
def PG(a b:D):Bool:=b6 a.eD (b6 b.eD (yJ a.bare b.bare) false) (yJ a b)
theorem JG{a b:D}(h:PG a b=true):a=b:=by
 have own: ∀{x:D},x.eD=true→x=x.bare.own:=fun{x} hx=>by
  unfold D.eD at hx;split at hx
  ·rfl
  ·cases hx
 unfold PG at h;cases ha:a.eD with
 |true=>
  rw[ha]at h;have h:=cS (show b6 b.eD (yJ a.bare b.bare) false=true from h);rw[own ha,own h.1,mC h.2]
 |false=>rw[ha]at h;exact mC h
def TB(G:FP)(f:Nat)(l:List cV):Bool:= @List.rec cV (fun _=>Bool) true (fun e _ ih=>b6 (@Option.rec D (fun _=>Bool) false (fun d=>PG d e.r) (G f e.ds)) ih false) l
theorem CY{G:FP}{f:Nat}: ∀{l:List cV},TB G f l=true→ ∀e∈l,G f e.ds=some e.r
 | [],_,e,he=>by cases he
 |e::r,h,e',he=>by
  rcases List.mem_cons.1 he with rfl|he
  ·have h:=(cS h).1;cases hg:G f e'.ds with
   |none=>rw[hg]at h;cases h
   |some d=>rw[hg]at h;rw[JG h]
  ·exact CY (cS h).2 e' he
def chunk(G:FP)(f lo n:Nat)(l:List cV):Bool:=b6 (Nat.blt f 1000000) (TB G f ((l.drop lo).take n)) false
theorem yS{P:Program}{C:Cx}{H:FP}{N k:Nat}{r:Tr}(hP:C.P=P)(hH:Sound P (bg H))(hm:P.follows .mixedOrders=true)(hr:r.OI C){s:gI}(hs:jN P s){f lo n:Nat}{l:List cV}
  (h:chunk (h_ r.get (dG (aY s) H) N k) f lo n l=true):dw P f ((l.drop lo).take n):=fun e he=>by
 have h2:f<1000000:=by simpa[Nat.blt_eq]using(cS h).1
 have h3:=CY (cS h).2 e he;rw[Bf]at h3;exact .inl ⟨h2,(jP hP (mJ hH (xJ hs)) hm k).p f e.ds e.r h2 (Be hr k _ _ _ h3)⟩
theorem dw.join{P:Program}{f lo n:Nat}{l:List cV}(h:dw P f ((l.drop lo).take n))(k:dw P f (l.drop (lo+n))):dw P f (l.drop lo):=fun e he=>by
 rw[←List.take_append_drop n (l.drop lo),List.mem_append,List.drop_drop]at he;exact he.elim (h e) (k e)
theorem dw.fin{P:Program}{f lo n:Nat}{l:List cV}(h:dw P f ((l.drop lo).take n))(k:Nat.ble l.length (lo+n)=true):dw P f (l.drop lo):=fun e he=>by
 rw[List.take_of_length_le (by have:=Nat.le_of_ble_eq_true k;simp;omega)]at h;exact h e he
end
noncomputable section
def okA(C:Cx)(e f n:Nat)(t:FT):Bool:=match CZ C e f with
 |some q=>Nat.beq q.1 n&&dR (cse (Jv q.1) q.2) t
 |none=>false
def ZJ(C:Cx)(e f n:Nat)(t:FT):Prop:= ∃t0,CZ C e f=some (n,t0)∧cse (Jv n) t0=t
theorem Q7{C:Cx}{e f n:Nat}{t:FT}(h:okA C e f n t=true):ZJ C e f n t:=by
 unfold okA at h;split at h
 ·rename_i q hq;obtain⟨m,t0⟩:=q;simp only[Az]at h;obtain rfl:=Nat.eq_of_beq_eq_true h.1;exact⟨t0,hq,eu _ _ h.2⟩
 ·cases h
def qQ:FT→FT
 | .ret (.mk .own [x])=> .ret x
 | .bm xs k=> .bm xs (qQ k)
 | .lets xs k=> .lets xs (qQ k)
 | .ite c a b=> .ite c (qQ a) (qQ b)
 | .loop xs k=> .loop xs (qQ k)
 | .jp k b=> .jp (qQ k) (qQ b)
 |t=>t
def Io(r:D):Bool:=match r with
 | .list es=> !es.isEmpty&&es.all fun c=>c.all D.bB
 |_=>false
def Pp(G:FP)(N n:Nat)(t:FT)(l:List cV):Bool:= @List.rec cV (fun _=>Bool) true
 (fun e _ ih=>b6 (b6 (Nat.beq (qZ e.ds 0) n) (b6 (gp fT e.ds) (b6 (Io e.r) (@Option.rec D (fun _=>Bool) false (fun d=>yJ d.bare e.r) (PO (qZ e.ds 0) fun m=>kf G N t [] m (Ik e.ds []))) false) false) false) ih false) l
theorem CX{G:FP}{N n:Nat}{t:FT}: ∀{l:List cV},Pp G N n t l=true→ ∀e∈l,(e.ds.length=n∧e.ds.all D.aK=true)∧Io e.r=true∧(aa G N t [] e.ds).map D.bare=some e.r
 | [],_,e,he=>by cases he
 |e::r,h,e',he=>by
  rcases List.mem_cons.1 he with rfl|he
  ·have h:=(cS h).1;obtain⟨h1,h⟩:=cS h;obtain⟨h2,h⟩:=cS h;obtain⟨h3,h⟩:=cS h;rw[pG,ij,rO,List.append_nil]at h;rw[ij]at h1;simp only[Nat.zero_add]at h h1;rw[Mp,Bg]at h;rw[dZ,sH]at h2;refine⟨⟨Nat.eq_of_beq_eq_true h1,h2⟩,h3, ?_⟩;cases hg:aa G N t [] e'.ds with
   |none=>rw[hg]at h;cases h
   |some d=>rw[hg]at h;rw[Pz,mC h]
  ·exact CX (cS h).2 e' he
theorem wY{P:Program}{C:Cx}{H:FP}{N k e f n:Nat}{t:FT}{r:Tr}(hP:C.P=P)(hH:Sound P (bg H))(hm:P.follows .mixedOrders=true)(hr:r.OI C)(ht:ZJ C e f n t)(hf:f<1000000){s:gI}(hs:jN P s){l:List cV}
  (h:Pp (h_ r.get (dG (aY s) H) N k) N n t l=true):dw P (1000001000000+(1000000*e+f)) l:=fun x hx=>by
 obtain⟨⟨h1,h2⟩,h3,h4⟩:=CX h x hx;obtain⟨t0,k1,k2⟩:=ht;rw[Bf]at h4;obtain⟨d,g1,g2⟩:=Mz.1 h4;obtain⟨ds,rr⟩:=x;cases rr<;>first|(cases h3;done)|skip
 rename_i es;obtain⟨g3,g4⟩:(!es.isEmpty)=true∧(es.all fun c=>c.all D.bB)=true:=by simpa[Io]using h3
 refine .inr ⟨e,f,es,hf,rfl,rfl, ?_⟩;obtain⟨k0,hk⟩:=ib (G:=JH r.get (dG (aY s) H) N k) (Gk:=fun _=>Gs C (dG (aY s) H) N k) (fun f ds d h=>⟨0,fun _ _=>Be hr k f ds d h⟩) (Lk:=fun _=> []) t (fun j f hf=>by simp at hf) g1;have h5:aa (Gs C (dG (aY s) H) N k) N t0 [] ds=some d:=wZ (q:=(n,t0)) h1 (by rw[←k2]at hk;exact hk k0 (Nat.le_refl _));exact yV hP (mJ hH (xJ hs)) hm k1 h1 h2 (fun e=>by rw[e]at g3;cases g3) g4 (by rw[h5,Pz,g2])
theorem KT.AP.nil{P:Program}:KT.AP P []:=fun p hp=>by cases hp
theorem KT.AP.cons{P:Program}{f:Nat}{l:List cV}{r:KT}(h:dw P f l)(k:KT.AP P r):KT.AP P ((f,l)::r):=fun p hp=>(List.mem_cons.1 hp).elim (fun e=>by subst e;exact h) (k p)
end
section
open Go.ChangeShapes Go.WideShapes Go.ChangeAt Go.RowKit
set_option linter.unusedVariables false
def dH(P:Program):Nat→TypeId→List D→Prop
 |0,_,_=>False
 |n+1,t,ds=>match P.underlying t with
  |some .bool=> ∃b,ds= [bv b]
  |some (.int k)=> ∃z,ds= [.v (.int k z)]∧(Lit.int k z).wf=true
  |some .string=> ∃s:ByteArray,ds= [.v (.string s)]∧s.size≤maxLen
  |some (.slice e)=> ∃es,ds= [.list es]∧es.length≤maxLen∧ ∀c∈es,dH P n e c
  |some (.struct fs)=>ds.length=P.cellsOf t∧ ∀f∈fs.toList,dH P n f.type ((ds.drop f.offset).take (P.cellsOf f.type))
  |some (.array m e)=>ds.length=P.cellsOf t∧ ∀i,i<m→dH P n e ((ds.drop (i*P.cellsOf e)).take (P.cellsOf e))
  |_=>False
def tA(P:Program):Nat→TypeId→Bool
 |0,_=>false
 |n+1,t=>match P.underlying t with
  |some .bool|some (.int _)|some .string=>true
  |some (.slice e)=>decide (0<P.cellsOf e)&&tA P n e
  |some (.struct fs)=>fs.toList.all fun f=>tA P n f.type
  |some (.array _ e)=>tA P n e
  |_=>false
def lF(w:World)(cs:List Value)(ds:List D):Prop:=cs.length=ds.length∧ ∀(j:Nat) (c:Value) (d:D),cs[j]?=some c→ds[j]?=some d→c.oneCell'=true∧ai w (eN w) aI c d
theorem lF.nil{w:World}:lF w [] []:=⟨rfl,fun j c d h=>by simp at h⟩
theorem lF.one{w:World}{c:Value}{d:D}(h1:c.oneCell'=true)(h2:ai w (eN w) aI c d):lF w [c] [d]:=
 ⟨rfl,fun j c' d' hc hd=>by
  cases j with
  |zero=>simp only[List.getElem?_cons_zero,Jz]at hc hd;subst hc;subst hd;exact⟨h1,h2⟩
  |succ j=>simp at hc⟩
theorem lF.append{w:World}{a b:List Value}{x y:List D}(h:lF w a x)(k:lF w b y):lF w (a++b) (x++y):=by
 refine⟨by simp[h.1,k.1],fun j c d hc hd=> ?_⟩;by_cases hj:j<a.length
 ·rw[Yz hj]at hc;rw[Yz (by rw[←h.1];exact hj)]at hd;exact h.2 j c d hc hd
 ·rw[Xz (by omega)]at hc;rw[Xz (by rw[←h.1];omega),←h.1]at hd;exact k.2 _ c d hc hd
theorem IA (cell : Nat → Nat) : ∀ m k, k ≤ m → ((List.range k).map cell).sum ≤ ((List.range m).map cell).sum
  | 0, k, hk => by have : k = 0 := by omega
                   subst this; exact Nat.le_refl _
  | m + 1, k, hk => by
    by_cases h : k ≤ m
    · have := IA cell m k h
      simp only [List.range_succ, List.map_append, List.sum_append, List.map_cons, List.map_nil, List.sum_cons, List.sum_nil]
      omega
    · have : k = m + 1 := by omega
      subst this; exact Nat.le_refl _
theorem ue{α:Type}(g:α→Nat)(x0:α): ∀(l:List α) (j:Nat),j≤l.length→((l.take j).map g).sum=((List.range j).map fun i=>g (l.getD i x0)).sum
 |l,0,_=>by simp
 |l,j+1,h=>by
  rw[List.take_succ_eq_append_getElem (by omega),List.map_append,List.sum_append,ue g x0 l j (by omega),List.range_succ,List.map_append,List.sum_append];simp[List.getD,show j<l.length by omega]
theorem mU(c:Nat): ∀m,((List.range m).map fun _=>c).sum=m*c
 |0=>by simp
 |m+1=>by simp[List.range_succ,mU c m,Nat.succ_mul]
theorem pZ{w:World}(Q:Nat→List D→Prop)(cell off:Nat→Nat)(cs:List Value): ∀(m:Nat),(∀i,i<m→off i=((List.range i).map cell).sum)→((List.range m).map cell).sum≤cs.length→
  (∀i,i<m→ ∃ds,Q i ds∧lF w ((cs.drop (off i)).take (cell i)) ds)→
  ∃ds,lF w (cs.take ((List.range m).map cell).sum) ds∧ ∀i,i<m→Q i ((ds.drop (off i)).take (cell i))
 |0,_,_,_=>⟨[],by simpa using lF.nil,fun i hi=>by omega⟩
 |m+1,qW,hlen,h=>by
  have hs:((List.range (m+1)).map cell).sum=((List.range m).map cell).sum+cell m:=by simp[List.range_succ]
  rw[hs]at hlen⊢;obtain⟨ds,h1,h2⟩:=pZ Q cell off cs m (fun i hi=>qW i (by omega)) (by omega) fun i hi=>h i (by omega);obtain⟨dl,h3,h4⟩:=h m (by omega);have ho:=qW m (by omega);have hdl:=h1.1;have hl4:=h4.1;simp only[List.length_take,List.length_drop]at hdl hl4;refine⟨ds++dl, ?_,fun i hi=> ?_⟩
  ·have e:cs.take (((List.range m).map cell).sum+cell m)=cs.take ((List.range m).map cell).sum++(cs.drop (off m)).take (cell m):=by
    rw[List.take_add,←ho]
   rw[e];exact h1.append h4
  ·by_cases hm:i<m
   ·have h5:=h2 i hm;have h6:=IA cell m (i+1) (by omega);have e2:((List.range (i+1)).map cell).sum=((List.range i).map cell).sum+cell i:=by simp[List.range_succ]
    have h7:=qW i (by omega)
    rwa[List.drop_append_of_le_length (by omega),List.take_append_of_le_length (by simp;omega)]
   ·obtain rfl:i=m:=by omega
    have e1:off i=ds.length:=by omega
    rw[e1,List.drop_left,List.take_of_length_le (by omega)];exact h3
theorem qH{α:Type}(R:Nat→α→Prop): ∀n,(∀i,i<n→ ∃x,R i x)→ ∃l:List α,l.length=n∧ ∀i x,l[i]?=some x→R i x
 |0,_=>⟨[],rfl,fun i x h=>by simp at h⟩
 |n+1,h=>by
  obtain⟨l,h1,h2⟩:=qH R n fun i hi=>h i (by omega);obtain⟨x,hx⟩:=h n (by omega);refine⟨l++ [x],by simp[h1],fun i y hy=> ?_⟩;by_cases hi:i<l.length
  ·rw[Yz hi]at hy;exact h2 i y hy
  ·rw[Xz (by omega)]at hy
   have hi':i-l.length=0:=by
    have:=(Gz.1 hy).1;simp at this;omega
   rw[hi']at hy;simp only[List.getElem?_cons_zero,Jz]at hy;subst hy;have:i=n:=by omega
   subst this;exact hx
section
variable {H : Type} {enc : TypeId × Value → H} {P : Program} {w : World} {held : Bool}
theorem IW(hl:laidOutB P=true): ∀(n:Nat) (t:TypeId) (fuel:Nat) (cs:List Value) (x:DataW H×List MemPlace),t<P.types.size→tA P n t=true→
  DataW.trod enc P w 0 (fun _=>true) held fuel t cs=some x→ ∃ds,dH P n t ds∧lF w cs ds:=by
 intro n
 induction n with
 |zero=>intro t fuel cs x _ hk;simp[tA]at hk
 |succ n ih=>
  intro t fuel cs x ht hk h;simp only[tA]at hk;cases hu:P.underlying t with
  |none=>rw[hu]at hk;cases hk
  |some ty=>
   rw[hu]at hk;cases ty<;>simp only[]at hk<;>try (cases hk;done)
   case bool=>
    obtain⟨b,rfl,_⟩:=DataW.trod_bool hu h;exact⟨[bv b],by simp[dH,hu],lF.one rfl (.v rfl)⟩
   case int k=>
    obtain⟨z,rfl,_,hz⟩:=DataW.trod_int hu h;exact⟨[.v (.int k z)],by simp[dH,hu,hz],lF.one rfl (.v rfl)⟩
   case string=>
    obtain⟨s,rfl,_,hz⟩:=DataW.trod_string hu h;exact⟨[.v (.string s)],by simp[dH,hu,hz],lF.one rfl (.v rfl)⟩
   case slice e=>
    simp only[Az,decide_eq_true_eq]at hk;obtain⟨sW,hk⟩:=hk;have he:=kid_slice hl ht hu;rcases DataW.trod_slice hu h with⟨rfl,rfl⟩|⟨a,len,cap,elems,rest,m,rfl,rfl,rfl,_,hlc,hcm,hlen,hel,_,_⟩
    ·exact⟨[.list []],by simp[dH,hu],lF.one rfl .nil'⟩
    ·obtain⟨ll,hll,hR⟩:=qH (fun i (q:List Value×List D)=>w.cells? 0 (a.add (i*P.cellsOf e)) (P.cellsOf e)=some q.1∧dH P n e q.2∧lF w q.1 q.2) len fun i hi=>by
      have h1:=hel i hi;rw[Ez (by omega),Bz]at h1;obtain⟨c,hc,h1⟩:=h1;obtain⟨ds,h2,h3⟩:=ih e m c _ he hk h1;exact⟨(c,ds),hc,h2,h3⟩
     have hes:(ll.map (·.2)).length=len:=by simpa using hll
     refine⟨[.list (ll.map (·.2))], ?_,lF.one rfl ?_⟩
     ·simp only[dH,hu];refine⟨_,rfl,by omega,fun c hc=> ?_⟩;obtain⟨q,hq,rfl⟩:=List.mem_map.1 hc;obtain⟨i,hi⟩:=List.mem_iff_getElem?.1 hq;exact(hR i q hi).2.1
     ·by_cases h0:len=0
      ·subst h0;have:ll= []:=List.eq_nil_of_length_eq_zero hll;subst this;exact .emp
      ·have cell: ∀(i:Nat) (q:List Value×List D),ll[i]?=some q→ ∀k,k<P.cellsOf e→w.cell? ((a.add (i*P.cellsOf e)).add k)=q.1[k]?∧q.1.length=P.cellsOf e:=fun i q hq k hk'=>
        let⟨_,h2,h3⟩:=World.cells?_some (hR i q hq).1
        ⟨h3 k hk',h2⟩
       have L6:a.spot=none:=by
        have hq:=Ez (show 0<ll.length by omega);obtain⟨h2,h3⟩:=cell 0 _ hq 0 sW;rw[Ez (by omega)]at h2;have:=World.cell?_spot h2;simpa[Addr.add]using this
       obtain⟨b,off,sp⟩:=a;simp only at L6;subst L6
       have key: ∀(i:Nat) (q:List Value×List D),ll[i]?=some q→ ∀k,k<P.cellsOf e→ ∃c,q.1[k]?=some c∧w.cell? ⟨b,off+(i*P.cellsOf e+k),none⟩=some c:=fun i q hq k hk'=>by
        obtain⟨h2,h3⟩:=cell i q hq k hk';rw[dM,dM,Ez (by omega)]at h2;exact⟨_,Ez (by omega),by rw[←Nat.add_assoc];exact h2⟩
       have:=ai.list (w:=w) (pr:=eN w) (tk:=aI) (b:=b) (off:=off) (cap:=cap) (size:=P.cellsOf e) (es:=ll.map (·.2)) (fun j=>(w.cell? ⟨b,off+j,none⟩).getD undef) (fun c hc=>by
         obtain⟨q,hq,rfl⟩:=List.mem_map.1 hc;obtain⟨i,hi⟩:=List.mem_iff_getElem?.1 hq;rw[←(hR i q hi).2.2.1];exact(cell i q hi 0 sW).2) (by omega) (fun j hj=>by
         have hi:j/P.cellsOf e<ll.length:=by
          rw[List.length_map]at hj;exact Nat.div_lt_of_lt_mul (by rw[Nat.mul_comm];exact hj)
         have hk':=Nat.mod_lt j sW;have hq:=Ez hi;obtain⟨c,h1,h2⟩:=key _ _ hq _ hk';have ej:j/P.cellsOf e*P.cellsOf e+j%P.cellsOf e=j:=Nat.div_add_mod' j _;rw[ej]at h2;refine⟨by rw[h2];rfl,World.block_lt_of_cell? w _ h2, ?_⟩;rw[h2];have hrl:=(hR _ _ hq).2.2;exact(hrl.2 _ c _ h1 (Ez (by rw[←hrl.1];exact(Gz.1 h1).1))).1) (fun i c hc j d hd=>by
         rw[Dz,Mz]at hc;obtain⟨q,hq,rfl⟩:=hc;have hrl:=(hR i q hq).2.2
         have hj:j<P.cellsOf e:=by
          have:=(Gz.1 hd).1;rw[←hrl.1,(cell i q hq 0 sW).2]at this;exact this
         obtain⟨c,h1,h2⟩:=key i q hq j hj;simp only[h2,Option.getD_some]
         exact(hrl.2 j c d h1 hd).2)
       rw[hes]at this;exact this
   case struct fs=>
    obtain⟨k1,k2,k3⟩:=kid_struct hl ht hu;obtain⟨xs,m,rfl,rfl,hlen,hxs,hx⟩:=DataW.trod_struct hu h;rw[Tz]at hk
    have Un: ∀i,i<fs.toList.length→fs.toList[i]?=some (fs.toList.getD i default):=fun i hi=>by
     have hi':i<fs.size:=by simpa using hi
     simp[List.getD,hi']
    have UJ:=ue (fun f:Field=>P.cellsOf f.type) default fs.toList fs.toList.length (Nat.le_refl _);rw[List.take_length]at UJ;rw[UJ]at k2
    obtain⟨ds,h1,h2⟩:=pZ (w:=w) (fun i ds=>dH P n (fs.toList.getD i default).type ds) (fun i=>P.cellsOf (fs.toList.getD i default).type) (fun i=>(fs.toList.getD i default).offset) cs fs.toList.length
     (fun i hi=>by rw[k3 i _ (Un i hi),ue _ default _ i (by omega)]) (by omega) fun i hi=>by
      have hf:=Un i hi;have hf':fs[i]?=some (fs.toList.getD i default):=by rw[←hf];simp
      have h3:=hx i _ hf';rw[Ez (by rw[hxs];simpa using hi)]at h3;have hm:=Lz hf;exact ih _ m _ _ (k1 _ hm) (hk _ hm) h3
    rw[List.take_of_length_le (by omega)]at h1;refine⟨ds, ?_,h1⟩;simp only[dH,hu];refine⟨by rw[←h1.1,hlen],fun f hf=> ?_⟩;obtain⟨i,hi,rfl⟩:=List.getElem_of_mem hf;have hi':i<fs.size:=by simpa using hi
    have:=h2 i hi;simpa[List.getD,hi']using this
   case array m e=>
    obtain⟨k1,k2⟩:=kid_array hl ht hu;obtain⟨xs,q,rfl,rfl,hlen,hxs,hx⟩:=DataW.trod_array hu h
    obtain⟨ds,h1,h2⟩:=pZ (w:=w) (fun i ds=>dH P n e ds) (fun i=>P.cellsOf e) (fun i=>i*P.cellsOf e) cs m
     (fun i hi=>(mU _ i).symm) (by rw[mU];omega) fun i hi=>by
      have h3:=hx i hi;rw[Ez (by omega)]at h3;exact ih _ q _ _ k1 hk h3
    rw[mU,List.take_of_length_le (by omega)]at h1;refine⟨ds, ?_,h1⟩;simp only[dH,hu];exact⟨by rw[←h1.1,hlen],h2⟩
def jM(P:Program)(n:Nat)(t:TypeId)(d:D):Prop:=match P.underlying t with
 |some (.struct _)|some (.array _ _)=> ∃ds,d= .agg ds∧dH P n t ds
 |_=>dH P n t [d]
def lK(P:Program)(n:Nat):List TypeId→List D→Prop
 | [],[]=>True
 |t::ts,d::ds=>jM P n t d∧lK P n ts ds
 |_,_=>False
theorem IV(hl:laidOutB P=true){n:Nat}{t:TypeId}{v:Value}{d:DataW H}{p:List MemPlace}{base:Nat}(ht:t<P.types.size)(hk:tA P n t=true)(hv:Value.okWide P w .any base t v)
  (h:DataW.Trod enc P w 0 (fun _=>true) held t v d p): ∃d',jM P n t d'∧ai w (eN w) aI v d':=by
 obtain⟨fuel,h⟩:=h;obtain⟨ds,h1,h2⟩:=IW hl n t fuel _ _ ht hk h
 have plain:(∀cs,v≠ .agg cs)→jM P n t (ds.getD 0 .undef)=dH P n t [ds.getD 0 .undef]→ ∃d',jM P n t d'∧ai w (eN w) aI v d':=fun hne e=>by
  have hc:v.cells.toList= [v]:=by
   cases v<;>first|rfl|exact absurd rfl (hne _)
  rw[hc]at h2;have hl1:=h2.1
  match ds,hl1 with
  | [d0],_=>exact⟨d0,by simp only[List.getD_cons_zero]at e;rw[e];exact h1,(h2.2 0 v d0 rfl rfl).2⟩
 have agg: ∀cs,v= .agg cs→jM P n t (.agg ds)=(∃ds',D.agg ds= .agg ds'∧dH P n t ds')→ ∃d',jM P n t d'∧ai w (eN w) aI v d':=fun cs e e2=>by
  subst e;refine⟨.agg ds,by rw[e2];exact⟨ds,rfl,h1⟩, .agg (by simpa[Value.cells]using h2.1) (fun i c hc=> ?_) fun i c x hc hx=>(h2.2 i c x (by simpa[Value.cells]using hc) hx).2⟩
  have hi:i<ds.length:=by
   have:=(Array.getElem?_eq_some_iff.1 hc).1;have:=h2.1;simp[Value.cells]at this;omega
  exact(h2.2 i c _ (by simpa[Value.cells]using hc) (Ez hi)).1
 cases hu:P.underlying t with
 |none=>cases n<;>simp[tA,hu]at hk
 |some ty=>
  cases ty
  case struct fs=>
   simp only[Value.okWide,hu]at hv;obtain⟨cs,rfl,_⟩:=hv;exact agg cs rfl (by simp only[jM,hu])
  case array m e=>
   simp only[Value.okWide,hu]at hv;obtain⟨cs,rfl,_⟩:=hv;exact agg cs rfl (by simp only[jM,hu])
  all_goals
   refine plain (fun cs e=> ?_) (by simp only[jM,hu]);subst e;simp[Value.okWide,hu,Cell.okWide,Cell.ok]at hv
theorem wG(hl:laidOutB P=true){n:Nat}{base:Nat}: ∀{ts:List TypeId} {vs:List Value} {ds:List (DataW H)} {p:List MemPlace},(∀t∈ts,t<P.types.size∧tA P n t=true)→
  (∀(j:Nat) t v,ts[j]?=some t→vs[j]?=some v→Value.okWide P w .any base t v)→DataW.TrodAll enc P w 0 (fun _=>true) held ts vs ds p→ ∃Ds,lK P n ts Ds∧aX w (eN w) aI vs Ds
 | [],vs,ds,p,_,_,h=>by
  obtain⟨rfl,rfl,rfl⟩:=trodAll_nil h;exact⟨[],trivial,trivial⟩
 |t::ts,vs,ds,p,hk,hv,h=>by
  obtain⟨v,vs1,d,ds1,a,b,rfl,rfl,rfl,h1,h2⟩:=trodAll_cons h;obtain⟨d',e1,e2⟩:=IV hl (hk t List.mem_cons_self).1 (hk t List.mem_cons_self).2 (hv 0 t v rfl rfl) h1;obtain⟨Ds,e3,e4⟩:=wG hl (fun t' ht'=>hk t' (Cz _ ht')) (fun j t' v' ht' hv'=>hv (j+1) t' v' ht' hv') h2;exact⟨d'::Ds,⟨e1,e3⟩,⟨e2,e4⟩⟩
theorem ux(hl:laidOutB P=true){W W':World}(hb:Below W.heap.size W W'){sp:Nat→Bool}: ∀{ts:List TypeId} {vs:List Value} {ds:List (DataW H)} {p:List MemPlace},(∀t∈ts,t<P.types.size∧P.readableRec t=true)→
  (∀x∈p,x.block<W.heap.size∧sp x.block=true)→DataW.TrodAll enc P W 0 (fun _=>true) true ts vs ds p→DataW.TrodAll enc P W' 0 sp true ts vs ds p
 | [],vs,ds,p,_,_,h=>by
  obtain⟨rfl,rfl,rfl⟩:=trodAll_nil h;exact trodAll_mk0
 |t::ts,vs,ds,p,hk,hp,h=>by
  obtain⟨v,vs1,d,ds1,a,b,rfl,rfl,rfl,h1,h2⟩:=trodAll_cons h;refine trodAll_cons_mk (WideElems.Trod_stays hl (hk t List.mem_cons_self).2 (hk t List.mem_cons_self).1 h1 (fun x hx=>hb.same (hp x (List.mem_append_left _ hx)).1) fun x hx=>(hp x (List.mem_append_left _ hx)).2) ?_;exact ux hl hb (fun t' ht'=>hk t' (Cz _ ht')) (fun x hx=>hp x (List.mem_append_right _ hx)) h2
theorem qP{W:World}{sp:Nat→Bool}: ∀{ts:List TypeId} {vs:List Value} {ds:List (DataW H)} {p:List MemPlace},DataW.TrodAll enc P W 0 sp held ts vs ds p→ds.length=ts.length
 | [],vs,ds,p,h=>by
  obtain⟨rfl,rfl,rfl⟩:=trodAll_nil h;rfl
 |t::ts,vs,ds,p,h=>by
  obtain⟨v,vs1,d,ds1,a,b,rfl,rfl,rfl,h1,h2⟩:=trodAll_cons h;simp[qP h2]
theorem wM.body{f:Nat}{ds:List D}{d:D}(h:wM P f ds d)(hb:cX P f)(w0:World)(pr0:aT)(c0:Array Value)(hr:aX w0 pr0 aI c0.toList ds):cX P f∧ ∀(w:World) (pr:aT) (cargs:Array Value),(∀b o,pr b o→b<w.heap.size)→AQ w pr→aX w pr aI cargs.toList ds→
  Calls P f cargs w fun e w'=> ∃v pr',e= .returned v∧cW (fun _=>False) w w'∧(∀b o,pr b o→pr' b o)∧(∀b o,pr' b o→pr b o∨(w.heap.size≤b∧b<w'.heap.size))∧ai w' pr' aI v d:=by
 rcases h with h|h
 ·obtain⟨v,h1,_⟩:=h w0 pr0 c0 hr;rw[bI hb]at h1;cases h1
 ·exact h
theorem xB(hl:laidOutB P=true){f:FuncId}{fn:Func}{s:ChangeSpec}{n tb:Nat}(G6:s.vars= [])(UI: ∀ds:List (DataW H),ds.length=fn.params.size→s.fn H ds={results:= [.lit (.bool true)],args:=ds})
  (JV:fn.resultTypes= #[tb]) (hb:P.underlying tb=some .bool) (hts: ∀t∈fn.params.toList,t<P.types.size∧tA P n t=true∧P.readableRec t=true)
  (hc: ∀Ds,lK P n fn.params.toList Ds→wM P f Ds (bv true))
  (W:World) (base:Nat) (args:Array Value) (ds gs:List (DataW H)) (before:List MemPlace)
  (Qf: ∀(j:Nat) t v,fn.params[j]?=some t→args[j]?=some v→Value.okWide P W .any base t v) (hG:AQ W (eN W)) (TO:cX P f)
  (hW:DataW.Whole enc P fn.params.toList s.vars false W args.toList ds gs before):
  Calls P f args W fun e W'=> ∃v,e= .returned v∧s.post enc P fn false true false false W args v W':=by
 have hlt: ∀p∈before,p.block<W.heap.size:=fun p hp=>hW.lt p hp;have hW':=hW;obtain⟨p,q,hA,hV,rfl,hfz,hnd⟩:=hW;rw[G6]at hV;obtain⟨rfl,rfl⟩:=trodVars_none hV;rw[List.append_nil]at hlt hW' hfz hnd;obtain⟨Ds,h1,h2⟩:=wG (held:=true) hl (n:=n) (base:=base) (fun t ht=>⟨(hts t ht).1,(hts t ht).2.1⟩) (fun j t v ht hv=>Qf j t v (by simpa using ht) (by simpa using hv)) hA;obtain⟨_,l7⟩:=(hc Ds h1).body TO W _ args h2;refine(l7 W (eN W) args (fun b o h=>h) hG h2).mono ?_;rintro e W' ⟨v,pr',rfl,hch,_,_,hr⟩;obtain⟨rfl,_⟩:=aP.1 hr;refine⟨_,rfl, ?_⟩;have PW:Below W.heap.size W W':=⟨hch.os,hch.tape,hch.output,hch.size,fun k hk=>hch.block k hk (fun h=>h)⟩;have hlen:ds.length=fn.params.size:=by have:=qP hA;simpa using this
 have hsp:=UI ds hlen
 have hA': ∀sp:Nat→Bool,(∀x∈p,sp x.block=true)→DataW.TrodAll enc P W' 0 sp true fn.params.toList args.toList ds p:=fun sp hs=>
  ux hl PW (fun t ht=>⟨(hts t ht).1,(hts t ht).2.2⟩) (fun x hx=>⟨hlt x hx,hs x hx⟩) hA
 have hR: ∀(b:Nat) (sp:Nat→Bool) (hd:Bool),DataW.TrodAll enc P W' b sp hd fn.resultTypes.toList ((Value.bool true).resultList fn.resultTypes.size) [.lit (.bool true)] []:=fun b sp hd=>by
  rw[JV];exact trodAll_mk1 (shut_bool hb true)
 have hap:ds++([]:List (DataW H))=ds:=List.append_nil ds;refine⟨ds,[],p,[],p,[],hW', ?_, ?_, ?_,PW.frame _,fun _=> ?_⟩
 ·rw[hap,hsp];exact hR _ _ _
 ·rw[hap,hsp];exact hA' _ fun x hx=>by simpa using hlt x hx
 ·rw[G6,hap,hsp];exact rfl
 ·refine⟨ok_one JV rfl (okWide_bool_mk hb true),[.lit (.bool true)]++ds,[],([]++p)++ [],⟨[]++p,[],trodAll_append (hA' _ fun _ _=>rfl) (hR _ _ _),by rw[G6];exact rfl,rfl, ?_, ?_⟩, ?_⟩
  ·intro b off hp;have hm:MemPlace.cell b off∈p:=by simpa using hp
   rw[PW.frozen (p:=⟨b,off,none⟩) (hlt _ hm)];exact hfz b off hm
  ·intro ha;cases ha
  ·intro x hx _;simpa using hx
end
end
section
open Go.ChangeShapes Go.WideShapes Go.ChangeAt Go.RowKit
def zQ{H:Type}:Nat→DataW H→Option (List Value)
 |0,_=>none
 |_+1, .lit (.int k z)=>some [.int k z]
 |n+1, .agg xs=>(xs.mapM (zQ n)).map List.flatten
 |_+1,_=>none
def xy(P:Program):Nat→TypeId→Bool
 |0,_=>false
 |n+1,t=>match P.underlying t with
  |some (.int _)=>true
  |some (.array _ e)=>xy P n e
  |_=>false
theorem chunks{α:Type}(c:Nat): ∀(ls:List (List α)) (cs:List α),cs.length=ls.length*c→(∀i l,ls[i]?=some l→(cs.drop (i*c)).take c=l)→cs=ls.flatten
 | [],cs,hl,_=>by simpa using hl
 |l::r,cs,hl,h=>by
  have h0:=h 0 l rfl;simp only[Nat.zero_mul,List.drop_zero]at h0
  have hr:=chunks c r (cs.drop c) (by simp only[List.length_cons,Nat.add_mul,Nat.one_mul]at hl;simp[hl]) fun i l hi=>by
   have:=h (i+1) l (by simpa using hi)
   rwa[Nat.add_mul,Nat.one_mul,Nat.add_comm,←List.drop_drop]at this
  rw[List.flatten_cons,←hr,←h0,List.take_append_drop]
section
variable {H : Type} {enc : TypeId × Value → H} {P : Program} {w : World} {base : Nat} {sp : Nat → Bool} {held : Bool}
theorem Fo(hl:laidOutB P=true): ∀(n:Nat) (t:TypeId) (fuel:Nat) (cs:List Value) (d:DataW H) (p:List MemPlace) (vs:List Value),t<P.types.size→xy P n t=true→DataW.trod enc P w base sp held fuel t cs=some (d,p)→zQ n d=some vs→cs=vs:=by
 intro n
 induction n with
 |zero=>intro t fuel cs d p vs _ hk;cases hk
 |succ n ih=>
  intro t fuel cs d p vs ht hk h hv;simp only[xy]at hk;split at hk
  ·rename_i k hu;obtain⟨z,rfl,e,_⟩:=DataW.trod_int hu h;cases e;simp only[zQ,Jz]at hv;exact hv
  ·rename_i m e hu;obtain⟨k1,k2⟩:=kid_array hl ht hu;obtain⟨xs,q,rfl,e,hlen,hxs,hx⟩:=DataW.trod_array hu h;cases e;simp only[zQ]at hv;obtain⟨ls,h1,rfl⟩:=Mz.1 hv;obtain⟨l1,l2⟩:=gD h1;simp only[List.length_map]at l1;refine chunks (P.cellsOf e) ls cs (by rw[hlen,k2,l1,hxs]) fun i l hi=> ?_;have hil:=(Gz.1 hi).1;have h3:=hx i (by omega);have hxi:=Ez (show i<xs.length by omega);rw[hxi]at h3;obtain⟨a,ha,hla⟩:=l2 i l hi;rw[Dz,hxi]at ha;cases ha;exact ih e q _ _ _ _ k1 hk h3 hla
  ·cases hk
theorem zN: ∀{l:List (String×DataW Unit)} {ps:List MemPlace},DataW.LaidVars P w l ps→ ∀{n:String} {d:DataW Unit},(n,d)∈l→
  ∃g t cs fuel p,P.globalNamed n=some g∧(P.globals[g]?).map (·.type)=some t∧w.var? P n=some cs∧DataW.trod (fun _=>()) P w 0 (fun _=>true) false fuel t cs.toList=some (d,p)
 | [],ps,h,n,d,hm=>by cases hm
 |(n',d')::r,ps,h,n,d,hm=>by
  obtain⟨g,t,cs,fuel,p,q,h1,h2,h3,h4,h5,_⟩:=h;rcases List.mem_cons.1 hm with e|hm
  ·cases e;exact⟨g,t,cs,fuel,p,h1,h2,h3,h4⟩
  ·exact zN h5 hm
theorem zB(hl:laidOutB P=true){laid:List (String×DataW Unit)}(h:laidMet P laid w)
  (hc: ∀g xs,C_ g=some xs→ ∃n d vs t,(n,d)∈laid∧P.globalNamed n=some g∧(P.globals[g]?).map (·.type)=some t∧t<P.types.size∧xy P 3 t=true∧zQ 3 d=some vs∧xs=vs.map D.v∧vs.all p8=true):AQ w (eN w):=by
 obtain⟨ps,hv,_,_⟩:=h;intro g xs hg;obtain⟨n,d,vs,t,hm,h1,h2,h3,h4,h5,rfl,h6⟩:=hc g xs hg;obtain⟨g',t',cs,fuel,p,k1,k2,k3,k4⟩:=zN hv hm;rw[h1]at k1;cases k1;rw[h2]at k2;cases k2;have e:=Fo hl 3 t fuel _ _ _ _ h3 h4 k4 h5
 have cell: ∀i v,vs[i]?=some v→w.cell? ⟨g,0+i,none⟩=some v:=fun i v hi=>by
  rw[Nat.zero_add,World.var?_cell h1 k3 i,←Array.getElem?_toList,e];exact hi
 refine .lptr (fun j=>vs.getD j undef) (fun j hj=> ?_) fun j d hd=> ?_
 ·have hj':j<vs.length:=by simpa using hj
  have hv':=Ez hj';have:=cell j _ hv';simp only[List.getD,hv',Option.getD_some];exact⟨this,World.block_lt_of_cell? w _ this,eG (Tz.1 h6 _ (List.getElem_mem hj'))⟩
 ·rw[Dz,Mz]at hd;obtain⟨v,hv',rfl⟩:=hd;simp only[List.getD,hv',Option.getD_some];exact .v (Tz.1 h6 v (Lz hv'))
end
end
section
open Go.ChangeShapes Go.WideShapes Go.ChangeAt Go.RowKit
theorem laidOut:laidOutB Tryz.prog=true:=by kernel_rfl
theorem abk:ownKnob Tryz.prog.godebug=none:=by kernel_rfl
theorem l_:Tryz.prog.follows .mixedOrders=true:=by kernel_rfl
def Mq:List (String×DataW Unit):=Rows.rankWrongRow.laid
theorem GN{W:World}(h:laidMet Tryz.prog Mq W):AQ W (eN W):=by
 refine zB laidOut h fun g xs hg=> ?_;unfold C_ at hg;split at hg<;>cases hg
 ·exact⟨_,Rows.laid_finesse_match_gets,[.int .i64 0, .int .i64 1, .int .i64 2],100,show _∈Rows.rankWrongRow.laid from .head _,by kernel_rfl,by kernel_rfl,of_decide_eq_true (by kernel_rfl),by kernel_rfl,rfl,rfl,rfl⟩
 ·exact⟨_,Rows.laid_finesse_score_value,[.int .i64 20, .int .i64 20, .int .i64 30, .int .i64 30, .int .i64 30],436,show _∈Rows.rankWrongRow.laid from .tail _ (.head _),by kernel_rfl,by kernel_rfl,of_decide_eq_true (by kernel_rfl),by kernel_rfl,rfl,rfl,rfl⟩
 ·exact⟨_,Rows.laid_finesse_score_factor,[.int .i64 1, .int .i64 2, .int .i64 4],100,show _∈Rows.rankWrongRow.laid from .tail _ (.tail _ (.head _)),by kernel_rfl,by kernel_rfl,of_decide_eq_true (by kernel_rfl),by kernel_rfl,rfl,rfl,rfl⟩
 ·exact⟨_,Rows.laid_finesse_score_more,[.int .i64 0, .int .i64 0, .int .i64 100, .int .i64 200, .int .i64 200, .int .i64 400],437,show _∈Rows.rankWrongRow.laid from .tail _ (.tail _ (.tail _ (.tail _ (.head _)))),by kernel_rfl,by kernel_rfl,of_decide_eq_true (by kernel_rfl),by kernel_rfl,rfl,rfl,rfl⟩
 ·exact⟨_,Rows.laid_finesse_score_insult,[.int .i64 0, .int .i64 50, .int .i64 100],100,show _∈Rows.rankWrongRow.laid from .tail _ (.tail _ (.tail _ (.head _))),by kernel_rfl,by kernel_rfl,of_decide_eq_true (by kernel_rfl),by kernel_rfl,rfl,rfl,rfl⟩
noncomputable def vS(os:Os):World:=
 let w0:=World.holding Tryz.prog os ⟨#[],#[],[]⟩
 let put:=fun(h:Array Obj) (g:Nat) (l:List Int)=>h.modify g fun
  | .cells _ t frozen=> .cells (l.map fun z=>Value.int .i64 z).toArray t frozen
  |o=>o
 {w0 with heap:=put (put (put (put (put w0.heap 2 [0,1,2]) 3 [20,20,30,30,30]) 4 [1,2,4]) 5 [0,0,100,200,200,400]) 6 [0,50,100]}
theorem uV(os:Os)(args:Array Value):laidMet Tryz.prog Mq ((vS os).forCall (fun _ _=>0) ⟨#[],args,[]⟩).memory:=
 laidMet_of_run' 8 (by kernel_rfl) (by kernel_rfl)
end
section
abbrev eX:Int:=18446744073709551616
def po:List D→Option D
 | [.v (.int .u64 x), .v (.int .u64 y), .v (.int .u64 c)]=>if 0≤x∧0≤y∧0≤c∧c≤1 then some (.tup [.v (.int .u64 ((x+y+c)%eX)), .v (.int .u64 ((x+y+c)/eX))])else none
 |_=>none
def qh:List D→Option D
 | [.v (.int .u64 x), .v (.int .u64 y), .v (.int .u64 c)]=>if(0≤x∧0≤y∧y<eX)∧0≤c∧c≤1 then some (.tup [.v (.int .u64 ((x+eX-y-c)%eX)), .v (.int .u64 (if x<y+c then 1 else 0))])else none
 |_=>none
def jj:FP:=fun f ds=>if f=185 then po ds else if f=186 then qh ds else none
theorem Xv{w:World}{pr:aT}{tk:ag}{cargs:Array Value}{x y c:Value}(h:aX w pr tk cargs.toList [.v x, .v y, .v c]):cargs= #[x,y,c]:=by
 obtain⟨l⟩:=cargs
 match l,h with
 | [a,b,d],⟨h1,h2,h3,_⟩=>
  obtain⟨rfl,_⟩:=aP.1 h1;obtain⟨rfl,_⟩:=aP.1 h2;obtain⟨rfl,_⟩:=aP.1 h3;rfl
theorem Ah{w:World}{pr:aT}{tk:ag}(k q:IntKind)(a b:Int):ai w pr tk (.tuple #[.int k a, .int q b]) (.tup [.v (.int k a), .v (.int q b)]):=
 .tup rfl fun i c x hc hx=>by
  match i with
  |0=>simp at hc hx;subst hc hx;exact .v rfl
  |1=>simp at hc hx;subst hc hx;exact .v rfl
  |i+2=>simp at hx
theorem kK:Sound Tryz.prog (bg jj) where
 p f ds d _ h:=by
  replace h:(if f=185 then po ds else if f=186 then qh ds else none)=some d:=h
  split at h
  ·rename_i hf;subst hf;unfold po at h;split at h
   ·rename_i x y c;split at h<;>cases h;rename_i hc;refine wM.toR (.inl fun w pr cargs hr=> ?_) rfl;rw[Xv hr];refine⟨_, ?_,Ah _ _ _ _⟩;rw[run_callFunc_extern (fn:=Tryz.f185) Tryz.func185 (by kernel_rfl) (by kernel_rfl) (by kernel_rfl) (e:=add64Entry) (by kernel_rfl),run_add64 x y c hc.1 hc.2.1 hc.2.2.1 hc.2.2.2];rfl
   ·cases h
  split at h
  ·rename_i hf;subst hf;unfold qh at h;split at h
   ·rename_i x y c;split at h<;>cases h;rename_i hc;obtain⟨⟨h1,h2,h3⟩,h4,h5⟩:=hc;refine wM.toR (.inl fun w pr cargs hr=> ?_) rfl;rw[Xv hr];refine⟨_, ?_,Ah _ _ _ _⟩;obtain⟨X,rfl⟩:=Int.eq_ofNat_of_zero_le h1;obtain⟨Y,rfl⟩:=Int.eq_ofNat_of_zero_le h2;obtain⟨b,rfl⟩:=Int.eq_ofNat_of_zero_le h4;rw[run_callFunc_extern (fn:=Tryz.f186) Tryz.func186 (by kernel_rfl) (by kernel_rfl) (by kernel_rfl) (e:=sub64Entry) (by kernel_rfl),run_sub64 X Y b (by omega)];simp only[Result.andThen];have e1:(((X+18446744073709551616-Y-b)%18446744073709551616:Nat):Int)=((X:Int)+eX-Y-b)%eX:=by unfold eX at h3⊢;omega
    have e2:((if X<Y+b then 1 else 0:Nat):Int)=if(X:Int)<Y+b then 1 else 0:=by
     split<;>split<;>first|rfl|omega
    rw[e1,e2]
   ·cases h
  ·cases h
 e k f ds r hf _ h:=by
  have h:(if 1000000+(1000000*k+f)=185 then po ds else if 1000000+(1000000*k+f)=186 then qh ds else none)=some r:=h;rw[if_neg (by omega),if_neg (by omega)]at h;cases h
 q e f ds r hf h:=by
  obtain⟨d,hd,rfl⟩:=Mz.1 (show(jj (1000001000000+(1000000*e+f)) ds).map _=some r from h);have hd:(if 1000001000000+(1000000*e+f)=185 then po ds else if 1000001000000+(1000000*e+f)=186 then qh ds else none)=some d:=hd;rw[if_neg (by omega),if_neg (by omega)]at hd;cases hd
end
end Go.Proofs.YtdepmampjnlgiaaGreatDoor
