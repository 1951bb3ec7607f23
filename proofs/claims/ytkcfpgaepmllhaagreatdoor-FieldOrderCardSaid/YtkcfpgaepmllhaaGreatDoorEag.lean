/- Part of the proof: symbolic execution of the program, its soundness, and the closing lemmas. No condition. -/
import Derived.Test.YtkcfpgaepmllhaaGreatDoorEaf
import Derived.ProofKit
import Derived.Deep.DeepHandedRow
import Derived.OpenShut
import Derived.FnData
import Derived.Test.YtkcfpgaepmllhaaGreatDoorTie
import Derived.Test.YtkcfpgaepmllhaaGreatDoorCards
import Derived.Handed
import Derived.Shelf.Spec.BitsCarry
import Derived.Shelf.SlSortCmp.WholeK
import Derived.Shelf.SlGeneric
import Derived.Ground.SlsfProg
namespace Go.Proofs.YtkcfpgaepmllhaaGreatDoor
open Go.RowKit
set_option maxRecDepth 100000
set_option linter.all false
noncomputable section
def U8{α:Type}(v:D)(a b:Option α):Option α:=dV none (vB none fun x=>bZ x a b) v
theorem GH{α:Type}(v:D)(a b:Option α):U8 v a b=v.asBool.bind fun x=>bif x then a else b:=by
 cases v<;>try rfl
 rename_i v;cases v<;>try rfl
 rename_i x;cases x<;>rfl
def I7(l:List D):List D→List D:= @List.rec D (fun _=>List D→List D) (fun acc=>acc) (fun a _ ih acc=>ih (a::acc)) l
theorem sH: ∀(l acc:List D),I7 l acc=l.reverse++acc
 | [],_=>rfl
 |a::r,acc=>by
  show I7 r (a::acc)=_;rw[sH r,List.reverse_cons,List.append_assoc];rfl
def kx(G:FP)(x:X):Nat→List D→Option D:=
 @X.rec (fun _=>Nat→List D→Option D) (fun _=>Nat→List D→Option (List D)) (fun i n E=>bZ (Nat.blt i n) (nth E (Nat.sub (Nat.sub n 1) i)) none) (fun d _ _=>some d) (fun k _ ih n E=>gh (ih n E) (runK G k))
  (fun _ _ _ hc ha hb n E=>gh (hc n E) fun v=>U8 v (ha n E) (hb n E)) (fun _ _=>some []) (fun _ _ hx hr n E=>gh (hx n E) fun d=>gh (hr n E) fun ds=>some (d::ds)) x
def Iw(G:FP)(xs:List X):Nat→List D→Option (List D):=
 @X.rec_1 (fun _=>Nat→List D→Option D) (fun _=>Nat→List D→Option (List D)) (fun i n E=>bZ (Nat.blt i n) (nth E (Nat.sub (Nat.sub n 1) i)) none) (fun d _ _=>some d) (fun k _ ih n E=>gh (ih n E) (runK G k))
  (fun _ _ _ hc ha hb n E=>gh (hc n E) fun v=>U8 v (ha n E) (hb n E)) (fun _ _=>some []) (fun _ _ hx hr n E=>gh (hx n E) fun d=>gh (hr n E) fun ds=>some (d::ds)) xs
mutual
theorem wy(G:FP)(E:List D): ∀(x:X),kx G x E.length E.reverse=D5 G x E
 | .t i=>by
  show bZ (Nat.blt i E.length) (nth E.reverse (E.length-1-i)) none=nth E i;rw[oi,oi,bX];by_cases h:i<E.length
  ·rw[if_pos (by simpa[Nat.blt_eq]using h),List.getElem?_reverse (by omega)];congr 1;omega
  ·rw[if_neg (by simpa[Nat.blt_eq]using h)];simp at h⊢;omega
 | .q _=>rfl
 | .mk k xs=>by
  show gh (Iw G xs E.length E.reverse) (runK G k)=(lQ G xs E).bind (CV G k);rw[qj G E xs,cm,Mj]
 | .ite c a b=>by
  show gh (kx G c E.length E.reverse) (fun v=>U8 v (kx G a E.length E.reverse) (kx G b E.length E.reverse))=(D5 G c E).bind fun v=>v.asBool.bind fun x=>bif x then D5 G a E else D5 G b E
  rw[wy G E c,wy G E a,wy G E b,cm];congr 1;funext v;exact GH _ _ _
theorem qj(G:FP)(E:List D): ∀(xs:List X),Iw G xs E.length E.reverse=lQ G xs E
 | []=>rfl
 |x::r=>by
  show gh (kx G x E.length E.reverse) (fun d=>gh (Iw G r E.length E.reverse) fun ds=>some (d::ds))=(D5 G x E).bind fun d=>(lQ G r E).bind fun ds=>some (d::ds);rw[wy G E x,qj G E r,cm];congr 1;funext d;exact cm _ _
end
def itK{α β:Type}(F:(α→Option β)→α→Option β)(N:Nat):α→Option β:= @Nat.rec (fun _=>α→Option β) (fun _=>none) (fun _ ih=>F ih) N
theorem H_{α β:Type}(F:(α→Option β)→α→Option β): ∀N,itK F N=iter F N
 |0=>rfl
 |n+1=>by
  show F (itK F n)=F (iter F n);rw[H_ F n]
def Uh(x:X)(d:D):D:=bZ (fF d) d (bU x d)
theorem My(x:X)(d:D):Uh x d=bU x d:=by
 unfold Uh;rw[bX,Nn];split
 ·unfold bU;rw[if_pos (by assumption)]
 ·rfl
def Tf(x:X)(d:D):Option D:=bZ (fT d) (some (Uh x d)) none
def JM(f:Nat→List D→Option D)(n:Nat)(E vs:List D):Option D:=Sc (rR vs n) fun m=>f m (I7 vs E)
def kf(G:FP)(N:Nat)(t:FT):List (List D→Option D)→Nat→List D→Option D:=
 @FT.rec (fun _=>List (List D→Option D)→Nat→List D→Option D)
  (fun x _ n E=>gh (kx G x n E) (Tf x))
  (fun xs _ ih L n E=>gh (Iw G xs n E) fun _=>ih L n E)
  (fun xs _ ih L n E=>gh (Iw G xs n E) (JM (ih L) n E))
  (fun c _ _ ha hb L n E=>gh (kx G c n E) fun v=>U8 v (ha L n E) (hb L n E))
  (fun xs _ ih L n E=>gh (Iw G xs n E) (itK (fun rec vs=>JM (ih (rec::L)) n E vs) N))
  (fun j xs L n E=>gh (Iw G xs n E) fun ds=>gh (CN j L) fun f=>f ds)
  (fun _ _ hk hb L n E=>hb (JM (hk L) n E::L) n E)
  (fun _ _ _ _=>none) (fun _ _ _ _ _=>none) t
theorem CA(f:Nat→List D→Option D)(g:List D→Option D)(h: ∀E:List D,f E.length E.reverse=g E)(E vs:List D):JM f E.length E.reverse vs=g (E++vs):=by
 unfold JM;rw[pZ,iw,sH,←h (E++vs),List.length_append,List.reverse_append]
theorem Eo(G:FP)(N:Nat): ∀(t:FT) (L:List (List D→Option D)) (E:List D),kf G N t L E.length E.reverse=sn G N t L E:=by
 intro t
 induction t with
 |ret x=>
  intro L E;show gh (kx G x E.length E.reverse) (Tf x)=(D5 G x E).bind fun d=>bif d.aF then some (bU x d)else none
  rw[wy,cm];congr 1;funext d;unfold Tf;rw[tw,My];cases d.aF<;>rfl
 |fC xs k ih=>
  intro L E;show gh (Iw G xs E.length E.reverse) (fun _=>kf G N k L E.length E.reverse)=(lQ G xs E).bind fun _=>sn G N k L E;rw[qj,cm,ih]
 |lets xs k ih=>
  intro L E;show gh (Iw G xs E.length E.reverse) (JM (kf G N k L) E.length E.reverse)=(lQ G xs E).bind fun ds=>sn G N k L (E++ds);rw[qj,cm];congr 1;funext ds;exact CA _ _ (ih L) E ds
 |ite c a b iha ihb=>
  intro L E;show gh (kx G c E.length E.reverse) (fun v=>U8 v (kf G N a L E.length E.reverse) (kf G N b L E.length E.reverse))=(D5 G c E).bind fun v=>v.asBool.bind fun x=>bif x then sn G N a L E else sn G N b L E
  rw[wy,cm,iha,ihb];congr 1;funext v;exact GH _ _ _
 |loop xs k ih=>
  intro L E;show gh (Iw G xs E.length E.reverse) (itK (fun rec vs=>JM (kf G N k (rec::L)) E.length E.reverse vs) N)=(lQ G xs E).bind fun ds=>iter (fun rec vs=>sn G N k (rec::L) (E++vs)) N ds;rw[qj,cm,H_]
  have e:(fun(rec:List D→Option D) vs=>JM (kf G N k (rec::L)) E.length E.reverse vs)=fun rec vs=>sn G N k (rec::L) (E++vs):=by
   funext rec vs;exact CA _ _ (ih (rec::L)) E vs
  rw[e]
 |next j xs=>
  intro L E;show gh (Iw G xs E.length E.reverse) (fun ds=>gh (CN j L) fun f=>f ds)=(lQ G xs E).bind fun ds=>(L[j]?).bind fun f=>f ds;rw[qj,cm];congr 1;funext ds;rw[cm,yj]
 |jp k b ihk ihb=>
  intro L E;show kf G N b (JM (kf G N k L) E.length E.reverse::L) E.length E.reverse=sn G N b ((fun vs=>sn G N k L (E++vs))::L) E
  have e:JM (kf G N k L) E.length E.reverse=fun vs=>sn G N k L (E++vs):=by
   funext vs;exact CA _ _ (ihk L) E vs
  rw[ihb,e]
 |st Y=>intro L E;rfl
 |bad w Y=>intro L E;rfl
def Ia(G:FP)(N f:Nat)(ds:List D)(q:Nat×FT):Option D:=bZ (Nat.beq (rR ds 0) q.1) (bZ (gq fT ds) (bZ (Nat.blt f 1000000) (Sc (rR ds 0) fun m=>kf G N q.2 [] m (I7 ds [])) none) none) none
def iF(T:Nat→Option (Nat×FT))(H:FP)(N k:Nat):FP:=
 @Nat.rec (fun _=>FP) (fun _ _=>none) (fun _ ih f ds=> @Option.rec D (fun _=>Option D) (gh (T f) (Ia ih N f ds)) some (H f ds)) k
theorem Cb(T:Nat→Option (Nat×FT))(H:FP)(N:Nat): ∀k,iF T H N k=KC T H N k
 |0=>rfl
 |k+1=>by
  funext f ds;show @Option.rec D (fun _=>Option D) (gh (T f) (Ia (iF T H N k) N f ds)) some (H f ds)=(H f ds).casesOn ((T f).bind fun q=>bif Nat.beq ds.length q.1&&ds.all D.aF&&Nat.blt f 1000000 then sn (KC T H N k) N q.2 [] ds else none) some;rw[cm,Cb T H N k];congr 1;congr 1;funext q;unfold Ia;have h:=Eo (KC T H N k) N q.2 [] ds;rw[pZ,iw,Nat.zero_add,sH,List.append_nil,h,dO,tw];cases Nat.beq ds.length q.1<;>cases ds.all D.aF<;>cases Nat.blt f 1000000<;>rfl
def zJ(x y:Value):Bool:=vI (pR x y) (fun k a=>vI (pR x y) (fun k' b=>bZ (KA k k') (VS a b) false) y) x
theorem GU{x y:Value}(h:zJ x y=true):x=y:=by
 have key:zJ x y=pR x y:=rz fun k a e1=>rz fun k' b e2=>by
  subst e1 e2;rw[D4,B_,bX];show _=decide (k=k'∧a=b)
  grind
 rw[key]at h;exact vX h
def RR{α:Type}(z:α)(f:Nat→List D→α)(d:D):α:= @D.casesOn (fun _=>α) d z (fun _=>z) z z (fun _=>z) (fun _=>z) (fun _=>z) (fun _=>z) f (fun _ _ _ _ _=>z) (fun _ _=>z) (fun _ _ _ _=>z) (fun _=>z) z (fun _=>z)
def SY(d:D):Bool:= @D.casesOn (fun _=>Bool) d false (fun _=>false) true false (fun _=>false) (fun _=>false) (fun _=>false) (fun _=>false) (fun _ _=>false) (fun _ _ _ _ _=>false) (fun _ _=>false) (fun _ _ _ _=>false) (fun _=>false) false (fun _=>false)
def SX(d:D):Bool:= @D.casesOn (fun _=>Bool) d false (fun _=>false) false true (fun _=>false) (fun _=>false) (fun _=>false) (fun _=>false) (fun _ _=>false) (fun _ _ _ _ _=>false) (fun _ _=>false) (fun _ _ _ _=>false) (fun _=>false) false (fun _=>false)
def SZ(d:D):Bool:= @D.casesOn (fun _=>Bool) d false (fun _=>false) false false (fun _=>false) (fun _=>false) (fun _=>false) (fun _=>false) (fun _ _=>false) (fun _ _ _ _ _=>false) (fun _ _=>false) (fun _ _ _ _=>false) (fun _=>false) true (fun _=>false)
def zF(a:D):D→Bool:=
 @D.rec (fun _=>D→Bool) (fun _=>List (List D)→Bool) (fun _=>List D→Bool) (fun _=>false) (fun x=>dV false (zJ x)) SY SX (fun _ ih=>dList false ih) (fun _ ih=>oJ false ih) (fun _ ih=>Ff false ih) (fun _ ih=>v8 false ih)
  (fun f _ ih=>RR false fun g ys=>bZ (Nat.beq f g) (ih ys) false) (fun _ _ _ _ _ _=>false) (fun _ _ _=>false) (fun _ _ _ _ _=>false) (fun _ _=>false) SZ (fun _ _ _=>false)
  (fun b=>b.casesOn true fun _ _=>false) (fun _ _ h t b=>b.casesOn false fun y s=>bZ (h y) (t s) false) (fun b=>b.casesOn true fun _ _=>false) (fun _ _ h t b=>b.casesOn false fun y s=>bZ (h y) (t s) false) a
def GQ(a:List (List D)):List (List D)→Bool:=
 @D.rec_1 (fun _=>D→Bool) (fun _=>List (List D)→Bool) (fun _=>List D→Bool) (fun _=>false) (fun x=>dV false (zJ x)) SY SX (fun _ ih=>dList false ih) (fun _ ih=>oJ false ih) (fun _ ih=>Ff false ih) (fun _ ih=>v8 false ih)
  (fun f _ ih=>RR false fun g ys=>bZ (Nat.beq f g) (ih ys) false) (fun _ _ _ _ _ _=>false) (fun _ _ _=>false) (fun _ _ _ _ _=>false) (fun _ _=>false) SZ (fun _ _ _=>false)
  (fun b=>b.casesOn true fun _ _=>false) (fun _ _ h t b=>b.casesOn false fun y s=>bZ (h y) (t s) false) (fun b=>b.casesOn true fun _ _=>false) (fun _ _ h t b=>b.casesOn false fun y s=>bZ (h y) (t s) false) a
def DS(a:List D):List D→Bool:=
 @D.rec_2 (fun _=>D→Bool) (fun _=>List (List D)→Bool) (fun _=>List D→Bool) (fun _=>false) (fun x=>dV false (zJ x)) SY SX (fun _ ih=>dList false ih) (fun _ ih=>oJ false ih) (fun _ ih=>Ff false ih) (fun _ ih=>v8 false ih)
  (fun f _ ih=>RR false fun g ys=>bZ (Nat.beq f g) (ih ys) false) (fun _ _ _ _ _ _=>false) (fun _ _ _=>false) (fun _ _ _ _ _=>false) (fun _ _=>false) SZ (fun _ _ _=>false)
  (fun b=>b.casesOn true fun _ _=>false) (fun _ _ h t b=>b.casesOn false fun y s=>bZ (h y) (t s) false) (fun b=>b.casesOn true fun _ _=>false) (fun _ _ h t b=>b.casesOn false fun y s=>bZ (h y) (t s) false) a
theorem cR{a b:Bool}(h:bZ a b false=true):a=true∧b=true:=by cases a<;>cases b<;>first|exact⟨rfl,rfl⟩|cases h
mutual
theorem mK: ∀{a b:D},zF a b=true→a=b
 | .undef,_,h=>by cases h
 | .v x,b,h=>by
  cases b<;>try (cases h;done)
  exact congrArg _ (GU h)
 | .nil,b,h=>by cases b<;>first|rfl|cases h
 | .mt,b,h=>by cases b<;>first|rfl|cases h
 | .nilmap,b,h=>by cases b<;>first|rfl|cases h
 | .list es,b,h=>by
  cases b<;>try (cases h;done)
  exact congrArg _ (vW (a:=es) h)
 | .agg es,b,h=>by
  cases b<;>try (cases h;done)
  exact congrArg _ (j0 (a:=es) h)
 | .tup es,b,h=>by
  cases b<;>try (cases h;done)
  exact congrArg _ (j0 (a:=es) h)
 | .lptr es,b,h=>by
  cases b<;>try (cases h;done)
  exact congrArg _ (j0 (a:=es) h)
 | .clo f es,b,h=>by
  cases b<;>try (cases h;done)
  rename_i g ys
  replace h:bZ (Nat.beq f g) (DS es ys) false=true:=h
  rw[Nat.eq_of_beq_eq_true (cR h).1,j0 (cR h).2]
 | .sl ..,_,h=>by cases h
 | .ptr ..,_,h=>by cases h
 | .rptr ..,_,h=>by cases h
 | .mp ..,_,h=>by cases h
 | .fm ..,_,h=>by cases h
theorem j0: ∀{a b:List D},DS a b=true→a=b
 | [],[],_=>rfl
 | [],_::_,h=>by cases h
 |_::_,[],h=>by cases h
 |x::r,y::s,h=>by
  replace h:bZ (zF x y) (DS r s) false=true:=h
  rw[mK (cR h).1,j0 (cR h).2]
theorem vW: ∀{a b:List (List D)},GQ a b=true→a=b
 | [],[],_=>rfl
 | [],_::_,h=>by cases h
 |_::_,[],h=>by cases h
 |x::r,y::s,h=>by
  replace h:bZ (DS x y) (GQ r s) false=true:=h
  rw[j0 (cR h).1,vW (cR h).2]
end
end
noncomputable section
def ES:List Nat→List cS→List cS
 | [],_=> []
 |g::r,es=>match es.drop g with
  |e::s=>e::ES r s
  | []=> []
theorem wZ: ∀{gs:List Nat} {l:List cS} {e:cS},e∈ES gs l→e∈l
 | [],_,_,h=>by cases h
 |g::r,l,e,h=>by
  unfold ES at h;split at h
  ·rename_i a s hd;have hs: ∀x,x∈a::s→x∈l:=fun x hx=>by rw[←hd]at hx;exact List.mem_of_mem_drop hx
   rcases List.mem_cons.1 h with rfl|h
   ·grind
   ·exact hs _ (Cz _ (wZ h))
  ·cases h
abbrev gW:=List (Nat×List cS×List Nat)
def bh:gW→KT
 | []=> []
 |(f,l,gs)::r=>(f,ES gs l)::bh r
def KOK(P:Program)(f:Nat)(ds:List D)(r:D):Prop:=(f<1000000∧U7 P f ds r)∨ ∃e g es,g<1000000∧f=1000001000000+(1000000*e+g)∧r= .list es∧VCa P g e ds es
def KT.BL(P:Program)(l:KT):Prop:= ∀p∈l,∀e∈p.2,KOK P p.1 e.ds e.r
def fg(P:Program)(f:Nat)(l:List cS):Prop:= ∀e∈l,KOK P f e.ds e.r
def jV(P:Program):gW→Prop
 | []=>True
 |(f,l,_)::r=>fg P f l∧jV P r
theorem jV.nil{P:Program}:jV P []:=trivial
theorem jV.cons{P:Program}{f:Nat}{l:List cS}{gs:List Nat}{r:gW}(h:fg P f l)(k:jV P r):jV P ((f,l,gs)::r):=⟨h,k⟩
theorem yo{P:Program}: ∀{s:gW},jV P s→(bh s).BL P
 | [],_=>fun p hp=>by cases hp
 |(f,l,gs)::r,h=>fun p hp e he=>by
  rcases List.mem_cons.1 hp with rfl|hp
  ·exact h.1 e (wZ he)
  ·exact yo h.2 p hp e he
def DR(a:List D):List D→Bool:= @List.rec D (fun _=>List D→Bool) (fun b=>b.casesOn true fun _ _=>false) (fun a _ ih b=>b.casesOn false fun y s=>bZ (ih s) (zF a y) false) a
theorem zG: ∀{a b:List D},DR a b=true→a=b
 | [],[],_=>rfl
 | [],_::_,h=>by cases h
 |_::_,[],h=>by cases h
 |x::r,y::s,h=>by
  rw[zG (cR h).1,mK (cR h).2]
def Bg(ds:List D)(z:Option D)(es:List cS):Option D:= @List.rec cS (fun _=>Option D) z (fun e _ ih=>bZ (DR e.ds ds) (some e.r) ih) es
theorem Bh{ds:List D}{z:Option D}{d:D}: ∀{es:List cS},Bg ds z es=some d→(∃e∈es,e.ds=ds∧e.r=d)∨z=some d
 | [],h=> .inr h
 |e::r,h=>by
  replace h:bZ (DR e.ds ds) (some e.r) (Bg ds z r)=some d:=h
  cases hb:DR e.ds ds with
  |true=>rw[hb]at h;cases h;exact .inl ⟨e,List.mem_cons_self ..,zG hb,rfl⟩
  |false=>rw[hb]at h;exact(Bh h).imp (fun⟨e,he,k⟩=>⟨e,Cz _ he,k⟩) id
def dZ(l:KT)(H:FP)(f:Nat)(ds:List D):Option D:= @List.rec (Nat×List cS) (fun _=>Option D) (H f ds) (fun p _ ih=>bZ (Nat.beq p.1 f) (Bg ds (H f ds) p.2) ih) l
theorem CD{H:FP}{f:Nat}{ds:List D}{d:D}: ∀{l:KT},dZ l H f ds=some d→(∃p∈l,p.1=f∧ ∃e∈p.2,e.ds=ds∧e.r=d)∨H f ds=some d
 | [],h=> .inr h
 |p::r,h=>by
  replace h:bZ (Nat.beq p.1 f) (Bg ds (H f ds) p.2) (dZ r H f ds)=some d:=h
  cases hb:Nat.beq p.1 f with
  |true=>rw[hb]at h;exact(Bh h).imp (fun⟨e,he⟩=>⟨p,List.mem_cons_self ..,Nat.eq_of_beq_eq_true hb,e,he⟩) id
  |false=>rw[hb]at h;exact(CD h).imp (fun⟨q,hq,k⟩=>⟨q,Cz _ hq,k⟩) id
theorem qi{P:Program}{H:FP}{l:KT}(hH:Sound P (bw H))(hl:l.BL P):Sound P (bw (dZ l H)):=by
 have key: ∀{f:Nat} {ds:List D} {d:D},dZ l H f ds=some d→KOK P f ds d∨H f ds=some d:=fun{f ds d} h=>(CD h).imp (fun⟨p,hp,h1,e,he,h2,h3⟩=>by
  subst h1 h2 h3;exact hl p hp e he) id
 refine⟨fun f ds d hlt h=> ?_,fun k f ds r hlt h6 h=> ?_,fun e f ds r hlt h=> ?_⟩
 ·rcases key (show dZ l H f ds=some d from h)with(h|⟨e,g,es,_,h,_⟩)|h
  ·grind
  ·omega
  ·exact hH.p f ds d hlt h
 ·rcases key (show dZ l H (1000000+(1000000*k+f)) ds=some r from h)with(h|⟨e,g,es,_,h,_⟩)|h
  ·omega
  ·omega
  ·exact hH.e k f ds r hlt h6 h
 ·obtain⟨d,hd,rfl⟩:=Mz.1 (show(dZ l H (1000001000000+(1000000*e+f)) ds).map _=some r from h);rcases key hd with(hd|⟨e',g,es,hg,hk,rfl,hv⟩)|hd
  ·omega
  ·have he:e=e':=by omega
   have hf:f=g:=by omega
   subst he hf;exact⟨es,rfl,hv⟩
  ·exact hH.q e f ds _ hlt (show Option.map _ _=_ by rw[hd];rfl)
def R5(a b:D):Bool:=bZ a.eS (bZ b.eS (zF a.bare b.bare) false) (zF a b)
theorem KB{a b:D}(h:R5 a b=true):a=b:=by
 have own: ∀{x:D},x.eS=true→x=x.bare.own:=fun{x} hx=>by
  unfold D.eS at hx;split at hx
  ·rfl
  ·cases hx
 unfold R5 at h;cases ha:a.eS with
 |true=>
  rw[ha]at h;have h:=cR (show bZ b.eS (zF a.bare b.bare) false=true from h);rw[own ha,own h.1,mK h.2]
 |false=>rw[ha]at h;exact mK h
def VK(G:FP)(f:Nat)(l:List cS):Bool:= @List.rec cS (fun _=>Bool) true (fun e _ ih=>bZ (@Option.rec D (fun _=>Bool) false (fun d=>R5 d e.r) (G f e.ds)) ih false) l
theorem DX{G:FP}{f:Nat}: ∀{l:List cS},VK G f l=true→ ∀e∈l,G f e.ds=some e.r
 | [],_,e,he=>by cases he
 |e::r,h,e',he=>by
  rcases List.mem_cons.1 he with rfl|he
  ·have h:=(cR h).1;cases hg:G f e'.ds with
   |none=>rw[hg]at h;cases h
   |some d=>rw[hg]at h;rw[KB h]
  ·exact DX (cR h).2 e' he
def chunk(G:FP)(f lo n:Nat)(l:List cS):Bool:=bZ (Nat.blt f 1000000) (VK G f ((l.drop lo).take n)) false
theorem zN{P:Program}{C:Cx}{H:FP}{N k:Nat}{r:Tr}(hP:C.P=P)(hH:Sound P (bw H))(hm:P.follows .mixedOrders=true)(hr:r.Rp C){s:gW}(hs:jV P s){f lo n:Nat}{l:List cS}
  (h:chunk (iF r.get (dZ (bh s) H) N k) f lo n l=true):fg P f ((l.drop lo).take n):=fun e he=>by
 have h2:f<1000000:=by simpa[Nat.blt_eq]using(cR h).1
 have h3:=DX (cR h).2 e he;rw[Cb]at h3;exact .inl ⟨h2,(jX hP (qi hH (yo hs)) hm k).p f e.ds e.r h2 (Ca hr k _ _ _ h3)⟩
theorem fg.join{P:Program}{f lo n:Nat}{l:List cS}(h:fg P f ((l.drop lo).take n))(k:fg P f (l.drop (lo+n))):fg P f (l.drop lo):=fun e he=>by
 rw[←List.take_append_drop n (l.drop lo),List.mem_append,List.drop_drop]at he;exact he.elim (h e) (k e)
theorem fg.fin{P:Program}{f lo n:Nat}{l:List cS}(h:fg P f ((l.drop lo).take n))(k:Nat.ble l.length (lo+n)=true):fg P f (l.drop lo):=fun e he=>by
 rw[List.take_of_length_le (by have:=Nat.le_of_ble_eq_true k;simp;omega)]at h;exact h e he
end
noncomputable section
def okA(C:Cx)(e f n:Nat)(t:FT):Bool:=match D0 C e f with
 |some q=>Nat.beq q.1 n&&e_ (cse (Kk q.1) q.2) t
 |none=>false
def OKA(C:Cx)(e f n:Nat)(t:FT):Prop:= ∃t0,D0 C e f=some (n,t0)∧cse (Kk n) t0=t
theorem TU{C:Cx}{e f n:Nat}{t:FT}(h:okA C e f n t=true):OKA C e f n t:=by
 unfold okA at h;split at h
 ·rename_i q hq;obtain⟨m,t0⟩:=q;simp only[Az]at h;obtain rfl:=Nat.eq_of_beq_eq_true h.1;exact⟨t0,hq,fN _ _ h.2⟩
 ·cases h
def ry:FT→FT
 | .ret (.mk .own [x])=> .ret x
 | .fC xs k=> .fC xs (ry k)
 | .lets xs k=> .lets xs (ry k)
 | .ite c a b=> .ite c (ry a) (ry b)
 | .loop xs k=> .loop xs (ry k)
 | .jp k b=> .jp (ry k) (ry b)
 |t=>t
def I9(r:D):Bool:=match r with
 | .list es=> !es.isEmpty&&es.all fun c=>c.all D.aY
 |_=>false
def RN(G:FP)(N n:Nat)(t:FT)(l:List cS):Bool:= @List.rec cS (fun _=>Bool) true
 (fun e _ ih=>bZ (bZ (Nat.beq (rR e.ds 0) n) (bZ (gq fT e.ds) (bZ (I9 e.r) (@Option.rec D (fun _=>Bool) false (fun d=>zF d.bare e.r) (Sc (rR e.ds 0) fun m=>kf G N t [] m (I7 e.ds []))) false) false) false) ih false) l
theorem DW{G:FP}{N n:Nat}{t:FT}: ∀{l:List cS},RN G N n t l=true→ ∀e∈l,(e.ds.length=n∧e.ds.all D.aF=true)∧I9 e.r=true∧(ae G N t [] e.ds).map D.bare=some e.r
 | [],_,e,he=>by cases he
 |e::r,h,e',he=>by
  rcases List.mem_cons.1 he with rfl|he
  ·have h:=(cR h).1;obtain⟨h1,h⟩:=cR h;obtain⟨h2,h⟩:=cR h;obtain⟨h3,h⟩:=cR h;rw[pZ,iw,sH,List.append_nil]at h;rw[iw]at h1;simp only[Nat.zero_add]at h h1;rw[Eo,n5]at h;rw[dO,tw]at h2;refine⟨⟨Nat.eq_of_beq_eq_true h1,h2⟩,h3, ?_⟩;cases hg:ae G N t [] e'.ds with
   |none=>rw[hg]at h;cases h
   |some d=>rw[hg]at h;rw[Pz,mK h]
  ·exact DW (cR h).2 e' he
theorem xA{P:Program}{C:Cx}{H:FP}{N k e f n:Nat}{t:FT}{r:Tr}(hP:C.P=P)(hH:Sound P (bw H))(hm:P.follows .mixedOrders=true)(hr:r.Rp C)(ht:OKA C e f n t)(hf:f<1000000){s:gW}(hs:jV P s){l:List cS}
  (h:RN (iF r.get (dZ (bh s) H) N k) N n t l=true):fg P (1000001000000+(1000000*e+f)) l:=fun x hx=>by
 obtain⟨⟨h1,h2⟩,h3,h4⟩:=DW h x hx;obtain⟨t0,k1,k2⟩:=ht;rw[Cb]at h4;obtain⟨d,g1,g2⟩:=Mz.1 h4;obtain⟨ds,rr⟩:=x;cases rr<;>first|(cases h3;done)|skip
 rename_i es;obtain⟨g3,g4⟩:(!es.isEmpty)=true∧(es.all fun c=>c.all D.aY)=true:=by simpa[I9]using h3
 refine .inr ⟨e,f,es,hf,rfl,rfl, ?_⟩;obtain⟨k0,hk⟩:=fR (G:=KC r.get (dZ (bh s) H) N k) (Gk:=fun _=>Gs C (dZ (bh s) H) N k) (fun f ds d h=>⟨0,fun _ _=>Ca hr k f ds d h⟩) (Lk:=fun _=> []) t (fun j f hf=>by simp at hf) g1;have h5:ae (Gs C (dZ (bh s) H) N k) N t0 [] ds=some d:=xC (q:=(n,t0)) h1 (by rw[←k2]at hk;exact hk k0 (Nat.le_refl _));exact zT hP (qi hH (yo hs)) hm k1 h1 h2 (fun e=>by rw[e]at g3;cases g3) g4 (by rw[h5,Pz,g2])
theorem KT.BL.nil{P:Program}:KT.BL P []:=fun p hp=>by cases hp
theorem KT.BL.cons{P:Program}{f:Nat}{l:List cS}{r:KT}(h:fg P f l)(k:KT.BL P r):KT.BL P ((f,l)::r):=fun p hp=>(List.mem_cons.1 hp).elim (fun e=>by subst e;exact h) (k p)
end
section
open Go.ChangeShapes Go.WideShapes Go.ChangeAt Go.RowKit
set_option linter.unusedVariables false
def bE(P:Program):Nat→TypeId→List D→Prop
 |0,_,_=>False
 |n+1,t,ds=>match P.underlying t with
  |some .bool=> ∃b,ds= [bv b]
  |some (.int k)=> ∃z,ds= [.v (.int k z)]∧(Lit.int k z).wf=true
  |some .string=> ∃s:ByteArray,ds= [.v (.string s)]∧s.size≤maxLen
  |some (.slice e)=> ∃es,ds= [.list es]∧es.length≤maxLen∧ ∀c∈es,bE P n e c
  |some (.struct fs)=>ds.length=P.cellsOf t∧ ∀f∈fs.toList,bE P n f.type ((ds.drop f.offset).take (P.cellsOf f.type))
  |some (.array m e)=>ds.length=P.cellsOf t∧ ∀i,i<m→bE P n e ((ds.drop (i*P.cellsOf e)).take (P.cellsOf e))
  |_=>False
def uf(P:Program):Nat→TypeId→Bool
 |0,_=>false
 |n+1,t=>match P.underlying t with
  |some .bool|some (.int _)|some .string=>true
  |some (.slice e)=>decide (0<P.cellsOf e)&&uf P n e
  |some (.struct fs)=>fs.toList.all fun f=>uf P n f.type
  |some (.array _ e)=>uf P n e
  |_=>false
def lP(w:World)(cs:List Value)(ds:List D):Prop:=cs.length=ds.length∧ ∀(j:Nat) (c:Value) (d:D),cs[j]?=some c→ds[j]?=some d→c.oneCell'=true∧ao w (e9 w) aA c d
theorem lP.nil{w:World}:lP w [] []:=⟨rfl,fun j c d h=>by simp at h⟩
theorem lP.one{w:World}{c:Value}{d:D}(h1:c.oneCell'=true)(h2:ao w (e9 w) aA c d):lP w [c] [d]:=
 ⟨rfl,fun j c' d' hc hd=>by
  cases j with
  |zero=>simp only[List.getElem?_cons_zero,Jz]at hc hd;subst hc;subst hd;exact⟨h1,h2⟩
  |succ j=>simp at hc⟩
theorem lP.append{w:World}{a b:List Value}{x y:List D}(h:lP w a x)(k:lP w b y):lP w (a++b) (x++y):=by
 refine⟨by simp[h.1,k.1],fun j c d hc hd=> ?_⟩;by_cases hj:j<a.length
 ·rw[Yz hj]at hc;rw[Yz (by rw[←h.1];exact hj)]at hd;exact h.2 j c d hc hd
 ·rw[Xz (by omega)]at hc;rw[Xz (by rw[←h.1];omega),←h.1]at hd;exact k.2 _ c d hc hd
theorem Jf (cell : Nat → Nat) : ∀ m k, k ≤ m → ((List.range k).map cell).sum ≤ ((List.range m).map cell).sum
  | 0, k, hk => by have : k = 0 := by omega
                   subst this; exact Nat.le_refl _
  | m + 1, k, hk => by
    by_cases h : k ≤ m
    · have := Jf cell m k h
      simp only [List.range_succ, List.map_append, List.sum_append, List.map_cons, List.map_nil, List.sum_cons, List.sum_nil]
      omega
    · have : k = m + 1 := by omega
      subst this; exact Nat.le_refl _
theorem uI{α:Type}(g:α→Nat)(x0:α): ∀(l:List α) (j:Nat),j≤l.length→((l.take j).map g).sum=((List.range j).map fun i=>g (l.getD i x0)).sum
 |l,0,_=>by simp
 |l,j+1,h=>by
  rw[List.take_succ_eq_append_getElem (by omega),List.map_append,List.sum_append,uI g x0 l j (by omega),List.range_succ,List.map_append,List.sum_append];simp[List.getD,show j<l.length by omega]
theorem na(c:Nat): ∀m,((List.range m).map fun _=>c).sum=m*c
 |0=>by simp
 |m+1=>by simp[List.range_succ,na c m,Nat.succ_mul]
theorem qp{w:World}(Q:Nat→List D→Prop)(cell off:Nat→Nat)(cs:List Value): ∀(m:Nat),(∀i,i<m→off i=((List.range i).map cell).sum)→((List.range m).map cell).sum≤cs.length→
  (∀i,i<m→ ∃ds,Q i ds∧lP w ((cs.drop (off i)).take (cell i)) ds)→
  ∃ds,lP w (cs.take ((List.range m).map cell).sum) ds∧ ∀i,i<m→Q i ((ds.drop (off i)).take (cell i))
 |0,_,_,_=>⟨[],by simpa using lP.nil,fun i hi=>by omega⟩
 |m+1,rJ,hlen,h=>by
  have hs:((List.range (m+1)).map cell).sum=((List.range m).map cell).sum+cell m:=by simp[List.range_succ]
  rw[hs]at hlen⊢;obtain⟨ds,h1,h2⟩:=qp Q cell off cs m (fun i hi=>rJ i (by omega)) (by omega) fun i hi=>h i (by omega);obtain⟨dl,h3,h4⟩:=h m (by omega);have ho:=rJ m (by omega);have hdl:=h1.1;have hl4:=h4.1;simp only[List.length_take,List.length_drop]at hdl hl4;refine⟨ds++dl, ?_,fun i hi=> ?_⟩
  ·have e:cs.take (((List.range m).map cell).sum+cell m)=cs.take ((List.range m).map cell).sum++(cs.drop (off m)).take (cell m):=by
    rw[List.take_add,←ho]
   rw[e];exact h1.append h4
  ·by_cases hm:i<m
   ·have h5:=h2 i hm;have h6:=Jf cell m (i+1) (by omega);have e2:((List.range (i+1)).map cell).sum=((List.range i).map cell).sum+cell i:=by simp[List.range_succ]
    have h7:=rJ i (by omega)
    rwa[List.drop_append_of_le_length (by omega),List.take_append_of_le_length (by simp;omega)]
   ·obtain rfl:i=m:=by omega
    have e1:off i=ds.length:=by omega
    rw[e1,List.drop_left,List.take_of_length_le (by omega)];exact h3
theorem qZ{α:Type}(R:Nat→α→Prop): ∀n,(∀i,i<n→ ∃x,R i x)→ ∃l:List α,l.length=n∧ ∀i x,l[i]?=some x→R i x
 |0,_=>⟨[],rfl,fun i x h=>by simp at h⟩
 |n+1,h=>by
  obtain⟨l,h1,h2⟩:=qZ R n fun i hi=>h i (by omega);obtain⟨x,hx⟩:=h n (by omega);refine⟨l++ [x],by simp[h1],fun i y hy=> ?_⟩;by_cases hi:i<l.length
  ·rw[Yz hi]at hy;exact h2 i y hy
  ·rw[Xz (by omega)]at hy
   have hi':i-l.length=0:=by
    have:=(Gz.1 hy).1;simp at this;omega
   rw[hi']at hy;simp only[List.getElem?_cons_zero,Jz]at hy;subst hy;have:i=n:=by omega
   subst this;exact hx
section
variable {H : Type} {enc : TypeId × Value → H} {P : Program} {w : World} {held : Bool}
theorem Jp(hl:laidOutB P=true): ∀(n:Nat) (t:TypeId) (fuel:Nat) (cs:List Value) (x:DataW H×List MemPlace),t<P.types.size→uf P n t=true→
  DataW.trod enc P w 0 (fun _=>true) held fuel t cs=some x→ ∃ds,bE P n t ds∧lP w cs ds:=by
 intro n
 induction n with
 |zero=>intro t fuel cs x _ hk;simp[uf]at hk
 |succ n ih=>
  intro t fuel cs x ht hk h;simp only[uf]at hk;cases hu:P.underlying t with
  |none=>rw[hu]at hk;cases hk
  |some ty=>
   rw[hu]at hk;cases ty<;>simp only[]at hk<;>try (cases hk;done)
   case bool=>
    obtain⟨b,rfl,_⟩:=DataW.trod_bool hu h;exact⟨[bv b],by simp[bE,hu],lP.one rfl (.v rfl)⟩
   case int k=>
    obtain⟨z,rfl,_,hz⟩:=DataW.trod_int hu h;exact⟨[.v (.int k z)],by simp[bE,hu,hz],lP.one rfl (.v rfl)⟩
   case string=>
    obtain⟨s,rfl,_,hz⟩:=DataW.trod_string hu h;exact⟨[.v (.string s)],by simp[bE,hu,hz],lP.one rfl (.v rfl)⟩
   case slice e=>
    simp only[Az,decide_eq_true_eq]at hk;obtain⟨rM,hk⟩:=hk;have he:=kid_slice hl ht hu;rcases DataW.trod_slice hu h with⟨rfl,rfl⟩|⟨a,len,cap,elems,rest,m,rfl,rfl,rfl,_,hlc,hcm,hlen,hel,_,_⟩
    ·exact⟨[.list []],by simp[bE,hu],lP.one rfl .nil'⟩
    ·obtain⟨ll,hll,hR⟩:=qZ (fun i (q:List Value×List D)=>w.cells? 0 (a.add (i*P.cellsOf e)) (P.cellsOf e)=some q.1∧bE P n e q.2∧lP w q.1 q.2) len fun i hi=>by
      have h1:=hel i hi;rw[Ez (by omega),Bz]at h1;obtain⟨c,hc,h1⟩:=h1;obtain⟨ds,h2,h3⟩:=ih e m c _ he hk h1;exact⟨(c,ds),hc,h2,h3⟩
     have hes:(ll.map (·.2)).length=len:=by simpa using hll
     refine⟨[.list (ll.map (·.2))], ?_,lP.one rfl ?_⟩
     ·simp only[bE,hu];refine⟨_,rfl,by omega,fun c hc=> ?_⟩;obtain⟨q,hq,rfl⟩:=List.mem_map.1 hc;obtain⟨i,hi⟩:=List.mem_iff_getElem?.1 hq;exact(hR i q hi).2.1
     ·by_cases h0:len=0
      ·subst h0;have:ll= []:=List.eq_nil_of_length_eq_zero hll;subst this;exact .emp
      ·have cell: ∀(i:Nat) (q:List Value×List D),ll[i]?=some q→ ∀k,k<P.cellsOf e→w.cell? ((a.add (i*P.cellsOf e)).add k)=q.1[k]?∧q.1.length=P.cellsOf e:=fun i q hq k hk'=>
        let⟨_,h2,h3⟩:=World.cells?_some (hR i q hq).1
        ⟨h3 k hk',h2⟩
       have Nz:a.spot=none:=by
        have hq:=Ez (show 0<ll.length by omega);obtain⟨h2,h3⟩:=cell 0 _ hq 0 rM;rw[Ez (by omega)]at h2;have:=World.cell?_spot h2;simpa[Addr.add]using this
       obtain⟨b,off,sp⟩:=a;simp only at Nz;subst Nz
       have key: ∀(i:Nat) (q:List Value×List D),ll[i]?=some q→ ∀k,k<P.cellsOf e→ ∃c,q.1[k]?=some c∧w.cell? ⟨b,off+(i*P.cellsOf e+k),none⟩=some c:=fun i q hq k hk'=>by
        obtain⟨h2,h3⟩:=cell i q hq k hk';rw[dN,dN,Ez (by omega)]at h2;exact⟨_,Ez (by omega),by rw[←Nat.add_assoc];exact h2⟩
       have:=ao.list (w:=w) (pr:=e9 w) (tk:=aA) (b:=b) (off:=off) (cap:=cap) (size:=P.cellsOf e) (es:=ll.map (·.2)) (fun j=>(w.cell? ⟨b,off+j,none⟩).getD undef) (fun c hc=>by
         obtain⟨q,hq,rfl⟩:=List.mem_map.1 hc;obtain⟨i,hi⟩:=List.mem_iff_getElem?.1 hq;rw[←(hR i q hi).2.2.1];exact(cell i q hi 0 rM).2) (by omega) (fun j hj=>by
         have hi:j/P.cellsOf e<ll.length:=by
          rw[List.length_map]at hj;exact Nat.div_lt_of_lt_mul (by rw[Nat.mul_comm];exact hj)
         have hk':=Nat.mod_lt j rM;have hq:=Ez hi;obtain⟨c,h1,h2⟩:=key _ _ hq _ hk';have ej:j/P.cellsOf e*P.cellsOf e+j%P.cellsOf e=j:=Nat.div_add_mod' j _;rw[ej]at h2;refine⟨by rw[h2];rfl,World.block_lt_of_cell? w _ h2, ?_⟩;rw[h2];have hrl:=(hR _ _ hq).2.2;exact(hrl.2 _ c _ h1 (Ez (by rw[←hrl.1];exact(Gz.1 h1).1))).1) (fun i c hc j d hd=>by
         rw[Dz,Mz]at hc;obtain⟨q,hq,rfl⟩:=hc;have hrl:=(hR i q hq).2.2
         have hj:j<P.cellsOf e:=by
          have:=(Gz.1 hd).1;rw[←hrl.1,(cell i q hq 0 rM).2]at this;exact this
         obtain⟨c,h1,h2⟩:=key i q hq j hj;simp only[h2,Option.getD_some]
         exact(hrl.2 j c d h1 hd).2)
       rw[hes]at this;exact this
   case struct fs=>
    obtain⟨k1,k2,k3⟩:=kid_struct hl ht hu;obtain⟨xs,m,rfl,rfl,hlen,hxs,hx⟩:=DataW.trod_struct hu h;rw[Tz]at hk
    have WT: ∀i,i<fs.toList.length→fs.toList[i]?=some (fs.toList.getD i default):=fun i hi=>by
     have hi':i<fs.size:=by simpa using hi
     simp[List.getD,hi']
    have Xd:=uI (fun f:Field=>P.cellsOf f.type) default fs.toList fs.toList.length (Nat.le_refl _);rw[List.take_length]at Xd;rw[Xd]at k2
    obtain⟨ds,h1,h2⟩:=qp (w:=w) (fun i ds=>bE P n (fs.toList.getD i default).type ds) (fun i=>P.cellsOf (fs.toList.getD i default).type) (fun i=>(fs.toList.getD i default).offset) cs fs.toList.length
     (fun i hi=>by rw[k3 i _ (WT i hi),uI _ default _ i (by omega)]) (by omega) fun i hi=>by
      have hf:=WT i hi;have hf':fs[i]?=some (fs.toList.getD i default):=by rw[←hf];simp
      have h3:=hx i _ hf';rw[Ez (by rw[hxs];simpa using hi)]at h3;have hm:=Lz hf;exact ih _ m _ _ (k1 _ hm) (hk _ hm) h3
    rw[List.take_of_length_le (by omega)]at h1;refine⟨ds, ?_,h1⟩;simp only[bE,hu];refine⟨by rw[←h1.1,hlen],fun f hf=> ?_⟩;obtain⟨i,hi,rfl⟩:=List.getElem_of_mem hf;have hi':i<fs.size:=by simpa using hi
    have:=h2 i hi;simpa[List.getD,hi']using this
   case array m e=>
    obtain⟨k1,k2⟩:=kid_array hl ht hu;obtain⟨xs,q,rfl,rfl,hlen,hxs,hx⟩:=DataW.trod_array hu h
    obtain⟨ds,h1,h2⟩:=qp (w:=w) (fun i ds=>bE P n e ds) (fun i=>P.cellsOf e) (fun i=>i*P.cellsOf e) cs m
     (fun i hi=>(na _ i).symm) (by rw[na];omega) fun i hi=>by
      have h3:=hx i hi;rw[Ez (by omega)]at h3;exact ih _ q _ _ k1 hk h3
    rw[na,List.take_of_length_le (by omega)]at h1;refine⟨ds, ?_,h1⟩;simp only[bE,hu];exact⟨by rw[←h1.1,hlen],h2⟩
def jU(P:Program)(n:Nat)(t:TypeId)(d:D):Prop:=match P.underlying t with
 |some (.struct _)|some (.array _ _)=> ∃ds,d= .agg ds∧bE P n t ds
 |_=>bE P n t [d]
def nN(P:Program)(n:Nat):List TypeId→List D→Prop
 | [],[]=>True
 |t::ts,d::ds=>jU P n t d∧nN P n ts ds
 |_,_=>False
theorem Jo(hl:laidOutB P=true){n:Nat}{t:TypeId}{v:Value}{d:DataW H}{p:List MemPlace}{base:Nat}(ht:t<P.types.size)(hk:uf P n t=true)(hv:Value.okWide P w .any base t v)
  (h:DataW.Trod enc P w 0 (fun _=>true) held t v d p): ∃d',jU P n t d'∧ao w (e9 w) aA v d':=by
 obtain⟨fuel,h⟩:=h;obtain⟨ds,h1,h2⟩:=Jp hl n t fuel _ _ ht hk h
 have plain:(∀cs,v≠ .agg cs)→jU P n t (ds.getD 0 .undef)=bE P n t [ds.getD 0 .undef]→ ∃d',jU P n t d'∧ao w (e9 w) aA v d':=fun hne e=>by
  have hc:v.cells.toList= [v]:=by
   cases v<;>first|rfl|exact absurd rfl (hne _)
  rw[hc]at h2;have hl1:=h2.1
  match ds,hl1 with
  | [d0],_=>exact⟨d0,by simp only[List.getD_cons_zero]at e;rw[e];exact h1,(h2.2 0 v d0 rfl rfl).2⟩
 have agg: ∀cs,v= .agg cs→jU P n t (.agg ds)=(∃ds',D.agg ds= .agg ds'∧bE P n t ds')→ ∃d',jU P n t d'∧ao w (e9 w) aA v d':=fun cs e e2=>by
  subst e;refine⟨.agg ds,by rw[e2];exact⟨ds,rfl,h1⟩, .agg (by simpa[Value.cells]using h2.1) (fun i c hc=> ?_) fun i c x hc hx=>(h2.2 i c x (by simpa[Value.cells]using hc) hx).2⟩
  have hi:i<ds.length:=by
   have:=(Array.getElem?_eq_some_iff.1 hc).1;have:=h2.1;simp[Value.cells]at this;omega
  exact(h2.2 i c _ (by simpa[Value.cells]using hc) (Ez hi)).1
 cases hu:P.underlying t with
 |none=>cases n<;>simp[uf,hu]at hk
 |some ty=>
  cases ty
  case struct fs=>
   simp only[Value.okWide,hu]at hv;obtain⟨cs,rfl,_⟩:=hv;exact agg cs rfl (by simp only[jU,hu])
  case array m e=>
   simp only[Value.okWide,hu]at hv;obtain⟨cs,rfl,_⟩:=hv;exact agg cs rfl (by simp only[jU,hu])
  all_goals
   refine plain (fun cs e=> ?_) (by simp only[jU,hu]);subst e;simp[Value.okWide,hu,Cell.okWide,Cell.ok]at hv
theorem xd(hl:laidOutB P=true){n:Nat}{base:Nat}: ∀{ts:List TypeId} {vs:List Value} {ds:List (DataW H)} {p:List MemPlace},(∀t∈ts,t<P.types.size∧uf P n t=true)→
  (∀(j:Nat) t v,ts[j]?=some t→vs[j]?=some v→Value.okWide P w .any base t v)→DataW.TrodAll enc P w 0 (fun _=>true) held ts vs ds p→ ∃Ds,nN P n ts Ds∧a_ w (e9 w) aA vs Ds
 | [],vs,ds,p,_,_,h=>by
  obtain⟨rfl,rfl,rfl⟩:=trodAll_nil h;exact⟨[],trivial,trivial⟩
 |t::ts,vs,ds,p,hk,hv,h=>by
  obtain⟨v,vs1,d,ds1,a,b,rfl,rfl,rfl,h1,h2⟩:=trodAll_cons h;obtain⟨d',e1,e2⟩:=Jo hl (hk t List.mem_cons_self).1 (hk t List.mem_cons_self).2 (hv 0 t v rfl rfl) h1;obtain⟨Ds,e3,e4⟩:=xd hl (fun t' ht'=>hk t' (Cz _ ht')) (fun j t' v' ht' hv'=>hv (j+1) t' v' ht' hv') h2;exact⟨d'::Ds,⟨e1,e3⟩,⟨e2,e4⟩⟩
theorem uT(hl:laidOutB P=true){W W':World}(hb:Below W.heap.size W W'){sp:Nat→Bool}: ∀{ts:List TypeId} {vs:List Value} {ds:List (DataW H)} {p:List MemPlace},(∀t∈ts,t<P.types.size∧P.readableRec t=true)→
  (∀x∈p,x.block<W.heap.size∧sp x.block=true)→DataW.TrodAll enc P W 0 (fun _=>true) true ts vs ds p→DataW.TrodAll enc P W' 0 sp true ts vs ds p
 | [],vs,ds,p,_,_,h=>by
  obtain⟨rfl,rfl,rfl⟩:=trodAll_nil h;exact trodAll_mk0
 |t::ts,vs,ds,p,hk,hp,h=>by
  obtain⟨v,vs1,d,ds1,a,b,rfl,rfl,rfl,h1,h2⟩:=trodAll_cons h;refine trodAll_cons_mk (WideElems.Trod_stays hl (hk t List.mem_cons_self).2 (hk t List.mem_cons_self).1 h1 (fun x hx=>hb.same (hp x (List.mem_append_left _ hx)).1) fun x hx=>(hp x (List.mem_append_left _ hx)).2) ?_;exact uT hl hb (fun t' ht'=>hk t' (Cz _ ht')) (fun x hx=>hp x (List.mem_append_right _ hx)) h2
theorem ru{W:World}{sp:Nat→Bool}: ∀{ts:List TypeId} {vs:List Value} {ds:List (DataW H)} {p:List MemPlace},DataW.TrodAll enc P W 0 sp held ts vs ds p→ds.length=ts.length
 | [],vs,ds,p,h=>by
  obtain⟨rfl,rfl,rfl⟩:=trodAll_nil h;rfl
 |t::ts,vs,ds,p,h=>by
  obtain⟨v,vs1,d,ds1,a,b,rfl,rfl,rfl,h1,h2⟩:=trodAll_cons h;simp[ru h2]
theorem xk.body{f:Nat}{ds:List D}{d:D}(h:xk P f ds d)(hb:dw P f)(w0:World)(pr0:aX)(c0:Array Value)(hr:a_ w0 pr0 aA c0.toList ds):dw P f∧ ∀(w:World) (pr:aX) (cargs:Array Value),(∀b o,pr b o→b<w.heap.size)→BN w pr→a_ w pr aA cargs.toList ds→
  Calls P f cargs w fun e w'=> ∃v pr',e= .returned v∧dU (fun _=>False) w w'∧(∀b o,pr b o→pr' b o)∧(∀b o,pr' b o→pr b o∨(w.heap.size≤b∧b<w'.heap.size))∧ao w' pr' aA v d:=by
 rcases h with h|h
 ·obtain⟨v,h1,_⟩:=h w0 pr0 c0 hr;rw[bD hb]at h1;cases h1
 ·exact h
theorem yg(hl:laidOutB P=true){f:FuncId}{fn:Func}{s:ChangeSpec}{n tb:Nat}(H4:s.vars= [])(Xb: ∀ds:List (DataW H),ds.length=fn.params.size→s.fn H ds={results:= [.lit (.bool true)],args:=ds})
  (KW:fn.resultTypes= #[tb]) (hb:P.underlying tb=some .bool) (hts: ∀t∈fn.params.toList,t<P.types.size∧uf P n t=true∧P.readableRec t=true)
  (hc: ∀Ds,nN P n fn.params.toList Ds→xk P f Ds (bv true))
  (W:World) (base:Nat) (args:Array Value) (ds gs:List (DataW H)) (before:List MemPlace)
  (SP: ∀(j:Nat) t v,fn.params[j]?=some t→args[j]?=some v→Value.okWide P W .any base t v) (hG:BN W (e9 W)) (V7:dw P f)
  (hW:DataW.Whole enc P fn.params.toList s.vars false W args.toList ds gs before):
  Calls P f args W fun e W'=> ∃v,e= .returned v∧s.post enc P fn false true false false W args v W':=by
 have hlt: ∀p∈before,p.block<W.heap.size:=fun p hp=>hW.lt p hp;have hW':=hW;obtain⟨p,q,hA,hV,rfl,hfz,hnd⟩:=hW;rw[H4]at hV;obtain⟨rfl,rfl⟩:=trodVars_none hV;rw[List.append_nil]at hlt hW' hfz hnd;obtain⟨Ds,h1,h2⟩:=xd (held:=true) hl (n:=n) (base:=base) (fun t ht=>⟨(hts t ht).1,(hts t ht).2.1⟩) (fun j t v ht hv=>SP j t v (by simpa using ht) (by simpa using hv)) hA;obtain⟨_,mj⟩:=(hc Ds h1).body V7 W _ args h2;refine(mj W (e9 W) args (fun b o h=>h) hG h2).mono ?_;rintro e W' ⟨v,pr',rfl,hch,_,_,hr⟩;obtain⟨rfl,_⟩:=aU.1 hr;refine⟨_,rfl, ?_⟩;have Sp:Below W.heap.size W W':=⟨hch.os,hch.tape,hch.output,hch.size,fun k hk=>hch.block k hk (fun h=>h)⟩;have hlen:ds.length=fn.params.size:=by have:=ru hA;simpa using this
 have hsp:=Xb ds hlen
 have hA': ∀sp:Nat→Bool,(∀x∈p,sp x.block=true)→DataW.TrodAll enc P W' 0 sp true fn.params.toList args.toList ds p:=fun sp hs=>
  uT hl Sp (fun t ht=>⟨(hts t ht).1,(hts t ht).2.2⟩) (fun x hx=>⟨hlt x hx,hs x hx⟩) hA
 have hR: ∀(b:Nat) (sp:Nat→Bool) (hd:Bool),DataW.TrodAll enc P W' b sp hd fn.resultTypes.toList ((Value.bool true).resultList fn.resultTypes.size) [.lit (.bool true)] []:=fun b sp hd=>by
  rw[KW];exact trodAll_mk1 (shut_bool hb true)
 have hap:ds++([]:List (DataW H))=ds:=List.append_nil ds;refine⟨ds,[],p,[],p,[],hW', ?_, ?_, ?_,Sp.frame _,fun _=> ?_⟩
 ·rw[hap,hsp];exact hR _ _ _
 ·rw[hap,hsp];exact hA' _ fun x hx=>by simpa using hlt x hx
 ·rw[H4,hap,hsp];exact rfl
 ·refine⟨ok_one KW rfl (okWide_bool_mk hb true),[.lit (.bool true)]++ds,[],([]++p)++ [],⟨[]++p,[],trodAll_append (hA' _ fun _ _=>rfl) (hR _ _ _),by rw[H4];exact rfl,rfl, ?_, ?_⟩, ?_⟩
  ·intro b off hp;have hm:MemPlace.cell b off∈p:=by simpa using hp
   rw[Sp.frozen (p:=⟨b,off,none⟩) (hlt _ hm)];exact hfz b off hm
  ·intro ha;cases ha
  ·intro x hx _;simpa using hx
end
end
section
open Go.ChangeShapes Go.WideShapes Go.ChangeAt Go.RowKit
def AS{H:Type}:Nat→DataW H→Option (List Value)
 |0,_=>none
 |_+1, .lit (.int k z)=>some [.int k z]
 |n+1, .agg xs=>(xs.mapM (AS n)).map List.flatten
 |_+1,_=>none
def yc(P:Program):Nat→TypeId→Bool
 |0,_=>false
 |n+1,t=>match P.underlying t with
  |some (.int _)=>true
  |some (.array _ e)=>yc P n e
  |_=>false
theorem chunks{α:Type}(c:Nat): ∀(ls:List (List α)) (cs:List α),cs.length=ls.length*c→(∀i l,ls[i]?=some l→(cs.drop (i*c)).take c=l)→cs=ls.flatten
 | [],cs,hl,_=>by simpa using hl
 |l::r,cs,hl,h=>by
  have h0:=h 0 l rfl;simp only[Nat.zero_mul,List.drop_zero]at h0
  have hr:=chunks c r (cs.drop c) (by simp only[List.length_cons,Nat.add_mul,Nat.one_mul]at hl;simp[hl]) fun i l hi=>by
   have:=h (i+1) l (by simpa using hi)
   rwa[Nat.add_mul,Nat.one_mul,Nat.add_comm,←List.drop_drop]at this
  rw[List.flatten_cons,←hr,←h0,List.take_append_drop]
section
variable {H : Type} {enc : TypeId × Value → H} {P : Program} {w : World} {base : Nat} {sp : Nat → Bool} {held : Bool}
theorem Gh(hl:laidOutB P=true): ∀(n:Nat) (t:TypeId) (fuel:Nat) (cs:List Value) (d:DataW H) (p:List MemPlace) (vs:List Value),t<P.types.size→yc P n t=true→DataW.trod enc P w base sp held fuel t cs=some (d,p)→AS n d=some vs→cs=vs:=by
 intro n
 induction n with
 |zero=>intro t fuel cs d p vs _ hk;cases hk
 |succ n ih=>
  intro t fuel cs d p vs ht hk h hv;simp only[yc]at hk;split at hk
  ·rename_i k hu;obtain⟨z,rfl,e,_⟩:=DataW.trod_int hu h;cases e;simp only[AS,Jz]at hv;exact hv
  ·rename_i m e hu;obtain⟨k1,k2⟩:=kid_array hl ht hu;obtain⟨xs,q,rfl,e,hlen,hxs,hx⟩:=DataW.trod_array hu h;cases e;simp only[AS]at hv;obtain⟨ls,h1,rfl⟩:=Mz.1 hv;obtain⟨l1,l2⟩:=gQ h1;simp only[List.length_map]at l1;refine chunks (P.cellsOf e) ls cs (by rw[hlen,k2,l1,hxs]) fun i l hi=> ?_;have hil:=(Gz.1 hi).1;have h3:=hx i (by omega);have hxi:=Ez (show i<xs.length by omega);rw[hxi]at h3;obtain⟨a,ha,hla⟩:=l2 i l hi;rw[Dz,hxi]at ha;cases ha;exact ih e q _ _ _ _ k1 hk h3 hla
  ·cases hk
theorem AQ: ∀{l:List (String×DataW Unit)} {ps:List MemPlace},DataW.LaidVars P w l ps→ ∀{n:String} {d:DataW Unit},(n,d)∈l→
  ∃g t cs fuel p,P.globalNamed n=some g∧(P.globals[g]?).map (·.type)=some t∧w.var? P n=some cs∧DataW.trod (fun _=>()) P w 0 (fun _=>true) false fuel t cs.toList=some (d,p)
 | [],ps,h,n,d,hm=>by cases hm
 |(n',d')::r,ps,h,n,d,hm=>by
  obtain⟨g,t,cs,fuel,p,q,h1,h2,h3,h4,h5,_⟩:=h;rcases List.mem_cons.1 hm with e|hm
  ·cases e;exact⟨g,t,cs,fuel,p,h1,h2,h3,h4⟩
  ·exact AQ h5 hm
theorem Ay(hl:laidOutB P=true){laid:List (String×DataW Unit)}(h:laidMet P laid w)
  (hc: ∀g xs,Ed g=some xs→ ∃n d vs t,(n,d)∈laid∧P.globalNamed n=some g∧(P.globals[g]?).map (·.type)=some t∧t<P.types.size∧yc P 3 t=true∧AS 3 d=some vs∧xs=vs.map D.v∧vs.all qs=true):BN w (e9 w):=by
 obtain⟨ps,hv,_,_⟩:=h;intro g xs hg;obtain⟨n,d,vs,t,hm,h1,h2,h3,h4,h5,rfl,h6⟩:=hc g xs hg;obtain⟨g',t',cs,fuel,p,k1,k2,k3,k4⟩:=AQ hv hm;rw[h1]at k1;cases k1;rw[h2]at k2;cases k2;have e:=Gh hl 3 t fuel _ _ _ _ h3 h4 k4 h5
 have cell: ∀i v,vs[i]?=some v→w.cell? ⟨g,0+i,none⟩=some v:=fun i v hi=>by
  rw[Nat.zero_add,World.var?_cell h1 k3 i,←Array.getElem?_toList,e];exact hi
 refine .lptr (fun j=>vs.getD j undef) (fun j hj=> ?_) fun j d hd=> ?_
 ·have hj':j<vs.length:=by simpa using hj
  have hv':=Ez hj';have:=cell j _ hv';simp only[List.getD,hv',Option.getD_some];exact⟨this,World.block_lt_of_cell? w _ this,eU (Tz.1 h6 _ (List.getElem_mem hj'))⟩
 ·rw[Dz,Mz]at hd;obtain⟨v,hv',rfl⟩:=hd;simp only[List.getD,hv',Option.getD_some];exact .v (Tz.1 h6 v (Lz hv'))
end
end
section
open Go.ChangeShapes Go.WideShapes Go.ChangeAt Go.RowKit
theorem laidOut:laidOutB Tryz.prog=true:=by kernel_rfl
theorem ad7:ownKnob Tryz.prog.godebug=none:=by kernel_rfl
theorem qm:Tryz.prog.follows .mixedOrders=true:=by kernel_rfl
def NU:List (String×DataW Unit):=Rows.fieldSmallRow.laid
theorem HK{W:World}(h:laidMet Tryz.prog NU W):BN W (e9 W):=by
 refine Ay laidOut h fun g xs hg=> ?_;unfold Ed at hg;split at hg<;>cases hg
 ·exact⟨_,Rows.laid_finesse_match_gets,[.int .i64 0, .int .i64 1, .int .i64 2],103,show _∈Rows.fieldSmallRow.laid from .head _,by kernel_rfl,by kernel_rfl,of_decide_eq_true (by kernel_rfl),by kernel_rfl,rfl,rfl,rfl⟩
 ·exact⟨_,Rows.laid_finesse_score_value,[.int .i64 20, .int .i64 20, .int .i64 30, .int .i64 30, .int .i64 30],378,show _∈Rows.fieldSmallRow.laid from .tail _ (.head _),by kernel_rfl,by kernel_rfl,of_decide_eq_true (by kernel_rfl),by kernel_rfl,rfl,rfl,rfl⟩
 ·exact⟨_,Rows.laid_finesse_score_factor,[.int .i64 1, .int .i64 2, .int .i64 4],103,show _∈Rows.fieldSmallRow.laid from .tail _ (.tail _ (.head _)),by kernel_rfl,by kernel_rfl,of_decide_eq_true (by kernel_rfl),by kernel_rfl,rfl,rfl,rfl⟩
 ·exact⟨_,Rows.laid_finesse_score_more,[.int .i64 0, .int .i64 0, .int .i64 100, .int .i64 200, .int .i64 200, .int .i64 400],379,show _∈Rows.fieldSmallRow.laid from .tail _ (.tail _ (.tail _ (.tail _ (.head _)))),by kernel_rfl,by kernel_rfl,of_decide_eq_true (by kernel_rfl),by kernel_rfl,rfl,rfl,rfl⟩
 ·exact⟨_,Rows.laid_finesse_score_insult,[.int .i64 0, .int .i64 50, .int .i64 100],103,show _∈Rows.fieldSmallRow.laid from .tail _ (.tail _ (.tail _ (.head _))),by kernel_rfl,by kernel_rfl,of_decide_eq_true (by kernel_rfl),by kernel_rfl,rfl,rfl,rfl⟩
noncomputable def wB(os:Os):World:=
 let w0:=World.holding Tryz.prog os ⟨#[],#[],[]⟩
 let put:=fun(h:Array Obj) (g:Nat) (l:List Int)=>h.modify g fun
  | .cells _ t frozen=> .cells (l.map fun z=>Value.int .i64 z).toArray t frozen
  |o=>o
 {w0 with heap:=put (put (put (put (put w0.heap 2 [0,1,2]) 3 [20,20,30,30,30]) 4 [1,2,4]) 5 [0,0,100,200,200,400]) 6 [0,50,100]}
theorem vo(os:Os)(args:Array Value):laidMet Tryz.prog NU ((wB os).forCall (fun _ _=>0) ⟨#[],args,[]⟩).memory:=
 laidMet_of_run' 8 (by kernel_rfl) (by kernel_rfl)
end
section
abbrev fw:Int:=18446744073709551616
def pN:List D→Option D
 | [.v (.int .u64 x), .v (.int .u64 y), .v (.int .u64 c)]=>if 0≤x∧0≤y∧0≤c∧c≤1 then some (.tup [.v (.int .u64 ((x+y+c)%fw)), .v (.int .u64 ((x+y+c)/fw))])else none
 |_=>none
def qA:List D→Option D
 | [.v (.int .u64 x), .v (.int .u64 y), .v (.int .u64 c)]=>if(0≤x∧0≤y∧y<fw)∧0≤c∧c≤1 then some (.tup [.v (.int .u64 ((x+fw-y-c)%fw)), .v (.int .u64 (if x<y+c then 1 else 0))])else none
 |_=>none
def kh:FP:=fun f ds=>if f=152 then pN ds else if f=153 then qA ds else none
theorem ZT{w:World}{pr:aX}{tk:ahw}{cargs:Array Value}{x y c:Value}(h:a_ w pr tk cargs.toList [.v x, .v y, .v c]):cargs= #[x,y,c]:=by
 obtain⟨l⟩:=cargs
 match l,h with
 | [a,b,d],⟨h1,h2,h3,_⟩=>
  obtain⟨rfl,_⟩:=aU.1 h1;obtain⟨rfl,_⟩:=aU.1 h2;obtain⟨rfl,_⟩:=aU.1 h3;rfl
theorem Ba{w:World}{pr:aX}{tk:ahw}(k q:IntKind)(a b:Int):ao w pr tk (.tuple #[.int k a, .int q b]) (.tup [.v (.int k a), .v (.int q b)]):=
 .tup rfl fun i c x hc hx=>by
  match i with
  |0=>simp at hc hx;subst hc hx;exact .v rfl
  |1=>simp at hc hx;subst hc hx;exact .v rfl
  |i+2=>simp at hx
theorem kU:Sound Tryz.prog (bw kh) where
 p f ds d _ h:=by
  replace h:(if f=152 then pN ds else if f=153 then qA ds else none)=some d:=h
  split at h
  ·rename_i hf;subst hf;unfold pN at h;split at h
   ·rename_i x y c;split at h<;>cases h;rename_i hc;refine xk.toR (.inl fun w pr cargs hr=> ?_) rfl;rw[ZT hr];refine⟨_, ?_,Ba _ _ _ _⟩;rw[run_callFunc_extern (fn:=Tryz.f152) Tryz.func152 (by kernel_rfl) (by kernel_rfl) (by kernel_rfl) (e:=add64Entry) (by kernel_rfl),run_add64 x y c hc.1 hc.2.1 hc.2.2.1 hc.2.2.2];rfl
   ·cases h
  split at h
  ·rename_i hf;subst hf;unfold qA at h;split at h
   ·rename_i x y c;split at h<;>cases h;rename_i hc;obtain⟨⟨h1,h2,h3⟩,h4,h5⟩:=hc;refine xk.toR (.inl fun w pr cargs hr=> ?_) rfl;rw[ZT hr];refine⟨_, ?_,Ba _ _ _ _⟩;obtain⟨X,rfl⟩:=Int.eq_ofNat_of_zero_le h1;obtain⟨Y,rfl⟩:=Int.eq_ofNat_of_zero_le h2;obtain⟨b,rfl⟩:=Int.eq_ofNat_of_zero_le h4;rw[run_callFunc_extern (fn:=Tryz.f153) Tryz.func153 (by kernel_rfl) (by kernel_rfl) (by kernel_rfl) (e:=sub64Entry) (by kernel_rfl),run_sub64 X Y b (by omega)];simp only[Result.andThen];have e1:(((X+18446744073709551616-Y-b)%18446744073709551616:Nat):Int)=((X:Int)+fw-Y-b)%fw:=by unfold fw at h3⊢;omega
    have e2:((if X<Y+b then 1 else 0:Nat):Int)=if(X:Int)<Y+b then 1 else 0:=by
     split<;>split<;>first|rfl|omega
    rw[e1,e2]
   ·cases h
  ·cases h
 e k f ds r hf _ h:=by
  have h:(if 1000000+(1000000*k+f)=152 then pN ds else if 1000000+(1000000*k+f)=153 then qA ds else none)=some r:=h;rw[if_neg (by omega),if_neg (by omega)]at h;cases h
 q e f ds r hf h:=by
  obtain⟨d,hd,rfl⟩:=Mz.1 (show(kh (1000001000000+(1000000*e+f)) ds).map _=some r from h);have hd:(if 1000001000000+(1000000*e+f)=152 then pN ds else if 1000001000000+(1000000*e+f)=153 then qA ds else none)=some d:=hd;rw[if_neg (by omega),if_neg (by omega)]at hd;cases hd
end
end Go.Proofs.YtkcfpgaepmllhaaGreatDoor
namespace Go.Proofs
open Go.Shelf
def Tryz.rl:Go.Shelf.Ren:=⟨fun|6=>57|15=>81|14=>94|28=>132|29=>133|20=>140|21=>141|22=>142|23=>143|24=>144|25=>145|26=>146|27=>147|46=>186|47=>174|48=>175|49=>187|50=>188|57=>238|n=>n,fun|22=>62|24=>68|25=>135|3=>3|39=>170|0=>0|53=>228|55=>198|4=>4|46=>222|45=>221|50=>182|5=>5|9=>9|66=>265|70=>269|76=>332|77=>307|n=>n,fun|n=>n⟩
theorem Tryz.Mq:Go.Proofs.SlLaysF0.n6 Tryz.prog Tryz.rl:={
 mixed:=by kernel_rfl
 f6:=⟨Tryz.f57.name,by decide,Tryz.func57.trans (congrArg some (by kernel_rfl))⟩
 f14:=⟨Tryz.f94.name,by decide,Tryz.func94.trans (congrArg some (by kernel_rfl))⟩
 f15:=Tryz.func81.trans (congrArg some (by kernel_rfl))
 f20:=⟨Tryz.f140.name,by decide,Tryz.func140.trans (congrArg some (by kernel_rfl))⟩
 f21:=⟨Tryz.f141.name,by decide,Tryz.func141.trans (congrArg some (by kernel_rfl))⟩
 f22:=⟨Tryz.f142.name,by decide,Tryz.func142.trans (congrArg some (by kernel_rfl))⟩
 f23:=⟨Tryz.f143.name,by decide,Tryz.func143.trans (congrArg some (by kernel_rfl))⟩
 f24:=⟨Tryz.f144.name,by decide,Tryz.func144.trans (congrArg some (by kernel_rfl))⟩
 f25:=⟨Tryz.f145.name,by decide,Tryz.func145.trans (congrArg some (by kernel_rfl))⟩
 f26:=⟨Tryz.f146.name,by decide,Tryz.func146.trans (congrArg some (by kernel_rfl))⟩
 f27:=⟨Tryz.f147.name,by decide,Tryz.func147.trans (congrArg some (by kernel_rfl))⟩
 f28:=Tryz.func132.trans (congrArg some (by kernel_rfl))
 f29:=Tryz.func133.trans (congrArg some (by kernel_rfl))
 f46:=⟨Tryz.f186.name,by decide,Tryz.func186.trans (congrArg some (by kernel_rfl))⟩
 f47:=Tryz.func174.trans (congrArg some (by kernel_rfl))
 f48:=Tryz.func175.trans (congrArg some (by kernel_rfl))
 f49:=⟨Tryz.f187.name,by decide,Tryz.func187.trans (congrArg some (by kernel_rfl))⟩
 f50:=⟨Tryz.f188.name,by decide,Tryz.func188.trans (congrArg some (by kernel_rfl))⟩
 f57:=⟨Tryz.f238.name,by decide,Tryz.func238.trans (congrArg some (by kernel_rfl))⟩
 t0:=Tryz.underlying0
 a0:=Tryz.isAgg0
 z0:=Tryz.sizeOf0
 v0:=Tryz.zeroValue0
 t3:=Tryz.underlying3
 a3:=Tryz.isAgg3
 z3:=Tryz.sizeOf3
 v3:=Tryz.zeroValue3
 t4:=Tryz.underlying4
 a4:=Tryz.isAgg4
 z4:=Tryz.sizeOf4
 v4:=Tryz.zeroValue4
 t5:=Tryz.underlying5
 a5:=Tryz.isAgg5
 z5:=Tryz.sizeOf5
 v5:=Tryz.zeroValue5
 t9:=Tryz.underlying9
 a9:=Tryz.isAgg9
 z9:=Tryz.sizeOf9
 v9:=Tryz.zeroValue9
 t22:=Tryz.underlying62
 a22:=Tryz.isAgg62
 z22:=Tryz.sizeOf62
 v22:=Tryz.zeroValue62
 t25:=Tryz.underlying135
 a25:=Tryz.isAgg135
 z25:=Tryz.sizeOf135
 v25:=Tryz.zeroValue135
 t39:=Tryz.underlying170
 a39:=Tryz.isAgg170
 z39:=Tryz.sizeOf170
 v39:=Tryz.zeroValue170
 t45:=Tryz.underlying221
 a45:=Tryz.isAgg221
 z45:=Tryz.sizeOf221
 v45:=Tryz.zeroValue221
 t46:=Tryz.underlying222
 a46:=Tryz.isAgg222
 z46:=Tryz.sizeOf222
 v46:=Tryz.zeroValue222
 t50:=Tryz.underlying182
 a50:=Tryz.isAgg182
 z50:=Tryz.sizeOf182
 v50:=Tryz.zeroValue182
 t53:=Tryz.underlying228
 a53:=Tryz.isAgg228
 z53:=Tryz.sizeOf228
 v53:=Tryz.zeroValue228
 t55:=Tryz.underlying198
 a55:=Tryz.isAgg198
 z55:=Tryz.sizeOf198
 v55:=Tryz.zeroValue198
 t66:=Tryz.underlying265
 a66:=Tryz.isAgg265
 z66:=Tryz.sizeOf265
 v66:=Tryz.zeroValue265
 t70:=Tryz.underlying269
 a70:=Tryz.isAgg269
 z70:=Tryz.sizeOf269
 v70:=Tryz.zeroValue269
 t76:=Tryz.underlying332
 a76:=Tryz.isAgg332
 z76:=Tryz.sizeOf332
 v76:=Tryz.zeroValue332
 t77:=Tryz.underlying307
 a77:=Tryz.isAgg307
 z77:=Tryz.sizeOf307
 v77:=Tryz.zeroValue307}
end Go.Proofs
namespace Go.Proofs.YtkcfpgaepmllhaaGreatDoor
open Go.RowKit
set_option maxRecDepth 100000
set_option linter.all false
section
open Go.RowKit Go.Lib Go.Sort
theorem G5{w w':World}(h:dU (fun _=>False) w w'): ∃q os',w'=grow (w.drewN q) os':=by
 refine⟨w'.drawn-w.drawn,w'.heap.extract w.heap.size w'.heap.size, ?_⟩
 have hh:w'.heap=w.heap++w'.heap.extract w.heap.size w'.heap.size:=by
  apply Array.ext_getElem?;intro i;by_cases hi:i<w.heap.size
  ·rw[Array.getElem?_append_left hi];exact h.block i hi id
  ·rw[Array.getElem?_append_right (by omega)];have hs:=h.size;by_cases hj:i<w'.heap.size
   ·rw[Rz hj,Rz (by simp;omega)];simp only[Array.getElem_extract];congr 2;omega
   ·rw[Array.getElem?_eq_none (by omega),Array.getElem?_eq_none (by simp;omega)]
 have hd:=h.drawn;have h1:=h.os;have h2:=h.tape;have h3:=h.output;obtain⟨heap,tape,drawn,os,output⟩:=w;obtain⟨ae7,afu,abH,os',aa7⟩:=w';simp only[grow,World.drewN]at*;subst h1 h2 h3;rw[←hh];congr 1;omega
end
section
open Go.RowKit Go.Lib Go.Sort Go.Shelf
def valOf:D→Value
 | .v x=>x
 |_=>undef
def lA:D→Bool
 | .v x=>qs x
 |_=>false
theorem CR{w:World}{pr:aX}{tk:ahw}{u:Value}{d:D}(h:ao w pr tk u d)(hd:lA d=true):u=valOf d:=by
 cases d<;>simp only[lA]at hd<;>try (cases hd;done)
 exact(aU.1 h).1
theorem uh{w:World}{pr:aX}{tk:ahw}{d:D}(hd:lA d=true):ao w pr tk (valOf d) d:=by
 cases d<;>simp only[lA]at hd<;>try (cases hd;done)
 exact .v hd
structure zw(P:Program)(g k:Nat)(dR:List D→Bool)(cf:List D→List D→Int):Prop where
 len: ∀x,dR x=true→x.length=k
 pl: ∀x,dR x=true→ ∀d∈x,lA d=true
 ok: ∀x y,dR x=true→dR y=true→xk P g [.agg x, .agg y] (.v (.int .i64 (cf x y)))
 body:dw P g
 lt:g<1000000
 irrefl: ∀x,dR x=true→ ¬cf x x<0
 trans: ∀x y z,dR x=true→dR y=true→dR z=true→cf x y<0→cf y z<0→cf x z<0
 ntrans: ∀x y z,dR x=true→dR y=true→dR z=true→ ¬cf x y<0→ ¬cf y z<0→ ¬cf x z<0
 anti: ∀x y,dR x=true→dR y=true→ ¬cf x y<0→ ¬cf y x<0→x=y
theorem xk.calls{P:Program}{f:Nat}{ds:List D}{d:D}(h:xk P f ds d)(hb:dw P f){w:World}{pr:aX}{cargs:Array Value}(hpr: ∀b o,pr b o→b<w.heap.size)(hG:BN w pr)(hr:a_ w pr aA cargs.toList ds):
  Calls P f cargs w fun e w'=> ∃v pr',e= .returned v∧dU (fun _=>False) w w'∧(∀b o,pr b o→pr' b o)∧(∀b o,pr' b o→pr b o∨(w.heap.size≤b∧b<w'.heap.size))∧ao w' pr' aA v d:=by
 rcases h with h|⟨_,h⟩
 ·obtain⟨v,h1,_⟩:=h w pr cargs hr;rw[bD hb]at h1;cases h1
 ·grind
def vn{α:Type}(lt:α→α→Bool)(x:α):List α→List α
 | []=> [x]
 |y::r=>bif lt x y then x::y::r else y::vn lt x r
def bR{α:Type}(lt:α→α→Bool):List α→List α
 | []=> []
 |x::r=>vn lt x (bR lt r)
theorem qg{α:Type}(lt:α→α→Bool)(x:α): ∀(l:List α),(vn lt x l).Perm (x::l)
 | []=> .refl _
 |y::r=>by
  simp only[vn];cases lt x y
  ·exact((qg lt x r).cons y).trans (.swap x y r)
  ·exact .refl _
theorem bG{α:Type}(lt:α→α→Bool): ∀(l:List α),(bR lt l).Perm l
 | []=> .refl _
 |x::r=>(qg lt x _).trans ((bG lt r).cons x)
theorem qW{α:Type}{lt:α→α→Bool}(h:SWO lt)(x:α): ∀{l:List α},l.Pairwise (fun a b=>lt b a=false)→(vn lt x l).Pairwise (fun a b=>lt b a=false)
 | [],_=>by simp[vn]
 |y::r,hp=>by
  obtain⟨h1,h2⟩:=List.pairwise_cons.1 hp;simp only[vn];cases hl:lt x y
  ·refine List.pairwise_cons.2 ⟨fun z hz=> ?_,qW h x h2⟩;rcases List.mem_cons.1 ((qg lt x r).mem_iff.1 hz)with rfl|hz
   ·exact hl
   ·grind
  ·refine List.pairwise_cons.2 ⟨fun z hz=> ?_,hp⟩;rcases List.mem_cons.1 hz with rfl|hz
   ·cases hq:lt z x
    ·rfl
    ·have:=h.trans _ _ _ hl hq;rw[h.irrefl]at this;cases this
   ·cases hq:lt z x
    ·rfl
    ·have:=h.trans _ _ _ hq hl;rw[h1 z hz]at this;cases this
theorem lD{α:Type}{lt:α→α→Bool}(h:SWO lt): ∀(l:List α),(bR lt l).Pairwise (fun a b=>lt b a=false)
 | []=> .nil
 |x::r=>qW h x (lD h r)
theorem AJ{α β:Type}{lt:α→α→Bool}{lt':β→β→Bool}{f:α→β}(h: ∀x y,lt' (f x) (f y)=lt x y)(x:α): ∀(l:List α),(vn lt x l).map f=vn lt' (f x) (l.map f)
 | []=>rfl
 |y::r=>by
  simp only[vn,List.map_cons,h];cases lt x y
  ·simp[AJ h x r]
  ·simp
theorem m_{α β:Type}{lt:α→α→Bool}{lt':β→β→Bool}{f:α→β}(h: ∀x y,lt' (f x) (f y)=lt x y): ∀(l:List α),(bR lt l).map f=bR lt' (l.map f)
 | []=>rfl
 |x::r=>by simp only[bR,List.map_cons,AJ h,m_ h r]
theorem air{α:Type} [Inhabited α]{lt:α→α→Bool}(h:SWO lt)(ha: ∀x y,lt x y=false→lt y x=false→x=y)(l:List α):(pdq lt l.toArray 0 l.toArray.size (Lib.bitLen l.toArray.size) true true).toList=bR lt l:=by
 obtain⟨h1,h2⟩:=pdq_sorts lt h l.toArray 0 l.toArray.size (Lib.bitLen l.toArray.size) true true (Nat.zero_le _) (Nat.le_refl _) (Or.inl rfl);rw[sorted_unique_holds h ha _ _ h1 h2];have hp:=bG lt l;have hl:=hp.length_eq;refine(sorted_unique_holds h ha l.toArray (bR lt l).toArray ⟨by simpa using hl,fun i hi=> ?_,by simpa[hl,List.take_of_length_le (Nat.le_of_eq hl)]using hp⟩ ?_).symm
 ·have hi:l.length≤i:=by rcases hi with h|h;omega;simpa using h
  rw[getElem!_neg _ _ (by simp;omega),getElem!_neg _ _ (by simp;omega)]
 ·intro i j _ hij hj;have hj:j<l.length:=by simpa using hj
  have hs:=List.pairwise_iff_getElem.1 (lD h l) i j (by omega) (by omega) hij;rw[getElem!_pos _ _ (by simp;omega),getElem!_pos _ _ (by simp;omega)];simpa using hs
section
variable {P : Program} {g k : Nat} {dR : List D → Bool} {cf : List D → List D → Int}
def AU(cf:List D→List D→Int)(x y:List D):Bool:=decide (cf x y<0)
abbrev Good(dR:List D→Bool):={x:List D//dR x=true}
def je(x:Good dR):List Value:=x.1.map valOf
theorem zw.swo(K:zw P g k dR cf):SWO (ltOf fun x y:Good dR=>cf x.1 y.1):=
 ⟨fun x=>decide_eq_false (K.irrefl x.1 x.2),fun x y z h1 h2=>decide_eq_true (K.trans x.1 y.1 z.1 x.2 y.2 z.2 (of_decide_eq_true h1) (of_decide_eq_true h2)),
  fun x y z h1 h2=>decide_eq_false (K.ntrans x.1 y.1 z.1 x.2 y.2 z.2 (of_decide_eq_false h1) (of_decide_eq_false h2))⟩
theorem zw.Vv(K:zw P g k dR cf)(x y:Good dR)(h1:ltOf (fun x y:Good dR=>cf x.1 y.1) x y=false)(h2:ltOf (fun x y:Good dR=>cf x.1 y.1) y x=false):x=y:=
 Subtype.ext (K.anti x.1 y.1 x.2 y.2 (of_decide_eq_false h1) (of_decide_eq_false h2))
theorem zw.sort (K : zw P g k dR cf) {ρ : Shelf.Ren} (L : SlLaysF0.n6 P ρ) (aE : ∀ w, (isAgg (ρ.t 24)).run P w = .ok true w) (zE : ∀ w, (Go.sizeOf (ρ.t 24)).run P w = .ok k w) (hb : dw P (ρ.f 6))
     {x0 : List D} (hx0 : dR x0 = true) {es : List (List D)} (hes : ∀ x ∈ es, dR x = true) (hlen : es.length < 4611686018427387904) (SF : es = [] → xk P (ρ.f 6) [.list [], .clo g []] (.tup [])) :
    VEp P 0 (ρ.f 6) [.list es, .clo g []] es (bR (AU cf) es) (.tup []) := by
  refine ⟨hb, (bG _ es).length_eq, fun w pr cargs hpr hG hcs acK => ?_⟩
  have hc1 : cargs[1]? = some (.func (.func g) #[] #[]) := by
    have h1 : (1 : Nat) < cargs.size := by rw [hcs]; simp
    have h := acK 1 _ _ (by decide) (Rz h1) rfl
    rw [Rz h1]
    generalize cargs[1] = v at h
    have hlt := K.lt
    cases h with
    | clo hf hs hr => have := Array.eq_empty_of_size_eq_zero hs; subst this; rfl
    | bclo hs hr => omega
  have two : ∀ v, cargs[0]? = some v → cargs = #[v, .func (.func g) #[] #[]] := fun v hv => by
    grind
  refine ⟨fun he hk => ?_, fun b cap t C hnb qV hle kC hCs gi hk => ?_⟩
  · subst he
    rw [two _ hk]
    exact (SF rfl).calls hb hpr hG ⟨.nil', .clo K.lt rfl fun i c x h => by simp at h, trivial⟩
  rw [two _ hk]
  letI : Inhabited (Good dR) := ⟨⟨x0, hx0⟩⟩
  obtain ⟨l, rfl⟩ : ∃ l : List (Good dR), es = l.map (·.1) := ⟨es.pmap Subtype.mk hes, by simp [List.map_pmap]⟩
  have hbs : b < w.heap.size := (Array.getElem?_eq_some_iff.1 qV).1
  have hkt : l ≠ [] → k = P.cellsOf t := fun hne => by
    cases l with
    | nil => exact absurd rfl hne
    | cons x r => rw [← gi.1 x.1 (by simp)]; exact (K.len x.1 x.2).symm
  have VO : ∀ x : Good dR, (je x).length = k := fun x => by simp [je, K.len x.1 x.2]
  have Nc : ∀ (d : Array (Good dR)) (j : Nat), j < d.size * k → (flatK je k d)[j]! = valOf ((d[j / k]!).1[j % k]!) := fun d j hj => by
    have hk0 : 0 < k := by rcases Nat.eq_zero_or_pos k with h | h; subst h; simp at hj; exact h
    have hm : j % k < k := Nat.mod_lt _ hk0
    have hl := K.len _ (d[j / k]!).2
    rw [get_flatK _ _ _ _ hj]
    have e1 : (je (d[j / k]!))[j % k]! = (je (d[j / k]!))[j % k]'(by rw [VO]; exact hm) := getElem!_pos _ _ _
    have e2 : (d[j / k]!).1[j % k]! = (d[j / k]!).1[j % k]'(by rw [hl]; exact hm) := getElem!_pos _ _ _
    rw [e1, e2]
    simp [je]
  have hH : HoldsK je k w b 0 l.toArray := fun j hj => by
    simp only [size_flatK, List.size_toArray] at hj
    have hk0 : 0 < k := by rcases Nat.eq_zero_or_pos k with h | h; subst h; simp at hj; exact h
    have hm : j % k < k := Nat.mod_lt _ hk0
    have hd : j / k < l.length := Nat.div_lt_of_lt_mul (by rw [Nat.mul_comm]; exact hj)
    have hne : l ≠ [] := by rintro rfl; simp at hd
    have hx := K.len _ (l[j / k]).2
    obtain ⟨u, h1, h2, h3⟩ := gi.2 (j / k) (l[j / k]).1 (by simp [hd]) (j % k) _ (Ez (by rw [hx]; exact hm))
    rw [← hkt hne, Nat.mul_comm, Nat.div_add_mod] at h1
    have hu := CR h3 (K.pl _ (l[j / k]).2 _ (List.getElem_mem _))
    refine ⟨?_, ?_⟩
    · rw [Nc _ _ (by simpa using hj), getElem!_pos l.toArray (j / k) (by simpa using hd)]
      simp only [List.getElem_toArray]
      rw [getElem!_pos _ _ (by rw [hx]; exact hm), ← hu, Nat.zero_add, cell_of_row w b _ C t (0, 0) qV]
      exact h1
    · simp [World.frozen?, qV]
  have abV : CmpLays P g #[] je k (fun x y : Good dR => cf x.1 y.1) b 0 l.toArray.size w := fun m os dk hdk x y => by
    have bg : ∀ x : Good dR, ao (sortWorldK je k w b 0 m dk os) pr aA (.agg (je x).toArray) (.agg x.1) := fun x => .agg (by simp [je]) (fun i c hc => by
        simp only [je, List.getElem?_toArray, Dz, Mz] at hc
        obtain ⟨d, hd, rfl⟩ := hc
        have := K.pl _ x.2 d (Lz hd)
        cases d <;> simp only [lA] at this <;> try (cases this; done)
        exact eU this) (fun i c d hc hd => by
        simp only [je, List.getElem?_toArray, Dz, hd, Pz, Jz] at hc
        subst hc
        exact uh (K.pl _ x.2 d (Lz hd)))
    have hblk : ∀ b' o, pr b' o → (sortWorldK je k w b 0 m dk os).heap[b']? = w.heap[b']? := fun b' o h => by
      have hlt := hpr b' o h
      unfold sortWorldK
      rw [heap_grow_old _ _ (by simpa [putRowK, ahead] using hlt)]
      have : b ≠ b' := fun e => hnb o (e ▸ h)
      simp [putRowK, putRow, mapBlock, Array.getElem?_modify, this, ahead]
    have tG : w.heap.size ≤ (sortWorldK je k w b 0 m dk os).heap.size := by simp [sortWorldK, putRowK, ahead]
    refine ((K.ok x.1 y.1 x.2 y.2).calls K.body (cargs := #[.agg (je x).toArray, .agg (je y).toArray]) (pr := pr) (fun b' o h => Nat.lt_of_lt_of_le (hpr b' o h) tG) (hG.keeps fun b' o h => ⟨hblk b' o h, h⟩) ⟨bg x, bg y, trivial⟩).mono ?_
    rintro e w' ⟨v, pr', rfl, jg, _, _, hv⟩
    obtain ⟨rfl, _⟩ := aU.1 hv
    exact ⟨rfl, G5 jg⟩
  have law := AnyQ.slices_SortFunc_eq (P := P) (ρ := ρ) L k aE zE je VO (fun x v hv => by
    obtain ⟨d, hd, rfl⟩ := List.mem_map.1 hv
    have := K.pl _ x.2 d hd
    cases d <;> simp only [lA] at this <;> try (cases this; done)
    exact eU this) (fun x y : Good dR => cf x.1 y.1) K.swo g #[] b 0 cap l.toArray w (fun args w => bD K.body) abV hH hbs (by simpa using hlen)
  have hp := air K.swo K.Vv l
  have hd2 : (pdq (ltOf fun x y : Good dR => cf x.1 y.1) l.toArray 0 l.toArray.size (Lib.bitLen l.toArray.size) true true) = (bR (ltOf fun x y : Good dR => cf x.1 y.1) l).toArray := by rw [← hp]
  rw [hd2] at law
  clear hd2 hp
  have hsl := (bG (ltOf fun x y : Good dR => cf x.1 y.1) l).length_eq
  have KR : (bR (ltOf fun x y : Good dR => cf x.1 y.1) l).map (·.1) = bR (AU cf) (l.map (·.1)) := m_ (lt := ltOf fun x y : Good dR => cf x.1 y.1) (lt' := AU cf) (f := fun x => x.1) (fun x y => rfl) l
  generalize bR (ltOf fun x y : Good dR => cf x.1 y.1) l = l' at law hsl KR
  rw [← KR]
  simp only [List.size_toArray] at law
  simp only [List.length_map]
  refine law.mono ?_
  rintro e w' ⟨rfl, n, os, rfl⟩
  have Sx : (sortWorldK je k w b 0 n l'.toArray os).heap[b]? = some (.cells (Sort.putCells id 0 (flatK je k l'.toArray) C) t (0, 0)) := by
    unfold sortWorldK
    rw [heap_grow_old _ _ (by simpa [putRowK, ahead] using hbs)]
    simp [putRowK, putRow, mapBlock, Array.getElem?_modify, ahead, qV, onCells]
  have tG : w.heap.size ≤ (sortWorldK je k w b 0 n l'.toArray os).heap.size := by simp [sortWorldK, putRowK, ahead]
  refine ⟨_, pr, Sort.putCells id 0 (flatK je k l'.toArray) C, rfl, ⟨rfl, rfl, rfl, tG, fun b' hb' hne => ?_, ?_⟩, fun _ _ h => h, fun _ _ h => .inl h, .tup rfl (fun i c x h => by simp at h), Sx, by simp [Sort.putCells], ?_, ?_⟩
  · unfold sortWorldK
    rw [heap_grow_old _ _ (by simpa [putRowK, ahead] using hb')]
    have : b ≠ b' := fun e => hne e.symm
    simp [putRowK, putRow, mapBlock, Array.getElem?_modify, this, ahead]
  · simp [sortWorldK, grow, putRowK, ahead]
  · intro c hc
    obtain ⟨x, hx, rfl⟩ := List.mem_map.1 hc
    rw [K.len _ x.2]
    exact hkt (by rintro rfl; simp at hsl; simp [hsl] at hx)
  · intro i c hc j d hd
    simp only [Dz, Mz] at hc
    obtain ⟨x, hx, rfl⟩ := hc
    have hi : i < l'.length := (Gz.1 hx).1
    have hj : j < k := by rw [← K.len _ x.2]; exact (Gz.1 hd).1
    have hne : l ≠ [] := by rintro rfl; simp at hsl; simp [hsl] at hi
    have hk := hkt hne
    have e1 : (i * k + j) / k = i := (blk_iff k i _ (by omega)).1 ⟨by omega, by omega⟩
    have e2 : (i * k + j) % k = j := by rw [Nat.mod_eq_sub_div_mul, e1]; omega
    have lt : i * k + j < l'.length * k := by
      have := Nat.mul_le_mul_right k (show i + 1 ≤ l'.length from hi); rw [Nat.add_mul, Nat.one_mul] at this; omega
    have hCl : i * k + j < C.size := by
      rw [hCs, ← hk]
      have := Nat.mul_le_mul_right k (show l'.length ≤ cap by rw [hsl]; simpa using hle)
      omega
    have hpl := K.pl _ x.2 d (Lz hd)
    refine ⟨valOf d, ?_, ?_, uh hpl⟩
    · rw [← hk]
      simp only [Sort.putCells, Array.getElem?_mapIdx, Rz hCl, Pz]
      rw [if_pos ⟨Nat.zero_le _, by rw [size_flatK]; simpa using lt⟩, Nat.sub_zero, Nc _ _ (by simpa using lt), e1, e2, getElem!_pos l'.toArray i (by simpa using hi)]
      simp only [List.getElem_toArray, id]
      rw [(Gz.1 hx).2]
      obtain ⟨hd1, hd2⟩ := Gz.1 hd
      rw [getElem!_pos x.1 j hd1, hd2]
    · cases d <;> simp only [lA] at hpl <;> try (cases hpl; done)
      exact eU hpl
end
end
end Go.Proofs.YtkcfpgaepmllhaaGreatDoor
