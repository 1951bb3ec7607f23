/- Part of the proof: symbolic execution of the program, its soundness, and the closing lemmas. No condition. -/
import Derived.Test.YtdepmampjnlgiaaGreatDoorEae
import Derived.Test.YtdepmampjnlgiaaGreatDoorEac
import Derived.RangeFuncRecord
namespace Go.Proofs.YtdepmampjnlgiaaGreatDoor
open Go.RowKit
set_option maxRecDepth 100000
set_option linter.all false
section
def e8.val(s:St):e8→Option D
 | .t i=>some (s.s i)
 | .cell i n g=>gC s.m n g [s.s i]
def E8(rs:List e8)(s:St):Option D:=
 match rs with
 | [r]=>r.val s
 |rs=>(rs.mapM (e8.val s)).map .tup
section
variable {P : Program} {w0 w : World} {pr : aT} {A : gZ} {n : Nat} {tk : ag} {cs : Array Value} {s : St}
def tQ(cs:Array Value):ResultVar→Sem Value
 | .tmp t=>pure (cs.getD t undef)
 | .cell a t=>do loadVar t (←asAddr (cs.getD a undef))
theorem KQ(R:Rel P w0 pr A n w cs s tk){rv:ResultVar}{r:e8}{d:D}(hr:uO P n rv=some r)(hd:r.val s=some d):
  ∃v,(tQ cs rv).run P w= .ok v w∧ai w pr tk v d:=by
 cases rv with
 |tmp t=>
  simp only[uO]at hr;split at hr<;>cases hr;have ht:t<n:=by assumption
  cases hd;exact⟨_,rfl,R.slot t ht⟩
 |cell a t=>
  simp only[uO]at hr;split at hr
  ·have ha:a<n:=by assumption
   obtain⟨g,hg,hr⟩:=Bz.1 hr;split at hr<;>cases hr;have hc:(P.info? t).isSome=true∧(g=true∨P.cellsOf t=1):=by assumption
   have hs:=R.slot a ha;obtain⟨u,h1,h2⟩:=tl R.mem hg hc.1 hc.2 hs hd;refine⟨u, ?_,h2⟩;simp only[tQ];generalize cs.getD a undef=c at h1;cases c<;>simp[Instr.loadAt,Instr.sureAddr]at h1;rename_i p;cases p<;>simp at h1;simpa[asAddr]using h1
  ·cases hr
theorem B0(fn:Func)(cs:Array Value):results fn cs=(do let vs←fn.results.toList.mapM (tQ cs);pure (match vs with| [v]=>v|vs=> .tuple vs.toArray):Sem Value):=by
 unfold results;rw[Array.mapM_eq_mapM_toList];simp only[map_eq_pure_bind,bind_assoc];congr 1;funext vs
 match vs with
 | []=>simp
 | [v]=>simp
 |_::_::_=>simp
theorem jH(R:Rel P w0 pr A n w cs s tk){fn:Func}{rs:List e8}{d:D}
  (hr:fn.results.toList.mapM (uO P n)=some rs) (hd:E8 rs s=some d): ∃v,(results fn cs).run P w= .ok v w∧ai w pr tk v d:=by
 have many: ∀(l:List ResultVar) (rs:List e8) (ds:List D),l.mapM (uO P n)=some rs→rs.mapM (e8.val s)=some ds→
   ∃vs:List Value,(l.mapM (tQ cs)).run P w= .ok vs w∧aX w pr tk vs ds:=by
  intro l
  induction l with
  |nil=>intro rs ds h1 h2;simp at h1;subst h1;simp at h2;subst h2;exact⟨[],rfl,trivial⟩
  |cons rv l ih=>
   intro rs ds h1 h2;simp only[List.mapM_cons,Option.bind_eq_bind,Bz,Option.pure_def,Jz]at h1;obtain⟨r,hr,rs',hrs,rfl⟩:=h1;simp only[List.mapM_cons,Option.bind_eq_bind,Bz,Option.pure_def,Jz]at h2;obtain⟨d,hd,ds',hds,rfl⟩:=h2;obtain⟨v,g1,g2⟩:=KQ R hr hd;obtain⟨vs,g3,g4⟩:=ih rs' ds' hrs hds;refine⟨v::vs, ?_,g2,g4⟩;rw[List.mapM_cons,Sem.run_bind,g1];simp only[Result.andThen_ok,Sem.run_bind,g3,Sem.run_pure]
 have abG: ∀(vs:List Value) (ds:List D),aX w pr tk vs ds→ai w pr tk (.tuple vs.toArray) (.tup ds):=fun vs ds h=>
  .tup (by simpa using h.length) fun i c x hc hx=>kr h i c x (by simpa using hc) hx
 rw[B0]
 have gen:(rs.mapM (e8.val s)).map D.tup=some d→rs.length≠1→ ∃v,((do let vs←fn.results.toList.mapM (tQ cs);pure (match vs with| [v]=>v|vs=> .tuple vs.toArray):Sem Value)).run P w= .ok v w∧ai w pr tk v d:=by
  intro hd hl;obtain⟨ds,h1,rfl⟩:=Mz.1 hd;obtain⟨vs,g1,g2⟩:=many _ rs ds hr h1
  have hlen:vs.length≠1:=by
   rw[g2.length]
   have: ∀(rs:List e8) (ds:List D),rs.mapM (e8.val s)=some ds→ds.length=rs.length:=by
    intro rs
    induction rs with
    |nil=>intro ds h;simp at h;subst h;rfl
    |cons r rs ih=>
     intro ds h;simp only[List.mapM_cons,Option.bind_eq_bind,Bz,Option.pure_def]at h
     grind
   grind
  rw[Sem.run_bind,g1];simp only[Result.andThen_ok,Sem.run_pure]
  grind
 match rs,hr,hd,gen with
 | [],hr,hd,gen=>exact gen hd (by simp)
 |_::_::_,hr,hd,gen=>exact gen hd (by simp)
 | [r],hr,hd,_=>
  simp only[E8]at hd;obtain⟨vs,g1,g2⟩:=many _ [r] [d] hr (by simp[hd])
  match vs,g2 with
  | [v],g2=>exact⟨v,by rw[Sem.run_bind,g1];rfl,g2.1⟩
variable {m : Mem}
theorem lq(M:dI P w pr tk m){pr':aT}(hpr: ∀b o,pr b o→pr' b o)(hbl: ∀b,bX tk m b→ ∀o,pr' b o): ∀(n:Nat) (v:Value) (d d':D),az m n d=some d'→ai w pr tk v d→ai w pr' aI v d'
 |0,_,_,_,h,_=>by simp[az]at h
 |n+1,v,d,d',h,hr=>by
  have K:cY w w pr pr' tk tk:=⟨fun b o h=>⟨rfl,hpr b o h⟩,fun _ _ h=>h⟩
  have step: ∀{v:Value} {x x':D},ai w pr tk v x→(x.bB=true∧x'=x∨az m n x=some x')→ai w pr' aI v x':=fun{v x x'} hv h=>by
   rcases h with⟨h1,rfl⟩|h1
   ·exact cM hv h1
   ·exact lq M hpr hbl n v x x' h1 hv
  cases d<;>simp only[az]at h<;>try (cases h;done)
  case v x=>cases h;cases hr;exact .v ‹_›
  case nil=>cases h;cases hr;exact .nil'
  case mt=>cases h;exact aW ((rF hr).keeps K) rfl
  case list es=>cases h;exact aW (hr.keeps K) rfl
  case lptr xs=>cases h;exact aW (hr.keeps K) rfl
  case nilmap=>cases h;exact aW (hr.keeps K) rfl
  case fm es=>cases h;exact aW (hr.keeps K) rfl
  case mp t=>
   split at h
   ·rename_i es hm;split at h<;>cases h;rename_i bS;exact MA M hm bS hr K fun b _ _ hbb=>hbl b hbb 0
   ·cases h
  case sl t size off len lim=>
   rw[Bz]at h;obtain⟨es,he,h⟩:=h;obtain⟨es',hv,rfl⟩:=Mz.1 h;obtain⟨hl,hg⟩:=lr hv;have inv: ∀{v:Value},ai w pr tk v (.sl t size off len lim)→ ∃b1 c1 o1 k1,tk t=some (b1,c1)∧v= .slice (some ⟨b1,o1,none⟩) len k1:=fun{v} h=>by cases h with|sl ht=>exact⟨_,_,_,_,ht,rfl⟩
   have hm0: ∃q,m t=some q:=by
    simp only[D.elems]at he
    grind
   rcases eB M hr he with⟨hv0,rfl⟩|⟨b,o,cap,sz,us,rfl,h1,h2,h3,h4⟩
   ·have:es'= []:=List.eq_nil_of_length_eq_zero (by simpa using hl);subst this;rcases hv0 with rfl|⟨a,cap,rfl⟩
    ·grind
    ·exact .emp
   ·have jB:es'.length≤cap:=by omega
    have:=ai.list (w:=w) (pr:=pr') (tk:=aI) (b:=b) (off:=o) (cap:=cap) (es:=es') (size:=sz) us (fun c' hc'=>by
      obtain⟨i,hi,rfl⟩:=List.getElem_of_mem hc';obtain⟨c,hc,hlc,_⟩:=hg i _ (Ez hi)
      rw[hlc,h2 c (Lz hc)]) jB (fun j hj=>by
       rw[hl]at hj
       exact⟨(h3 j hj).1,(by
        obtain⟨b1,c1,o1,k1,g1,g2⟩:=inv hr;obtain⟨q,hq⟩:=hm0;have e1:b=b1:=by injection g2 with g3;injection g3 with g4;injection g4
        rw[e1];exact hbl _ ⟨t,q,_,hq,g1⟩ _),(h3 j hj).2⟩) (fun i c' hc' j x' hx'=>by
        obtain⟨c,hc,_,hg2⟩:=hg i c' hc';obtain⟨x,hx,hfx⟩:=hg2 j x' hx'
        exact step (h4 i c hc j x hx) hfx)
    grind
  case ptr t off=>
   split at h
   ·rename_i xs hm;split at h
    ·obtain⟨c',hv,rfl⟩:=Mz.1 h;obtain⟨hl,hg⟩:=bU hv;cases hr with
     |ptr ht=>
      obtain⟨us,h1,h2⟩:=jk M hm ht off;refine .lptr us (fun j hj=> ?_) fun j x' hx'=> ?_
      ·rw[hl]at hj;exact⟨(h1 j hj).1,hbl _ ⟨t,_,_,hm,ht⟩ _,(h1 j hj).2⟩
      ·grind
    ·cases h
   ·cases h
  case rptr t size i j=>
   split at h
   ·rename_i g e es hm;rw[Bz]at h;obtain⟨c,hc,h⟩:=h;split at h
    ·rename_i bc;obtain⟨rfl,_⟩:=bc;obtain⟨c',hv,rfl⟩:=Mz.1 h;obtain⟨hl,hg⟩:=bU hv;cases hr with
     |rptr ht=>
      obtain⟨us,h1,h2⟩:=lS M hm ht hc j;refine .lptr us (fun k hk=> ?_) fun k x' hx'=> ?_
      ·rw[hl]at hk;exact⟨(h1 k hk).1,hbl _ ⟨t,_,_,hm,ht⟩ _,(h1 k hk).2⟩
      ·obtain⟨x,hx,hfx⟩:=hg k x' hx';exact step (h2 k x hx) hfx
    ·cases h
   ·cases h
  case clo f xs=>
   obtain⟨c',hv,rfl⟩:=Mz.1 h;obtain⟨hl,hg⟩:=bU hv;cases hr with
   |clo hf h1 h3=>
    refine .clo hf (by rw[hl];exact h1) fun i c x' hc hx'=> ?_;obtain⟨x,hx,hfx⟩:=hg i x' hx';exact step (h3 i c x hc hx) hfx
   |bclo h1 h3=>
    refine .bclo (by rw[hl];exact h1) fun i c x' hc hx'=> ?_;obtain⟨x,hx,hfx⟩:=hg i x' hx';exact step (h3 i c x hc hx) hfx
theorem lk(M:dI P w pr tk m){pr':aT}(hpr: ∀b o,pr b o→pr' b o)(hbl: ∀b,bX tk m b→ ∀o,pr' b o){v:Value}{d d':D}(h:bD m d=some d')(hr:ai w pr tk v d):ai w pr' aI v d':=by
 cases d
 case agg xs=>
  obtain⟨c',hv,rfl⟩:=Mz.1 h;obtain⟨hl,hg⟩:=bU hv;cases hr with
  |agg h1 h2 h3=>
   refine .agg (by rw[hl];exact h1) h2 fun i c x' hc hx'=> ?_;obtain⟨x,hx,hfx⟩:=hg i x' hx';rcases hfx with⟨hf,rfl⟩|hf
   ·exact cM (h3 i c _ hc hx) hf
   ·exact lq M hpr hbl 6 c x x' hf (h3 i c x hc hx)
 all_goals exact lq M hpr hbl 6 v _ d' (by simpa only[bD]using h) hr
end
section
variable {P : Program} {w : World} {pr : aT} {tk : ag} {m : Mem}
theorem Lh {n : Nat} {x d : D} (h : az m n x = some d) (hd : d.bB = true) : x = d := by
  cases n with
  | zero => cases h
  | succ n =>
    cases x <;> simp only [az] at h <;> first
      | (cases h; done)
      | (cases h; first | rfl | (cases hd; done))
      | (exfalso; revert h; repeat' split
         all_goals intro h
         all_goals first
           | (cases h; done)
           | (cases h; cases hd; done)
           | (obtain ⟨_, _, rfl⟩ := Mz.1 h; cases hd; done)
           | (obtain ⟨_, _, h⟩ := Bz.1 h; first | (obtain ⟨_, _, rfl⟩ := Mz.1 h; cases hd; done) | (split at h <;> first | (cases h; done) | (obtain ⟨_, _, rfl⟩ := Mz.1 h; cases hd; done))))
theorem KD(M:dI P w pr tk m){v:Value}{d0:D}{es:List (List D)}(ho:(∃t size off len lim,d0= .sl t size off len lim)∨d0= .nil∨d0= .list [])(h:bD m d0=some (.list es))(hes:(es.all fun c=>c.all D.bB)=true)(hr:ai w pr tk v d0):
  ai w (fun b _=>bX tk m b) aI v (.list es):=by
 rcases ho with⟨t,size,off,len,lim,rfl⟩|rfl|rfl
 ·replace h:((D.sl t size off len lim).elems m).bind (fun es=>(cR (az m 5) es).map D.list)=some (.list es):=h
  rw[Bz]at h;obtain⟨es0,he,h⟩:=h;obtain⟨es',hv,h⟩:=Mz.1 h;cases h;obtain⟨hl,hg⟩:=lr hv;have inv: ∀{v:Value},ai w pr tk v (.sl t size off len lim)→ ∃b1 c1 o1 k1,tk t=some (b1,c1)∧v= .slice (some ⟨b1,o1,none⟩) len k1:=fun{v} h=>by cases h with|sl ht=>exact⟨_,_,_,_,ht,rfl⟩
  have hm0: ∃q,m t=some q:=by
   simp only[D.elems]at he;cases hmt:m t with
   |none=>rw[hmt]at he;cases he
   |some q=>exact⟨q,rfl⟩
  rcases eB M hr he with⟨hv0,rfl⟩|⟨b,o,cap,sz,us,rfl,h1,h2,h3,h4⟩
  ·have:es= []:=List.eq_nil_of_length_eq_zero (by simpa using hl);subst this;rcases hv0 with rfl|⟨a,cap,rfl⟩
   ·exact .nil'
   ·exact .emp
  ·have jB:es.length≤cap:=by omega
   have:=ai.list (w:=w) (pr:=fun b _=>bX tk m b) (tk:=aI) (b:=b) (off:=o) (cap:=cap) (es:=es) (size:=sz) us (fun c' hc'=>by
     obtain⟨i,hi,rfl⟩:=List.getElem_of_mem hc';obtain⟨c,hc,hlc,_⟩:=hg i _ (Ez hi)
     rw[hlc,h2 c (Lz hc)]) jB (fun j hj=>by
      rw[hl]at hj
      exact⟨(h3 j hj).1,(by
       obtain⟨b1,c1,o1,k1,g1,g2⟩:=inv hr;obtain⟨q,hq⟩:=hm0;have e1:b=b1:=by injection g2 with g3;injection g3 with g4;injection g4
       rw[e1];exact⟨t,q,_,hq,g1⟩),(h3 j hj).2⟩) (fun i c' hc' j x' hx'=>by
       obtain⟨c,hc,_,hg2⟩:=hg i c' hc';obtain⟨x,hx,hfx⟩:=hg2 j x' hx';have hf:x'.bB=true:=Tz.1 (Tz.1 hes c' (Lz hc')) x' (Lz hx');rcases hfx with⟨_,rfl⟩|hfx
       ·exact cM (h4 i c hc j _ hx) hf
       ·obtain rfl:=Lh hfx hf
        exact cM (h4 i c hc j _ hx) hf)
   rw[hl]at this;exact this
 ·cases h;cases hr;exact .nil'
 ·cases h;cases hr with
  |nil'=>exact .nil'
  |emp=>exact .emp
  |list us _ jB _ _=>exact .list (size:=0) us (by simp) jB (fun j hj=>by simp at hj) (fun i e h=>by simp at h)
end
def wJ(m:Mem):D→Option D
 | .tup xs=>(xs.mapM (bD m)).map .tup
 |d=>bD m d
section
variable {Ω : bz} {G : FP} {E : List D} {ι : Im} {γ : Nat → Tok} {Y : Sy} {J : St}
def Tj(d:D):Prop:=(∃t size off len lim,d= .sl t size off len lim)∨d= .nil∨d= .list []
theorem VR.abj{h:List (Nat×SO)}{v:SV}{d:D}(H:VR G E ι h v d)(hv:Ma v=true):Tj d:=by
 cases H<;>first|(cases hv;done)|exact .inr (.inl rfl)|exact .inr (.inr rfl)|exact .inl ⟨_,_,_,_,_,rfl⟩
def rU(x:X)(d0 d:D):Prop:=lJ x d=true→(d.flat=true∨d= .list [])∨Tj d0∧ ∃es,d= .list es∧(es.all fun c=>c.all D.bB)=true
theorem Dy{v:SV}{e x:X}{d0 d:D}(H:VR G E ι Y.h v d0)(h:EX v e=some x):rU x d0 d:=by
 intro hn
 have flat:kW x=false→lJ x d=true→d.flat=true∨d= .list []:=fun h1 h2=>by
  unfold lJ at h2;split at h2
  ·grind
  ·cases h1
  ·exact .inl h2
  ·left;cases d<;>first|exact h2|(simp[D.bB]at h2;done)
 unfold EX at h;split at h
 ·rename_i hv;cases h;cases d with
  |list es=>
   cases es with
   |nil=>exact .inl (.inr rfl)
   |cons a r=>exact .inr ⟨H.abj hv,_,rfl,hn⟩
  |agg xs=>exact .inl (.inl hn)
  |_=>first|exact .inl (.inl hn)|cases hn
 ·grind
theorem Dx{v:SV}{e x:X}(h:EX v e=some x){d:D}(he:X.ev G E x=some d):X.ev G E e=some d:=by
 unfold EX at h;split at h
 ·cases h;obtain⟨ds,h1,h2⟩:=aH he;simp only[X.bh,Bz,Mz]at h1;obtain⟨d1,g1,_,k1,rfl⟩:=h1;cases k1;cases h2;exact g1
 ·grind
theorem pa(M:Mt Ω G E ι γ Y J){r:e8}{x:X}{d:D}(h:nX Y r=some x)(he:X.ev G E x=some d): ∃d0,r.val J=some d0∧bD J.m d0=some d∧rU x d0 d:=by
 cases r with
 |t i=>
  simp only[nX,Bz]at h;obtain⟨e,h1,h2⟩:=h;exact⟨_,rfl,lu M (ay M (.t i)) h1 (Dx h2 he),Dy (ay M (.t i)) h2⟩
 |cell i n g=>
  simp only[nX,Bz]at h;obtain⟨⟨v,O⟩,h1,h2⟩:=h;split at h2
  ·rename_i ho;have hO:O= []:=List.isEmpty_iff.1 ho;subst hO;obtain⟨d0,h3,h4⟩:=gG M (bA.mk (ay M (.t i)) bA.nil) h1 (fun e he=>by cases he);obtain⟨e,h5,h6⟩:=Bz.1 h2;exact⟨d0,h3,lu M h4 h5 (Dx h6 he),Dy h4 h6⟩
  ·cases h2
inductive pj:List X→List D→List D→Prop
 |nil:pj [] [] []
 |cons {x:X} {d0 d:D} {xs:List X} {ds0 ds:List D} (h:rU x d0 d) (r:pj xs ds0 ds):pj (x::xs) (d0::ds0) (d::ds)
theorem np(M:Mt Ω G E ι γ Y J): ∀{rs:List e8} {xs:List X} {ds':List D},rs.mapM (nX Y)=some xs→X.bh G E xs=some ds'→ ∃ds,rs.mapM (e8.val J)=some ds∧ds.mapM (bD J.m)=some ds'∧pj xs ds ds'
 | [],xs,ds',h1,h2=>by simp at h1;subst h1;simp[X.bh]at h2;subst h2;exact⟨[],rfl,rfl, .nil⟩
 |r::rs,xs,ds',h1,h2=>by
  simp only[List.mapM_cons,Option.bind_eq_bind,Bz,Option.pure_def,Jz]at h1;obtain⟨y,g1,ys,g2,rfl⟩:=h1;simp only[X.bh,Bz,Mz]at h2;obtain⟨dy,g3,dys,g4,rfl⟩:=h2;obtain⟨d0,k1,k2,k5⟩:=pa M g1 g3;obtain⟨ds,k3,k4,k6⟩:=np M g2 g4;exact⟨d0::ds,by simp[k1,k3],by simp[k2,k4], .cons k5 k6⟩
def AS(m:Mem)(x:X)(d0 d:D):Prop:=bD m d0=some d∧rU x d0 d∨ ∃xs ds0 ds,x= .mk .tup xs∧d0= .tup ds0∧d= .tup ds∧pj xs ds0 ds
theorem BZ(M:Mt Ω G E ι γ Y J){rs:List e8}{x:X}{d:D}(h:KP rs Y=some x)(he:X.ev G E x=some d): ∃d0,E8 rs J=some d0∧wJ J.m d0=some d∧AS J.m x d0 d:=by
 have many:(rs.mapM (nX Y)).map (X.mk .tup)=some x→ ∃ds,(rs.mapM (e8.val J))=some ds∧wJ J.m (.tup ds)=some d∧AS J.m x (.tup ds) d:=fun h=>by
  obtain⟨xs,h1,rfl⟩:=Mz.1 h;obtain⟨ds',h2,h3⟩:=aH he;cases h3;obtain⟨ds,k1,k2,k3⟩:=np M h1 h2;exact⟨ds,k1,by simp[wJ,k2], .inr ⟨xs,ds,ds',rfl,rfl,rfl,k3⟩⟩
 unfold KP at h;split at h
 ·rename_i r;obtain⟨d0,h1,h2,h3⟩:=pa M h he;refine⟨d0,h1, ?_, .inl ⟨h2,h3⟩⟩;cases d0<;>first|exact h2|cases h2
 ·rename_i hne;unfold E8
  grind
theorem sM {f : Nat → SV} : ∀ {k i : Nat} {v : SV} {b : Nat}, find ((List.range' b k).map fun i => (i, f i)) i = some v → i < b + k ∧ v = f i
  | 0, i, v, b, h => by simp [find] at h
  | k + 1, i, v, b, h => by
    rw [List.range'_succ] at h
    simp only [List.map_cons, find] at h
    cases hi : b == i with
    | true => rw [hi] at h; cases h; have : b = i := by simpa using hi
              grind
    | false =>
      rw [hi] at h
      obtain ⟨h1, h2⟩ := sM (b := b + 1) h
      grind
def tJ:bz:=⟨fun _=> [],fun _ _=>default,fun _=>False⟩
theorem mt0{ds:List D}(hn:ds.all D.aK=true):Mt tJ G ds ⟨fun _=> [],fun _ _=> []⟩ (fun _=> []) (AR ds.length) ⟨fun i=>ds.getD i .undef,eh,fun _=>0⟩:=by
 refine⟨fun i v hv=> ?_,fun n vs h=>by simp[AR,find]at h,fun n e sz c h=>by simp[AR,find]at h,fun n c h=>by simp[AR,find]at h,fun n e sz c h=>by simp[AR,find]at h,fun n n' e e' sz sz' c c' h=>by simp[AR,find]at h,fun n k h=>by simp[AR,find]at h,fun n n' o o' h=>by simp[AR,find]at h,fun n n' e e' sz sz' c c' h=>by simp[AR,find]at h,fun _ _ _ _=>rfl,fun n e sz c h=>by simp[AR,find]at h,rfl,fun _ h=>h.elim,fun n m c h=>by simp[AR,find]at h⟩;simp only[AR,List.range_eq_range']at hv;obtain⟨h1,rfl⟩:=sM hv;have hi:i<ds.length:=by omega
 refine .x (d:=ds.getD i .undef) ?_ ?_
 ·simp[X.ev,hi]
 ·grind
end
theorem zI{P:Program}{w:World}{pr:aT}{fn:Func}{cargs:Array Value}{ds:List D}(hpr: ∀b o,pr b o→b<w.heap.size)(hg:AQ w pr)(jo:aX w pr aI cargs.toList ds)(hlen:ds.length≤fn.ntmps):
  bW P ⟨w,pr,pX⟩ fn.ntmps w (cargs++Array.replicate (fn.ntmps-cargs.size) undef) ⟨fun i=>ds.getD i .undef,eh,fun _=>0⟩:=by
 have hsz:cargs.size=ds.length:=by simpa using jo.length
 refine⟨w,pr,pX,aI,⟨by simp;omega,cW.refl _ _,hpr,fun _ _ _ h=>(show False from h).elim,hg,⟨fun t o h=>(by cases h),fun t t' o o' b c c' h=>(by cases h)⟩,fun t o b c h=>(by cases h),fun _ _ _ _=>rfl,fun _=>rfl,fun _ _ h=>(by cases h),fun i hi=> ?_,fun i hi=>by
   have e:ds.getD i .undef= .undef:=by simp[List.getElem?_eq_none (show ds.length≤i by omega)]
   show ai w pr aI _ (ds.getD i .undef)
   rw[e];exact .undef⟩,
  ⟨cW.refl _ _,fun _ _ h=>h,rfl,rfl,fun _ _ h=>h,fun _ _ h=> .inl h⟩⟩
 by_cases hlt:i<cargs.size
 ·have e:(cargs++Array.replicate (fn.ntmps-cargs.size) undef).getD i undef=cargs[i]:=by
   simp[Array.getElem?_append_left hlt,hlt]
  have hd:i<ds.length:=by omega
  show ai w pr aI _ (ds.getD i .undef);rw[e];exact kr jo i _ _ (by simp[hlt]) (by simp[hd])
 ·have e:ds.getD i .undef= .undef:=by simp[List.getElem?_eq_none (show ds.length≤i by omega)]
  show ai w pr aI _ (ds.getD i .undef);rw[e];exact .undef
theorem AG{P:Program}{w:World}{pr pr':aT}{tk:ag}{m:Mem}(M:dI P w pr tk m)(hpr: ∀b o,pr b o→pr' b o)(hbl: ∀b,bX tk m b→ ∀o,pr' b o){v:Value}{d d':D}(h:wJ m d=some d')(hr:ai w pr tk v d):ai w pr' aI v d':=by
 cases d
 case tup xs=>
  obtain⟨ys,hy,rfl⟩:=Mz.1 h;obtain⟨hl,hg⟩:=gD hy;cases hr with
  |tup h1 h3=>
   refine .tup (by rw[hl];exact h1) fun i c x' hc hx'=> ?_;obtain⟨x,hx,hfx⟩:=hg i x' hx';exact lk M hpr hbl hfx (h3 i c x hc hx)
 all_goals exact lk M hpr hbl (by simpa only[wJ]using h) hr
theorem E7{P:Program}{w:World}{pr:aT}{tk:ag}{m:Mem}(M:dI P w pr tk m){x:X}{d0 d:D}{v:Value}(hk:rU x d0 d)(hn:lJ x d=true)(h:bD m d0=some d)(hr:ai w pr tk v d0)(hr': ∃pr',ai w pr' aI v d):
  ai w (fun b _=>bX tk m b) aI v d:=by
 rcases hk hn with(hf|rfl)|⟨ho,es,rfl,hes⟩
 ·obtain⟨_,hr'⟩:=hr';exact tN hr' hf
 ·obtain⟨_,hr'⟩:=hr';cases hr' with
  |nil'=>exact .nil'
  |emp=>exact .emp
  |list us _ jB _ _=>exact .list (size:=0) us (by simp) jB (fun j hj=>by simp at hj) (fun i e h=>by simp at h)
 ·exact KD M ho h hes hr
theorem tR: ∀{xs:List X} {ds0 ds:List D},pj xs ds0 ds→tx xs ds=true→ ∀(i:Nat) (d0 d:D),ds0[i]?=some d0→ds[i]?=some d→ ∃x,rU x d0 d∧lJ x d=true
 |_,_,_, .nil,_,i,d0,d,h,_=>by simp at h
 |_,_,_, .cons hh r,hn,i,d0,d,h1,h2=>by
  simp only[tx,Az]at hn;cases i with
  |zero=>simp at h1 h2;subst h1;subst h2;exact⟨_,hh,hn.1⟩
  |succ i=>exact tR r hn.2 i d0 d (by simpa using h1) (by simpa using h2)
theorem AF {m : Mem} {d0 : D} {xs : List D} (h : bD m d0 = some (.tup xs)) : False := by
  have hc : ∀ (n : Nat) (d0 : D), az m n d0 = some (.tup xs) → False := fun n d0 h => by
    cases n with
    | zero => cases h
    | succ n =>
      cases d0 <;> simp only [az] at h <;> first
        | (cases h; done)
        | (revert h; repeat' split
           all_goals intro h
           all_goals first
             | (cases h; done)
             | (obtain ⟨_, _, h⟩ := Mz.1 h; cases h; done)
             | (obtain ⟨_, _, h⟩ := Bz.1 h; first | (obtain ⟨_, _, h⟩ := Mz.1 h; cases h; done) | (split at h <;> first | (cases h; done) | (obtain ⟨_, _, h⟩ := Mz.1 h; cases h; done))))
  cases d0
  case agg ys => obtain ⟨_, _, h⟩ := Mz.1 h; cases h
  all_goals exact hc 6 _ (by simpa only [bD] using h)
theorem Fs{P:Program}{w:World}{pr:aT}{tk:ag}{m:Mem}(M:dI P w pr tk m){x:X}{d0 d:D}{v:Value}(hk:AS m x d0 d)(hn:q_ x d=true)(h:wJ m d0=some d)(hr:ai w pr tk v d0):
  ai w (fun b _=>bX tk m b) aI v d:=by
 have one: ∀{x:X} {d0 d:D} {v:Value},rU x d0 d→lJ x d=true→bD m d0=some d→ai w pr tk v d0→ai w (fun b _=>bX tk m b) aI v d:=fun hk hn h hr=>
  E7 M hk hn h hr ⟨_,lk (pr':=fun b o=>pr b o∨bX tk m b) M (fun _ _ h=> .inl h) (fun _ h _=> .inr h) h hr⟩
 rcases hk with⟨hv,hk⟩|⟨xs,ds0,ds,rfl,rfl,rfl,hk⟩
 ·refine one hk ?_ hv hr;unfold q_ at hn;split at hn
  ·exact(AF hv).elim
  ·exact hn
 ·obtain⟨ys,hy,h⟩:=Mz.1 h;cases h;obtain⟨hl,hg⟩:=gD hy;cases hr with
  |tup h1 h3=>
   refine .tup (by rw[hl];exact h1) fun i c x' hc hx'=> ?_;obtain⟨x,hx,hfx⟩:=hg i x' hx';obtain⟨y,k1,k2⟩:=tR hk hn i x x' hx hx';exact one k1 k2 hfx (h3 i c x hc hx)
end
section
section
variable {P : Program} {w0 w : World} {pr : aT} {A : gZ} {n : Nat} {tk : ag} {J : St} {a : Act}
def St.raw(J:St)(b:Nat)(o:Obj):St:=⟨J.s,fun t=>if t= [b+1]then some (.raw o)else J.m t,J.c⟩
theorem Rel.HS(R:Rel P w0 pr A n w a.tmps J tk)(o:Obj):J.m [w.heap.size+1]=none∧ ∃tk',Rel P w0 pr A n (w.alloc o) a.tmps (J.raw w.heap.size o) tk'∧(∀t p,tk t=some p→tk' t=some p)∧tk' [w.heap.size+1]=some (w.heap.size,0):=by
 have hc:=cW.alloc (fun _=>False) w o;let tk':ag:=fun t=>if t= [w.heap.size+1]then some (w.heap.size,0)else tk t
 have cB:tk' [w.heap.size+1]=some (w.heap.size,0):=if_pos rfl
 have zD: ∀t p,tk t=some p→tk' t=some p:=fun t p h=>by
  by_cases e:t= [w.heap.size+1]
  ·subst e;rw[cB,R.one _ _ h]
  ·grind
 have zF:J.m [w.heap.size+1]=none:=by
  cases hm:J.m [w.heap.size+1]with
  |none=>rfl
  |some q=>
   obtain⟨b,c,h1,h2⟩:=(R.mem.obj _ q hm).place
   grind
 have K:=R.fU hc zD
 have hm: ∀t q,(J.raw w.heap.size o).m t=some q→(t= [w.heap.size+1]∧q= .raw o)∨(t≠ [w.heap.size+1]∧J.m t=some q):=fun t q h=>by
  simp only[St.raw]at h
  grind
 have hold: ∀t q b c,t≠ [w.heap.size+1]→J.m t=some q→tk' t=some (b,c)→tk t=some (b,c)∧b<w.heap.size:=fun t q b c hne h ht=>by
  simp only[tk',if_neg hne]at ht;obtain⟨b1,c1,h1,h2⟩:=(R.mem.obj t q h).place
  grind
 have hsz:=R.chg.size;refine⟨zF,tk',⟨R.size,R.chg.trans hc (fun _ _ h=>h.elim),R.prlt,R.prA,R.glob.keeps K.cell,⟨fun t q h=> ?_,fun t t' q q' b c c' h h' ht ht'=> ?_⟩,fun t q b c h ht=> ?_,fun y k r hk=> ?_,fun t=> ?_,fun l p h=> ?_,fun i hi=>(R.slot i hi).keeps K,fun i hi=>(R.sav i hi).keeps K⟩,zD,cB⟩
 ·rcases hm t q h with⟨rfl,rfl⟩|⟨hne,h⟩
  ·exact⟨_,_,cB,(Go.MapKept.heap_alloc w o).1⟩
  ·exact(R.mem.obj t q h).keeps K fun b c hb=>by
    obtain⟨b1,c1,h1,h2⟩:=(R.mem.obj t q h).place;rw[hb]at h1;cases h1;exact hc.block b h2 id
 ·rcases hm t q h with⟨e1,e2⟩|⟨hne,k1⟩<;>rcases hm t' q' h' with⟨e3,e4⟩|⟨Bw,k2⟩
  ·grind
  ·grind
  ·rw[e3,cB]at ht';cases ht';have:=hold t q _ c hne k1 ht;omega
  ·exact R.mem.inj t t' q q' b c c' k1 k2 (hold t q b c hne k1 ht).1 (hold t' q' b c' Bw k2 ht').1
 ·rcases hm t q h with⟨rfl,rfl⟩|⟨hne,h⟩
  ·rw[cB]at ht;cases ht;omega
  ·exact R.live t q b c h (hold t q b c hne h ht).1
 ·have hne:(y+1)::k::r≠ [w.heap.size+1]:=by simp
  simp only[tk',if_neg hne];exact R.fresh y k r hk
 ·have hne:(0::t:Tok)≠ [w.heap.size+1]:=by simp
  exact R.zero t
 ·by_cases e:l=w.heap.size
  ·subst e;rw[cB]at h;cases h;rfl
  ·have hne:([l+1]:Tok)≠ [w.heap.size+1]:=by simp;exact e
   simp only[tk',if_neg hne]at h;exact R.one l p h
theorem Rel.wk(R:Rel P w0 pr A n w a.tmps J tk){b:Nat}{o:Obj}(hm:J.m [b+1]=some (.raw o)):tk [b+1]=some (b,0)∧w.heap[b]?=some o:=by
 obtain⟨b1,c1,h1,h2⟩:=R.mem.obj _ _ hm;have:=R.one _ _ h1
 grind
theorem cW.putObj(w:World)(b:Nat)(o:Obj):cW (fun k=>k=b) w (w.putObj b o):=
 ⟨rfl,rfl,rfl,Nat.le_of_eq World.putObj_size.symm,fun k _ hk=>World.putObj_heap_other hk,Nat.le_refl _⟩
theorem Rel.xM(R:Rel P w0 pr A n w a.tmps J tk){b:Nat}{o:Obj}(hm:J.m [b+1]=some (.raw o))(o':Obj):Rel P w0 pr A n (w.putObj b o') a.tmps (J.raw b o') tk:=by
 obtain⟨h1,h2⟩:=R.wk hm;refine R.write (t:= [b+1]) (o:= .raw o) (o':= .raw o') hm h1 (cW.putObj w b o') rfl (m':=(J.raw b o').m) (if_pos rfl) (fun t' q hne h=>by simpa only[St.raw,if_neg hne]using h) ⟨b,0,h1,World.putObj_heap_same (Array.getElem?_eq_some_iff.1 h2).1⟩ fun t' q c' hne h ht _=> ?_;simp only[St.raw,if_neg hne]at h;rcases R.mem.inj _ _ _ _ _ _ _ hm h h1 ht with e|⟨e,_⟩
 ·grind
 ·cases e
theorem WF.raw{J:St}(W:WF J)(b:Nat)(o:Obj):WF (J.raw b o):=fun x k r hk=>by
 have hne:(x+1)::k::r≠ [b+1]:=by simp
 simp only[St.raw,if_neg hne];exact W x k r hk
def tG:List Nat→List Value→Array Value→Array Value
 |p::ps,v::vs,cs=>tG ps vs (cs.setIfInBounds p v)
 |_,_,cs=>cs
theorem AO: ∀(ps:List Nat) (vs:List Value) (cs:Array Value),(ps.zip vs).foldl (fun tmps (t,a)=>tmps.setIfInBounds t a) cs=tG ps vs cs
 | [],_,cs=>by simp[tG]
 |_::_,[],cs=>by simp[tG]
 |p::ps,v::vs,cs=>by simp only[List.zip_cons_cons];exact AO ps vs _
def uY:List Nat→List D→(Nat→D)→Nat→D
 |p::ps,d::ds,s=>uY ps ds (fun i=>if i=p then d else s i)
 |_,_,s=>s
end
end
section
def Sy.cC(Y Y':Sy):Prop:=Y'.d=Y.d∧Y'.pd=Y.pd
theorem Sy.cC.mi{Y:Sy}:Y.cC Y:=⟨rfl,rfl⟩
theorem Sy.cC.trans{Y Y' Z:Sy}(h:Y.cC Y')(k:Y'.cC Z):Y.cC Z:=⟨k.1.trans h.1,k.2.trans h.2⟩
theorem vg{n:Nat}{g:Bool}{va vv:SV}{Y Y':Sy}{O:List X}(h:kG n g va vv Y=some (Y',O)):Y.cC Y':=by
 unfold kG at h;split at h
 ·split at h
  ·rw[Bz]at h;obtain⟨p,_,h⟩:=h;split at h<;>cases h;exact⟨rfl,rfl⟩
  ·cases h
 ·split at h
  ·rw[Bz]at h;obtain⟨p,_,h⟩:=h;split at h<;>cases h;exact⟨rfl,rfl⟩
  ·cases h
 ·split at h
  ·rw[Bz]at h;obtain⟨p,_,h⟩:=h;rw[Bz]at h;obtain⟨p,_,h⟩:=h;split at h<;>cases h;exact⟨rfl,rfl⟩
  ·cases h
 ·split at h
  ·split at h
   ·obtain⟨p,_,h2⟩:=Mz.1 h;cases h2;exact⟨rfl,rfl⟩
   ·cases h
  ·cases h
 ·split at h
  ·obtain⟨p,_,h2⟩:=Mz.1 h;cases h2;exact⟨rfl,rfl⟩
  ·cases h
 ·cases h
theorem Ax{x t size nm:Nat}{va vb:SV}{Y Y':Sy}{O:List X}(h:qi x t size va vb Y nm=some (Y',O)):Y.cC Y':=by
 unfold qi at h;rw[Bz]at h;obtain⟨p,_,h⟩:=h;split at h
 ·cases h;exact⟨rfl,rfl⟩
 ·split at h
  ·split at h<;>cases h;exact⟨rfl,rfl⟩
  ·cases h
 ·cases h
theorem qO {e : bZ} {Y Y' : Sy} {O : List X} (h : eQ e Y = some (Y', O)) : Y.cC Y' := by
  cases e with
  | box n g x a => simp only [eQ] at h; obtain ⟨p, _, h2⟩ := Mz.1 h; cases h2; exact ⟨rfl, rfl⟩
  | store n g a v => exact vg (show kG _ _ _ _ _ = _ from h)
  | app x t size a b => exact (show Y.cC (Y.nw x) from ⟨rfl, rfl⟩).trans (Ax (show qi _ _ _ _ _ _ _ = _ from h))
  | mks x t size zero a b =>
    simp only [eQ] at h
    split at h
    · cases h; exact ⟨rfl, rfl⟩
    · cases h
  | lit x t size len zero places args => simp only [eQ] at h; obtain ⟨p, _, h2⟩ := Mz.1 h; cases h2; exact ⟨rfl, rfl⟩
  | acall x t size f args => simp only [eQ] at h; split at h <;> try (cases h; done)
                             obtain ⟨p, _, h2⟩ := Mz.1 h; cases h2; exact ⟨rfl, rfl⟩
  | mkm x => cases h; exact ⟨rfl, rfl⟩
  | mkml x e sz => simp only [eQ] at h; split at h <;> cases h; exact ⟨rfl, rfl⟩
  | clr s z a =>
    simp only [eQ] at h
    split at h
    · split at h
      · split at h <;> cases h
        exact ⟨rfl, rfl⟩
      · cases h
    · cases h
  | ecall x k f args =>
    simp only [eQ] at h
    split at h
    · split at h
      · split at h
        · obtain ⟨p, _, h2⟩ := Mz.1 h; cases h2; exact ⟨rfl, rfl⟩
        · cases h
      · cases h
    · cases h
  | copy x a b =>
    simp only [eQ] at h
    split at h
    · split at h
      · split at h <;> cases h
        cases x <;> exact ⟨rfl, rfl⟩
      · cases h
    · cases h
  | ment ks z x a k =>
    simp only [eQ] at h
    split at h
    · split at h
      · split at h
        · cases h
        obtain ⟨p, _, h2⟩ := Mz.1 h; cases h2; exact ⟨rfl, rfl⟩
      · cases h
    · cases h
  | mest a s v =>
    simp only [eQ] at h
    split at h
    · split at h
      · split at h
        · obtain ⟨p, _, h2⟩ := Mz.1 h; cases h2; exact ⟨rfl, rfl⟩
        · cases h
      · cases h
    · cases h
  | mupd ks a k v =>
    simp only [eQ] at h
    split at h
    · split at h
      · split at h
        rotate_left
        · cases h
        rw [Bz] at h
        obtain ⟨p, _, h⟩ := h
        obtain ⟨p, _, h2⟩ := Mz.1 h; cases h2; exact ⟨rfl, rfl⟩
      · split at h
        rotate_left
        · cases h
        split at h
        rotate_left
        · cases h
        split at h
        rotate_left
        · cases h
        obtain ⟨p, _, h⟩ := Bz.1 h
        obtain ⟨p, _, h2⟩ := Mz.1 h; cases h2; exact ⟨rfl, rfl⟩
      · cases h
    · cases h
theorem mw{st:aw}{Y Y':Sy}{O:List X}(h:gf st Y=some (Y',O)):Y.cC Y':=by
 unfold gf at h;split at h
 ·obtain⟨p,_,h2⟩:=Mz.1 h;cases h2;exact⟨rfl,rfl⟩
 ·split at h
  ·split at h
   ·obtain⟨p,_,h2⟩:=Mz.1 h;cases h2;exact⟨rfl,rfl⟩
   ·cases h;exact⟨rfl,rfl⟩
  ·obtain⟨p,_,h2⟩:=Mz.1 h;cases h2;exact⟨rfl,rfl⟩
  ·cases h
 ·exact qO h
 ·split at h
  ·split at h
   ·exact qO h
   ·split at h<;>cases h<;>exact⟨rfl,rfl⟩
  ·cases h
 ·cases h
theorem dY: ∀{sts:List aw} {Y Y':Sy} {O:List X},dU sts Y=some (Y',O)→Y.cC Y'
 | [],Y,Y',O,h=>by cases h;exact .mi
 |st::r,Y,Y',O,h=>by
  simp only[dU,Bz,Mz]at h;obtain⟨⟨Y1,O1⟩,h1,⟨Y2,O2⟩,h2,h3⟩:=h;cases h3;exact(mw h1).trans (dY h2)
theorem lg{sts:List aw}{Y Y':Sy}{O:List X}(h:iA sts Y=some (Y',O)):Y.cC Y':=by
 unfold iA at h;split at h
 ·simp only[Bz,Mz]at h;obtain⟨⟨Y1,O1⟩,h1,⟨Y2,O2⟩,h2,⟨Y3,O3⟩,h3,h4⟩:=h;cases h4;refine(dY h1).trans (Sy.cC.trans ?_ (dY h3));unfold xZ at h2;split at h2
  ·rw[Bz]at h2;obtain⟨⟨Y4,O4⟩,g1,h2⟩:=h2;rw[Bz]at h2;obtain⟨⟨Y5,O5⟩,g2,h2⟩:=h2;have k1:=dY g1;have k2:=dY g2;split at h2
   ·split at h2
    ·simp only[Bz]at h2;obtain⟨_,_,_,_,_,_,h2⟩:=h2;split at h2<;>cases h2;exact Sy.cC.trans (show Y1.cC (Y1.wH _)from⟨rfl,rfl⟩) (k1.trans (Sy.cC.trans (show Y4.cC (Y4.wH _)from⟨rfl,rfl⟩) (k2.trans ⟨rfl,rfl⟩)))
    ·cases h2
   ·cases h2
  ·cases h2
 ·exact dY h
theorem um{P:Program}{fr:mZ}{n:Nat}{ops:Array Oper}{draw:Bool}{Y Y':Sy}{O:List X}(hs:f_ P fr n ops draw Y=some (Y',O)):Y.cC Y':=by
 unfold f_ at hs;split at hs
 ·split at hs
  ·rw[Bz]at hs;obtain⟨q',h3,hs⟩:=hs;split at hs<;>cases hs;exact lg h3
  ·cases hs
 ·exact lg hs
theorem AA{P:Program}{fr:mZ}{n c c':Nat}{ops:Array Oper}{Y Y':Sy}{O:List X}(hs:uo P fr n ops c c' Y=some (Y',O)):Y.cC Y':=by
 unfold uo at hs;split at hs
 ·rw[Bz]at hs;obtain⟨q',h3,hs⟩:=hs;split at hs<;>cases hs;exact lg h3
 ·cases hs
theorem C8{Y:Sy}:Y.cC Y.gc:=by
 unfold Sy.gc;generalize(((Y.h.filter _).map (·.1)).filter _:List Nat)=l
 induction l generalizing Y with
 |nil=>exact .mi
 |cons a l ih=>exact(show Y.cC (Y.kill a)from⟨rfl,rfl⟩).trans ih
theorem mr{ks:List Nat}{n:Nat}{Y:Sy}:Y.cC (settle ks n Y).1:=by
 have h:=C8 (Y:=Y.trim n ks);exact⟨h.1,h.2⟩
def St.iy(J:St)(x:Option Nat)(d:D):St:=match x with
 |some x=>J.set x d
 |none=>J
section
variable {Ω : bz} {G : FP} {E : List D} {ι : Im} {γ : Nat → Tok} {Y : Sy} {J : St}
theorem Mt.gc(M:Mt Ω G E ι γ Y J):Mt Ω G E ι γ Y.gc J:=by
 unfold Sy.gc;generalize(((Y.h.filter _).map (·.1)).filter _:List Nat)=l
 induction l generalizing Y with
 |nil=>exact M
 |cons a l ih=>exact ih (M.kill a).1
theorem Mt.settle(M:Mt Ω G E ι γ Y J){ks:List Nat}{n:Nat}{ds:List D}(h:X.bh G E (settle ks n Y).2=some ds):Mt Ω G (E++ds) ι γ (settle ks n Y).1 J:=by
 have M1:Mt Ω G E ι γ ((Y.trim n ks).gc.bump n) J:=(M.trim n ks).gc.sub (fun _ _ h=>h) (fun _=>rfl) rfl;exact M1.atom h
theorem Mt.iy(M:Mt Ω G E ι γ Y J){x:Option Nat}{v:SV}{d:D}(h: ∀i,x=some i→VR G E ι Y.h v d):Mt Ω G E ι γ (Y.iy x v) (J.iy x d):=by
 cases x with
 |none=>exact M
 |some i=>exact M.set (h i rfl)
theorem Mt.nT(M:Mt Ω G E ι γ Y J){Z:Sy}{s:Nat→D}(hh:Z.h=Y.h)(hn:Z.nv=Y.nv)(hs: ∀i v,find Z.s i=some v→VR G E ι Y.h v (s i)):Mt Ω G E ι γ Z ⟨s,J.m,J.c⟩:=by
 obtain⟨m1,m2,m3,m4,mo,mq,m5,m6,m7,m8,m9,m10,m11,m12⟩:=M;exact⟨by rw[hh];exact hs,by rw[hh];exact m2,by rw[hh];exact m3,by rw[hh];exact m4,by rw[hh];exact mo,by rw[hh];exact mq,by rw[hh];exact m5,by rw[hh];exact m6,by rw[hh];exact m7,fun x k r=>m8 x k r,by rw[hh];exact m9,by rw[hn];exact m10,m11,by rw[hh];exact m12⟩
theorem nM{α:Type}{n i:Nat}: ∀{l:List (Nat×α)},find (qd n l) i=if n≤i then find l (i-n)else none
 | []=>by simp[qd,find]
 |(j,a)::r=>by
  simp only[qd,find,nM (l:=r)]
  grind
theorem ic{α:Type}{n i:Nat}: ∀{l:List (Nat×α)},find (jd n l) i=find l (i+n)
 | []=>by simp[jd,find]
 |(j,a)::r=>by
  simp only[jd];by_cases h:j<n
  ·have h1:decide (j<n)=true:=by simpa using h
   have h2:(j==i+n)=false:=by simp;omega
   simp only[h1,cond_true,find,h2,cond_false,ic (l:=r)]
  ·have h1:decide (j<n)=false:=by simpa using h
   simp only[h1,cond_false,find,ic (l:=r)]
   grind
theorem vK{i:Nat}: ∀{vs:List SV} {b:Nat},find (yG b vs) i=if b≤i then vs[i-b]? else none
 | [],b=>by simp[yG,find]
 |v::r,b=>by
  simp only[yG,find,vK (vs:=r)]
  grind
def nI(n:Nat)(ds:List D)(s:Nat→D):Nat→D:=fun i=>if i<n then ds.getD i .undef else s (i-n)
theorem Mt.enter(M:Mt Ω G E ι γ Y J){n n0:Nat}{vs:List SV}{ds:List D}(hv:bA G E ι Y.h vs ds)(hl:vs.length≤n):Mt Ω G E ι γ (Y.enter n n0 vs) ⟨nI n ds J.s,J.m,J.c⟩:=by
 refine M.nT rfl rfl fun i v hf=> ?_;simp only[Sy.enter,eC,vK,nM,Nat.zero_le,if_true,Nat.sub_zero]at hf;have hlen:=hv.1;by_cases hi:i<vs.length
 ·rw[Ez hi]at hf;cases hf
  have hd:ds[i]?=some (ds.getD i .undef):=by
   grind
  simp only[nI,if_pos (show i<n by omega)];exact hv.2 i _ _ (Ez hi) hd
 ·rw[List.getElem?_eq_none (by omega)]at hf;split at hf
  ·rename_i hn;simp only[nI,if_neg (show¬i<n by omega)];exact M.slot _ _ hf
  ·cases hf
theorem Mt.leave(M:Mt Ω G E ι γ Y J)(n:Nat):Mt Ω G E ι γ (Y.leave n) ⟨fun i=>J.s (i+n),J.m,J.c⟩:=
 M.nT rfl rfl fun i v hf=>by
  simp only[Sy.leave,ic]at hf;exact M.slot _ _ hf
theorem oR(M:Mt Ω G E ι γ Y J){r:e8}{v:SV}(h:tH Y r=some v): ∃d,r.val J=some d∧VR G E ι Y.h v d:=by
 cases r with
 |t i=>cases h;exact⟨_,rfl,ay M (.t i)⟩
 |cell i n g=>
  simp only[tH,Bz]at h;obtain⟨⟨v',O⟩,h1,h2⟩:=h;split at h2<;>cases h2;rename_i ho;have hO:O= []:=List.isEmpty_iff.1 ho;subst hO;exact gG M (bA.mk (ay M (.t i)) bA.nil) h1 (fun e he=>by cases he)
theorem nk(M:Mt Ω G E ι γ Y J): ∀{rs:List e8} {vs:List SV},rs.mapM (tH Y)=some vs→ ∃ds,rs.mapM (e8.val J)=some ds∧bA G E ι Y.h vs ds
 | [],vs,h=>by simp at h;subst h;exact⟨[],rfl,bA.nil⟩
 |r::rs,vs,h=>by
  simp only[List.mapM_cons,Option.bind_eq_bind,Bz,Option.pure_def,Jz]at h;obtain⟨y,g1,ys,g2,rfl⟩:=h;obtain⟨d,k1,k2⟩:=oR M g1;obtain⟨ds,k3,k4⟩:=nk M g2;exact⟨d::ds,by simp[k1,k3],bA.mk k2 k4⟩
theorem Ag(M:Mt Ω G E ι γ Y J){rs:List e8}{v:SV}(h:Af rs Y=some v): ∃d,E8 rs J=some d∧VR G E ι Y.h v d:=by
 unfold Af at h;split at h
 ·exact oR M h
 ·rename_i hne;obtain⟨vs,h1,rfl⟩:=Mz.1 h;obtain⟨ds,k1,k2⟩:=nk M h1;refine⟨.tup ds, ?_, .tup k2.1 k2.2⟩;unfold E8
  grind
end
section
variable {P : Program} {w0 w : World} {pr : aT} {A : gZ} {n : Nat} {tk : ag} {J : St} {cs : Array Value}
def gR(n' n:Nat)(cs:Array Value)(sv:Nat→Value):Nat→Value:=fun i=>if i-n'<n then cs.getD (i-n') undef else sv (i-n')
theorem Rel.enter(R:Rel P w0 pr A n w cs J tk){n':Nat}{cargs:Array Value}{ds:List D}(hr:aX w pr tk cargs.toList ds)(hl:ds.length≤n'):
  Rel P w0 pr {A with sv:=gR n' n cs A.sv} n' w (cargs++Array.replicate (n'-cargs.size) undef) ⟨nI n' ds J.s,J.m,J.c⟩ tk:=by
 have hsz:cargs.size=ds.length:=by simpa using hr.length
 refine⟨by simp;omega,R.chg,R.prlt,R.prA,R.glob,R.mem,R.live,R.fresh,R.zero,R.one,fun i hi=> ?_,fun i hi=> ?_⟩
 ·simp only[nI,if_pos hi];by_cases hlt:i<cargs.size
  ·have e:(cargs++Array.replicate (n'-cargs.size) undef).getD i undef=cargs[i]:=by
    simp[Array.getElem?_append_left hlt,hlt]
   have hd:i<ds.length:=by omega
   rw[e];exact kr hr i _ _ (by simp[hlt]) (by simp[hd])
  ·have e:ds.getD i .undef= .undef:=by simp[List.getElem?_eq_none (show ds.length≤i by omega)]
   rw[e];exact .undef
 ·simp only[nI,if_neg (show¬i<n' by omega),gR];split
  ·rename_i h;exact R.slot _ h
  ·rename_i h;exact R.sav _ (by omega)
theorem iI.enter{B:eo}(U:iI B w0 pr A)(n' n:Nat)(cs:Array Value):iI {B with A:={B.A with sv:=gR n' n cs B.A.sv}} w0 pr {A with sv:=gR n' n cs A.sv}:=
 ⟨U.chg,U.sub,U.z,by simp only[U.sv],U.sup,U.inf⟩
theorem bW.leave{B:eo}{n':Nat}{a:Act}{w1:World}{pr1:aT}{A1:gZ}{tk1:ag}{cs':Array Value}(R:Rel P w1 pr1 A1 n' w cs' J tk1)(U:iI {B with A:={B.A with sv:=gR n' n a.tmps B.A.sv}} w1 pr1 A1)
  (hs:a.tmps.size=n) {x:Option Nat} (hx: ∀i,x=some i→i<n) {v:Value} {d:D} (hv:ai w pr1 tk1 v d):bW P B n w (a.put x v).tmps (St.iy ⟨fun i=>J.s (i+n'),J.m,J.c⟩ x d):=by
 have hsv:A1.sv=gR n' n a.tmps B.A.sv:=U.sv
 have R1:Rel P w1 pr1 {A1 with sv:=B.A.sv} n w a.tmps ⟨fun i=>J.s (i+n'),J.m,J.c⟩ tk1:=by
  refine⟨hs,R.chg,R.prlt,R.prA,R.glob,R.mem,R.live,R.fresh,R.zero,R.one,fun i hi=> ?_,fun i hi=> ?_⟩
  ·have h:=R.sav (i+n') (by omega);rw[hsv]at h;simp only[gR,Nat.add_sub_cancel,if_pos hi]at h;exact h
  ·have h:=R.sav (i+n') (by omega);rw[hsv]at h;simp only[gR,Nat.add_sub_cancel,if_neg (show¬i<n by omega)]at h;exact h
 refine⟨w1,pr1,{A1 with sv:=B.A.sv},tk1, ?_,⟨U.chg,U.sub,U.z,rfl,U.sup,U.inf⟩⟩;cases x with
 |none=>exact R1
 |some i=>exact R1.put (hx i rfl) (cW.refl _ _) hv
end
def bz.le(S:List Nat)(Ω Ω':bz):Prop:=(∀t,Ω.c t→Ω'.c t)∧ ∀nm,nm∈S→Ω'.t nm=Ω.t nm∧Ω'.f nm=Ω.f nm
theorem bz.le.mi{S:List Nat}{Ω:bz}:Ω.le S Ω:=⟨fun _ h=>h,fun _ _=>⟨rfl,rfl⟩⟩
theorem bz.le.trans{S:List Nat}{Ω Ω' Ω2:bz}(h:Ω.le S Ω')(k:Ω'.le S Ω2):Ω.le S Ω2:=
 ⟨fun t ht=>k.1 t (h.1 t ht),fun nm hn=>⟨(k.2 nm hn).1.trans (h.2 nm hn).1,(k.2 nm hn).2.trans (h.2 nm hn).2⟩⟩
theorem bz.le.sub{S S':List Nat}{Ω Ω':bz}(h:Ω.le S Ω')(hs: ∀x,x∈S'→x∈S):Ω.le S' Ω':=⟨h.1,fun nm hn=>h.2 nm (hs nm hn)⟩
abbrev mark(b:Nat):Deferred:={target:= .collected b,args:= #[]}
def DM(Ω0 Ω:bz)(l:List Deferred):Prop:=(∀t,Ω0.c t→Ω.c t)∧l.Nodup∧ ∀d∈l,∃b,d=mark b∧Ω.c [b+1]∧ ¬Ω0.c [b+1]
theorem DM.mono{S:List Nat}{Ω0 Ω Ω':bz}{l:List Deferred}(h:DM Ω0 Ω l)(k:Ω.le S Ω'):DM Ω0 Ω' l:=⟨fun t ht=>k.1 t (h.1 t ht),h.2.1,fun d hd=>let⟨b,h1,h2,h3⟩:=h.2.2 d hd;⟨b,h1,k.1 _ h2,h3⟩⟩
theorem DM.nil{Ω:bz}:DM Ω Ω []:=⟨fun _ h=>h,List.nodup_nil,fun d h=>by cases h⟩
section
variable {Ω : bz} {G : FP} {E : List D} {ι : Im} {γ : Nat → Tok} {Y : Sy} {J : St}
theorem dK{J:St}{b:Nat}{o:Obj}{t:Tok}:(J.raw b o).m t=if t= [b+1]then some (.raw o)else J.m t:=rfl
theorem Mt.mem(M:Mt Ω G E ι γ Y J){J':St}{Ω':bz}(hs:J'.s=J.s)(hc:J'.c=J.c)(W:WF J')(hm: ∀n o,find Y.h n=some o→ι n≠ []→J'.m (ι n)=J.m (ι n))(Ev: ∀q,fw Y.h ι γ J q→J'.m q.u=J.m q.u)
  (hr: ∀n k,find Y.h n=some (.raw k)→Ω'.t n=Ω.t n∧Ω'.f n k=Ω.f n k∧ ¬Ω'.c (ι n)) (l7: ∀t,Ω'.c t→J'.m t=some (.raw (.deferred (some [])))):Mt Ω' G E ι γ Y J':=by
 refine⟨fun i v hv=>by rw[hs];exact M.slot i v hv,fun n vs hn=> ?_,fun n e sz c hn=> ?_,fun n c hn=> ?_,fun n e sz c hn=> ?_,M.one,fun n k hn=> ?_,M.inj,M.gJ,W,fun n e sz c hn=>by rw[hc];exact M.old n e sz c hn,M.nv,l7,fun n m c hn=>(M.itr n m c hn).eP rfl (hm n _ hn (M.itr n m c hn).1) (fun _ _ h=>h) fun m' o _ hf ho=>⟨rfl,⟨o,hf,ho⟩,fun es h=>⟨es,by rw[hm m' o hf (M.vY hf ho)];exact h,rfl⟩⟩⟩
 ·obtain⟨ds,h1,h2,h3⟩:=M.box n vs hn;exact⟨ds,h1,by rw[hm n _ hn h1];exact h2,h3⟩
 ·obtain⟨es,h1,h2,h3⟩:=M.aA n e sz c hn;refine⟨es,h1,h2, ?_⟩;rcases h3 with h3|⟨h3,h4⟩
  ·exact .inl h3
  ·exact .inr ⟨h3,by rw[hm n _ hn h3];exact h4⟩
 ·obtain⟨es,h1,h2,h3⟩:=M.mpo n c hn;exact⟨es,h1,h2,by rw[hm n _ hn h2];exact h3⟩
 ·obtain⟨L,h1,h2,h3,h4⟩:=M.own n e sz c hn;exact⟨L,h1,h2,by rw[hm n _ hn h2];exact h3,fun q hq=>(h4.1 q hq).eP (Ev q ⟨n,e,sz,c,L,hn,h3,h4,hq⟩) (h4.1 q hq).2.2.2.1 (h4.1 q hq).2.2.2.2.1 (fun y=>by rw[hc];exact Nat.le_refl _),h4.2⟩
 ·obtain⟨h1,h2,h3,_⟩:=M.rwo n k hn;obtain⟨k1,k2,k3⟩:=hr n k hn;exact⟨by rw[k1];exact h1,h2,by rw[hm n _ hn h2,k2];exact h3,k3⟩
theorem Mt.Ms(M:Mt Ω G E ι γ Y J){n:Nat}{o:SO}(h:find Y.h n=some o)(hi:ι n≠ []):J.m (ι n)≠none:=fun e=>by
 obtain⟨q,hq⟩:=M.live h hi;rw[hq]at e;cases e
theorem Mt.Iv(M:Mt Ω G E ι γ Y J){nm l:Nat}{k:RS}(hf:find Y.h nm=some (.raw k))(ht:ι nm= [l+1])(k':RS):Mt Ω G E ι γ (Y.raw nm k') (J.raw l (Ω.f nm k')):=by
 obtain⟨r1,r2,r3,r4⟩:=M.rwo nm k hf;have hf': ∀j,find (Y.raw nm k').h j=if j=nm then some (.raw k')else find Y.h j:=fun j=>ba nm j _ Y.h
 have vr: ∀{v:SV} {d:D},VR G E ι Y.h v d→VR G E ι (Y.raw nm k').h v d:=fun H=>H.mono (fun _ _ h=>h) fun j _=>⟨rfl,fun o ho=>by
  by_cases hj:j=nm
  ·subst hj;rw[hf]at ho;cases ho;exact⟨.raw k',by rw[hf',if_pos rfl],trivial⟩
  ·exact⟨o,by rw[hf',if_neg hj];exact ho,ki (fun _ _ h=>h) o⟩⟩
 have ne: ∀{j:Nat} {o:SO},j≠nm→find Y.h j=some o→ι j≠ []→ι j≠ [l+1]:=fun hj ho hi e=>hj (M.inj _ _ _ _ ho hf (by rw[e,ht]) hi)
 have back: ∀{j:Nat} {o:SO},(∀q,o≠ .raw q)→find (Y.raw nm k').h j=some o→j≠nm∧find Y.h j=some o:=fun{j o} hq h=>by
  rw[hf']at h;by_cases hj:j=nm
  ·rw[if_pos hj]at h;cases h;exact absurd rfl (hq k')
  ·rw[if_neg hj]at h;exact⟨hj,h⟩
 have uM: ∀{j:Nat} {o:SO},find (Y.raw nm k').h j=some o→ ∃o',find Y.h j=some o':=fun{j o} h=>by
  rw[hf']at h;by_cases hj:j=nm
  ·rw[hj];exact⟨_,hf⟩
  ·rw[if_neg hj]at h;exact⟨_,h⟩
 refine⟨fun i v hv=>vr (M.slot i v hv),fun n vs hn=> ?_,fun n e sz c hn=> ?_,fun n c hn=> ?_,fun n e sz c hn=> ?_,fun a b _ _ _ _ _ _ h1 h2=>M.one a b _ _ _ _ _ _ (back (by simp) h1).2 (back (by simp) h2).2,fun n kk hn=> ?_,fun a b o o' h1 h2=> ?_,fun a b e e' sz sz' c c' h1 h2=> ?_,M.wf.raw l _,fun n e sz c hn=> ?_,M.nv,fun t h=> ?_,fun n m c hn=> ?_⟩
 ·obtain⟨hj,hn⟩:=back (by simp) hn;obtain⟨ds,h1,h2,h3⟩:=M.box n vs hn;exact⟨ds,h1,by rw[dK,if_neg (ne hj hn h1)];exact h2,h3.1,fun i v d hv hd=>vr (h3.2 i v d hv hd)⟩
 ·obtain⟨hj,hn⟩:=back (by simp) hn;obtain⟨es,h1,h2,h3⟩:=M.aA n e sz c hn;refine⟨es,h1,h2, ?_⟩;rcases h3 with h3|⟨h3,h4⟩
  ·exact .inl h3
  ·exact .inr ⟨h3,by rw[dK,if_neg (ne hj hn h3)];exact h4⟩
 ·obtain⟨hj,hn⟩:=back (by simp) hn;obtain⟨es,h1,h2,h3⟩:=M.mpo n c hn;exact⟨es,h1,h2,by rw[dK,if_neg (ne hj hn h2)];exact h3⟩
 ·obtain⟨hj,hn⟩:=back (by simp) hn;obtain⟨L,h1,h2,h3,h4⟩:=M.own n e sz c hn;refine⟨L,h1,h2,by rw[dK,if_neg (ne hj hn h2)];exact h3,fun q hq=>(h4.1 q hq).eP ?_ (fun k o hk=> ?_) (fun hz k e sz c hk=>(h4.1 q hq).2.2.2.2.1 hz k e sz c (back (by simp) hk).2) (fun _=>Nat.le_refl _),h4.2⟩
  ·rw[dK,if_neg fun e=>(h4.1 q hq).2.2.2.1 nm _ hf (by rw[ht,e])]
  ·obtain⟨o',ho'⟩:=uM hk;exact(h4.1 q hq).2.2.2.1 k o' ho'
 ·rw[hf']at hn;by_cases hj:n=nm
  ·rw[if_pos hj]at hn;cases hn;subst hj;exact⟨r1,r2,by rw[dK,if_pos ht],r4⟩
  ·rw[if_neg hj]at hn;obtain⟨h1,h2,h3,h4⟩:=M.rwo n kk hn;exact⟨h1,h2,by rw[dK,if_neg (ne hj hn h2)];exact h3,h4⟩
 ·obtain⟨_,g1⟩:=uM h1;obtain⟨_,g2⟩:=uM h2;exact M.inj a b _ _ g1 g2
 ·obtain⟨_,g1⟩:=back (by simp) h1;obtain⟨_,g2⟩:=back (by simp) h2;exact M.gJ a b e e' sz sz' c c' g1 g2
 ·obtain⟨_,g1⟩:=back (by simp) hn;exact M.old n e sz c g1
 ·rw[dK,if_neg (fun e=>r4 (by rw[ht,←e];exact h))];exact M.con t h
 ·obtain⟨hj,hn⟩:=back (by simp) hn;have H:=M.itr n m c hn;refine H.eP rfl (by rw[dK,if_neg (ne hj hn H.1)]) (fun _ _ h=>h) fun m' o _ hf2 ho=>⟨rfl, ?_,fun es h=>⟨es, ?_,rfl⟩⟩
  ·exact⟨o,by rw[hf',if_neg (fun e=>by rw[e,hf]at hf2;cases hf2;cases ho)];exact hf2,ho⟩
  ·rw[dK,if_neg (ne (fun e=>by rw[e,hf]at hf2;cases hf2;cases ho) hf2 (M.vY hf2 ho))];exact h
theorem Mt.JA(M:Mt Ω G E ι γ Y J){nm l:Nat}{k:RS}(hf:find Y.h nm=some (.raw k))(ht:ι nm= [l+1])(o:Obj):Mt Ω G E ι γ (Y.kill nm) (J.raw l o):=by
 obtain⟨r1,r2,r3,r4⟩:=M.rwo nm k hf;have M1:=(M.kill nm).1;refine M1.mem rfl rfl (M.wf.raw l o) (fun n o' hn hi=> ?_) (fun q hq=> ?_) (fun n kk hn=>⟨rfl,rfl,(M1.rwo n kk hn).2.2.2⟩) fun t h=> ?_
 ·obtain⟨hne,o0,h0,_⟩:=aU hn;rw[dK,if_neg fun e=>hne (M.inj _ _ _ _ h0 hf (by rw[e,ht]) hi)]
 ·obtain⟨q',hq',h1,_⟩:=hq.kill M;rw[dK,if_neg fun e=>M.jF hf hq' (by rw[h1,e,ht])]
 ·rw[dK,if_neg (fun e=>r4 (by rw[ht,←e];exact h))];exact M.con t h
def ri{α:Type}(f:Nat→α)(n:Nat)(a:α):Nat→α:=fun k=>if k=n then a else f k
theorem DY{α:Type}: ∀(l:List (Nat×α)),∃b,∀x,b≤x→find l x=none
 | []=>⟨0,fun _ _=>rfl⟩
 |(i,a)::r=>by
  obtain⟨b,hb⟩:=DY r;refine⟨max b (i+1),fun x hx=> ?_⟩;have:(i==x)=false:=by simp;omega
  simp only[find]
  grind
theorem Mt.jE(M:Mt Ω G E ι γ Y J){nm b:Nat}{g:RS→Obj}(h1:J.m [b+1]=none)(h2:J.m [b+1+1]=none):
  Mt ⟨ri Ω.t nm [b+1+1],ri Ω.f nm g,fun t=>Ω.c t∨t= [b+1]⟩ G E (ι.set nm [b+1+1]) (ri γ nm []) (Y.jE nm) ((J.raw b (.deferred (some []))).raw (b+1) (g .ready)):=by
 obtain⟨M1,F1⟩:=M.kill nm;have hne: ∀{n:Nat} {o:SO},find (Y.kill nm).h n=some o→ι n≠ []→ι n≠ [b+1]∧ι n≠ [b+1+1]:=fun hn hi=>⟨fun e=>M1.Ms hn hi (by rw[e];exact h1),fun e=>M1.Ms hn hi (by rw[e];exact h2)⟩
 have hc2: ∀t,Ω.c t→t≠ [b+1]∧t≠ [b+1+1]:=fun t ht=>by
  have hq:=M.con t ht;refine⟨fun e=> ?_,fun e=> ?_⟩
  ·rw[e,h1]at hq;cases hq
  ·rw[e,h2]at hq;cases hq
 have e12:([b+1]:Tok)≠ [b+1+1]:=by simp
 have M2:Mt ⟨ri Ω.t nm [b+1+1],ri Ω.f nm g,fun t=>Ω.c t∨t= [b+1]⟩ G E ι γ (Y.kill nm) ((J.raw b (.deferred (some []))).raw (b+1) (g .ready)):=by
  refine M1.mem rfl rfl ((M.wf.raw b _).raw _ _) (fun n o hn hi=> ?_) (fun q hq=> ?_) (fun n k hn=> ?_) fun t ht=> ?_
  ·rw[dK,if_neg (hne hn hi).2,dK,if_neg (hne hn hi).1]
  ·obtain⟨⟨_,_,p1,_⟩,_⟩:=hq.mem;rw[dK,if_neg (fun e=>by rw[e,h2]at p1;cases p1),dK,if_neg (fun e=>by rw[e,h1]at p1;cases p1)]
  ·have hnn:n≠nm:=(aU hn).1;obtain⟨_,g2,_,g4⟩:=M1.rwo n k hn;refine⟨if_neg hnn, ?_, ?_⟩
   ·show ri Ω.f nm g n k=_;simp only[ri,if_neg hnn]
   ·rintro(h|h)
    ·exact g4 h
    ·exact(hne hn g2).1 h
  ·rcases ht with ht|rfl
   ·rw[dK,if_neg (hc2 t ht).2,dK,if_neg (hc2 t ht).1];exact M.con t ht
   ·rw[dK,if_neg e12,dK,if_pos rfl]
 obtain⟨x0,hx0⟩:=DY (Y.kill nm).s
 have hnq: ∀q,fw (Y.kill nm).h ι γ ((J.raw b (.deferred (some []))).raw (b+1) (g .ready)) q→q.u≠ [b+1+1]:=fun q hq e=>by
  obtain⟨⟨_,_,p1,_⟩,_⟩:=hq.mem;rw[e,dK,if_pos rfl]at p1;exact HX (Option.some.inj p1).symm
 have M3:=M2.add (x:=x0) F1 (o:= .raw .ready) (v:= .un) (t:= [b+1+1]) (g:= []) M2.wf (fun _ _=>rfl) (fun _ _ _ _=>rfl) (fun _=>Nat.le_refl _) (fun _ _ h=>h) .un
  ⟨by simp[ri],by simp,by rw[dK,if_pos rfl];simp[ri],fun h=>by
   rcases h with h|h
   ·exact(hc2 _ h).2 rfl
   ·exact e12 h.symm⟩ (fun _ n o hn e=>(hne hn (by rw[e];simp)).2 e) (fun q hq=>⟨fun e=>hnq q hq e.symm,fun _ h=>(by obtain⟨_,_,_,h⟩:=h;cases h),rfl⟩)
 refine M3.sub (fun i v hv=> ?_) (fun _=>rfl) rfl;simp only[Sy.add,ba];have hv':find (Y.kill nm).s i=some v:=hv;by_cases hi:i=x0
 ·rw[hi,hx0 x0 (Nat.le_refl _)]at hv';cases hv'
 ·rw[if_neg hi];exact hv'
theorem pJ{α:Type}{n i:Nat}: ∀{l:List (Nat×α)},find (wB n l) i=if i<n then find l i else none
 | []=>by simp[wB,find]
 |(j,a)::r=>by
  simp only[wB];by_cases h:j<n
  ·have h1:decide (j<n)=true:=by simpa using h
   simp only[h1,cond_true,find,pJ (l:=r)]
   grind
  ·have h1:decide (j<n)=false:=by simpa using h
   simp only[h1,cond_false,find,pJ (l:=r)]
   grind
def nU(n off:Nat)(s:Nat→D):Nat→D:=fun i=>if i<n then s (off+i)else s (i-n)
theorem Ad{h:List (Nat×SO)}: ∀{ps:List Nat} {vs:List SV} {ds:List D} {l:List (Nat×SV)} {s:Nat→D},bA G E ι h vs ds→(∀i v,find l i=some v→VR G E ι h v (s i))→ ∀i v,find (H_ ps vs l) i=some v→VR G E ι h v (uY ps ds s i)
 | [],vs,ds,l,s,_,hl,i,v,hf=>by simp only[H_]at hf;simp only[uY];exact hl i v hf
 |p::ps,[],ds,l,s,hv,hl,i,v,hf=>by
  have:ds= []:=List.eq_nil_of_length_eq_zero hv.1.symm;subst this;simp only[H_]at hf;simp only[uY];exact hl i v hf
 |p::ps,u::vs,ds,l,s,hv,hl,i,v,hf=>by
  obtain⟨d,ds',rfl,h1,h2⟩:=hv.cons;refine Ad h2 (fun j w hw=> ?_) i v hf;rw[ba]at hw
  grind
theorem Mt.round(M:Mt Ω G E ι γ Y J){n off n0:Nat}{ps:List Nat}{vs:List SV}{ds:List D}(hv:bA G E ι Y.h vs ds):Mt Ω G E ι γ (Y.round n off ps vs n0) ⟨uY ps ds (nU n off J.s),J.m,J.c⟩:=by
 refine M.nT rfl rfl fun i v hf=>Ad hv (fun j u hu=> ?_) i v hf;rw[eC,pJ,ic,nM]at hu;by_cases hj:j<n
 ·rw[if_pos hj,if_neg (show¬n≤j by omega),Option.or_none]at hu;simp only[nU,if_pos hj];rw[Nat.add_comm];exact M.slot _ _ hu
 ·rw[if_neg hj,if_pos (by omega)]at hu;simp only[nU,if_neg hj];exact M.slot _ _ hu
end
section
variable {P : Program} {w0 w : World} {pr : aT} {A : gZ} {n : Nat} {tk : ag} {J : St} {cs : Array Value}
theorem wi: ∀{ps:List Nat} {vs:List Value} {cs:Array Value},(tG ps vs cs).size=cs.size
 | [],_,_=>rfl
 |_::_,[],_=>rfl
 |p::ps,v::vs,cs=>by simp only[tG,wi,Array.size_setIfInBounds]
theorem Ae: ∀{ps:List Nat} {vs:List Value} {ds:List D} {cs:Array Value} {s:Nat→D},aX w pr tk vs ds→(∀i,i<cs.size→ai w pr tk (cs.getD i undef) (s i))→ ∀i,i<cs.size→ai w pr tk ((tG ps vs cs).getD i undef) (uY ps ds s i)
 | [],_,_,_,_,_,h,i,hi=>h i hi
 |_::_,[],[],_,_,_,h,i,hi=>h i hi
 |_::_,[],_::_,_,_,hr,_,_,_=>absurd hr (by simp[aX])
 |_::_,_::_,[],_,_,hr,_,_,_=>absurd hr (by simp[aX])
 |p::ps,v::vs,d::ds,cs,s,hr,h,i,hi=>by
  refine Ae hr.2 (fun j hj=> ?_) i (by simpa using hi);by_cases hp:p<cs.size
  ·rw[j_ hp];by_cases e:j=p
   ·rw[if_pos e,if_pos e];exact hr.1
   ·grind
  ·grind
theorem DE{n:Nat}: ∀{ps:List Nat} {ds:List D} {s:Nat→D} {i:Nat},(∀p∈ps,p<n)→n≤i→uY ps ds s i=s i
 | [],_,_,_,_,_=>rfl
 |_::_,[],_,_,_,_=>rfl
 |p::ps,d::ds,s,i,hp,hi=>by
  simp only[uY];rw[DE (fun q hq=>hp q (Cz _ hq)) hi];have:=hp p (List.mem_cons_self ..)
  grind
theorem Rel.round{n0:Nat}(R:Rel P w0 pr A n0 w cs J tk){off:Nat}{T:Array Value}{ps:List Nat}{cargs:List Value}{ds:List D}(hT:T.size=n)(hA: ∀i,i<n→n0≤off+i∧A.sv (off+i)=T.getD i undef)(hr:aX w pr tk cargs ds)(hp: ∀p∈ps,p<n):
  Rel P w0 pr {A with sv:=gR n n0 cs A.sv} n w (tG ps cargs T) ⟨uY ps ds (nU n off J.s),J.m,J.c⟩ tk:=by
 refine⟨by rw[wi];exact hT,R.chg,R.prlt,R.prA,R.glob,R.mem,R.live,R.fresh,R.zero,R.one,fun i hi=> ?_,fun i hi=> ?_⟩
 ·refine Ae hr (fun j hj=> ?_) i (by omega);obtain⟨h1,h2⟩:=hA j (by omega);simp only[nU,if_pos (show j<n by omega)];rw[←h2];exact R.sav _ h1
 ·show ai w pr tk (gR n n0 cs A.sv i) (uY ps ds (nU n off J.s) i);rw[DE hp hi];simp only[nU,if_neg (show¬i<n by omega),gR];split
  ·rename_i h;exact R.slot _ h
  ·rename_i h;exact R.sav _ (by omega)
end
end
section
def G9(L:List OE)(g:Tok):Bool:=L.any fun q=>decide (q.g=g)
def pL(t:Tok)(L:List OE)(m:Mem):Mem:=fun τ=>if τ=t then some (.map (L.map OE.pr))else match m τ with
 |some (.row g e es)=>if G9 L g then none else some (.row g e es)
 |o=>o
theorem ot{t:Tok}{L:List OE}{m:Mem}:pL t L m t=some (.map (L.map OE.pr)):=if_pos rfl
theorem ou{t:Tok}{L:List OE}{m:Mem}{τ:Tok}{o:HO}(hne:τ≠t)(h:pL t L m τ=some o):m τ=some o∧ ∀g e es,o= .row g e es→G9 L g=false:=by
 simp only[pL]at h
 grind
theorem Ix{w:World}{pr:aT}{tk:ag}{v:Value}{t:Tok}{size off len:Nat}{lim:Option Nat}(h:ai w pr tk v (.sl t size off len lim)): ∃b cap c o,tk t=some (b,cap)∧v= .slice (some ⟨b,o,none⟩) len c∧(o=off*size∨(c=0∧0<off)):=by
 cases h with
 |sl ht hc hl ho=>exact⟨_,_,_,_,ht,rfl,ho⟩
theorem vP{L:List OE}{q:OE}(h:q∈L):G9 L q.g=true:=List.any_eq_true.2 ⟨q,h,by simp⟩
section
variable {P : Program} {w0 w : World} {pr : aT} {A : gZ} {n : Nat} {tk : ag} {J : St} {a : Act} {B : eo}
theorem BX(R:Rel P w0 pr A n w a.tmps J tk)(U:iI B w0 pr A){t:Tok}{L:List OE}{e sz:Nat}(hz:sz≠0)(hm:J.m t=some (.map (L.map (OE.en sz))))(hq: ∀q∈L,J.m q.u=some (.row q.g e q.es)∧bj sz q.es=true):
  bW P B n w a.tmps ⟨J.s,pL t L J.m,J.c⟩:=by
 let pr':aT:=fun b o=>pr b o∨ ∃q,q∈L∧ ∃cap,tk q.u=some (b,cap)∧o<q.es.length*P.cellsOf e;have K:cY w w pr pr' tk tk:=⟨fun b o h=>⟨rfl, .inl h⟩,fun _ _ h=>h⟩
 have une: ∀q,q∈L→q.u≠t:=fun q hqm e=>by
  grind
 have src: ∀{τ:Tok} {o:HO},pL t L J.m τ=some o→ ∃o0,J.m τ=some o0∧o0.gJ=o.gJ:=fun{τ o} h=>by
  by_cases hne:τ=t
  ·subst hne;rw[ot]at h;cases h;exact⟨_,hm,rfl⟩
  ·exact⟨o,(ou hne h).1,rfl⟩
 have apart: ∀{q:OE} {b cap c:Nat} {τ:Tok} {o:HO},q∈L→tk q.u=some (b,cap)→pL t L J.m τ=some o→tk τ=some (b,c)→False:=fun{q b cap c τ o} hqm ht ho hτ=>by
  obtain⟨o0,h0,hg⟩:=src ho;rcases R.mem.inj τ q.u o0 _ b c cap h0 (hq q hqm).1 hτ ht with h|⟨h1,h2⟩
  ·subst h;have h3:=(ou (une q hqm) ho);rw[(hq q hqm).1]at h3;have:=h3.2 q.g e q.es (by have:=h3.1;injection this with this;exact this.symm);rw[vP hqm]at this;cases this
  ·rw[hg]at h2;by_cases hne:τ=t
   ·subst hne;rw[ot]at ho;cases ho;cases h2
   ·cases o with
    |row g e' es=>
     simp only[HO.gJ,Jz]at h2;have:=(ou hne ho).2 g e' es rfl;rw[h2,vP hqm]at this;cases this
    |_=>cases h2
 have s2:=U.chg.size
 have JT:mX P w pr' tk t (.map (L.map OE.pr)):=by
  obtain⟨b,cap,a7,h1,h2,h3,h4,h5⟩:=R.mem.obj t _ hm;simp only[List.length_map]at h2 h3 h4;refine⟨b,cap,a7,h1,by simpa using h2,by simpa using h3,by simpa using h4,fun i en p he hp=> ?_⟩;rw[Dz,Mz]at hp;obtain⟨q,hqi,rfl⟩:=hp;have hqm:=Lz hqi;obtain⟨g1,g2,g3⟩:=h5 i en (q.en sz) he (by rw[Dz,hqi];rfl);refine⟨g1,g2.keeps K, ?_⟩;simp only[OE.en,if_neg hz,OE.pr]at g3⊢;obtain⟨r1,r2⟩:=hq q hqm
  have hel:(D.sl q.u sz 0 q.es.length none).elems J.m=some q.es:=by
   simp only[D.elems,r1];rw[if_pos ⟨by omega,bP r2⟩];simp
  rcases eB R.mem g3 hel with⟨hv,h0⟩|⟨b1,o1,c1,size,us,hv,k1,k2,k3,k4⟩
  ·rw[h0];rcases hv with hv|⟨a,c,hv⟩<;>rw[hv]
   ·exact .nil'
   ·exact .emp
  ·obtain⟨b3,Tv,c3,o3,t1,t2,t3⟩:=Ix g3;rw[hv]at t2⊢;have oC:=R.mem.obj q.u _ r1;obtain⟨b2,so,C,m1,m2,m3,m4,m5,m6⟩:=oC
   have hbb:tk q.u=some (b1,so)∧o1=0:=by
    grind
   refine .list us k2 k1 (fun j hj=>⟨(k3 j hj).1, .inr ⟨q,hqm,so,hbb.1, ?_⟩,(k3 j hj).2⟩) (fun i c hc j x hx=> ?_)
   ·have hlen:0<q.es.length:=by
     grind
    have hsz:size=P.cellsOf e:=by
     have oC:=List.getElem_mem hlen;rw[←k2 _ oC,m6.1 _ oC]
    rw[hbb.2,Nat.zero_add,←hsz];exact hj
   ·have hxn:x.aN=true:=by
     have h1:=Tz.1 r2 c (Lz hc);simp only[Az,Tz]at h1;have h2:=h1.2 x (Lz hx);exact tz h2
    exact aW ((k4 i c hc j x hx).keeps K) hxn
 refine⟨w,pr',⟨bX tk (pL t L J.m),A.z,A.sv⟩,tk,⟨R.size,cW.refl _ _,fun b o h=> ?_,fun b o h hb=> ?_,R.glob.keeps K.cell,⟨fun τ o h=> ?_,fun τ τ' o o' b c c' h h' ht ht'=> ?_⟩,fun τ o b c h ht=> .inr ⟨τ,o,c,h,ht⟩,R.fresh,R.zero,R.one,fun i hi=>(R.slot i hi).keeps K,fun i hi=>(R.sav i hi).keeps K⟩,
  ⟨U.chg.trans R.chg fun b hb h=>U.sub b hb h,fun b hb h=> ?_,U.z,U.sv,fun b o h=> .inl (U.sup b o h),fun b o h=> ?_⟩⟩
 ·rcases h with h|⟨q,hqm,cap,ht,_⟩
  ·exact R.uL b o h
  ·obtain⟨b1,c1,g1,g2⟩:=(R.mem.obj q.u _ (hq q hqm).1).place;rw[ht]at g1;cases g1;exact g2
 ·obtain⟨τ,o',c,ho,ht⟩:=hb;rcases h with h|⟨q,hqm,cap,htq,_⟩
  ·obtain⟨o0,h0,_⟩:=src ho;exact R.free h0 ht h
  ·exact apart hqm htq ho ht
 ·replace h:pL t L J.m τ=some o:=h
  by_cases hne:τ=t
  ·subst hne;rw[ot]at h;cases h;exact JT
  ·exact(R.mem.obj τ o (ou hne h).1).keeps K fun _ _ _=>rfl
 ·obtain⟨o0,h0,g0⟩:=src h;obtain⟨o1,h1,g1⟩:=src h';rw[←g0,←g1];exact R.mem.inj τ τ' o0 o1 b c c' h0 h1 ht ht'
 ·obtain⟨τ,o',c,ho,ht⟩:=h;obtain⟨o0,h0,_⟩:=src ho;rcases R.live τ o0 b c h0 ht with h|h
  ·omega
  ·exact U.sub b hb h
 ·rcases h with h|⟨q,hqm,cap,ht,_⟩
  ·exact U.inf b o h
  ·rcases R.live q.u _ b cap (hq q hqm).1 ht with h|h
   ·exact .inr (.inl (by omega))
   ·rcases Nat.lt_or_ge b B.w.heap.size with hb|hb
    ·exact .inr (.inr (U.sub b hb h))
    ·exact .inr (.inl hb)
end
section
variable {P : Program} {B : eo} {n : Nat} {Ω : bz} {G : FP} {E : List D} {ι : Im} {γ : Nat → Tok} {Y : Sy} {J : St}
theorem fc(k:Nat):find Y.freeze.h k=(find Y.h k).map pM:=dh pM k Y.h
theorem xp(M:Mt Ω G E ι γ Y J){w:World}{a:Act}(R:bW P B n w a.tmps J): ∃J',Mt Ω G E ι γ Y.freeze J'∧bW P B n w a.tmps J':=by
 by_cases hex: ∃m e sz c,find Y.h m=some (.bL e sz c)∧sz≠0
 rotate_left
 ·refine⟨J,M.sub (fun i v h=>h) (fun k=> ?_) rfl,R⟩;rw[fc];cases hf:find Y.h k with
  |none=>rfl
  |some o=>
   cases o with
   |bL e sz c=>
    by_cases hz:sz=0
    ·simp[pM,hz]
    ·exact absurd ⟨k,e,sz,c,hf,hz⟩ hex
   |_=>rfl
 obtain⟨m,e,sz,c,hf,hz⟩:=hex;obtain⟨L,o1,o2,o3,o4,o5⟩:=M.own m e sz c hf;obtain⟨w1,pr,A,tk,R1,U⟩:=R;refine⟨_, ?_,BX (e:=e) R1 U hz o3 fun q hq=>⟨by rw[(o4 q hq).2.2.1];simp[OE.ob,hz],(o4 q hq).2.1 hz⟩⟩;have only: ∀{k e' sz' c'},find Y.h k=some (.bL e' sz' c')→k=m:=fun h=>M.one _ _ _ _ _ _ _ _ h hf
 have back: ∀{k:Nat} {o:SO},(∀c,o≠ .map c)→find Y.freeze.h k=some o→find Y.h k=some o∧k≠m:=fun{k o} hne h=>by
  rw[fc]at h;obtain⟨o0,h0,h1⟩:=Mz.1 h;cases o0 with
  |bL e' sz' c'=>
   obtain rfl:=only h0;rw[hf]at h0;cases h0;simp only[pM,if_neg hz]at h1;exact absurd h1.symm (hne _)
  |_=>simp only[pM]at h1;subst h1;exact⟨h0,fun e=>by rw[e,hf]at h0;cases h0⟩
 have uM: ∀{k:Nat} {o:SO},find Y.freeze.h k=some o→ ∃o',find Y.h k=some o':=fun{k o} h=>by
  rw[fc]at h;obtain⟨o0,h0,_⟩:=Mz.1 h
  grind
 have same: ∀{k:Nat} {o:SO},k≠m→find Y.h k=some o→ι k≠ []→pL (ι m) L J.m (ι k)=J.m (ι k):=fun{k o} hk ho hi=>by
  have hne:ι k≠ι m:=fun e=>hk (M.inj k m _ _ ho hf e hi);simp only[pL,if_neg hne];cases o with
  |box vs=>obtain⟨_,_,h,_⟩:=M.box k vs ho;rw[h]
  |map c=>obtain⟨_,_,_,h⟩:=M.mpo k c ho;rw[h]
  |bL e' sz' c=>obtain⟨_,_,_,h,_⟩:=M.own k e' sz' c ho;rw[h]
  |raw kk=>obtain⟨_,_,h,_⟩:=M.rwo k kk ho;rw[h]
  |itr m0 c0=>obtain⟨_,_,_,_,h,_⟩:=M.itr k _ _ ho;rw[h]
  |aA e' sz' c'=>
   obtain⟨es3,_,_,h⟩:=M.aA k _ _ _ ho;rcases h with⟨h,_⟩|⟨_,h⟩
   ·grind
   ·rw[h];simp only[];rw[if_neg fun hg=> ?_];obtain⟨q,hq,hqe⟩:=List.any_eq_true.1 hg;exact(o4 q hq).2.2.2.2.1 hz k _ _ _ ho hi (of_decide_eq_true hqe).symm
 have vr: ∀{v:SV} {d:D},VR G E ι Y.h v d→VR G E ι Y.freeze.h v d:=fun H=>H.mono (fun _ _ h=>h) fun k _=>⟨rfl,fun o ho=>⟨pM o,by rw[fc,ho];rfl,by
  cases o with
  |bL e' sz' c'=>
   obtain rfl:=only ho;rw[hf]at ho;cases ho;simp only[pM,if_neg hz];exact hz
  |_=>exact ki (fun _ _ h=>h) _⟩⟩
 have Xt: ∀t q,J.m t=some (.raw q)→pL (ι m) L J.m t=some (.raw q):=fun t q h=>by
  have:t≠ι m:=fun e=>by rw[e,o3]at h;cases h
  simp only[pL,if_neg this,h]
 refine⟨fun i v hv=>vr (M.slot i v hv),fun k vs hk=> ?_,fun k e sz c hk=> ?_,fun k c hk=> ?_,fun k e sz c hk=> ?_,fun k k' e e' sz sz' c c' hk _=> ?_,fun k kk hk=> ?_,fun a b o o' h1 h2=> ?_,fun a b e e' sz sz' c c' h1 h2=>M.gJ a b _ _ _ _ _ _ (back (by simp) h1).1 (back (by simp) h2).1,fun x k r hk=> ?_,fun k e sz c hk=>M.old k _ _ _ (back (by simp) hk).1,M.nv,fun t ht=>Xt t _ (M.con t ht),fun k m0 d hk=> ?_⟩
 ·obtain⟨hk,hne⟩:=back (by simp) hk;obtain⟨ds,h1,h2,h3⟩:=M.box k vs hk;exact⟨ds,h1,(same hne hk h1).trans h2,h3.1,fun i v d hv hd=>vr (h3.2 i v d hv hd)⟩
 ·obtain⟨hk,hne⟩:=back (by simp) hk;obtain⟨es,h1,h2,h3⟩:=M.aA k _ _ _ hk;refine⟨es,h1,h2, ?_⟩;rcases h3 with h3|⟨h3,h4⟩
  ·exact .inl h3
  ·exact .inr ⟨h3,(same hne hk h3).trans h4⟩
 ·rw[fc]at hk;obtain⟨o0,h0,h1⟩:=Mz.1 hk;cases o0 with
  |bL e' sz' c'=>
   obtain rfl:=only h0;rw[hf]at h0;cases h0;simp only[pM,if_neg hz,SO.map.injEq]at h1;subst h1;exact⟨_,o1,o2,ot⟩
  |map c'=>
   simp only[pM,SO.map.injEq]at h1;subst h1;obtain⟨es,g1,g2,g3⟩:=M.mpo k _ h0;exact⟨es,g1,g2,(same (fun e=>by rw[e,hf]at h0;cases h0) h0 g2).trans g3⟩
  |_=>simp only[pM,reduceCtorEq]at h1
 ·have:=(back (by simp) hk);exact absurd (only this.1) this.2
 ·have:=(back (by simp) hk);exact absurd (only this.1) this.2
 ·obtain⟨hk,hne⟩:=back (by simp) hk;obtain⟨h1,h2,h3,h4⟩:=M.rwo k kk hk;exact⟨h1,h2,Xt _ _ h3,h4⟩
 ·obtain⟨_,g1⟩:=uM h1;obtain⟨_,g2⟩:=uM h2;exact M.inj a b _ _ g1 g2
 ·have h0:=M.wf x k r hk;have hne:(x+1)::k::r≠ι m:=fun e=>by rw[e,o3]at h0;cases h0
  simp only[pL,if_neg hne,h0]
 ·obtain⟨hk,hne⟩:=back (by simp) hk;have H:=M.itr k m0 d hk;refine H.eP rfl (same hne hk H.1) (fun _ _ h=>h) fun m' o' _ hf2 ho=>⟨rfl,⟨pM o',by rw[fc,hf2];rfl, ?_⟩,fun es h=> ?_⟩
  ·cases o'<;>first|(cases ho;done)|rfl|(simp only[pM];split<;>rfl)
  ·by_cases hm:m'=m
   ·subst hm;rw[o3]at h;cases h;exact⟨_,ot,by simp⟩
   ·exact⟨es,(same hm hf2 (M.vY hf2 ho)).trans h,rfl⟩
end
end
section
theorem nL(k:Nat): ∀(l:List (Nat×SO)),find (wb l) k=match find l k with
  |some (.aA ..)=>none
  |o=>o
 | []=>rfl
 |(i,o)::r=>by
  have ih:=nL k r;cases hi:i==k with
  |true=>
   have e:i=k:=by simpa using hi
   cases o<;>simp[wb,find,iD,e]
  |false=>
   have e: ¬k=i:=fun e=>by simp[e]at hi
   cases o<;>simp[wb,find,iD,hi,e,ih]
theorem cu(Y:Sy){k:Nat}{o:SO}(h:find Y.nP.h k=some o): ∃o0,find Y.h k=some o0∧o=nO Y.h o0∧(∀e sz c,o0≠ .aA e sz c):=by
 simp only[Sy.nP,dh,nL]at h;obtain⟨o0,h1,rfl⟩:=Mz.1 h
 grind
theorem kU(Y:Sy){k:Nat}{o:SO}(h:find Y.h k=some o)(hn: ∀e sz c,o≠ .aA e sz c):find Y.nP.h k=some (nO Y.h o):=by
 simp only[Sy.nP,dh,nL]
 grind
theorem fe(h:List (Nat×SO)): ∀(vs:List SV),(iR h vs).length=vs.length
 | []=>rfl
 |_::r=>by simp[iR,fe h r]
theorem pN(h:List (Nat×SO)): ∀(vs:List SV) (i:Nat),(iR h vs)[i]?=(vs[i]?).map (mY h)
 | [],_=>by simp[iR]
 |_::r,0=>by simp[iR]
 |_::r,i+1=>by simp[iR,pN h r i]
theorem p7{α β γ:Type}{R:α→β→γ→Prop}: ∀{vs:List α} {ds:List β},vs.length=ds.length→(∀(i:Nat) (v:α) (d:β),vs[i]?=some v→ds[i]?=some d→ ∃e,R v d e)→
  ∃es:List γ,es.length=ds.length∧ ∀(i:Nat) (v:α) (d:β) (e:γ),vs[i]?=some v→ds[i]?=some d→es[i]?=some e→R v d e
 | [],[],_,_=>⟨[],rfl,fun i v d e h=>by simp at h⟩
 |v::vs,d::ds,hl,h=>by
  obtain⟨e,he⟩:=h 0 v d rfl rfl;obtain⟨es,h1,h2⟩:=p7 (vs:=vs) (ds:=ds) (by simpa using hl) fun i v d hv hd=>h (i+1) v d (by simpa using hv) (by simpa using hd);refine⟨e::es,by simp[h1],fun i v' d' e' hv hd he'=> ?_⟩;cases i with
  |zero=>simp at hv hd he';subst hv;subst hd;subst he';exact he
  |succ i=>exact h2 i v' d' e' (by simpa using hv) (by simpa using hd) (by simpa using he')
 | [],_::_,hl,_=>by simp at hl
 |_::_,[],hl,_=>by simp at hl
section
variable {P : Program} {B : eo} {n : Nat} {Ω : bz} {G : FP} {E : List D} {ι : Im} {γ : Nat → Tok} {Y : Sy} {J : St} {w : World} {pr pr' : aT} {tk : ag}
theorem GF(M:Mt Ω G E ι γ Y J)(hK: ∀val d,ai w pr tk val d→ai w pr' tk val d)
  (hS: ∀n e sz c es,find Y.h n=some (.aA e sz c)→ι n≠ []→J.m (ι n)=some (.row (γ n) e es)→bj sz es=true→ ∀val off len lim,off+len≤es.length→ai w pr tk val (.sl (ι n) sz off len lim)→ai w pr' tk val (.list ((es.drop off).take len)))
  {v:SV} {d:D} (H:VR G E ι Y.h v d): ∃d',VR G E ι Y.nP.h (mY Y.h v) d'∧ ∀val,ai w pr tk val d→ai w pr' tk val d':=by
 have own: ∀{n e sz:Nat} {c:X} {es:List (List D)},find Y.h n=some (.aA e sz c)→ι n≠ []→X.ev G E c=some (.list es)→ ∀val off len lim,off+len≤es.length→ai w pr tk val (.sl (ι n) sz off len lim)→ai w pr' tk val (.list ((es.drop off).take len)):=fun hf hi hc=>by
  obtain⟨es',h1,h2,h3⟩:=M.aA _ _ _ _ hf;rw[hc]at h1;cases h1;rcases h3 with⟨h3,_⟩|⟨_,h3⟩
  ·exact absurd h3 hi
  ·exact hS _ _ _ _ _ hf hi h3 h2
 have xj: ∀{n e sz:Nat} {c:X},find Y.h n=some (.aA e sz c)→ι n= []→X.ev G E c=some (.list []):=fun hf hi=>by
  obtain⟨es',h1,h2,h3⟩:=M.aA _ _ _ _ hf;rcases h3 with⟨_,rfl⟩|⟨h3,_⟩
  ·exact h1
  ·exact absurd hi h3
 have aaW: ∀val,ai w pr tk val .nil→ai w pr' tk val (.list []):=fun val h=>by cases h;exact .nil'
 have box: ∀{n:Nat} {vs:List SV},find Y.h n=some (.box vs)→find Y.nP.h n=some (.box (iR Y.h vs)):=fun hf=>kU Y hf fun _ _ _ h=>by cases h
 have row: ∀{vs:List SV} {ds:List D},vs.length=ds.length→(∀(i:Nat) (v:SV) (d:D),vs[i]?=some v→ds[i]?=some d→ ∃d',VR G E ι Y.nP.h (mY Y.h v) d'∧ ∀val,ai w pr tk val d→ai w pr' tk val d')→
   ∃ds':List D,ds'.length=ds.length∧(∀(i:Nat) (v:SV) (d:D),(iR Y.h vs)[i]?=some v→ds'[i]?=some d→VR G E ι Y.nP.h v d)∧ ∀(i:Nat) (d':D),ds'[i]?=some d'→ ∃d,ds[i]?=some d∧ ∀val,ai w pr tk val d→ai w pr' tk val d':=fun{vs ds} hl hh=>by
  obtain⟨es,h1,h2⟩:=p7 hl hh
  have gd: ∀(i:Nat) (d':D),es[i]?=some d'→ ∃v d,vs[i]?=some v∧ds[i]?=some d:=fun i d' h=>by
   have:=(Gz.1 h).1;exact⟨_,_,Ez (by omega),Ez (by omega)⟩
  refine⟨es,h1,fun i v d hv hd=> ?_,fun i d' hd=> ?_⟩
  ·rw[pN]at hv;obtain⟨v0,hv0,rfl⟩:=Mz.1 hv;obtain⟨_,d0,_,hd0⟩:=gd i d hd;exact(h2 i v0 d0 d hv0 hd0 hd).1
  ·obtain⟨v0,d0,hv0,hd0⟩:=gd i d' hd;exact⟨d0,hd0,(h2 i v0 d0 d' hv0 hd0 hd).2⟩
 induction H with
 |un=>exact⟨_, .un,fun val=>hK val _⟩
 |x h1 h2=>exact⟨_, .x h1 h2,fun val=>hK val _⟩
 |agg hl hh ih=>
  obtain⟨ds',h1,h2,h3⟩:=row hl ih;refine⟨.agg ds', .agg (by rw[fe,hl,h1]) h2,fun val h=> ?_⟩;cases h with
  |agg a1 a2 a3=>exact .agg (a1.trans h1.symm) a2 fun i c x hc hx=>let⟨d,hd,hr⟩:=h3 i x hx;hr c (a3 i c d hc hd)
 |tup hl hh ih=>
  obtain⟨ds',h1,h2,h3⟩:=row hl ih;refine⟨.tup ds', .tup (by rw[fe,hl,h1]) h2,fun val h=> ?_⟩;cases h with
  |tup a1 a3=>exact .tup (a1.trans h1.symm) fun i c x hc hx=>let⟨d,hd,hr⟩:=h3 i x hx;hr c (a3 i c d hc hd)
 |clo hl hh ih=>
  obtain⟨ds',h1,h2,h3⟩:=row hl ih;refine⟨.clo _ ds', .clo (by rw[fe,hl,h1]) h2,fun val h=> ?_⟩;cases h with
  |clo hf a1 a3=>exact .clo hf (a1.trans h1.symm) fun i c x hc hx=>let⟨d,hd,hr⟩:=h3 i x hx;hr c (a3 i c d hc hd)
  |bclo a1 a3=>exact .bclo (a1.trans h1.symm) fun i c x hc hx=>let⟨d,hd,hr⟩:=h3 i x hx;hr c (a3 i c d hc hd)
 |ptr hf=>exact⟨_, .ptr (box hf),fun val=>hK val _⟩
 |dp hf hv h0 hz hl=>exact⟨_, .dp (box hf) hv h0 hz (by rw[fe];exact hl),fun val=>hK val _⟩
 |gln hf hi=>exact⟨.list [],by simp only[mY,hf];exact .x (xj hf hi) rfl,aaW⟩
 | @gl n sz e c es hf hc hi=>exact⟨.list es,by simp only[mY,hf];exact .x hc rfl,fun val h=>by simpa using own hf hi hc val 0 es.length none (by omega) h⟩
 |gsn hf hi hk=>exact⟨.list [],by simp only[mY,hf];exact .x (by simp only[X.ev,X.bh,xj hf hi,hk,Oz,Pz,XK.run];rfl) rfl,fun val h=>hK val _ h⟩
 | @gs n sz e c k es q z hf hc hi hk h0 hz=>exact⟨.list (es.take z.toNat),by simp only[mY,hf];exact .x (by simp only[X.ev,X.bh,hc,hk,Oz,Pz,XK.run];rw[if_pos ⟨h0,hz⟩]) rfl,fun val h=>by simpa using own hf hi hc val 0 z.toNat none (by omega) h⟩
 |gcn hf hi hk=>exact⟨.list [],by simp only[mY,hf];exact .x (by simp only[X.ev,X.bh,xj hf hi,hk,Oz,Pz,XK.run];rfl) rfl,fun val h=>hK val _ h⟩
 | @gc n sz e c k es q z m hf hc hi hk h0 hz=>exact⟨.list (es.take z.toNat),by simp only[mY,hf];exact .x (by simp only[X.ev,X.bh,hc,hk,Oz,Pz,XK.run];rw[if_pos ⟨h0,hz⟩]) rfl,fun val h=>by simpa using own hf hi hc val 0 z.toNat (some m) (by omega) h⟩
 |gtn hf hi hk=>exact⟨.list [],by simp only[mY,hf];exact .x (by simp only[X.ev,X.bh,xj hf hi,hk,Oz,Pz,XK.run];rfl) rfl,fun val h=>hK val _ h⟩
 | @gt n sz e c k es q z hf hc hi hk h0 hz=>exact⟨.list (es.drop z.toNat),by simp only[mY,hf];exact .x (by simp only[X.ev,X.bh,hc,hk,Oz,Pz,XK.run];rw[if_pos ⟨h0,hz⟩]) rfl,fun val h=>by
   have h:=own hf hi hc val z.toNat (es.length-z.toNat) none (by omega) h
   rwa[List.take_of_length_le (by simp)]at h⟩
 |ep=>exact⟨_, .un,fun val=>hK val _⟩
 |sb hf hl=>exact⟨_, .sb (box hf) (by rw[fe];exact hl),fun val=>hK val _⟩
 |rb hf hl=>exact⟨_, .rb (box hf) (by rw[fe];exact hl),fun val=>hK val _⟩
 | @mp n o hf ho=>exact⟨_, .mp (kU Y hf fun _ _ _ h=>by rw[h]at ho;cases ho) (by cases o<;>first|exact ho|cases ho),fun val=>hK val _⟩
 |yl hf=>exact⟨_, .yl (kU Y hf fun _ _ _ h=>by cases h),fun val=>hK val _⟩
 |bp hf hc hv h0 hz=>exact⟨_, .bp (kU Y hf fun _ _ _ h=>by cases h) hc hv h0 hz,fun val=>hK val _⟩
 |bpn hf hv h0=>exact⟨_, .bpn (kU Y hf fun _ _ _ h=>by cases h) hv h0,fun val=>hK val _⟩
 | @it n o hf ho=>exact⟨_, .it (kU Y hf fun _ _ _ h=>by rw[h]at ho;cases ho) (by cases o<;>first|exact ho|cases ho),fun val=>hK val _⟩
 | @gd g b v d hg h1 h2 ih=>
  cases b with
  |true=>
   obtain⟨d',k1,k2⟩:=ih rfl;exact⟨d', .gd hg (fun _=>k1) (fun h=>by cases h),k2⟩
  |false=>exact⟨d, .gd hg (fun h=>by cases h) (fun _=>h2 rfl),fun val=>hK val _⟩
open Classical in
theorem Bm(M:Mt Ω G E ι γ Y J){w:World}{a:Act}(R:bW P B n w a.tmps J): ∃J',Mt Ω G E ι γ Y.nP J'∧bW P B n w a.tmps J':=by
 obtain⟨w0,pr,A,tk,R,U⟩:=R;have s2:=U.chg.size;let Fz:Nat→Nat→List (List D)→Prop:=fun n e es=> ∃sz c,find Y.h n=some (.aA e sz c)∧ι n≠ []∧J.m (ι n)=some (.row (γ n) e es)∧bj sz es=true;let Fg:Tok→Prop:=fun g=> ∃n e sz c,find Y.h n=some (.aA e sz c)∧ι n≠ []∧γ n=g;let pr':aT:=fun b o=>pr b o∨ ∃n e es cap,Fz n e es∧tk (ι n)=some (b,cap)∧o<es.length*P.cellsOf e;have K:cY w w pr pr' tk tk:=⟨fun b o h=>⟨rfl, .inl h⟩,fun _ _ h=>h⟩;have hK: ∀val d,ai w pr tk val d→ai w pr' tk val d:=fun val d h=>h.keeps K
 have hS: ∀n e sz c es,find Y.h n=some (.aA e sz c)→ι n≠ []→J.m (ι n)=some (.row (γ n) e es)→bj sz es=true→ ∀val off len lim,off+len≤es.length→ai w pr tk val (.sl (ι n) sz off len lim)→ai w pr' tk val (.list ((es.drop off).take len)):=by
  intro m e sz c es hf hi hm hr val off len lim hol a6
  have hel:(D.sl (ι m) sz off len lim).elems J.m=some ((es.drop off).take len):=by
   simp only[D.elems,hm];rw[if_pos ⟨hol,bP hr⟩]
  have hlen:((es.drop off).take len).length=len:=by simp;omega
  rcases eB R.mem a6 hel with⟨hv,h0⟩|⟨b1,o1,c1,size,us,hv,k1,k2,k3,k4⟩
  ·rw[h0];rcases hv with rfl|⟨a,cap,rfl⟩
   ·exact .nil'
   ·exact .emp
  ·obtain⟨b3,Tv,c3,o3,t1,t2,t3⟩:=Ix a6;rw[hv]at t2⊢;obtain⟨b2,so,C,m1,m2,m3,m4,m5,m6⟩:=R.mem.obj (ι m) _ hm;rw[m1]at t1;cases t1;injection t2 with t2 t4 t5
   injection t2 with t2
   injection t2 with t2 t6
   have aak: ∀x∈es,x.length=sz:=fun x hx=>by have:=Tz.1 (bP hr) x hx;simpa using this
   refine .list us k2 k1 (fun j hj=>⟨(k3 j hj).1, .inr ⟨m,e,es,Tv,⟨sz,c,hf,hi,hm,hr⟩,by rw[m1,t2], ?_⟩,(k3 j hj).2⟩) (fun i x hx j d hd=> ?_)
   ·rw[hlen]at hj;have hlp:0<len:=by rcases Nat.eq_zero_or_pos len with h|h;rw[h]at hj;simp at hj;exact h
    have oC:(es.drop off).take len≠ []:=fun h=>by rw[h]at hlen;simp at hlen;omega
    obtain⟨x,r,hxr⟩:=List.exists_cons_of_ne_nil oC;have hx1:x∈(es.drop off).take len:=by rw[hxr];simp
    have hx2:x∈es:=List.mem_of_mem_drop (List.mem_of_mem_take hx1);have e1:size=P.cellsOf e:=by rw[←k2 x hx1,m6.1 x hx2]
    have e2:sz=P.cellsOf e:=by rw[←aak x hx2,m6.1 x hx2]
    rcases t3 with t3|⟨t3,_⟩
    ·rw[t6,t3,e2];rw[e1]at hj
     calc off*P.cellsOf e+j<off*P.cellsOf e+len*P.cellsOf e:=by omega
      _=(off+len)*P.cellsOf e:=(Nat.add_mul ..).symm
      _≤es.length*P.cellsOf e:=Nat.mul_le_mul_right _ hol
    ·rw[hlen]at k1;omega
   ·have hxn:d.aN=true:=by
     have hx2:x∈es:=List.mem_of_mem_drop (List.mem_of_mem_take (Lz hx));have h1:=Tz.1 hr x hx2;simp only[Az,Tz]at h1;exact tz (h1.2 d (Lz hd))
    exact aW ((k4 i x hx j d hd).keeps K) hxn
 have M6: ∀i,∃d',(∀v,find Y.s i=some v→VR G E ι Y.nP.h (mY Y.h v) d')∧ ∀val,ai w pr tk val (J.s i)→ai w pr' tk val d':=fun i=>by
  cases hf:find Y.s i with
  |none=>exact⟨J.s i,(fun v h=>by cases h),fun val=>hK val _⟩
  |some v=>
   obtain⟨d',h1,h2⟩:=GF M hK hS (M.slot i v hf);exact⟨d',fun v' h=>by cases h;exact h1,h2⟩
 have boxes: ∀k,∃ds':List D,∀vs,find Y.h k=some (.box vs)→bA G E ι Y.nP.h (iR Y.h vs) ds'∧ ∀ds,J.m (ι k)=some (.box ds)→ds'.length=ds.length∧ ∀(i:Nat) (d':D),ds'[i]?=some d'→ ∃d,ds[i]?=some d∧ ∀val,ai w pr tk val d→ai w pr' tk val d':=fun k=>by
  by_cases hex: ∃vs,find Y.h k=some (.box vs)
  ·obtain⟨vs,hf⟩:=hex;obtain⟨ds,h0,h1,h2⟩:=M.box k vs hf;obtain⟨ds',h3,h4⟩:=p7 h2.1 fun i v d hv hd=>GF M hK hS (h2.2 i v d hv hd)
   have gd: ∀(i:Nat) (d':D),ds'[i]?=some d'→ ∃v d,vs[i]?=some v∧ds[i]?=some d:=fun i d' h=>by
    have:=(Gz.1 h).1;have:=h2.1;exact⟨_,_,Ez (by omega),Ez (by omega)⟩
   refine⟨ds',fun vs' h=> ?_⟩;rw[hf]at h;cases h;refine⟨⟨by rw[fe,h2.1,h3],fun i v d hv hd=> ?_⟩,fun ds2 hd2=> ?_⟩
   ·rw[pN]at hv;obtain⟨v0,hv0,rfl⟩:=Mz.1 hv;obtain⟨_,d0,_,hd0⟩:=gd i d hd;exact(h4 i v0 d0 d hv0 hd0 hd).1
   ·rw[h1]at hd2;cases hd2;refine⟨h3,fun i d' hd=> ?_⟩;obtain⟨v0,d0,hv0,hd0⟩:=gd i d' hd;exact⟨d0,hd0,(h4 i v0 d0 d' hv0 hd0 hd).2⟩
  ·exact⟨[],fun vs h=>absurd ⟨vs,h⟩ hex⟩
 let S:Nat→D:=fun i=>Classical.choose (M6 i);have hSl: ∀i,(∀v,find Y.s i=some v→VR G E ι Y.nP.h (mY Y.h v) (S i))∧ ∀val,ai w pr tk val (J.s i)→ai w pr' tk val (S i):=fun i=>Classical.choose_spec (M6 i);let F:Nat→List D:=fun k=>Classical.choose (boxes k);have hF: ∀k vs,find Y.h k=some (.box vs)→bA G E ι Y.nP.h (iR Y.h vs) (F k)∧ ∀ds,J.m (ι k)=some (.box ds)→(F k).length=ds.length∧ ∀(i:Nat) (d':D),(F k)[i]?=some d'→ ∃d,ds[i]?=some d∧ ∀val,ai w pr tk val d→ai w pr' tk val d':=fun k=>Classical.choose_spec (boxes k)
 let m':Mem:=fun τ=>match J.m τ with
  |some (.row g e es)=>if Fg g then none else some (.row g e es)
  |some (.box ds)=>if h: ∃k vs,find Y.h k=some (.box vs)∧ι k=τ then some (.box (F (Classical.choose h)))else some (.box ds)
  |o=>o
 have Vl: ∀{τ g:Tok} {e:Nat} {es:List (List D)},J.m τ=some (.row g e es)→m' τ=if Fg g then none else some (.row g e es):=fun{τ g e es} h=>by simp only[m',h]
 have mBx: ∀{τ:Tok} {ds:List D},J.m τ=some (.box ds)→m' τ=if h: ∃k vs,find Y.h k=some (.box vs)∧ι k=τ then some (.box (F (Classical.choose h)))else some (.box ds):=fun{τ ds} h=>by simp only[m',h]
 have same: ∀{τ:Tok} {o:HO},J.m τ=some o→o.gJ=none→(∀ds,o≠ .box ds)→m' τ=some o:=fun{τ o} hm hg hb=>by
  cases o with
  |row=>cases hg
  |box ds=>exact absurd rfl (hb ds)
  |map=>simp only[m',hm]
  |iter=>simp only[m',hm]
  |raw=>simp only[m',hm]
 have Mx: ∀{τ:Tok},J.m τ=none→m' τ=none:=fun{τ} h=>by simp only[m',h]
 have aaU: ∀{k vs},find Y.h k=some (.box vs)→m' (ι k)=some (.box (F k)):=fun{k vs} hf=>by
  obtain⟨ds,h0,h1,h2⟩:=M.box k vs hf;have hex: ∃k' vs',find Y.h k'=some (.box vs')∧ι k'=ι k:=⟨k,vs,hf,rfl⟩;rw[mBx h1,dif_pos hex];obtain⟨vs',g1,g2⟩:=Classical.choose_spec hex;rw[M.inj _ _ _ _ g1 hf g2 (by rw[g2];exact h0)]
 have wV: ∀{τ:Tok} {o:HO},m' τ=some o→(∃g e es,J.m τ=some (.row g e es)∧o= .row g e es∧ ¬Fg g)∨(∃ds,J.m τ=some (.box ds)∧(o= .box ds∨ ∃k vs,find Y.h k=some (.box vs)∧ι k=τ∧o= .box (F k)))∨(J.m τ=some o∧o.gJ=none∧ ∀ds,o≠ .box ds):=fun{τ o} h=>by
  cases hm:J.m τ with
  |none=>rw[Mx hm]at h;cases h
  |some o1=>
   cases o1 with
   |row g e es=>
    rw[Vl hm]at h;split at h<;>cases h;exact .inl ⟨g,e,es,rfl,rfl,by assumption⟩
   |box ds=>
    rw[mBx hm]at h;split at h
    ·rename_i hex;cases h;obtain⟨vs',g1,g2⟩:=Classical.choose_spec hex;exact .inr (.inl ⟨ds,rfl, .inr ⟨_,vs',g1,g2,rfl⟩⟩)
    ·cases h;exact .inr (.inl ⟨ds,rfl, .inl rfl⟩)
   |map es=>
    rw[same hm rfl fun _ h=>by cases h]at h;cases h;exact .inr (.inr ⟨rfl,rfl,fun _ h=>by cases h⟩)
   |iter u k s=>
    rw[same hm rfl fun _ h=>by cases h]at h;cases h;exact .inr (.inr ⟨rfl,rfl,fun _ h=>by cases h⟩)
   |raw q=>
    rw[same hm rfl fun _ h=>by cases h]at h;cases h;exact .inr (.inr ⟨rfl,rfl,fun _ h=>by cases h⟩)
 have src: ∀{τ:Tok} {o:HO},m' τ=some o→ ∃o0,J.m τ=some o0∧o0.gJ=o.gJ:=fun{τ o} h=>by
  rcases wV h with⟨g,e,es,hm,rfl,_⟩|⟨ds,hm,rfl|⟨k,vs,_,_,rfl⟩⟩|⟨hm,_⟩
  ·exact⟨_,hm,rfl⟩
  ·exact⟨_,hm,rfl⟩
  ·exact⟨_,hm,rfl⟩
  ·exact⟨_,hm,rfl⟩
 have apart: ∀{k e:Nat} {es:List (List D)} {b cap c:Nat} {τ:Tok} {o:HO},Fz k e es→tk (ι k)=some (b,cap)→m' τ=some o→tk τ=some (b,c)→False:=fun{k e es b cap c τ o} hz ht ho hτ=>by
  obtain⟨sz,cc,hf,hi,hm,_⟩:=hz;have hg:Fg (γ k):=⟨k,e,sz,cc,hf,hi,rfl⟩;obtain⟨o0,h0,hgr⟩:=src ho;rcases R.mem.inj τ (ι k) o0 _ b c cap h0 hm hτ ht with h|⟨h1,h2⟩
  ·subst h;rcases wV ho with⟨g,e',es',hm',_,hn⟩|⟨ds,hm',_⟩|⟨hm',hg',_⟩
   ·rw[hm]at hm';cases hm';exact hn hg
   ·rw[hm]at hm';cases hm'
   ·rw[hm]at hm';cases hm';cases hg'
  ·rcases wV ho with⟨g,e',es',hm',rfl,hn⟩|⟨ds,hm',h3⟩|⟨hm',hg',_⟩
   ·rw[hgr]at h2;simp only[HO.gJ,Jz]at h2;exact hn (h2▸hg)
   ·rw[hm']at h0;cases h0;cases h1
   ·rw[hm']at h0;cases h0;rw[hg']at h1;cases h1
 refine⟨⟨S,m',J.c⟩, ?_,w,pr',⟨bX tk m',A.z,A.sv⟩,tk,⟨R.size,cW.refl _ _,fun b o h=> ?_,fun b o h hb=> ?_,R.glob.keeps K.cell,⟨fun τ o h=> ?_,fun τ τ' o o' b c c' h h' ht ht'=> ?_⟩,fun τ o b c h ht=> .inr ⟨τ,o,c,h,ht⟩,R.fresh,R.zero,R.one,fun i hi=>(hSl i).2 _ (R.slot i hi),fun i hi=>(hSl i).2 _ (R.sav i hi)⟩,
  ⟨U.chg.trans R.chg fun b hb h=>U.sub b hb h,fun b hb h=> ?_,U.z,U.sv,fun b o h=> .inl (U.sup b o h),fun b o h=> ?_⟩⟩
 ·refine⟨fun i v hv=> ?_,fun k vs hk=> ?_,fun k e sz c hk=> ?_,fun k c hk=> ?_,fun k e sz c hk=> ?_,fun k k' e e' sz sz' c c' h1 h2=> ?_,fun k kk hk=> ?_,fun a b o o' h1 h2=> ?_,fun a b e e' sz sz' c c' h1 h2=> ?_,fun x k r hk=> ?_,fun k e sz c hk=> ?_,M.nv,fun t ht=> ?_,fun k m0 d hk=> ?_⟩
  ·simp only[Sy.nP,dh]at hv;obtain⟨v0,hv0,rfl⟩:=Mz.1 hv;exact(hSl i).1 v0 hv0
  ·obtain⟨o0,h0,h1,h2⟩:=cu Y hk;cases o0<;>simp only[nO,SO.box.injEq,reduceCtorEq]at h1;subst h1;obtain⟨ds,g0,_,_⟩:=M.box k _ h0;exact⟨F k,g0,aaU h0,(hF k _ h0).1⟩
  ·obtain⟨o0,h0,h1,h2⟩:=cu Y hk;cases o0<;>simp only[nO,reduceCtorEq]at h1;exact absurd rfl (h2 _ _ _)
  ·obtain⟨o0,h0,h1,h2⟩:=cu Y hk;cases o0<;>simp only[nO,SO.map.injEq,reduceCtorEq]at h1;subst h1;obtain⟨es,g1,g2,g3⟩:=M.mpo k _ h0;exact⟨es,g1,g2,same g3 rfl fun _ h=>by cases h⟩
  ·obtain⟨o0,h0,h1,h2⟩:=cu Y hk;cases o0<;>simp only[nO,SO.bL.injEq,reduceCtorEq]at h1;obtain⟨rfl,rfl,rfl⟩:=h1;obtain⟨L,g1,g2,g3,g4⟩:=M.own k _ _ _ h0;refine⟨L,g1,g2,same g3 rfl (fun _ h=>by cases h),fun q hq=>(g4.1 q hq).eP ?_ (fun j o hj=>let⟨o0,h0,_⟩:=cu Y hj;(g4.1 q hq).2.2.2.1 j o0 h0) (fun _ j e sz c hj=> ?_) fun _=>Nat.le_refl _,g4.2⟩
   ·have key: ∀e sz,J.m q.u=some (q.ob e sz)→(sz≠0→ ∀k e sz c,find Y.h k=some (.aA e sz c)→ι k≠ []→γ k≠q.g)→m' q.u=J.m q.u:=fun e sz hb hg5=>by
     unfold OE.ob at hb;by_cases hz:sz=0
     ·rw[if_pos hz]at hb;rw[mBx hb,dif_neg,hb];rintro⟨j,vs,hj,hi⟩;exact(g4.1 q hq).2.2.2.1 j _ hj hi
     ·rw[if_neg hz]at hb;rw[hb];refine(Vl hb).trans (if_neg ?_);rintro⟨j,e',sz',c',hj,hi,hg⟩;exact hg5 hz j _ _ _ hj hi hg
    exact key _ _ (g4.1 q hq).2.2.1 (g4.1 q hq).2.2.2.2.1
   ·obtain⟨o0,h0,h1,h2⟩:=cu Y hj;cases o0<;>simp only[nO,reduceCtorEq]at h1;exact absurd rfl (h2 _ _ _)
  ·obtain⟨o0,h0,h1,_⟩:=cu Y h1;obtain⟨o3,h3,h4,_⟩:=cu Y h2;cases o0<;>simp only[nO,SO.bL.injEq,reduceCtorEq]at h1;cases o3<;>simp only[nO,SO.bL.injEq,reduceCtorEq]at h4;exact M.one _ _ _ _ _ _ _ _ h0 h3
  ·obtain⟨o0,h0,h1,h2⟩:=cu Y hk;cases o0<;>simp only[nO,SO.raw.injEq,reduceCtorEq]at h1;subst h1;obtain⟨g1,g2,g3,g4⟩:=M.rwo k _ h0;exact⟨g1,g2,same g3 rfl (fun _ h=>by cases h),g4⟩
  ·obtain⟨o0,h0,_,_⟩:=cu Y h1;obtain⟨o3,h3,_,_⟩:=cu Y h2;exact M.inj a b _ _ h0 h3
  ·obtain⟨o0,h0,h1,h2⟩:=cu Y h1;cases o0<;>simp only[nO,reduceCtorEq]at h1;exact absurd rfl (h2 _ _ _)
  ·exact Mx (M.wf x k r hk)
  ·obtain⟨o0,h0,h1,h2⟩:=cu Y hk;cases o0<;>simp only[nO,reduceCtorEq]at h1;exact absurd rfl (h2 _ _ _)
  ·exact same (M.con t ht) rfl fun _ h=>by cases h
  ·obtain⟨o0,h0,h1,h2⟩:=cu Y hk;cases o0<;>simp only[nO,SO.itr.injEq,reduceCtorEq]at h1;obtain⟨rfl,rfl⟩:=h1;have H:=M.itr k _ _ h0;obtain⟨_,_,_,_,H2,_⟩:=id H;refine H.eP rfl ((same H2 rfl (fun _ h=>by cases h)).trans H2.symm) (fun _ _ h=>h) fun m' o' _ hf2 ho=>⟨rfl,⟨nO Y.h o',kU Y hf2 (fun _ _ _ h=>by rw[h]at ho;cases ho),by cases o'<;>first|exact ho|cases ho⟩,fun es h=>⟨es,same h rfl (fun _ h=>by cases h),rfl⟩⟩
 ·rcases h with h|⟨k,e,es,cap,⟨sz,c,hf,hi,hm,hr⟩,ht,_⟩
  ·exact R.uL b o h
  ·obtain⟨b1,c1,g1,g2⟩:=(R.mem.obj (ι k) _ hm).place;rw[ht]at g1;cases g1;exact g2
 ·obtain⟨τ,o',c,ho,ht⟩:=hb;rcases h with h|⟨k,e,es,cap,hz,htq,_⟩
  ·obtain⟨o0,h0,_⟩:=src ho;exact R.free h0 ht h
  ·exact apart hz htq ho ht
 ·replace h:m' τ=some o:=h
  rcases wV h with⟨g,e,es,hm,rfl,_⟩|⟨ds,hm,rfl|⟨k,vs,hf,rfl,rfl⟩⟩|⟨hm,_⟩
  ·exact(R.mem.obj τ _ hm).keeps K fun _ _ _=>rfl
  ·exact(R.mem.obj τ _ hm).keeps K fun _ _ _=>rfl
  ·obtain⟨b,cap,C,ty,h1,h2,h3,h4,h5⟩:=R.mem.obj (ι k) _ hm;obtain⟨_,hb⟩:=hF k vs hf;obtain⟨hl,hg⟩:=hb ds hm;exact⟨b,cap,C,ty,h1,h2,h3.trans hl.symm,h4,fun i c x hc hx=>let⟨d,hd,hr⟩:=hg i x hx;hr c (h5 i c d hc hd)⟩
  ·exact(R.mem.obj τ _ hm).keeps K fun _ _ _=>rfl
 ·obtain⟨o0,h0,g0⟩:=src h;obtain⟨o1,h1,g1⟩:=src h';rw[←g0,←g1];exact R.mem.inj τ τ' o0 o1 b c c' h0 h1 ht ht'
 ·obtain⟨τ,o',c,ho,ht⟩:=h;obtain⟨o0,h0,_⟩:=src ho;rcases R.live τ o0 b c h0 ht with h|h
  ·omega
  ·exact U.sub b hb h
 ·rcases h with h|⟨k,e,es,cap,⟨sz,c,hf,hi,hm,hr⟩,ht,_⟩
  ·exact U.inf b o h
  ·rcases R.live (ι k) _ b cap hm ht with h|h
   ·exact .inr (.inl (by omega))
   ·rcases Nat.lt_or_ge b B.w.heap.size with hb|hb
    ·exact .inr (.inr (U.sub b hb h))
    ·exact .inr (.inl hb)
end
end
section
section
variable {P : Program} {B : eo} {n : Nat} {r : Option Nat} {G : FP} {N : Nat} {dr : D} {Ω : bz}
theorem Kv{h:List (Nat×SO)}{nm:Nat}{p:yD}{v:SV}{x:List X×Ren}(hx:mM h nm p v=some x):x.1.length=gQ [(nm,p)]:=by
 cases p with
 |drop=>simp only[mM]at hx;cases hx;rfl
 |same v'=>simp only[mM]at hx;split at hx<;>cases hx;rfl
 |var=>simp only[mM]at hx;obtain⟨y,_,hy⟩:=Mz.1 hx;cases hy;rfl
 |aA e sz=>
  cases v
  case gl n sz'=>
   simp only[mM]at hx;split at hx
   ·split at hx<;>cases hx;rfl
   ·cases hx
  case x ex=>
   cases ex
   case q dq=>
    cases dq
    case nil=>simp only[mM]at hx;cases hx;rfl
    all_goals (simp[mM]at hx;done)
   all_goals (simp[mM]at hx;done)
  all_goals (simp[mM]at hx;done)
theorem v8{h:List (Nat×SO)}: ∀{r:Row} {v:List SV} {x:List X×Ren},fO h r v=some x→x.1.length=gQ r
 | [],v,x,h1=>by cases v<;>simp[fO]at h1;rw[←h1];rfl
 |(nm,p)::r,[],x,h1=>by simp[fO]at h1
 |(nm,p)::r,u::v,x,h1=>by
  simp only[fO,Bz,Mz]at h1;obtain⟨a1,b1,a2,b2,rfl⟩:=h1;rw[List.length_append,v8 b2,Kv b1];cases p<;>simp[gQ]<;>omega
theorem Hd.xD{hd:Hd}{Y:Sy}{q:List X×Ren}(h:hd.mt Y=some q):q.1.length=gQ hd.row:=by
 simp only[Hd.mt]at h;split at h
 ·simp only[Bz]at h;obtain⟨_,_,b1,_,x1,g1,g2⟩:=h;split at g2<;>cases g2;exact v8 g1
 ·cases h
theorem uF{α:Type}{F:Fence}{m:Nat}{c:Code}{Q:Exit→Act→World→Prop}{a:Act}{w:World}(I:α→Act→World→Prop)(μ:α→Nat){x:α}(h₀:I x a w)
  (round: ∀x a w,I x a w→c.wpIn F m P (Exit.then (fun a' w'=> ∃y,I y a' w'∧μ y<μ x) Q) a w):(Code.loop c).wpIn F m P Q a w:=by
 intro b k cs hro hb hr
 have key: ∀j x a w,μ x=j→I x a w→
   ∃e a' w',Q e a' w'∧ArrivesIn (Machine.fenced P F) P (lone (b.atR a (.code c:: .inLoop c::k)) cs w) b k cs e a' w':=by
  intro j
  induction j using Nat.strongRecOn with
  |_ j ih=>
   intro x a w hn hI;obtain⟨e,a₁,w₁,hq,zC⟩:=round x a w hI b (.inLoop c::k) cs hro hb hr;cases e with
   |normal=>
    obtain⟨y,hI₁,hlt⟩:=hq;obtain⟨e₂,a₂,w₂,hq₂,JP⟩:=ih (μ y) (hn▸hlt) y a₁ w₁ rfl hI₁;exact⟨e₂,a₂,w₂,hq₂, .of_steps (StepsIn.trans zC (.one (fenced_calm hb hr rfl) stepR_inLoop)) JP⟩
   |exit id=>exact⟨_,a₁,w₁,hq, .pass (x:= .inLoop c) rfl (fun _ _=> .inl (by simp)) zC⟩
   |goto l=>exact⟨_,a₁,w₁,hq, .pass (x:= .inLoop c) rfl (fun _ _=> .inl (by simp)) zC⟩
   |ret=>exact⟨_,a₁,w₁,hq, .pass (x:= .inLoop c) rfl (fun _ _=> .inl (by simp)) zC⟩
   |panic ch=>exact⟨_,a₁,w₁,hq, .pass (x:= .inLoop c) rfl (fun _ _=> .inl (by simp)) zC⟩
   |outgrown=>exact⟨_,a₁,w₁,hq, .pass (x:= .inLoop c) rfl (fun _ _=> .inl (by simp)) zC⟩
 obtain⟨e,a',w',hq,zC⟩:=key _ x a w rfl h₀;exact⟨e,a',w',hq, .of_steps (.one (fenced_calm hb hr rfl) stepR_loop) zC⟩
def lL(P:Program)(B:eo)(n:Nat)(G:FP)(N:Nat)(dr:D)(Ω0:bz)(S:List Nat)(Ω:bz)(κ:Sy→FT)(L:List (List D→Option D))(E:List D)(Q:Act→World→Prop):Prop:=
 ∀(Ω':bz) (Y':Sy) (L':List (List D→Option D)) (E':List D) (ι':Im) (γ':Nat→Tok) (J':St) (a':Act) (w':World),Ω.le S Ω'→Mt Ω' G E' ι' γ' Y' J'→bW P B n w' a'.tmps J'→DM Ω0 Ω' a'.defers→L'.length=Y'.d→
  (∃pre,L'=pre++L)→(∃suf,E'=E++suf)→aa G N (κ Y') L' E'=some dr→Q a' w'
abbrev ZI(P:Program)(B:eo)(n:Nat)(G:FP)(N:Nat)(dr:D)(Ω0:bz)(S:List Nat)(Ω:bz)(κ:VE→Sy→FT)(L:List (List D→Option D))(E:List D)(Q:Exit→Act→World→Prop):Prop:=
 ∀e:VE,lL P B n G N dr Ω0 S Ω (κ e) L E (Q e.ex)
theorem lL.more{Ω0 Ω Ω1:bz}{S:List Nat}{κ:Sy→FT}{L pre:List (List D→Option D)}{E suf:List D}{Q:Act→World→Prop}(h:lL P B n G N dr Ω0 S Ω κ L E Q)(hΩ:Ω.le S Ω1):lL P B n G N dr Ω0 S Ω1 κ (pre++L) (E++suf) Q:=by
 rintro Ω' Y' L' E' ι' γ' J' a' w' hle M' R' hd' hL' ⟨abo,rfl⟩ ⟨abE,rfl⟩ he;exact h Ω' Y' _ _ ι' γ' J' a' w' (hΩ.trans hle) M' R' hd' hL' ⟨abo++pre,by simp⟩ ⟨suf++abE,by simp⟩ he
def gL(P:Program)(G:FP)(N:Nat)(dr:D)(yl:Yh)(V:Nat→Value)(m:Nat)(Ω:bz):Prop:=
 ∀{S:List Nat} {Bc:eo} {Ω0 Ω':bz} {nm off n0:Nat} {vs:List SV} {x:Option Nat} {Z:Sy} {κ:Sy→FT} {L:List (List D→Option D)} {E:List D} {ι:Im} {γ:Nat→Tok} {J:St} {w1 w:World} {pr:aT} {A:gZ} {tk:ag} {a:Act} {cargs:Array Value} {ds:List D} {next:Act→World→Prop},
  nm∈yl.S→(∀x,x∈yl.S→x∈S)→Ω.le yl.S Ω'→(∀i,m≤i→n0≤off+i∧Bc.A.sv (off+i)=V i)→Mt Ω' G E ι γ Z J→Rel P w1 pr A n0 w a.tmps J tk→iI Bc w1 pr A→aX w pr tk cargs.toList ds→bA G E ι Z.h vs ds→(∀i,x=some i→i<n0)→DM Ω0 Ω' a.defers→L.length=Z.d→
  aa G N (yl.run S nm off vs x n0 Z κ) L E=some dr→lL P Bc n0 G N dr Ω0 S Ω' κ L E next→
  ∀r:Option Nat,∃l fnl tmps assign body,Ω'.t nm= [l+1]∧(Instr.yield l cargs).run P w= .ok (.round l fnl tmps assign body) w∧RoundIn (wF r) 0 P l fnl tmps assign body w (fun e w'=> ∃v,e= .returned v∧next (a.put x v) w')
theorem gL.mono{yl:Yh}{V:Nat→Value}{m:Nat}{Ω Ω1:bz}(h:gL P G N dr yl V m Ω)(k:Ω.le yl.S Ω1):gL P G N dr yl V m Ω1:=
 fun h1 hS h2 h3=>h h1 hS (k.trans h2) h3
theorem gL.push{yl:Yh}{V V':Nat→Value}{m m' k:Nat}{Ω:bz}(h:gL P G N dr yl V m Ω)(hV: ∀j,m≤j→m'≤k+j∧V' (k+j)=V j):gL P G N dr (yl.push k) V' m' Ω:=
 fun{S Bc Ω0 Ω' nm off n0} {vs x Z κ L E ι γ J w1 w pr A tk a cargs ds next} h1 hS h2 h3=>h (off:=off+k) h1 hS h2 fun j hj=>by
  grind
theorem gL.acq{yl:Yh}{V V':Nat→Value}{m m':Nat}{Ω:bz}(h:gL P G N dr yl V m Ω)(hm:m'≤m)(hV: ∀j,m≤j→V' j=V j):gL P G N dr yl V' m' Ω:=
 fun h1 hS h2 h3=>h h1 hS h2 fun j hj=>⟨(h3 j (by omega)).1,(h3 j (by omega)).2.trans (hV j hj)⟩
theorem gL.under{yl:Yh}{V V':Nat→Value}{m m' k:Nat}{Ω:bz}{S:List Nat}(h:gL P G N dr yl V m Ω)(hS: ∀x,x∈yl.S→x∈S)(hV: ∀j,m≤j→m'≤k+j∧V' (k+j)=V j):gL P G N dr (yl.under S k) V' m' Ω:=by
 intro S' Bc Ω0 Ω' nm off n0 vs x Z κ L E ι γ J w1 w pr A tk a cargs ds next h1 hS' h2 h3 M R U hr hv hx hd hL he hκ
 simp only[Yh.under]at he;split at he
 ·rename_i hc
  exact h (off:=off+k) (by simpa using hc) (fun x hx=>hS' x (hS x hx)) (h2.sub hS) (fun j hj=>by
   obtain⟨g1,g2⟩:=hV j hj;obtain⟨g3,g4⟩:=h3 (k+j) g1;rw[Nat.add_assoc]
   exact⟨g3,g4.trans g2⟩) M R U hr hv hx hd hL he hκ
 ·cases he
def qm(P:Program)(G:FP)(N:Nat)(dr:D)(inl:FH):Prop:=
 ∀{yl:Yh} {B:eo} {Ω0 Ω:bz} {f n:Nat} {vs:List SV} {x:Option Nat} {Y:Sy} {κ:Sy→FT} {L:List (List D→Option D)} {E:List D} {ι:Im} {γ:Nat→Tok} {J:St} {w1 w:World} {pr:aT} {A:gZ} {tk:ag} {a:Act} {cargs:Array Value} {ds:List D} {next:Act→World→Prop},
  gL P G N dr yl (gR 0 n a.tmps B.A.sv) 0 Ω→Mt Ω G E ι γ Y J→Rel P w1 pr A n w a.tmps J tk→iI B w1 pr A→aX w pr tk cargs.toList ds→bA G E ι Y.h vs ds→(∀i,x=some i→i<n)→DM Ω0 Ω a.defers→L.length=Y.d→aa G N (inl yl f vs x n Y κ) L E=some dr→
  lL P B n G N dr Ω0 yl.S Ω κ L E next→cX P f∧Calls P f cargs w fun e w'=> ∃v,e= .returned v∧next (a.put x v) w'
theorem mB{v:D}{b:Bool}(h:v.asBool=some b):v= .v (.bool b):=by
 cases v<;>simp only[D.asBool]at h<;>try (cases h;done)
 grind
theorem Mt.Gi{E:List D}{ι:Im}{γ:Nat→Tok}{Y:Sy}{J:St}(M:Mt Ω G E ι γ Y J){d:Nat}:Mt Ω G E ι γ {Y with d:=d} J:=M.sub (fun _ _ h=>h) (fun _=>rfl) rfl
theorem jC{E:List D}: ∀(x:X) {d:D},fC x=true→X.ev G E x=some d→ ∃b,d=bv b
 | .t _,d,h,_=>by simp[fC]at h
 | .q v,d,h,he=>by
  cases v with
  |v y=>cases y with
   |bool b=>exact⟨b,(Option.some.inj he).symm⟩
   |_=>simp[fC]at h
  |_=>simp[fC]at h
 | .ite c a b,d,h,he=>by
  simp only[fC,Az]at h;simp only[X.ev,Bz]at he;obtain⟨v,_,x,_,h3⟩:=he;cases x
  ·exact jC b h.2 h3
  ·exact jC a h.1 h3
 | .mk k xs,d,h,he=>by
  obtain⟨ds,_,h2⟩:=aH he;cases k with
  |gv w=>
   simp only[XK.run]at h2
   grind
  |pk k=>
   simp only[XK.run,Bz]at h2;obtain⟨d0,h3,h4⟩:=h2;split at h4<;>cases h4;cases k with
   |ibin op=>
    simp only[PK.run]at h3;unfold g_ at h3;split at h3
    ·split at h3
     ·cases op<;>simp only[fC,L_,Bool.false_eq_true]at h<;>(simp only[cN]at h3;cases h3;exact⟨_,rfl⟩)
     ·cases h3
    ·cases h3
   |inot=>simp only[PK.run]at h3;unfold QZ at h3;split at h3<;>first|(cases h3;exact⟨_,rfl⟩)|cases h3
   |beq n=>simp only[PK.run]at h3;unfold Pb at h3;split at h3<;>first|(cases h3;exact⟨_,rfl⟩)|cases h3
   |seq n=>simp only[PK.run]at h3;unfold RC at h3;split at h3<;>first|(cases h3;exact⟨_,rfl⟩)|cases h3
   |aeq n ks=>
    simp only[PK.run]at h3;unfold Jk at h3;split at h3
    ·obtain⟨r,_,rfl⟩:=Mz.1 h3;exact⟨_,rfl⟩
    ·cases h3
   |snil n=>
    simp only[PK.run]at h3;unfold DR at h3
    grind
   |pnil n=>
    simp only[PK.run]at h3;unfold DD at h3
    grind
   |_=>simp[fC]at h
  |_=>simp[fC]at h
theorem o7{Y:Sy}{E:List D}{ι:Im}{γ:Nat→Tok}{J:St}(M:Mt Ω G E ι γ Y J){e:X}(h:X.ev G E e=some (bv false)):Mt Ω G E ι γ (Y.fZ e) J:=by
 unfold Sy.fZ;split
 ·rename_i w g;split
  ·rename_i hb;refine M.nT rfl rfl fun i v hv=> ?_;simp only[dh]at hv;obtain⟨u,hu,rfl⟩:=Mz.1 hv;have H:=M.slot i u hu;unfold fZ;split
   ·rename_i e';split
    ·rename_i he;obtain rfl:=aF _ _ he;obtain⟨h1,_⟩:=H.bQ;obtain⟨b,hd⟩:=jC e' hb h1;obtain⟨ds,a1,a2⟩:=aH h;obtain⟨dj,rfl,a3⟩:=iP a1;simp only[XK.run]at a2;rw[hd];have:b= !w:=by cases b<;>cases w<;>simp_all
     rw[this];exact .x rfl rfl
    ·exact H
   ·exact H
  ·exact M
 ·exact M
theorem dW{E:List D}{ι:Im}{γ:Nat→Tok}{Y:Sy}{J:St}(M:Mt Ω G E ι γ Y J){g:Option (Option (Nat×Bool))}{q:GV}(h:guardOf Y g=some q):
  ∃g',g=some g'∧match q with
   | .go b=>bG J g'=some b
   | .ask e=> ∀d,X.ev G E e=some d→ ∃b,d=bv b∧bG J g'=some b:=by
 cases g with
 |none=>cases h
 |some g'=>
  cases g' with
  |none=>cases h;exact⟨none,rfl,rfl⟩
  |some p=>
   obtain⟨j,w⟩:=p;refine⟨_,rfl, ?_⟩;simp only[guardOf]at h;split at h
   ·rename_i b hg;cases h;obtain⟨k1,_⟩:=(M.slot j _ hg).bQ;have:J.s j= .v (.bool b):=(Option.some.inj (show some (D.v (.bool b))=some (J.s j)from k1)).symm;simp[bG,this]
   ·rename_i g hg;cases h;intro d hd;obtain⟨ds,a1,a2⟩:=aH hd;obtain⟨dj,rfl,a3⟩:=iP a1;obtain⟨k1,k2⟩:=(M.slot j _ hg).bQ;rw[k1]at a3;cases a3;simp only[XK.run]at a2;split at a2
    ·rename_i b heq;simp only[List.cons.injEq]at heq;cases a2;exact⟨_,rfl,by simp[bG,heq]⟩
    ·rename_i heq;simp only[List.cons.injEq]at heq;cases a2;exact⟨_,rfl,by simp[bG,heq]⟩
    ·cases a2
   ·cases h
theorem Fe{Y:Sy}{x:Option Nat}{v:SV}:Y.cC (Y.iy x v):=by cases x<;>exact⟨rfl,rfl⟩
theorem wU{Ω:bz}{fr:mZ}{o:Oper}{Y:Sy}{tg:Tg}{vs:List SV}(h:pz fr n o Y=some (tg,vs)){E:List D}{ι:Im}{γ:Nat→Tok}{J:St}(M:Mt Ω G E ι γ Y J){w1 w:World}{pr:aT}{A:gZ}{tk:ag}{a:Act}(R:Rel P w1 pr A n w a.tmps J tk):
  (∀i,o.dst=some i→i<n)∧mN o.op=true∧ ∃cargs ds,aX w pr tk cargs.toList ds∧bA G E ι Y.h vs ds∧match tg with
   | .fn f=>cX P f→(execOp a.eval o).run P w= .ok (.enter f cargs) w
   | .yld nm=>(∃k,find Y.h nm=some (.raw k))∧ ∀l,ι nm= [l+1]→(execOp a.eval o).run P w=(Instr.yield l cargs).run P w:=by
 have uB: ∀(gs:List aM),bA G E ι Y.h (gs.map (bH Y)) (gs.map (aM.val J.s)):=fun gs=>
  ⟨by simp,fun i v d hv hd=>by
   rw[Dz,Mz]at hv hd;obtain⟨g,hg,rfl⟩:=hv;obtain⟨g',hg',rfl⟩:=hd;rw[hg]at hg';cases hg'
   exact ay M g⟩
 unfold pz at h;split at h
 ·rename_i c ho;split at h
  ·rename_i bw;have hx: ∀i,o.dst=some i→i<n:=fun i hi=>by rw[hi]at bw;simpa using bw
   refine⟨hx,by rw[ho];rfl, ?_⟩;split at h
   ·rename_i f' hc;split at h
    ·obtain⟨gs,hgs,h2⟩:=Mz.1 h;cases h2;exact⟨c.args.map a.eval,gs.map (aM.val J.s),by simpa using eS R hgs,uB gs,fun hb=>by simp[execOp,ho,resolve,hc,Act.eval,Deferred.ofValue,invoke,bI hb]⟩
    ·cases h
   ·rename_i t hc;split at h
    ·rename_i ht;split at h
     ·rename_i f' eT hf;split at h
      ·rename_i Bq;split at h
       ·obtain⟨gs,hgs,h2⟩:=Mz.1 h;cases h2;have H:=M.slot _ _ hf;have hfv:=R.slot t ht;generalize hJ:J.s t=dt at H hfv;cases H with
        | @clo _ _ ds hl hh=>
         have hev:a.eval (.tmp t)=a.tmps.getD t undef:=rfl;generalize a.tmps.getD t undef=fv at hfv hev;cases hfv with
         | @clo _ _ cv _ _ hs hr=>
          refine⟨c.args.map a.eval++cv,gs.map (aM.val J.s)++ds, ?_, ?_,fun hb=>by simp[execOp,ho,resolve,hc,hev,Deferred.ofValue,invoke,bI hb]⟩
          ·rw[Array.toList_append];exact ju (by simpa using eS R hgs) (mR (by simpa using hs) fun i c x hc hx=>hr i c x (by simpa using hc) hx)
          ·exact(uB gs).append ⟨hl,hh⟩
         |bclo=>omega
       ·cases h
      ·rename_i Bq;split at h
       ·obtain⟨gs,hgs,h2⟩:=Mz.1 h;cases h2;have H:=M.slot _ _ hf;have hfv:=R.slot t ht;generalize hJ:J.s t=dt at H hfv;cases H with
        | @clo _ _ ds hl hh=>
         have hev:a.eval (.tmp t)=a.tmps.getD t undef:=rfl;generalize a.tmps.getD t undef=fv at hfv hev;generalize hfq:f'=fq at hfv;cases hfv with
         |clo=>omega
         | @bclo _ f2 cv _ hs hr=>
          have e2:f2+1000000-1000000=f2:=by omega
          rw[e2];refine⟨cv++c.args.map a.eval,ds++gs.map (aM.val J.s), ?_, ?_,fun hb=>by simp[execOp,ho,resolve,hc,hev,Deferred.ofValue,invoke,bI hb]⟩
          ·rw[Array.toList_append];exact ju (mR (by simpa using hs) fun i c x hc hx=>hr i c x (by simpa using hc) hx) (by simpa using eS R hgs)
          ·exact bA.append ⟨hl,hh⟩ (uB gs)
       ·cases h
     ·rename_i nm hf;obtain⟨gs,hgs,h2⟩:=Mz.1 h;cases h2;have H:=M.slot _ _ hf;have hfv:=R.slot t ht;generalize hJ:J.s t=dt at H hfv;cases H with
      |yl lI=>
       obtain⟨hev,_⟩:=aP.1 hfv;have P1:a.eval (.tmp t)= .func (.yield ((ι nm).headD 0-1)) #[] #[]:=hev;refine⟨c.args.map a.eval,gs.map (aM.val J.s),by simpa using eS R hgs,uB gs,⟨_,lI⟩,fun l hl=> ?_⟩;rw[hl]at P1;simp only[List.headD_cons,Nat.add_sub_cancel]at P1;simp[execOp,ho,resolve,hc,P1,Deferred.ofValue,invoke]
     ·cases h
    ·cases h
   ·cases h
  ·cases h
 ·cases h
theorem qA: ∀{l:List Nat} {i j:Nat},l.Nodup→l[j]?=some i→l.filter (fun a=>a !=i)=l.eraseIdx j
 | [],i,j,_,h=>by simp at h
 |a::r,i,j,hn,h=>by
  have hn:=List.nodup_cons.1 hn;cases j with
  |zero=>
   simp only[List.getElem?_cons_zero,Jz]at h;subst h;rw[List.eraseIdx_cons_zero,List.filter_cons_of_neg (by simp)];exact List.filter_eq_self.2 fun b hb=>by simpa using fun e:b=a=>hn.1 (e▸hb)
  |succ j=>
   simp only[List.getElem?_cons_succ]at h;rw[List.eraseIdx_cons_succ,List.filter_cons_of_pos (by simpa using fun e:a=i=>hn.1 (e▸Lz h)),qA hn.2 h]
theorem vW{f:Nat→List D}: ∀{l:List Nat} {j:Nat},(l.map f).eraseIdx j=(l.eraseIdx j).map f
 | [],_=>by simp
 |_::_,0=>by simp
 |_::r,j+1=>by simp[vW (l:=r) (j:=j)]
theorem EM{k i:Nat}{seen:List Nat}(hk:i<k)(hs:i∉seen): ∃r L j,lB k seen=r::L∧L[j]?=some [iv (i:Int)]∧lB k (seen++ [i])= [iv (i:Int)]::L.eraseIdx j:=by
 have hm:i∈(List.range k).filter fun a=> !seen.contains a:=by simp[hk,hs]
 obtain⟨j,hj⟩:=List.getElem?_of_mem hm;refine⟨_,_,j,rfl,by rw[Dz,hj];rfl, ?_⟩
 have e1:((List.range k).filter fun a=> !(seen++ [i]).contains a)=((List.range k).filter fun a=> !seen.contains a).eraseIdx j:=by
  rw[←qA (List.nodup_range.filter _) hj,List.filter_filter];congr 1;funext a;by_cases h:a=i<;>simp[h,hs]
 have e2:vT (seen++ [i])=iv (i:Int):=by simp[vT]
 rw[vW];simp only[lB,e1,e2]
theorem EL{k:Nat}{seen:List Nat}(h: ∀i,i<k→i∈seen):lB k seen= [[vT seen]]:=by
 have:((List.range k).filter fun a=> !seen.contains a)= []:=List.filter_eq_nil_iff.2 fun a ha=>by simp[h a (List.mem_range.1 ha)]
 simp only[lB,this,List.map_nil]
theorem Mt.nxt{Ω:bz}{E:List D}{ι:Im}{γ:Nat→Tok}{Y:Sy}{J:St}(M:Mt Ω G E ι γ Y J){x j m k i:Nat}{c:X}{seen:List Nat}{p q:D}(hf:find Y.h j=some (.itr (some m) c))(hm:J.m (ι j)=some (.iter (ι m) k seen)):
  Mt Ω G (E++ [.list (lB k (seen++ [i]))]) ι γ (Sy.set {Y with nv:=Y.nv+1,h:=bF j (.itr (some m) (.t Y.nv)) Y.h} x (.tup [.x (.q (bv true)), .un, .un])) ((J.put (ι j) (some (.iter (ι m) k (seen++ [i])))).set x (.tup [bv true,p,q])):=by
 obtain⟨h1,t,k',adi,h2,h3⟩:=M.itr _ _ _ hf;rw[hm]at h2;cases h2;obtain⟨_,⟨o,g2,g3⟩,_,es,g5,g6⟩:=h3 m rfl;have hne:ι m≠ι j:=fun e=>by rw[e,hm]at g5;cases g5
 have hmj:m≠j:=fun e=>hne (by rw[e]);have M1:=M.more (s:= [.list (lB k (seen++ [i]))])
 have M2:=M1.write (o:= .itr (some m) c) (o':= .itr (some m) (.t Y.nv)) (q:= .iter (ι m) k (seen++ [i])) (J':=J.put (ι j) (some (.iter (ι m) k (seen++ [i])))) hf h1 (M.wf.put (by rw[hm];simp)) rfl rfl (by simp[St.put])
  (fun k' o' hk hfk hik=>by
   have:ι k'≠ι j:=fun e=>hk (M.inj k' j _ _ hfk hf e hik)
   simp[St.put,this]) (fun t q h hne=>by simp only[St.put,if_neg hne];exact h) (fun q h=>by rw[hm]at h;cases h) trivial (fun q hq=>by simp only[St.put,if_neg (M1.jF hf hq)])
  ⟨h1,ι m,k,seen++ [i],by simp[St.put],fun m' e=>by
   cases e;refine⟨rfl,⟨o,by rw[ba,if_neg hmj];exact g2,g3⟩, ?_,es,by simp[St.put,hne,g5],g6⟩;simp only[X.ev]
   rw[Xz (by rw[M.nv];exact Nat.le_refl _),M.nv,Nat.sub_self];rfl⟩
 exact M2.set (.tup rfl fun j v d hv hd=>match j,hv,hd with
  |0,hv,hd=>by simp at hv hd;subst hv hd;exact .x rfl rfl
  |1,hv,hd=>by simp at hv;subst hv;exact .un
  |2,hv,hd=>by simp at hv;subst hv;exact .un
  |_+3,hv,hd=>by simp at hv)
theorem BM{Ω:bz}{E:List D}{ι:Im}{γ:Nat→Tok}{Y:Sy}{J:St}(M:Mt Ω G E ι γ Y J){m:Nat}{c:X}(h:HP Y.h m=some c): ∃o es rows,find Y.h m=some o∧o.uU=true∧J.m (ι m)=some (.map es)∧X.ev G E c=some (.list rows)∧rows.length=es.length:=by
 unfold HP at h;split at h<;>cases h
 ·rename_i hf;obtain⟨es,h1,_,h3⟩:=M.mpo _ _ hf;exact⟨_,es,_,hf,rfl,h3,h1,by simp[aG]⟩
 ·rename_i hf;obtain⟨L,h1,_,h3,_⟩:=M.own _ _ _ _ hf;exact⟨_,_,_,hf,rfl,h3,h1,by simp[aG]⟩
theorem Mt.J_{Ω:bz}{E:List D}{ι:Im}{γ:Nat→Tok}{Y:Sy}{J:St}(M:Mt Ω G E ι γ Y J){x nm m:Nat}{o:SO}{c:X}{es:List (D×D)}(F:Y.free nm)(hf:find Y.h m=some o)(ho:o.uU=true)(hes:J.m (ι m)=some (.map es))(hc:X.ev G E c=some (.list (lB es.length []))):
  Mt Ω G E (ι.set nm (J.tok x)) (fun n=>if n=nm then []else γ n) (Y.add x nm (.itr (some m) c) (.it nm)) (J.new x (.iter (ι m) es.length []) (.ptr (J.tok x) 0)):=by
 have hmn:m≠nm:=fun e=>by rw[e,F.1]at hf;cases hf
 have hmt:ι m≠J.tok x:=M.du x hf
 refine M.add F (t:=J.tok x) (g:= []) (M.wf.new x _ _) (fun j hj=>by rw[ef,if_neg hj]) (fun n o' h hi=>by rw[bT,if_neg (M.du x h)]) (fun y=>by rw[nj];split<;>omega) (fun t q h=>by rw[bT,if_neg (fun e=>by rw[e,M.wf.tok x]at h;cases h)];exact h) ?_
  ⟨by simp[lj],ι m,es.length,[],by simp[bT],fun m' e=>by
   cases e
   exact⟨by simp[hmn],⟨o,by rw[ba,if_neg hmn];exact hf,ho⟩,hc,es,by simp[bT,hmn,hmt,hes],rfl⟩⟩ (fun _ n o h=>M.du x h) (fun q hq=>⟨(M.bO x hq).1,fun _ h=>(by obtain⟨_,_,_,h⟩:=h;cases h),by rw[bT,if_neg (Ne.symm (M.bO x hq).1)]⟩)
 ·rw[ef,if_pos rfl];have:=VR.it (G:=G) (E:=E) (ι:=ι.set nm (J.tok x)) (h:=bF nm (.itr (some m) c) Y.h) (n:=nm) (o:= .itr (some m) c) (by rw[ba,if_pos rfl]) rfl;simpa using this
theorem Il{ops:Array Oper}{o:Oper}{Ω:bz}{E:List D}{ι:Im}{γ:Nat→Tok}{Y Y':Sy}{O:List X}{J:St}{a:Act}{w:World}{next:Act→World→Prop}{Q:Exit→Act→World→Prop}(hs:qj P n o Y=some (.rg Y' O))(M:Mt Ω G E ι γ Y J)(R:bW P B n w a.tmps J)(hO: ∀e∈O,∃d,X.ev G E e=some d)
  (h: ∀{a' w' J' ι' γ'},a'.defers=a.defers→Y'.d=Y.d→bW P B n w' a'.tmps J'→Mt Ω G E ι' γ' Y' J'→next a' w'):
  if Region.wanted o (yielded ops a.tmps)then Oper.rj r P o a w next Q else next (a.put o.dst undef) w:=by
 unfold qj at hs;split at hs
 ·rename_i t av x ho bw hgd;have hw:Region.wanted o (yielded ops a.tmps)=true:=by simp[Region.wanted,hgd]
  rw[if_pos hw];split at hs
  ·rename_i kt vt g hu hg;split at hs
   ·rename_i m hv;split at hs
    ·rename_i hx;obtain⟨c,hc,he⟩:=Mz.1 hs;cases he;obtain⟨M1,F⟩:=M.nw x;obtain⟨o1,es,rows,f1,f2,f3,f4,f5⟩:=BM M1 hc;obtain⟨w1,pr,A,tk,R1,U⟩:=R;have hr:=ay M1 g;rw[hv]at hr;have hd:g.val J.s= .mp (ι m):=by generalize g.val J.s=d at hr;cases hr;rfl
     have a6:=bo R1 hg;obtain⟨v,w',tk',h1,R'⟩:=KO R1 hx hu a6 (J':=J.new x (.iter (ι m) es.length []) (.ptr (J.tok x) 0)) (by rw[hd];simp only[Ru,f3]);refine bR (by rw[ho];rfl) (show(execOp a.eval o).run P w= .ok (.value v) w' by simp[execOp,ho,h1]) ?_;rw[bw];refine h (a':=a.put (some x) v) rfl rfl ⟨_,_,_,_,R',U⟩ (M1.J_ F f1 f2 f3 ?_);simp only[X.ev,X.bh,f4,Oz,Pz,XK.run,EZ,f5];have:(List.range es.length).filter (fun i=> !([]:List Nat).contains i)=List.range es.length:=List.filter_eq_self.2 fun _ _=>by simp
     simp only[lB,vT,this];rfl
    ·cases hs
   ·cases hs
  ·cases hs
 ·split at hs
  ·split at hs
   ·split at hs
    ·split at hs<;>cases hs
    ·cases hs
   ·cases hs
  ·cases hs
 ·cases hs
theorem HW{ops:Array Oper}{o:Oper}{Ω:bz}{E:List D}{ι:Im}{γ:Nat→Tok}{Y Y0 Y1:Sy}{c:X}{J:St}{a:Act}{w:World}{next:Act→World→Prop}{Q:Exit→Act→World→Prop}{K:List D→Sy→Prop}(hs:qj P n o Y=some (.nx c Y0 Y1))(M:Mt Ω G E ι γ Y J)(R:bW P B n w a.tmps J)
  (hK: ∃d,X.ev G E c=some d∧ ∃r L,d= .list (r::L)∧(L= []→K E Y0)∧ ∀i c,L[i]?=some c→K (E++ [.list (c::L.eraseIdx i)]) Y1)
  (h: ∀{a' w' J' E' Y'},a'.defers=a.defers→Y'.d=Y.d→bW P B n w' a'.tmps J'→Mt Ω G E' ι γ Y' J'→K E' Y'→next a' w'):
  if Region.wanted o (yielded ops a.tmps)then Oper.rj r P o a w next Q else next (a.put o.dst undef) w:=by
 unfold qj at hs;split at hs
 ·split at hs
  ·split at hs
   ·split at hs
    ·obtain⟨c,hc,he⟩:=Mz.1 hs;cases he
    ·cases hs
   ·cases hs
  ·cases hs
 ·rename_i av x ho bw hgd;have hw:Region.wanted o (yielded ops a.tmps)=true:=by simp[Region.wanted,hgd]
  rw[if_pos hw];split at hs
  ·rename_i g hg;split at hs
   ·rename_i j hv;split at hs
    ·rename_i m c0 hf;split at hs<;>cases hs;rename_i hx;obtain⟨_,t,k,seen,h2,h3⟩:=M.itr _ _ _ hf;obtain⟨rfl,_,h4,es,h5,h6⟩:=h3 m rfl;obtain⟨d,e1,r0,L,rfl,k1,k2⟩:=hK;rw[h4]at e1;injection e1 with e1
     injection e1 with e1
     obtain⟨w1,pr,A,tk,R1,U⟩:=R;have hr:=ay M g;rw[hv]at hr;have hd:g.val J.s= .ptr (ι j) 0:=by generalize g.val J.s=d at hr;cases hr;rfl
     have a6:=bo R1 hg
     obtain⟨v,w',J',g1,R',E',Y',M',K',hd'⟩:=KN (x:=x) (ty:=o.type) (K:=fun J'=> ∃E' Y',Mt Ω G E' ι γ Y' J'∧K E' Y'∧Y'.d=Y.d) R1 hx a6 (by
      rw[hd];refine⟨ι j,ι m,k,seen,es,rfl,h2,h5,h6,fun bS=> ?_,fun i p hp hi=> ?_⟩
      ·rw[EL bS]at e1;injection e1 with e2 e3
       refine⟨E,_,M.set (.tup rfl fun i v d hv hd=> ?_),k1 e3.symm,rfl⟩
       match i,hv,hd with
       |0,hv,hd=>simp at hv hd;subst hv hd;exact .x rfl rfl
       |_+1,hv,hd=>simp at hv
      ·obtain⟨r1,L1,j1,g1,g2,g3⟩:=EM (seen:=seen) (show i<k by rw[←h6];exact(Gz.1 hp).1) hi;rw[g1]at e1;injection e1 with e2 e3
       subst e3;have hk:=k2 j1 _ g2;rw[←g3]at hk
       exact⟨_,_,M.nxt hf h2,hk,rfl⟩)
     refine bR (by rw[ho];rfl) (show(execOp a.eval o).run P w= .ok (.value v) w' by simp[execOp,ho,g1]) ?_;rw[bw];exact h (a':=a.put (some x) v) rfl hd' ⟨_,_,_,_,R',U⟩ M' K'
    ·cases hs
   ·cases hs
  ·cases hs
 ·cases hs
theorem eU{Ω0:bz}{yl:Yh}{C:Cx}{inl:FH}{cf id:Nat}(hP:C.P=P)(hG:Sound P (bg G))(hI:qm P G N dr inl){ops:Array Oper}{Q:Exit→Act→World→Prop}{κ:Sy→FT}:
  ∀(l:List Oper) (k:Nat),(∀j,j<l.length→l[j]?=ops[k+j]?)→ ∀{Ω:bz} {Y:Sy} {L:List (List D→Option D)} {E:List D} {ι:Im} {γ:Nat→Tok} {J:St} {a:Act} {w:World},gL P G N dr yl B.A.sv n Ω→
  Mt Ω G E ι γ Y J→bW P B n w a.tmps J→DM Ω0 Ω a.defers→L.length=Y.d→aa G N (ca C inl cf n yl id ops l Y κ) L E=some dr→lL P B n G N dr Ω0 yl.S Ω κ L E (Q .normal)→e9 r P ops Q (List.range' k l.length) a w
 | [],k,_,Ω,Y,L,E,ι,γ,J,a,w,hY,M,R,hd,hL,he,hκ=>hκ Ω Y L E ι γ J a w .mi M R hd hL ⟨[],rfl⟩ ⟨[],by simp⟩ he
 |o::l,k,hl,Ω,Y,L,E,ι,γ,J,a,w,hY,M,R,hd,hL,he,hκ=>by
  have ho:ops[k]?=some o:=by have:=hl 0 (by simp);simpa using this.symm
  have hl': ∀j,j<l.length→l[j]?=ops[k+1+j]?:=fun j hj=>by have:=hl (j+1) (by simpa using hj);simpa[Nat.add_assoc,Nat.add_comm 1 j]using this
  have ih:=fun{Ω:bz} {Y:Sy} {L':List (List D→Option D)} {E':List D} {ι:Im} {γ:Nat→Tok} {J:St} {a:Act} {w:World}=>eU (id:=id) (cf:=cf) (κ:=κ) (Ω:=Ω) (Y:=Y) (L:=L') (E:=E') (ι:=ι) (γ:=γ) (J:=J) (a:=a) (w:=w) (yl:=yl) (Ω0:=Ω0) hP hG hI (Q:=Q) l (k+1) hl'
  have PB: ∀{Y0:Sy} {tg:Tg} {vs:List SV},Mt Ω G E ι γ Y0 J→Y0.d=Y.d→pz (C.cfg cf) n o Y0.gc.atom.1=some (tg,vs)→aa G N (ma Y0.gc.atom.2 (JO yl inl tg vs o.dst n Y0.gc.atom.1 fun Y'=>ca C inl cf n yl id ops l Y' κ)) L E=some dr→Oper.rj r P o a w (e9 r P ops Q (List.range' (k+1) l.length)) Q:=by
   intro Y0 tg vs MY hYd hq he;rw[mG,Bz]at he;obtain⟨ds0,h2,he⟩:=he;have M0:=MY.gc.atom h2;have hL0:L.length=Y0.gc.atom.1.d:=by rw[hL,←hYd];exact C8.1.symm
   generalize Y0.gc.atom.1=Y1 at*;have hκ0:lL P B n G N dr Ω0 yl.S Ω κ L (E++ds0) (Q .normal):=hκ.more (pre:= []) .mi
   have next:lL P B n G N dr Ω0 yl.S Ω (fun Y'=>ca C inl cf n yl id ops l Y' κ) L (E++ds0) (e9 r P ops Q (List.range' (k+1) l.length)):=by
    rintro Ω' Y' L' E' ι' γ' J' a' w' hle M' R' hd' hL' ⟨pre,rfl⟩ ⟨suf,rfl⟩ he';exact ih (hY.mono hle) M' R' hd' hL' he' (hκ0.more hle)
   obtain⟨w1,pr,A,tk,R1,U⟩:=R;obtain⟨hx,hnd,cargs,ds,k1,k2,k3⟩:=wU hq M0 R1;cases tg with
   |fn f=>
    obtain⟨hb,hc⟩:=hI (hY.acq (Nat.zero_le _) fun j hj=>by simp only[gR,Nat.sub_zero,if_neg (show¬j<n by omega)]) M0 R1 U k1 k2 hx hd hL0 he next
    exact kI hnd (k3 hb) hc
   |yld nm=>
    simp only[JO]at he;split at he
    ·rename_i hS;have hS':nm∈yl.S:=by simpa using hS
     obtain⟨⟨kk,lI⟩,k4⟩:=k3;obtain⟨ln,fnl,tmps,assign,body,g1,g2,g3⟩:=hY hS' (fun _ h=>h) .mi (fun i hi=>⟨by omega,by rw[Nat.zero_add]⟩) M0 R1 U k1 k2 hx hd hL0 he next r
     refine yy hnd ?_;rw[k4 ln ((M0.rwo _ _ lI).1.trans g1),g2,Oper.uponIn_round];refine⟨fun h=>(by simp[wF,Fence.wide]at h),RoundIn.mono g3 ?_⟩
     grind
    ·cases he
  have BR: ∀{Y:Sy},Mt Ω G E ι γ Y J→L.length=Y.d→(∀i,o.dst=some i→i<n)→aa G N (ca C inl cf n yl id ops l (Y.iy o.dst (.x kH)) κ) L E=some dr→e9 r P ops Q (List.range' (k+1) l.length) (a.put o.dst undef) w:=fun{Y} M hL hx he=>by
   obtain⟨w1,pr,A,tk,R1,U⟩:=R;refine ih hY (M.iy fun _ _=> .x rfl rfl) ⟨_,_,_,_,(show Rel P w1 pr A n w (a.put o.dst undef).tmps (J.iy o.dst (.tup [])) tk from R1.void hx),U⟩ (by cases o.dst<;>exact hd) (by rw[hL];exact Fe.1.symm) he hκ
  simp only[ca]at he;refine wpOps_cons ho ?_;split at he
  ·rename_i Y' O hs;rw[iO,Bz]at he;obtain⟨ds0,h1,he⟩:=he;rw[hP]at hs;exact Il hs M R (kQ h1) fun{a' w' J' ι' γ'} hdf hd2 R' M'=>ih hY M' R' (hdf▸hd) (by rw[hL];exact hd2.symm) he hκ
  ·rename_i c Y0 Y1 hs;rw[hP]at hs;refine HW hs M R (K:=fun E' Y'=> ∃suf,E'=E++suf∧aa G N (ca C inl cf n yl id ops l Y' κ) L E'=some dr) ?_ fun{a' w' J' E' Y'} hdf hd2 R' M' ⟨suf,e,he'⟩=> ?_
   ·simp only[aa,Bz]at he;obtain⟨d0,h1,he⟩:=he;refine⟨d0,h1, ?_⟩;unfold qV at he;split at he
    ·rename_i rows;cases rows with
     |nil=>cases he
     |cons r0 L0=>
      obtain⟨k1,k2⟩:=wO he;exact⟨r0,L0,rfl,fun h0=>⟨[],by simp,k1 h0⟩,fun i c hc=>⟨_,rfl,k2 i c hc⟩⟩
    ·cases he
   ·subst e;exact ih hY M' R' (hdf▸hd) (by rw[hL];exact hd2.symm) he' (hκ.more (pre:= []) .mi)
  split at he
  ·rename_i t ht;split at ht
   ·rename_i hc;rw[Az]at hc;have hx: ∀i,o.dst=some i→i<n:=fun i hi=>by have:=hc.2;rw[hi]at this;simpa using this
    obtain⟨w1,pr,A,tk,R1,U⟩:=(fun x=>x) R;split at ht
    ·rename_i hg;obtain⟨q,hq,rfl⟩:=Mz.1 ht;obtain⟨g',hg',hgv⟩:=dW M hg;rw[cJ R1 hg' hgv]
     grind
    ·rename_i hg;obtain⟨g',hg',hgv⟩:=dW M hg;rw[cJ R1 hg' hgv]
     grind
    ·rename_i e hg;obtain⟨q,hq,rfl⟩:=Mz.1 ht;obtain⟨g',hg',hgv⟩:=dW M hg;simp only[aa,Bz]at he;obtain⟨v,h3,b,h4,he⟩:=he;obtain⟨b',hb',hgv⟩:=hgv v h3;obtain rfl:=mB h4;cases hb';rw[cJ R1 hg' hgv];cases b
     ·exact BR (o7 M h3) (by rw[hL];unfold Sy.fZ;split<;>(try split)<;>rfl) hx (by simpa using he)
     ·have M1:Mt Ω G E ι γ (Y.jK e) J:=M.nT rfl rfl fun i v hv=>by
       simp only[Sy.jK,dh]at hv;obtain⟨u,hu,rfl⟩:=Mz.1 hv;exact qg (M.slot i u hu) h3
      exact PB M1 rfl hq (by simpa using he)
    ·cases ht
   ·cases ht
  ·split at he
   ·rename_i q hs;rw[iO,Bz]at he;obtain⟨ds0,h1,he⟩:=he;obtain⟨J',ι',γ',g1,g2⟩:=lh M (Y':=q.1) (O:=q.2) hs (kQ h1);rw[hP]at g1;exact kF (r:=r) hG R g1 _ Q fun a' w' hdf R'=>eU hP hG hI l (k+1) hl' hY g2 R' (hdf▸hd) (by rw[hL];exact(mw hs).1.symm) he hκ
   ·split at he
    ·rename_i t ht;split at ht
     ·rename_i hc;rw[Az]at hc;have hx: ∀i,o.dst=some i→i<n:=fun i hi=>by have:=hc.2;rw[hi]at this;simpa using this
      obtain⟨w1,pr,A,tk,R1,U⟩:=(fun x=>x) R
      have hop: ∀{Y0:Sy} {q:Sy×List X},Mt Ω G E ι γ Y0 J→Y0.d=Y.d→gf (pC C.P (C.cfg cf) n ops {o with guard:=none}) Y0=some q→aa G N (ni q.2 (ca C inl cf n yl id ops l q.1 κ)) L E=some dr→Oper.rj r P o a w (e9 r P ops Q (List.range' (k+1) l.length)) Q:=by
       intro Y0 q M0 hd0 hs he;rw[iO,Bz]at he;obtain⟨ds0,h1,he⟩:=he;obtain⟨J',ι',γ',g1,g2⟩:=lh M0 (Y':=q.1) (O:=q.2) hs (kQ h1);rw[hP]at g1;have:=kF (r:=r) (o:={o with guard:=none}) hG R g1 (e9 r P ops Q (List.range' (k+1) l.length)) Q fun a' w' hdf R'=>eU hP hG hI l (k+1) hl' hY g2 R' (hdf▸hd) (by rw[hL,←hd0];exact(mw hs).1.symm) he hκ;rw[if_pos (by rfl)]at this;exact this
      split at ht
      ·rename_i hg;obtain⟨q,hq,rfl⟩:=Mz.1 ht;obtain⟨g',hg',hgv⟩:=dW M hg;rw[cJ R1 hg' hgv];exact hop M rfl hq he
      ·rename_i hg;cases ht;obtain⟨g',hg',hgv⟩:=dW M hg;rw[cJ R1 hg' hgv];exact BR M hL hx he
      ·rename_i e hg;obtain⟨q,hq,rfl⟩:=Mz.1 ht;obtain⟨g',hg',hgv⟩:=dW M hg;simp only[aa,Bz]at he;obtain⟨v,h3,b,h4,he⟩:=he;obtain⟨b',hb',hgv⟩:=hgv v h3;obtain rfl:=mB h4;cases hb';rw[cJ R1 hg' hgv];cases b
       ·exact BR (o7 M h3) (by rw[hL];unfold Sy.fZ;split<;>(try split)<;>rfl) hx (by simpa using he)
       ·have M1:Mt Ω G E ι γ (Y.jK e) J:=M.nT rfl rfl fun i v hv=>by
         simp only[Sy.jK,dh]at hv;obtain⟨u,hu,rfl⟩:=Mz.1 hv;exact qg (M.slot i u hu) h3
        exact hop M1 rfl hq (by simpa using he)
      ·cases ht
     ·cases ht
    ·cases he
theorem o6{Y:Sy}{E:List D}{ι:Im}{γ:Nat→Tok}{J:St}{b:Bool}{Ω:bz}(M:Mt Ω G E ι γ Y J){g:X}(h:X.ev G E g=some (bv b)):Mt Ω G E ι γ (Y.qf g b) J:=by
 refine M.nT rfl rfl fun i v hv=> ?_;simp only[Sy.qf,dh]at hv;obtain⟨u,hu,rfl⟩:=Mz.1 hv;have H:=M.slot i u hu;unfold fZ;split
 ·split
  ·rename_i he;obtain rfl:=aF _ _ he;obtain⟨h1,_⟩:=H.bQ;rw[h]at h1;rw[←Option.some.inj h1];cases b<;>exact .x rfl rfl
  ·exact H
 ·exact H
theorem gi{Ω0:bz}{yl:Yh}{C:Cx}{inl:FH}{cf id:Nat}(hP:C.P=P)(hG:Sound P (bg G))(hI:qm P G N dr inl){ops:Array Oper}{Q:Exit→Act→World→Prop}{κ:Sy→FT}:
  ∀(f c:Nat) {Ω:bz} {Y:Sy} {L:List (List D→Option D)} {E:List D} {ι:Im} {γ:Nat→Tok} {J:St} {a:Act} {w:World},c≤ops.size→gL P G N dr yl B.A.sv n Ω→
  Mt Ω G E ι γ Y J→bW P B n w a.tmps J→DM Ω0 Ω a.defers→L.length=Y.d→aa G N (mE C inl cf n yl id ops κ f c Y) L E=some dr→lL P B n G N dr Ω0 yl.S Ω κ L E (Q .normal)→ql r P ops Q c a w
 |0,c,_,_,_,_,_,_,_,_,_,_,_,_,_,_,_,he,_=>by cases he
 |f+1,c,Ω,Y,L,E,ι,γ,J,a,w,hc,hY,M,R,hd,hL,he,hκ=>by
  simp only[mE]at he;split at he
  ·rename_i ht;rw[Az]at ht;have:=eU (r:=r) (Q:=Q) (Ω0:=Ω0) hP hG hI (ops:=ops) (ops.toList.drop c) c (fun j _=>by simp) hY M R hd hL he hκ;exact tail_at ht.1 hc ht.2 (by simpa using this)
  ·split at he
   ·rename_i q hq;unfold xE at hq;rw[Bz]at hq;obtain⟨c',hc',hq⟩:=hq;obtain⟨q2,hs,rfl⟩:=Mz.1 hq;rw[hP]at hs;rw[iO,Bz]at he;obtain⟨_,h1,he⟩:=he
    have hle:c'≤ops.size:=by
     have:=List.mem_range.1 (List.mem_of_find?_eq_some hc');omega
    exact yj hG (Y':=q2.1) (O:=q2.2) hs (kQ h1) M R fun a' w' J' ι' γ' hd' R' M'=>
     gi hP hG hI f c' hle hY M' R' (hd'▸hd) (by rw[hL];exact(AA hs).1.symm) he hκ
   ·split at he
    ·rename_i e _;simp only[aa,Bz]at he;obtain⟨v,h3,b,h4,he⟩:=he;obtain rfl:=mB h4;cases b
     ·exact gi hP hG hI f c hc hY (o6 M h3) R hd hL (by simpa using he) hκ
     ·exact gi hP hG hI f c hc hY (o6 M h3) R hd hL (by simpa using he) hκ
    ·cases he
end
end
section
section
variable {P : Program} {n : Nat} {G : FP} {N : Nat} {dr : D}
theorem oH{F:Fence}{fn:Func}{R:Ending→World→Prop}{a:Act}{w1:World}{pr:aT}{A:gZ}{tk:ag}: ∀(l:List Deferred) {w:World} {J:St},Rel P w1 pr A n w a.tmps J tk→l.Nodup→(∀d∈l,∃b,d=mark b∧J.m [b+1]=some (.raw (.deferred (some []))))→
  (∀w' J',Rel P w1 pr A n w' a.tmps J' tk→J'.s=J.s→J'.c=J.c→(∀t,(∀d∈l,∀b,d=mark b→t≠ [b+1])→J'.m t=J.m t)→ ∃v,(results fn a.tmps).run P w'= .ok v w'∧R (.returned v) w')→LeavesInM F 0 P fn a.tmps R l .returning w
 | [],w,J,R1,_,_,h=>h w J R1 rfl rfl fun _ _=>rfl
 |d::l,w,J,R1,hnd,hm,h=>by
  obtain⟨b,rfl,hb⟩:=hm d (List.mem_cons_self ..);obtain⟨hd,aad⟩:=List.nodup_cons.1 hnd;refine⟨by simp, .inl ⟨b,_,rfl,run_takeDeferred (R1.wk hb).2, ?_⟩⟩;refine oH l (R1.xM hb (.deferred none)) aad (fun d' hd'=> ?_) fun w' J' R' hs hc hmm=> ?_
  ·obtain⟨b',rfl,hb'⟩:=hm d' (Cz _ hd');refine⟨b',rfl, ?_⟩;rw[dK,if_neg fun e=> ?_]
   ·exact hb'
   ·simp only[List.cons.injEq,Nat.add_right_cancel_iff,and_true]at e;subst e;exact hd hd'
  ·refine h w' J' R' hs hc fun t ht=> ?_;rw[hmm t fun d' hd' b' hb'=>ht d' (Cz _ hd') b' hb',dK,if_neg (ht _ (List.mem_cons_self ..) b rfl)]
theorem pK{F:Fence}{fn:Func}{R:Ending→World→Prop}{S:List Nat}{Ω Ω2:bz}{E:List D}{ι:Im}{γ:Nat→Tok}{Y:Sy}{J:St}{B:eo}{a:Act}{w:World}(M:Mt Ω2 G E ι γ Y J)(RE:bW P B n w a.tmps J)(hd:DM Ω Ω2 a.defers)(hle:Ω.le S Ω2)
  (h: ∀Ω3 w' J',Ω.le S Ω3→Mt Ω3 G E ι γ Y J'→bW P B n w' a.tmps J'→ ∃v,(results fn a.tmps).run P w'= .ok v w'∧R (.returned v) w'):LeavesInM F 0 P fn a.tmps R a.defers .returning w:=by
 obtain⟨w1,pr,A,tk,R1,U⟩:=RE;refine oH a.defers R1 hd.2.1 (fun d hdd=> ?_) fun w' J' R' hs hc hm=> ?_
 ·obtain⟨b,h1,h2,_⟩:=hd.2.2 d hdd;exact⟨b,h1,M.con _ h2⟩
 ·refine h ⟨Ω2.t,Ω2.f,fun t=>Ω2.c t∧ ∀d∈a.defers,∀b,d=mark b→t≠ [b+1]⟩ w' J' ⟨fun t ht=>⟨hle.1 t ht,fun d hdd b hb e=> ?_⟩,hle.2⟩ ?_ ⟨w1,pr,A,tk,R',U⟩
  ·obtain⟨b',h1,_,h3⟩:=hd.2.2 d hdd
   grind
  ·refine M.mem hs hc R'.wf (fun k o hk hi=>hm _ fun d hdd b hb e=> ?_) (fun q hq=>hm _ fun d hdd b hb e=> ?_) (fun k q hk=>⟨rfl,rfl,fun hh=>(M.rwo k q hk).2.2.2 hh.1⟩) fun t ht=>by rw[hm t ht.2];exact M.con t ht.1
   rotate_left
   ·obtain⟨b',h1,h2,_⟩:=hd.2.2 d hdd;have hr:=M.con _ h2;have:b=b':=by rw[hb]at h1;simpa[mark]using h1
    subst this;obtain⟨⟨_,_,g,_⟩,_⟩:=hq.mem;rw[←e,g]at hr;exact HX (Option.some.inj hr)
   obtain⟨b',h1,h2,_⟩:=hd.2.2 d hdd;have:b=b':=by rw[hb]at h1;simpa[mark]using h1
   subst this;have hr:=M.con _ h2;rw[←e]at hr;cases o with
   |box vs=>obtain⟨ds,_,g,_⟩:=M.box k vs hk;rw[g]at hr;cases hr
   |map c=>obtain⟨_,_,_,g⟩:=M.mpo k c hk;rw[g]at hr;cases hr
   |bL e' sz c=>obtain⟨_,_,_,g,_⟩:=M.own k e' sz c hk;rw[g]at hr;cases hr
   |raw q=>exact(M.rwo k q hk).2.2.2 (e▸h2)
   |itr m0 c0=>obtain⟨_,_,_,_,g,_⟩:=M.itr k _ _ hk;rw[g]at hr;cases hr
   |aA e' sz c=>
    obtain⟨_,_,_,g⟩:=M.aA k _ _ _ hk
    grind
theorem Ai{Ω:bz}{it:Option (Nat×Nat)}{g:Operand}{Y:Sy}{f:Nat}{vs:List SV}{O:List X}(h:DK it n g Y=some ((f,vs),O)){E:List D}(hO: ∀e∈O,∃d,X.ev G E e=some d){ι:Im}{γ:Nat→Tok}{J:St}(M:Mt Ω G E ι γ Y J){w1 w:World}{pr:aT}{A:gZ}{tk:ag}{a:Act}(R:Rel P w1 pr A n w a.tmps J tk):
  ∃cv ds,a.eval g= .func (.func f) #[] cv∧aX w pr tk cv.toList ds∧bA G E ι Y.h vs ds:=by
 unfold DK at h;split at h
 ·cases h;exact⟨#[],[],rfl,trivial,bA.nil⟩
 ·rename_i t;split at h
  ·rename_i ht;have hev:a.eval (.tmp t)=a.tmps.getD t undef:=rfl;have hfv:=R.slot t ht;split at h
   ·rename_i f' eT hf;split at h
    rotate_left
    ·cases h
    cases h;have H:=M.slot _ _ hf;generalize hJ:J.s t=dt at H hfv;cases H with
    | @clo _ _ ds hl hh=>
     generalize a.tmps.getD t undef=fv at hfv hev;cases hfv with
     | @clo _ _ cv _ _ hs hr=>exact⟨cv,ds,hev,mR (by simpa using hs) fun i c x hc hx=>hr i c x (by simpa using hc) hx,hl,hh⟩
     |bclo=>omega
   ·rename_i e hf;obtain⟨⟨g0,k⟩,_,h2⟩:=Bz.1 h;split at h2
    rotate_left
    ·cases h2
    obtain⟨⟨rfl,rfl⟩,rfl⟩:=h2;obtain⟨d0,hd0⟩:=hO _ (List.mem_singleton.2 rfl);obtain⟨ds',a1,a2⟩:=aH hd0;obtain⟨de,rfl,a3⟩:=iP a1;obtain⟨k1,k2⟩:=(M.slot _ _ hf).bQ;rw[k1]at a3;have hst:J.s t=de:=Option.some.inj a3;rw[hst]at hfv k1 k2;simp only[XK.run]at a2;split at a2
    ·rename_i g1 xs heq;simp only[List.cons.injEq,and_true]at heq;subst heq;split at a2
     ·rename_i hc;obtain⟨rfl,hlen⟩:=hc;generalize a.tmps.getD t undef=fv at hfv hev;cases hfv with
      | @clo _ _ cv _ _ hs hr=>
       refine⟨cv,xs,hev,mR (by simpa using hs) fun i c x hc hx=>hr i c x (by simpa using hc) hx,by simp[hlen],fun i v d hv hd=> ?_⟩;rw[Dz,Mz]at hv;obtain⟨j,hj,rfl⟩:=hv
       have hnd:d.aK=true:=by
        simp only[D.aK,Tz]at k2;have:=k2 d (Lz hd);exact me this
       refine .x ?_ hnd;simp only[X.ev,X.bh,k1,Oz,Pz,XK.run]
       grind
      |bclo=>omega
     ·cases a2
    ·cases a2
   ·cases h
  ·cases h
 ·cases h
def K4:RS→LoopState
 | .ready=> .ready
 | .busy=> .busy
 | .done _=> .done
 | .over=> .exhausted
def jmp:VE→Option Code
 | .normal=>none
 | .exit id=>some (.exit id)
 | .ret=>some .ret
def W_:RS→Option Code
 | .done e=>jmp e
 |_=>none
def MR(fn:Nat)(tmps:Array Value)(ps:Array Tmp)(assign body:Code)(df:Nat)(k:RS):Loop:={state:=K4 k,pending:=W_ k,fn,tmps,params:=ps,assign,body,defers:=df}
set_option maxHeartbeats 2000000 in
theorem jl{C:Cx}{inl:FH}{cf:Nat}(hP:C.P=P)(hG:Sound P (bg G))(hm:P.follows .mixedOrders=true)(hI:qm P G N dr inl):
    ∀(c:Code) {B:eo} {r:Option Nat} {Ω0 Ω:bz} {yl:Yh} {rd:Bool} {bi:Nat} {ks:List Nat} {Y:Sy} {κ:VE→Sy→FT} {L:List (List D→Option D)} {E:List D} {ι:Im} {γ:Nat→Tok} {J:St} {a:Act} {w:World} {Q:Exit→Act→World→Prop},
    (rd=false→r=none)→gL P G N dr yl B.A.sv n Ω→Mt Ω G E ι γ Y J→bW P B n w a.tmps J→DM Ω0 Ω a.defers→L.length=Y.d→aa G N (c_ C inl cf n yl rd bi ks c Y κ) L E=some dr→ZI P B n G N dr Ω0 yl.S Ω κ L E Q→Code.rj r P c Q a w:=by
  intro c
  induction c with
  |skip=>intro B r Ω0 Ω yl rd bi ks Y κ L E ι γ J a w Q hr hY M R hd hL he hκ;exact wpIn_skip (hκ .normal Ω Y L E ι γ J a w .mi M R hd hL ⟨[],rfl⟩ ⟨[],by simp⟩ he)
  |region id ops draw=>
    intro B r Ω0 Ω yl rd bi ks Y κ L E ι γ J0 a w Q hr hY M0 R0 hd hL he hκ
    simp only[c_]at he
    obtain⟨J,M,R⟩: ∃J',Mt Ω G E ι γ (Y.sN (C.un cf (2000000+id))) J'∧bW P B n w a.tmps J':=by
      unfold Sy.sN
      split
      · exact Bm M0 R0
      · exact⟨J0,M0,R0⟩
    replace hL:L.length=(Y.sN (C.un cf (2000000+id))).d:=by rw[hL];unfold Sy.sN;split<;>rfl
    clear M0 R0
    generalize Y.sN (C.un cf (2000000+id))=Y1 at he M hL
    split at he
    · rename_i q hs
      rw[iO,Bz]at he
      obtain⟨_,h1,he⟩:=he
      rw[mG,Bz]at he
      obtain⟨ds,h2,he⟩:=he
      have hO:=mg (kQ h2) (kQ h1)
      replace hs:f_ C.P (C.cfg cf) n ops draw Y1=some q:=by
        split at hs
        · cases hs
        · exact hs
      rw[hP]at hs
      refine rh hG hm (Y':=q.1) (O:=q.2) hs hO M R fun a' w' J' ι' γ' hd' R' M'=> ?_
      exact hκ .normal Ω _ L (E++ds) ι' γ' J' a' w' .mi (M'.settle h2) R' (hd'▸hd) (by rw[hL,←(um hs).1];exact mr.1.symm) ⟨[],rfl⟩ ⟨ds,rfl⟩ he
    · split at he
      · rename_i sS
        have sS:draw=true:=by simpa using sS
        subst sS
        refine AY hm R fun w' R'=>gi hP hG hI (ops.size+9) 0 (Nat.zero_le _) hY M R' hd hL he ?_
        rintro Ω' Y' L' E' ι' γ' J' a' w' hle M' R' hd' hL' ⟨pre,rfl⟩ ⟨suf,rfl⟩ he'
        rw[mG,Bz]at he'
        obtain⟨ds,h2,he'⟩:=he'
        exact hκ .normal Ω' _ _ _ ι' γ' J' a' w' hle (M'.settle h2) R' hd' (by rw[hL'];exact mr.1.symm) ⟨pre,rfl⟩ ⟨suf++ds,by simp⟩ he'
      · rename_i sS
        have sS:draw=false:=by simpa using sS
        subst sS
        apply wpIn_region
        rw[List.range_eq_range']
        have:=eU (r:=r) (Q:=Q) (Ω0:=Ω0) hP hG hI (ops:=ops) ops.toList 0 (by simp) hY M R hd hL he (by
          rintro Ω' Y' L' E' ι' γ' J' a' w' hle M' R' hd' hL' ⟨pre,rfl⟩ ⟨suf,rfl⟩ he'
          rw[mG,Bz]at he'
          obtain⟨ds,h2,he'⟩:=he'
          exact hκ .normal Ω' _ _ _ ι' γ' J' a' w' hle (M'.settle h2) R' hd' (by rw[hL'];exact mr.1.symm) ⟨pre,rfl⟩ ⟨suf++ds,by simp⟩ he')
        simpa using this
  |seq x y ihx ihy=>
    intro B r Ω0 Ω yl rd bi ks Y κ L E ι γ J a w Q hr hY M R hd hL he hκ
    simp only[c_]at he
    split at he
    · rename_i jh hj
      simp only[aa]at he
      have ok:jh.1.ok Y.nv=true:=by
        split at hj
        · cases hj
        · exact zK (fun _=>vQ) hj
      refine wpIn_seq (ihx hr hY M.Gi R hd (by simp[hL]) he ?_)
      rintro e Ω' Y' L' E' ι' γ' J' a' w' hle M' R' hd' hL' ⟨pre,rfl⟩ ⟨suf,rfl⟩ he'
      cases e with
      |normal=>
        simp only[]at he'
        split at he'
        · rename_i p hp
          simp only[aa,Bz]at he'
          obtain⟨ds',h3,f,h4,h5⟩:=he'
          have hix:Y'.d-(Y.d+1)=pre.length:=by
            simp only[List.length_append,List.length_cons,hL]at hL'
            omega
          rw[hix,Xz (Nat.le_refl _),Nat.sub_self]at h4
          simp only[List.getElem?_cons_zero,Jz]at h4
          subst h4
          have hnv:=M.nv
          obtain⟨ι3,γ3,M3⟩:=jh.1.sound M' ok hp h3 M.nv (fun i hi=>by rw[Yz (by omega)]) Y.d jh.2
          rw[dg h3,Hd.xD hp]at M3
          refine ihy hr (hY.mono hle) M3 R' hd' (by simp[hL,Hd.mk']) h5 ?_
          exact fun e=>(hκ e).more (pre:= []) hle
        · cases he'
      |exit id=>exact hκ (.exit id) Ω' Y' _ _ ι' γ' J' a' w' hle M' R' hd' hL' ⟨_,List.append_cons pre _ L⟩ ⟨suf,rfl⟩ he'
      |ret=>exact hκ .ret Ω' Y' _ _ ι' γ' J' a' w' hle M' R' hd' hL' ⟨_,List.append_cons pre _ L⟩ ⟨suf,rfl⟩ he'
    refine wpIn_seq (ihx hr hY M R hd hL he ?_)
    rintro e Ω' Y' L' E' ι' γ' J' a' w' hle M' R' hd' hL' ⟨pre,rfl⟩ ⟨suf,rfl⟩ he'
    cases e with
    |normal=>exact ihy hr (hY.mono hle) M' R' hd' hL' he' fun e=>(hκ e).more hle
    |exit id=>exact hκ (.exit id) Ω' Y' _ _ ι' γ' J' a' w' hle M' R' hd' hL' ⟨pre,rfl⟩ ⟨suf,rfl⟩ he'
    |ret=>exact hκ .ret Ω' Y' _ _ ι' γ' J' a' w' hle M' R' hd' hL' ⟨pre,rfl⟩ ⟨suf,rfl⟩ he'
  |cond c x y ihx ihy=>
    intro B r Ω0 Ω yl rd bi ks Y κ L E ι γ J a w Q hr hY M R hd hL he hκ
    simp only[c_]at he
    have branch: ∀(e:X) (v:D) (b:Bool),(dO n c).map (bH Y)=some (.x e)→X.ev G E e=some v→v.asBool=some b→aa G N (if b then c_ C inl cf n yl rd 0 ks x Y κ else c_ C inl cf n yl rd 0 ks y Y κ) L E=some dr→Code.rj r P (.cond c x y) Q a w:=by
      intro e v b hc h1 h2 he
      obtain⟨g,hg,hv⟩:=Mz.1 hc
      have hvr:=ay M g
      rw[hv]at hvr
      obtain⟨h3,_⟩:=hvr.bQ
      rw[h1]at h3
      have hgv:g.val J.s= .v (.bool b):=by
        have h4:=Option.some.inj h3
        rw[←h4];exact mB h2
      obtain⟨w1,pr,A,tk,R1,_⟩:=id R
      have hr1:=bo R1 hg
      rw[hgv]at hr1
      obtain⟨hev,_⟩:=aP.1 hr1
      cases b
      · exact wpIn_cond_false hev (ihy hr hY M R hd hL (by simpa using he) hκ)
      · exact wpIn_cond_true hev (ihx hr hY M R hd hL (by simpa using he) hκ)
    split at he
    · rename_i hc
      exact branch _ _ true hc rfl rfl he
    · rename_i hc
      exact branch _ _ false hc rfl rfl he
    · rename_i e _ _ hc
      simp only[aa,Bz]at he
      obtain⟨v,h1,b,h2,he⟩:=he
      exact branch e v b hc h1 h2 (by cases b<;>exact he)
    · cases he
  |block id c ih=>
    intro B r Ω0 Ω yl rd bi ks Y κ L E ι γ J a w Q hr hY M R hd hL he hκ
    obtain⟨J0,M0,R0⟩: ∃J',Mt Ω G E ι γ (Y.SP (C.un cf (id+1))) J'∧bW P B n w a.tmps J':=by
      unfold Sy.SP
      split
      · exact xp M R
      · exact⟨J,M,R⟩
    have hL0:L.length=(Y.SP (C.un cf (id+1))).d:=by rw[hL];unfold Sy.SP;split<;>rfl
    refine wpIn_block (ih hr hY M0 R0 hd hL0 he ?_)
    rintro e Ω' Y' L' E' ι' γ' J' a' w' hle M' R' hd' hL' hp hs he'
    cases e with
    |normal=>exact hκ .normal Ω' Y' _ _ ι' γ' J' a' w' hle M' R' hd' hL' hp hs he'
    |ret=>exact hκ .ret Ω' Y' _ _ ι' γ' J' a' w' hle M' R' hd' hL' hp hs he'
    |exit i=>
      simp only[VE.ex,Exit.inBlock]
      simp only[]at he'
      split at he'<;>rename_i hi
      · rw[if_pos hi];exact hκ .normal Ω' Y' _ _ ι' γ' J' a' w' hle M' R' hd' hL' hp hs he'
      · rw[if_neg hi];exact hκ (.exit i) Ω' Y' _ _ ι' γ' J' a' w' hle M' R' hd' hL' hp hs he'
  |loop c ih=>
    intro B r Ω0 Ω yl rd bi ks Y κ L E ι γ J a w Q hr hY M R hd hL he hκ
    simp only[c_]at he
    split at he
    · generalize hB:(fun(Y:Sy) (κ:VE→Sy→FT)=>c_ C inl cf n yl rd 0 (uniq ks (cD c)) c Y κ)=BB at he
      refine uF (fun(j:Nat) a w=> ∃Ω' Y L' E' ι γ J,Ω.le yl.S Ω'∧aa G N (yp BB j Y κ) L' E'=some dr∧Mt Ω' G E' ι γ Y J∧bW P B n w a.tmps J∧DM Ω0 Ω' a.defers∧L'.length=Y.d∧(∃pre,L'=pre++L)∧ ∃suf,E'=E++suf) id
        ⟨Ω,Y,L,E,ι,γ,J, .mi,he,M,R,hd,hL,⟨[],rfl⟩,[],by simp⟩ ?_
      rintro j a1 w1 ⟨Ω1,Y1,_,_,ι1,γ1,J1,oB,he1,M1,R1,hd1,hL1,⟨Rl,rfl⟩,RF,rfl⟩
      cases j with
      |zero=>cases he1
      |succ j=>
        simp only[yp]at he1
        rw[←hB]at he1
        refine ih hr (hY.mono oB) M1 R1 hd1 hL1 he1 ?_
        rintro e Ω' Y' L' E' ι' γ' J' a' w' hle M' R' hd' hL' ⟨pre,rfl⟩ ⟨suf,rfl⟩ he'
        cases e with
        |normal=>rw[hB]at he';exact⟨j,⟨Ω',Y',_,_,ι',γ',J',oB.trans hle,he',M',R',hd',hL',⟨pre++Rl,by simp⟩,RF++suf,by simp⟩,Nat.lt_succ_self j⟩
        |exit i=>exact hκ (.exit i) Ω' Y' _ _ ι' γ' J' a' w' (oB.trans hle) M' R' hd' hL' ⟨pre++Rl,by simp⟩ ⟨RF++suf,by simp⟩ he'
        |ret=>exact hκ .ret Ω' Y' _ _ ι' γ' J' a' w' (oB.trans hle) M' R' hd' hL' ⟨pre++Rl,by simp⟩ ⟨RF++suf,by simp⟩ he'
    generalize hhd:Cx.LZ _ _ _ _=hd0 at he
    split at he
    · rename_i ok
      split at he
      · rename_i q hq
        simp only[aa,Bz]at he
        obtain⟨ds,h1,he⟩:=he
        generalize hnx:Y.nx+hd0.row.length=nx at he
        obtain⟨ι1,γ1,M1⟩:=hd0.sound M ok hq h1 M.nv (fun _ _=>rfl) (Y.d+1) nx
        have hlen:=dg h1
        rw[hlen]at M1
        generalize hF:(fun rec vs=>aa G N (c_ C inl cf n yl rd 0 _ c (hd0.mk' Y.nv q.1.length (Y.d+1) nx) _) (rec::L) (E++vs))=F at he
        refine uF (fun(j:Nat) a w=> ∃Ω' vs ι γ J,Ω.le yl.S Ω'∧iter F j vs=some dr∧Mt Ω' G (E++vs) ι γ (hd0.mk' Y.nv q.1.length (Y.d+1) nx) J∧bW P B n w a.tmps J∧DM Ω0 Ω' a.defers) id (x:=N) ⟨Ω,ds,ι1,γ1,J, .mi,he,M1,R,hd⟩ ?_
        rintro j a1 w1 ⟨Ω1,vs,ι2,γ2,J2,oB,hit,M2,R2,hd2⟩
        cases j with
        |zero=>cases hit
        |succ j=>
          simp only[iter]at hit
          rw[←hF]at hit
          refine ih (L:=iter F j::L) hr (hY.mono oB) M2 R2 hd2 (by simp[hL,Hd.mk']) (by rw[←hF];exact hit) ?_
          rintro e Ω' Y' L' E' ι' γ' J' a' w' hle M' R' hd' hL' ⟨pre,rfl⟩ ⟨suf,rfl⟩ he'
          cases e with
          |normal=>
            simp only[]at he'
            split at he'
            · rename_i p hp
              simp only[aa,Bz]at he'
              obtain⟨ds',h3,f,h4,h5⟩:=he'
              have hix:Y'.d-(Y.d+1)=pre.length:=by
                simp only[List.length_append,List.length_cons,hL]at hL'
                omega
              rw[hix,Xz (Nat.le_refl _),Nat.sub_self]at h4
              simp only[List.getElem?_cons_zero,Jz]at h4
              subst h4
              have hnv:=M.nv
              obtain⟨ι4,γ4,M4⟩:=M'.align (tF Y.s)
              obtain⟨ι3,γ3,M3⟩:=hd0.sound M4 ok hp h3 M.nv (fun i hi=>by rw[List.append_assoc,Yz (by omega)]) (Y.d+1) nx
              have hl1:=dg h3
              have hl2:p.1.length=q.1.length:=by
                rw[Hd.xD hp,Hd.xD hq]
              rw[hl1,hl2]at M3
              exact⟨j,⟨Ω',ds',ι3,γ3,J',oB.trans hle,h5,M3,R',hd'⟩,Nat.lt_succ_self j⟩
            · cases he'
          |exit i=>exact hκ (.exit i) Ω' Y' _ _ ι' γ' J' a' w' (oB.trans hle) M' R' hd' hL' ⟨pre++ [iter F j],by simp⟩ ⟨vs++suf,by simp⟩ he'
          |ret=>exact hκ .ret Ω' Y' _ _ ι' γ' J' a' w' (oB.trans hle) M' R' hd' hL' ⟨pre++ [iter F j],by simp⟩ ⟨vs++suf,by simp⟩ he'
      · cases he
    · cases he
  |exit id=>intro B r Ω0 Ω yl rd bi ks Y κ L E ι γ J a w Q hr hY M R hd hL he hκ;exact wpIn_exit (hκ (.exit id) Ω Y L E ι γ J a w .mi M R hd hL ⟨[],rfl⟩ ⟨[],by simp⟩ he)
  |ret=>intro B r Ω0 Ω yl rd bi ks Y κ L E ι γ J a w Q hr hY M R hd hL he hκ;exact wpIn_ret (hκ .ret Ω Y L E ι γ J a w .mi M R hd hL ⟨[],rfl⟩ ⟨[],by simp⟩ he)
  |rangeFunc g ps assign body iha ihb=>
    intro B r Ω0 Ω yl rd bi ks Y κ L E ι γ J a w Q hr hY M R hd hL he hκ
    simp only[c_]at he
    split at he
    · rename_i hc
      obtain⟨hrd,hS,hps⟩:=hc
      have hS:Y.nx∉yl.S:=by simpa using hS
      obtain rfl:=hr hrd
      have Qa: ∀p∈ps.toList,p<n:=fun p hp=>by
        rw[Array.all_eq_true_iff_forall_mem]at hps
        simpa using hps p (by simpa using hp)
      split at he
      · rename_i q hq
        obtain⟨⟨f,eT⟩,OO⟩:=q
        rw[iO,Bz]at he
        obtain⟨_,hOO,he⟩:=he
        obtain⟨w1,pr,A,tk,R1,U⟩:=(fun x=>x) R
        refine wpIn_rangeFunc fun Gx _=> ?_
        generalize hnm:Y.nx=nm at*
        let uZ:RS→Obj:=fun k=> .loop (MR Gx a.tmps ps assign body w.heap.size k)
        obtain⟨hn1,tk1,Ra,_,_⟩:=R1.HS (.deferred (some []))
        obtain⟨hn2,tk2,Rb,_,_⟩:=Ra.HS (uZ .ready)
        have hsz:(w.alloc (.deferred (some []))).heap.size=w.heap.size+1:=World.size_alloc ..
        rw[hsz]at hn2 Rb
        have aac:J.m [w.heap.size+1+1]=none:=by
          rw[dK,if_neg (by simp)]at hn2;exact hn2
        have M1:=M.jE (nm:=nm) (g:=uZ) hn1 aac
        generalize hw2:((w.alloc (.deferred (some []))).alloc (uZ .ready))=w2 at Rb
        generalize hJ2:((J.raw w.heap.size (.deferred (some []))).raw (w.heap.size+1) (uZ .ready))=J2 at Rb M1
        obtain⟨cv,dcs,hev,hrc,hvc⟩:=Ai hq (kQ hOO) M1 Rb
        generalize hΩ1:(⟨ri Ω.t nm [w.heap.size+1+1],ri Ω.f nm uZ,fun t=>Ω.c t∨t= [w.heap.size+1]⟩:bz)=Ω1 at M1
        have oB:Ω.le yl.S Ω1:=by
          subst hΩ1
          refine⟨fun t h=> .inl h,fun k hk=> ?_⟩
          have hne:k≠nm:=fun e=>hS (e▸hk)
          exact⟨if_neg hne,if_neg hne⟩
        have ht1:Ω1.t nm= [w.heap.size+1+1]:=by subst hΩ1;exact if_pos rfl
        have hf1:Ω1.f nm=uZ:=by subst hΩ1;exact if_pos rfl
        have hc1:Ω1.c [w.heap.size+1]:=by subst hΩ1;exact .inr rfl
        generalize hyl:(⟨nm::yl.S,_,_⟩:Yh)=yl' at he
        have UL:yl'.S=nm::yl.S:=by rw[←hyl]
        have hYl:gL P G N dr yl' (gR 0 n a.tmps B.A.sv) 0 Ω1:=by
          intro S Bc Ω0' Ω' nm' off n0 vs x Z κ' L' E' ι' γ' J' w1' w' pr' A' tk' a' cargs ds next h1 hSS hle hV M' R' U' hr' hv hx hd' hL' he' hκ' r'
          rw[UL]at h1 hle hSS
          rw[←hyl]at he'
          simp only[]at he'
          split at he'
          · rename_i P8
            subst P8
            split at he'
            · rename_i Bx
              split at he'
              · rename_i hlen
                have hnS:nm'∈S:=hSS _ (List.mem_cons_self ..)
                have ht:Ω'.t nm'= [w.heap.size+1+1]:=((hle.2 _ (List.mem_cons_self ..)).1).trans ht1
                have hf:Ω'.f nm'=uZ:=((hle.2 _ (List.mem_cons_self ..)).2).trans hf1
                obtain⟨k1,k2,k3,_⟩:=M'.rwo _ _ Bx
                rw[ht]at k1
                rw[k1,hf]at k3
                have iT:=(R'.wk k3).2
                have hcs:cargs.size=ps.size:=by
                  have:=hr'.length
                  have:=hv.1
                  simp at*;omega
                have htm:(ps.zip cargs).foldl (fun tmps (t,a)=>tmps.setIfInBounds t a) a.tmps=tG ps.toList cargs.toList a.tmps:=by
                  rw[←Array.foldl_toList,Array.toList_zip];exact AO _ _ _
                refine⟨w.heap.size+1,Gx,tG ps.toList cargs.toList a.tmps,assign,body,ht, ?_,roundIn_of_wpIn trivial ?_⟩
                · rw[←htm];exact run_yield iT hcs
                have hVr: ∀j,n≤j→n≤n+off+j∧gR n n0 a'.tmps Bc.A.sv (n+off+j)=B.A.sv j:=fun j hj=>by
                  obtain⟨v1,v2⟩:=hV j (Nat.zero_le _)
                  refine⟨by omega, ?_⟩
                  have e1:n+off+j-n=off+j:=by omega
                  simp only[gR,e1,if_neg (show¬off+j<n0 by omega)]
                  rw[v2]
                  simp only[gR,Nat.sub_zero,if_neg (show¬j<n by omega)]
                have hYr:gL P G N dr (yl.under S (n+off)) (gR n n0 a'.tmps Bc.A.sv) n Ω':=gL.under (gL.mono hY (oB.trans (hle.sub fun x hx=>Cz _ hx))) (fun x hx=>hSS x (Cz _ hx)) hVr
                have Rr:=R'.round (n:=n) (off:=off) (T:=a.tmps) R1.size (fun i hi=>by
                  obtain⟨v1,v2⟩:=hV i (Nat.zero_le _)
                  refine⟨v1, ?_⟩
                  rw[U'.sv,v2]
                  simp only[gR,Nat.sub_zero,if_pos hi]) hr' Qa
                have Ur:=U'.enter n n0 a'.tmps
                have Mr:=M'.round (n:=n) (off:=off) (n0:=n0) (ps:=ps.toList) hv
                refine iha (r:=some (w.heap.size+1)) (B:={Bc with A:={Bc.A with sv:=gR n n0 a'.tmps Bc.A.sv}}) (Ω0:=Ω') (a:={tmps:=tG ps.toList cargs.toList a.tmps,defers:= []}) (fun h=>by cases h) hYr Mr ⟨w1',pr',_,tk',Rr,Ur⟩ DM.nil hL' he' ?_
                rintro e Ω2 Z1 L2 E2 ι2 γ2 J3 a2 w3 uS M2 R2 hd2 hL2 ⟨pre,rfl⟩ ⟨suf,rfl⟩ he2
                simp only[]at he2
                split at he2
                · rename_i hr1
                  obtain⟨q1,q2,q3,_⟩:=M2.rwo _ _ hr1
                  have ht2:=(uS.2 _ hnS).1.trans ht
                  have hf2:=(uS.2 _ hnS).2.trans hf
                  rw[ht2]at q1
                  rw[q1,hf2]at q3
                  obtain⟨wq,prq,Aq,tkq,Rq,Uq⟩:=R2
                  have P3:=(Rq.wk q3).2
                  refine⟨_,run_beginRound P3 rfl, ?_⟩
                  have Mb:=M2.Iv hr1 q1 .busy
                  rw[hf2]at Mb
                  refine ihb (r:=some (w.heap.size+1)) (Ω0:=Ω') (fun h=>by cases h) (gL.mono hYr uS) Mb ⟨wq,prq,Aq,tkq,Rq.xM q3 (uZ .busy),Uq⟩ hd2 hL2 he2 ?_
                  rintro e2 Ω3 Z2 L3 E3 ι3 γ3 J4 a3 w4 xw M3 R3 _ hL3 ⟨Rm,rfl⟩ ⟨XH,rfl⟩ he3
                  simp only[]at he3
                  split at he3
                  · rename_i LW
                    obtain⟨p1,p2,p3,_⟩:=M3.rwo _ _ LW
                    have ht3:=(xw.2 _ hnS).1.trans ht2
                    have hf3:=(xw.2 _ hnS).2.trans hf2
                    rw[ht3]at p1
                    rw[p1,hf3]at p3
                    obtain⟨wz,prz,Az,tkz,Rz,Uz⟩:=R3
                    have Bs:=(Rz.wk p3).2
                    have Me:=M3.Iv LW p1 (Ip e2)
                    rw[hf3]at Me
                    have fin:next (a'.put x (.bool (decide (e2= .normal)))) (w4.putObj (w.heap.size+1) (uZ (Ip e2))):=
                      hκ' Ω3 _ _ _ ι3 γ3 _ _ _ (uS.trans xw) ((Me.leave n).iy (d:=bv (decide (e2= .normal))) fun _ _=> .x rfl rfl) (bW.leave (Rz.xM p3 (uZ (Ip e2))) Uz R'.size hx (aP.2 ⟨rfl,rfl⟩))
                        (by cases x<;>exact hd'.mono (uS.trans xw)) (by rw[hL3];cases x<;>rfl) ⟨Rm++pre,by simp⟩ ⟨suf++XH,by simp⟩ he3
                    cases e2 with
                    |normal=>exact⟨_,_,run_endRound none Bs,_,rfl,fin⟩
                    |ret=>exact⟨_,_,run_endRound (some .ret) Bs,_,rfl,fin⟩
                    |exit id=>exact⟨_,_,run_endRound (some (.exit id)) Bs,_,rfl,fin⟩
                  · cases he3
                · cases he2
              · cases he'
            · cases he'
          · rename_i P8
            have h1':nm'∈yl.S:=by
              rcases List.mem_cons.1 h1 with h|h
              · exact absurd h P8
              · exact h
            exact hY h1' (fun x hx=>hSS x (Cz _ hx)) (oB.trans (hle.sub fun x hx=>Cz _ hx)) (fun j hj=>by
              obtain⟨v1,v2⟩:=hV j (Nat.zero_le _)
              refine⟨v1,v2.trans ?_⟩
              simp only[gR,Nat.sub_zero,if_neg (show¬j<n by omega)]) M' R' U' hr' hv hx hd' hL' he' hκ' r'
        have hdm:DM Ω0 Ω1 ([mark w.heap.size]++a.defers):=by
          have hno: ¬Ω.c [w.heap.size+1]:=fun h=>by have:=M.con _ h;rw[hn1]at this;cases this
          have h1:=hd.mono oB
          refine⟨h1.1,List.nodup_cons.2 ⟨fun oC=> ?_,h1.2.1⟩,fun d hdd=> ?_⟩
          · obtain⟨b',e1,e2,_⟩:=hd.2.2 _ oC
            have:w.heap.size=b':=by simpa[mark]using e1
            subst this
            exact hno e2
          · rcases List.mem_cons.1 hdd with rfl|hdd
            · exact⟨_,rfl,hc1,fun h=>hno (hd.1 _ h)⟩
            · exact h1.2.2 d hdd
        have UE:aX w2 pr tk2 (#[Value.func (.yield (w.heap.size+1)) #[] #[]]++cv).toList (.v (.func (.yield (w.heap.size+1)) #[] #[])::dcs):=by
          rw[Array.toList_append]
          exact⟨aP.2 ⟨rfl,rfl⟩,hrc⟩
        have aam:bA G E (ι.set nm [w.heap.size+1+1]) (Y.jE nm).h (.yl nm::eT) (.v (.func (.yield (w.heap.size+1)) #[] #[])::dcs):=by
          refine bA.mk ?_ hvc
          have:=VR.yl (G:=G) (E:=E) (ι:=ι.set nm [w.heap.size+1+1]) (h:=(Y.jE nm).h) (n:=nm) (k:= .ready) (by simp[Sy.jE,Sy.raw,ba])
          simpa[ri]using this
        obtain⟨hb,oz⟩:=hI (B:=B) (Ω0:=Ω0) (a:={a with defers:= [mark w.heap.size]++a.defers}) (x:=none) (next:=fun a' w3=> ∃jump w4,(Instr.endLoop (w.heap.size+1)).run P w3= .ok jump w4∧
            (match jump with
             |none=>Q .normal a' w4
             |some c=>c.wpIn (wF none) 0 P Q a' w4)) hYl M1 Rb U UE aam (fun i h=>by cases h) hdm hL he (by
          rintro Ω2 Y2 L2 E2 ι2 γ2 J3 a2 w3 uS M2 R2 hd2 hL2 ⟨pre,rfl⟩ ⟨suf,rfl⟩ he2
          rw[UL]at uS
          have xw:Ω.le yl.S Ω2:=oB.trans (uS.sub fun x hx=>Cz _ hx)
          have go: ∀{k:RS} {e:VE},find Y2.h nm=some (.raw k)→K4 k≠ .busy→W_ k=jmp e→aa G N (κ e (Y2.kill nm)) (pre++L) (E++suf)=some dr→ ∃jump w4,(Instr.endLoop (w.heap.size+1)).run P w3= .ok jump w4∧
              (match jump with
               |none=>Q .normal a2 w4
               |some c=>c.wpIn (wF none) 0 P Q a2 w4):=by
            intro k e lI hst hpd he3
            obtain⟨p1,p2,p3,_⟩:=M2.rwo _ _ lI
            have ht2:=(uS.2 _ (List.mem_cons_self ..)).1.trans ht1
            have hf2:=(uS.2 _ (List.mem_cons_self ..)).2.trans hf1
            rw[ht2]at p1
            rw[p1,hf2]at p3
            obtain⟨wz,prz,Az,tkz,Rz,Uz⟩:=R2
            have iT:=(Rz.wk p3).2
            have fin:=fun o=>hκ e Ω2 (Y2.kill nm) _ _ ι2 γ2 _ a2 _ xw (M2.JA lI p1 o) ⟨wz,prz,Az,tkz,Rz.xM p3 o,Uz⟩ hd2 hL2 ⟨pre,rfl⟩ ⟨suf,rfl⟩ he3
            refine⟨_,_,run_endLoop iT hst, ?_⟩
            have aai:(MR Gx a.tmps ps assign body w.heap.size k).pending=jmp e:=hpd
            rw[aai]
            cases e with
            |normal=>exact fin _
            |ret=>exact wpIn_ret (fin _)
            |exit id=>exact wpIn_exit (fin _)
          simp only[]at he2
          split at he2
          · rename_i lI
            exact go (e:= .normal) lI (by simp[K4]) rfl he2
          · rename_i e lI
            exact go (e:=e) lI (by simp[K4]) rfl he2
          · cases he2)
        have P0:(Instr.enterLoop Gx a.tmps ps assign body none).run P w= .ok (w.heap.size+1,[mark w.heap.size]) w2:=by
          rw[←hw2];exact run_enterLoop_outer Gx a.tmps ps assign body
        have JV:(resolve a.eval (rangeCall g (w.heap.size+1)) 0).run P w2= .ok {target:= .fn (.func f) cv,args:= #[.func (.yield (w.heap.size+1)) #[] #[]]} w2:=by
          have hconst:a.eval (.const (.func (.yield (w.heap.size+1)) #[] #[]))= .func (.yield (w.heap.size+1)) #[] #[]:=rfl
          simp[resolve,hev,hconst,Deferred.ofValue]
        have hinv:(invoke (.fn (.func f) cv) #[.func (.yield (w.heap.size+1)) #[] #[]]).run P w2= .ok (.enter f (#[.func (.yield (w.heap.size+1)) #[] #[]]++cv)) w2:=by
          simp[invoke,bI hb]
        have PX:CallsIn (wF none) (0-1) P f (#[.func (.yield (w.heap.size+1)) #[] #[]]++cv) w2 (rangePost (wF none) 0 P (w.heap.size+1) Q {a with defers:= [mark w.heap.size]++a.defers}):=by
          refine iJ.2 (oz.mono ?_)
          rintro e w' ⟨v,rfl,h⟩
          exact h
        exact⟨_,_,_,_,_,_,_,_,P0,JV,fun _ _=>trivial,hinv,fun h=>(by simp[wF,Fence.wide]at h),PX⟩
      · cases he
    · cases he
  |scope=>intro B r Ω0 Ω yl rd bi ks Y κ L E ι γ J a w Q hr hY M R hd hL he hκ;cases he
  |label=>intro B r Ω0 Ω yl rd bi ks Y κ L E ι γ J a w Q hr hY M R hd hL he hκ;cases he
  |goto=>intro B r Ω0 Ω yl rd bi ks Y κ L E ι γ J a w Q hr hY M R hd hL he hκ;cases he
  |refuse=>intro B r Ω0 Ω yl rd bi ks Y κ L E ι γ J a w Q hr hY M R hd hL he hκ;cases he
theorem JX{C:Cx}{inl:FH}(hP:C.P=P)(hG:Sound P (bg G))(hm:P.follows .mixedOrders=true)(hI:qm P G N dr inl):qm P G N dr (Qj C inl):=by
 intro yl B Ω0 Ω f n vs x Y κ L E ι γ J w1 w pr A tk a cargs ds next hY M R U hr hv hx hd hL he hκ
 unfold Qj at he;rw[hP]at he;split at he
 ·rename_i fn hfn;split at he
  ·rename_i c rs hb hrs;split at he
   ·rename_i hc;obtain⟨UA,hlen⟩:=hc;refine⟨⟨fn,hfn,by rw[hb];rfl,UA⟩, ?_⟩;have hds:ds.length≤fn.ntmps:=by have:=hv.1;omega
    have Mc:=M.enter (n:=fn.ntmps) (n0:=n) hv hlen
    have Rc:bW P {B with A:={B.A with sv:=gR fn.ntmps n a.tmps B.A.sv}} fn.ntmps w (cargs++Array.replicate (fn.ntmps-cargs.size) undef) ⟨nI fn.ntmps ds J.s,J.m,J.c⟩:=
     ⟨w1,pr,_,tk,R.enter hr hds,U.enter fn.ntmps n a.tmps⟩
    have hYc:gL P G N dr (yl.push fn.ntmps) (gR fn.ntmps n a.tmps B.A.sv) fn.ntmps Ω:=gL.push hY fun j _=>⟨by omega,by simp only[gR,Nat.add_sub_cancel_left,Nat.sub_zero]⟩
    have fin: ∀{Ω':bz} {κ':Sy→FT} {L':List (List D→Option D)} {E':List D},Ω.le yl.S Ω'→lL P B n G N dr Ω0 yl.S Ω κ' L' E' next→ ∀{e:VE} {Y2:Sy} {L2:List (List D→Option D)} {E2:List D} {ι2:Im} {γ2:Nat→Tok} {J2:St} {a2:Act} {w2:World},Mt Ω' G E2 ι2 γ2 Y2 J2→
      bW P {B with A:={B.A with sv:=gR fn.ntmps n a.tmps B.A.sv}} fn.ntmps w2 a2.tmps J2→DM Ω Ω' a2.defers→L2.length=Y2.d→(∃pre,L2=pre++L')→(∃suf,E2=E'++suf)→
      aa G N (match e with| .exit _=> .bad 100032|_=>match Af rs Y2 with|some v=>κ' ((Y2.leave fn.ntmps).iy x v)|none=> .bad 100033) L2 E2=some dr→
      bodyPostM (wF none) 0 P fn (fun e w'=> ∃v,e= .returned v∧next (a.put x v) w') e.ex a2 w2:=by
     intro Ω' κ' L' E' hle hκ' e Y2 L2 E2 ι2 γ2 J2 a2 w2 M2 R2 hd2 hL2 hp hs he2
     have go:aa G N (match Af rs Y2 with|some v=>κ' ((Y2.leave fn.ntmps).iy x v)|none=> .bad 100033) L2 E2=some dr→LeavesInM (wF none) 0 P fn a2.tmps (fun e w'=> ∃v,e= .returned v∧next (a.put x v) w') a2.defers .returning w2:=fun he2=>by
      split at he2
      ·rename_i v hvv;refine pK (S:=yl.S) M2 R2 hd2 hle fun Ω3 w3 J3 xw M3 R3=> ?_;obtain⟨d0,k1,k2⟩:=Ag M3 hvv;obtain⟨wq,prq,Aq,tkq,Rq,Uq⟩:=R3;obtain⟨u,hu1,hu2⟩:=jH Rq hrs k1;exact⟨u,hu1,u,rfl,hκ' Ω3 _ L2 E2 ι2 γ2 _ _ w3 xw ((M3.leave fn.ntmps).iy fun _ _=>k2) (bW.leave Rq Uq R.size hx hu2) (by cases x<;>exact hd.mono xw) (by rw[hL2];cases x<;>rfl) hp hs he2⟩
      ·cases he2
     cases e with
     |normal=>exact go he2
     |ret=>exact go he2
     |exit i=>cases he2
    refine iJ.1 (callsIn_of_wp_marks (F:=wF none) (n:=0) hfn hb trivial ?_);simp only[]at he;split at he
    ·rename_i jh hj
     have ok:jh.1.ok Y.nv=true:=by
      split at hj
      ·cases hj
      ·exact zK (fun _=>vQ) hj
     simp only[aa]at he;refine jl (r:=none) (Ω0:=Ω) hP hG hm hI c (fun _=>rfl) hYc Mc.Gi Rc DM.nil (by simp[hL]) he ?_;rintro e Ω' Y2 L2 E2 ι2 γ2 J2 a2 w2 hle M2 R2 hd2 hL2 ⟨pre,rfl⟩ ⟨suf,rfl⟩ he2;refine fin (κ':=fun Y'=>match jh.1.mt Y' with|some p=> .next (Y'.d-(Y.d+1)) p.1|none=> .bad 100034) (L':=(fun vs=>aa G N (κ (jh.1.mk' Y.nv (gQ jh.1.row) Y.d jh.2)) L (E++vs))::L) (E':=E) hle ?_ M2 R2 hd2 hL2 ⟨pre,rfl⟩ ⟨suf,rfl⟩ he2;rintro Ω' Y' L3 E3 ι' γ' J' a' w' ϡ M' R' hd' hL' ⟨Rm,rfl⟩ ⟨XH,rfl⟩ he';simp only[]at he';split at he'
     ·rename_i p hp;simp only[aa,Bz]at he';obtain⟨ds',h3,f',h4,h5⟩:=he'
      have hix:Y'.d-(Y.d+1)=Rm.length:=by
       simp only[List.length_append,List.length_cons,hL]at hL';omega
      rw[hix,Xz (Nat.le_refl _),Nat.sub_self]at h4;simp only[List.getElem?_cons_zero,Jz]at h4;subst h4;have hnv:=M.nv;obtain⟨ι3,γ3,M3⟩:=jh.1.sound M' ok hp h3 M.nv (fun i hi=>by rw[Yz (by omega)]) Y.d jh.2;rw[dg h3,Hd.xD hp]at M3;exact hκ Ω' _ _ _ ι3 γ3 J' a' w' ϡ M3 R' hd' (by simp[hL,Hd.mk']) ⟨[],rfl⟩ ⟨ds',rfl⟩ h5
     ·cases he'
    ·refine jl (r:=none) (Ω0:=Ω) hP hG hm hI c (fun _=>rfl) hYc Mc Rc DM.nil hL he ?_;rintro e Ω' Y2 L2 E2 ι2 γ2 J2 a2 w2 hle M2 R2 hd2 hL2 hp hs he2;exact fin hle hκ M2 R2 hd2 hL2 hp hs he2
   ·cases he
  ·cases he
 ·cases he
theorem su{C:Cx}(hP:C.P=P)(hG:Sound P (bg G))(hm:P.follows .mixedOrders=true): ∀k,qm P G N dr (vD C k)
 |0=>fun _ _ _ _ _ _ _ _ _ he _=>by cases he
 |k+1=>JX hP hG hm (su hP hG hm k)
end
end
end Go.Proofs.YtdepmampjnlgiaaGreatDoor
