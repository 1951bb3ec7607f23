/- Part of the proof: symbolic execution of the program, its soundness, and the closing lemmas. No condition. -/
import Derived.Test.YtdepmampjnlgiaaGreatDoorEaa
import Derived.OwnWalkIn
import Derived.Maps.AppendAt
import Derived.Laws.OwnMore
import Derived.Laws.CopyRow
import Derived.Great.BuildSlice
import Derived.Maps.RangeRun
namespace Go.Proofs.YtdepmampjnlgiaaGreatDoor
open Go.RowKit
set_option maxRecDepth 100000
set_option linter.all false
section
abbrev eN(w:World):aT:=fun b _=>b<w.heap.size
abbrev eh:Mem:=fun _=>none
theorem gD{α β:Type}{f:α→Option β}: ∀{l:List α} {l':List β},l.mapM f=some l'→l'.length=l.length∧ ∀(i:Nat) (x':β),l'[i]?=some x'→ ∃x:α,l[i]?=some x∧f x=some x'
 | [],l',h=>by simp at h;subst h;simp
 |a::l,l',h=>by
  simp only[List.mapM_cons,Option.bind_eq_bind,Bz,Option.pure_def,Jz]at h;obtain⟨b,hb,r,hr,rfl⟩:=h;obtain⟨h1,h2⟩:=gD hr
  grind
section
variable {P : Program} {w : World} {pr : aT} {tk : ag} {m : Mem}
theorem cM{w':World}{pr':aT}{tk':ag}{v:Value}{d:D}(h:ai w pr tk v d)(hd:d.bB=true):ai w' pr' tk' v d:=by
 cases d<;>simp only[D.bB]at hd<;>try (cases hd;done)
 cases h;exact .v ‹_›
theorem tN{w':World}{pr':aT}{tk':ag}{v:Value}{d:D}(h:ai w pr tk v d)(hd:d.flat=true):ai w' pr' tk' v d:=by
 cases d<;>simp only[D.flat]at hd<;>try (simp[D.bB]at hd;done)
 ·exact cM h hd
 ·simp only[Tz]at hd;cases h with
  |agg h1 h2 h3=>exact .agg h1 h2 fun i c x hc hx=>cM (h3 i c x hc hx) (hd x (Lz hx))
 ·simp only[Tz]at hd;cases h with
  |tup h1 h3=>
   refine .tup h1 fun i c x hc hx=> ?_;have hx':=hd x (Lz hx);have h4:=h3 i c x hc hx;cases x
   case agg ys=>
    simp only[Tz]at hx';cases h4 with
    |agg h1 h2 h3=>exact .agg h1 h2 fun i c x hc hx=>cM (h3 i c x hc hx) (hx' x (Lz hx))
   all_goals first|exact cM h4 hx'|(simp[D.bB]at hx';done)
theorem tP{v:Value}{d:D}(h:ai w pr tk v d)(hd:d.eF=true){tk':ag}:ai w pr tk' v d:=by
 cases h<;>first
  |exact .v ‹_›
  |exact .nil
  |exact .nil'
  |exact .mt
  |exact .emp
  |exact .list _ ‹_› ‹_› ‹_› ‹_›
  |exact .lptr _ ‹_› ‹_›
  |exact .nilmap
  |exact .fm ‹_› ‹_› ‹_› ‹_› ‹_› ‹_› ‹_›
  |(simp[D.eF]at hd;done)
theorem aW{v:Value}{d:D}(h:ai w pr tk v d)(hd:d.aN=true){tk':ag}:ai w pr tk' v d:=by
 cases d
 case clo f xs=>
  simp only[D.aN,Tz]at hd;cases h with
  |clo hf h1 h3=>exact .clo hf h1 fun i c x hc hx=>tP (h3 i c x hc hx) (hd x (Lz hx))
  |bclo h1 h3=>exact .bclo h1 fun i c x hc hx=>tP (h3 i c x hc hx) (hd x (Lz hx))
 all_goals exact tP h hd
theorem iw{v:Value}{d:D}(h:ai w pr tk v d)(hd:d.aK=true){tk':ag}:ai w pr tk' v d:=by
 cases d
 case agg xs=>
  simp only[D.aK,Tz]at hd;cases h with
  |agg h1 h2 h3=>exact .agg h1 h2 fun i c x hc hx=>aW (h3 i c x hc hx) (hd x (Lz hx))
 case clo f xs=>
  simp only[D.aK,Tz]at hd;cases h with
  |clo hf h1 h3=>exact .clo hf h1 fun i c x hc hx=>aW (h3 i c x hc hx) (hd x (Lz hx))
  |bclo h1 h3=>exact .bclo h1 fun i c x hc hx=>aW (h3 i c x hc hx) (hd x (Lz hx))
 case tup xs=>
  simp only[D.aK,Tz]at hd;cases h with
  |tup h1 h3=>
   refine .tup h1 fun i c x hc hx=> ?_;have hx':=hd x (Lz hx);have h4:=h3 i c x hc hx;cases x
   case agg ys=>
    simp only[Tz]at hx';cases h4 with
    |agg h1 h2 h3=>exact .agg h1 h2 fun i c x hc hx=>aW (h3 i c x hc hx) (hx' x (Lz hx))
   all_goals exact aW h4 hx'
 all_goals exact aW h (by simpa only[D.aK]using hd)
theorem eB(M:dI P w pr tk m){v:Value}{d:D}{es:List (List D)}(h:ai w pr tk v d)(he:d.elems m=some es):
  ((v= .slice none 0 0∨ ∃a cap,v= .slice (some a) 0 cap)∧es= [])∨ ∃(b off cap size:Nat) (us:Nat→Value),v= .slice (some ⟨b,off,none⟩) es.length cap∧es.length≤cap∧(∀c∈es,c.length=size)∧
   (∀j,j<es.length*size→w.cell? ⟨b,off+j,none⟩=some (us j)∧(us j).oneCell'=true)∧
   ∀(i:Nat) (c:List D),es[i]?=some c→ ∀(j:Nat) (x:D),c[j]?=some x→ai w pr tk (us (i*size+j)) x:=by
 cases d<;>simp only[D.elems]at he<;>try (cases he;done)
 case nil=>cases he;cases h;exact .inl ⟨.inl rfl,rfl⟩
 case mt=>cases he;cases h;exact .inl ⟨.inr ⟨_,_,rfl⟩,rfl⟩
 case list es'=>
  cases he;cases h with
  |nil'=>exact .inl ⟨.inl rfl,rfl⟩
  |emp=>exact .inl ⟨.inr ⟨_,_,rfl⟩,rfl⟩
  |list us hes jB ff hrr=>
   exact .inr ⟨_,_,_,_,us,rfl,jB,hes,fun j hj=>⟨(ff j hj).1,(ff j hj).2.2⟩,fun i c hc j x hx=>(hrr i c hc j x hx).nE⟩
 case sl t size off len lim=>
  split at he
  ·rename_i g e es0 hm;split at he
   ·rename_i hc;obtain⟨hlen,bS⟩:=hc;cases he;have hl:((es0.drop off).take len).length=len:=by simp;omega
    cases h with
    |sl ht hcc hll ho=>
     rename_i b cap c o;have hsz: ∀q∈es0,q.length=size:=fun q hq=>by simpa using Tz.1 bS q hq
     have UK:=Aj M hm
     have hse:es0= []∨size=P.cellsOf e:=by
      cases h0:es0 with
      |nil=>exact .inl rfl
      |cons q r=>exact .inr (by rw[←hsz q (by rw[h0];simp),UK q (by rw[h0];simp)])
     right;refine⟨b,o,c,size,fun j=>(w.cell? ⟨b,o+j,none⟩).getD undef,by rw[hl],by rw[hl];exact hll,fun q hq=>hsz q (List.mem_of_mem_drop (List.mem_of_mem_take hq)),fun j hj=> ?_,fun i q hq j x hx=> ?_⟩
     ·rw[hl]at hj;have sU:0<len:=by rcases Nat.eq_zero_or_pos len with h|h;subst h;simp at hj;exact h
      have Qc:0<size:=by rcases Nat.eq_zero_or_pos size with h|h;subst h;simp at hj;exact h
      have ho:o=off*size:=by rcases ho with h|h;exact h;omega
      have hse:size=P.cellsOf e:=by rcases hse with h|h;subst h;simp at hlen;omega;exact h
      have hdiv:j/size<len:=Nat.div_lt_of_lt_mul (by rw[Nat.mul_comm];exact hj);have P5:j%size<size:=Nat.mod_lt _ Qc;have hi:off+j/size<es0.length:=by omega
      have hcl:es0[off+j/size].length=size:=hsz _ (List.getElem_mem hi);obtain⟨u,h1,h2,_⟩:=tV M hm ht (i:=off+j/size) (j:=j%size) (c:=es0[off+j/size]) (d:=es0[off+j/size][j%size]'(by rw[hcl];exact P5)) (Ez hi) (Ez _)
      have he1:(off+j/size)*P.cellsOf e+j%size=o+j:=by
       rw[←hse,ho,Nat.add_mul,Nat.add_assoc];congr 1;rw[Nat.mul_comm];exact Nat.div_add_mod j size
      rw[he1]at h1;simp only[h1,Option.getD_some];exact⟨trivial,h2⟩
     ·have hi:i<len:=by have:=(Gz.1 hq).1;omega
      rw[List.getElem?_take_of_lt hi,List.getElem?_drop]at hq;have hcl:=hsz q (Lz hq);have hj:j<size:=by rw[←hcl];exact(Gz.1 hx).1
      have ho:o=off*size:=by rcases ho with h|h;exact h;omega
      have hse:size=P.cellsOf e:=by rw[←hcl,UK q (Lz hq)]
      obtain⟨u,h1,_,h3⟩:=tV M hm ht hq hx;have he1:(off+i)*P.cellsOf e+j=o+(i*size+j):=by rw[←hse,ho,Nat.add_mul,Nat.add_assoc]
      rw[he1]at h1;simp only[h1,Option.getD_some];exact h3
   ·cases he
  ·rename_i xs hm;split at he
   ·rename_i hc;obtain⟨rfl,hlen⟩:=hc;cases he;have hl:(((xs.drop off).take len).map fun d=> [d]).length=len:=by simp;omega
    cases h with
    |sl ht hcc hll ho=>
     rename_i b cap c o;obtain⟨b',lR,C,ty,g1,g2,g3⟩:=M.obj _ _ hm;rw[ht]at g1;cases g1;right;refine⟨b,o,c,1,fun j=>(w.cell? ⟨b,o+j,none⟩).getD undef,by rw[hl],by rw[hl];exact hll,fun q hq=> ?_,fun j hj=> ?_,fun i q hq j x hx=> ?_⟩
     ·obtain⟨_,_,rfl⟩:=List.mem_map.1 hq;rfl
     ·rw[hl]at hj;have ho:o=off:=by rcases ho with h|h;omega;omega
      subst ho;have hjl:o+j<C.size:=by rw[g3.1];omega
      have ff:w.cell? ⟨b,o+j,none⟩=some C[o+j]:=by rw[cell_of_row w b _ C ty (0,0) g2];exact Rz hjl
      simp only[ff,Option.getD_some];exact⟨trivial,g3.2.1 _ _ (Rz hjl)⟩
     ·have hi:i<len:=by have:=(Gz.1 hq).1;omega
      have ho:o=off:=by rcases ho with h|h;omega;omega
      subst ho;rw[Dz,List.getElem?_take_of_lt hi,List.getElem?_drop]at hq;obtain⟨d0,hd0,rfl⟩:=Mz.1 hq;have hj:j=0:=by have:=(Gz.1 hx).1;simpa using this
      subst hj;simp only[List.getElem?_cons_zero,Jz]at hx;subst hx;have hil:o+i<C.size:=by rw[g3.1];omega
      have ff:w.cell? ⟨b,o+(i*1+0),none⟩=some C[o+i]:=by rw[Nat.mul_one,Nat.add_zero,cell_of_row w b _ C ty (0,0) g2];exact Rz hil
      simp only[ff,Option.getD_some];exact g3.2.2 _ _ _ (Rz hil) hd0
   ·cases he
  ·cases he
theorem bU{f:D→Option D}{c c':List D}(h:aS f c=some c'):c'.length=c.length∧ ∀(i:Nat) (x':D),c'[i]?=some x'→ ∃x:D,c[i]?=some x∧(x.bB=true∧x'=x∨f x=some x'):=by
 unfold aS at h;split at h
 ·grind
 ·obtain⟨h1,h2⟩:=gD h
  grind
theorem lr{f:D→Option D}{es es':List (List D)}(h:cR f es=some es'):es'.length=es.length∧ ∀(i:Nat) (c':List D),es'[i]?=some c'→ ∃c:List D,es[i]?=some c∧c'.length=c.length∧
  ∀(j:Nat) (x':D),c'[j]?=some x'→ ∃x:D,c[j]?=some x∧(x.bB=true∧x'=x∨f x=some x'):=by
 unfold cR at h;split at h
 ·rename_i bS;cases h;exact⟨rfl,fun i c hc=>⟨c,hc,rfl,fun j x hx=>⟨x,hx, .inl ⟨Tz.1 (Tz.1 bS c (Lz hc)) x (Lz hx),rfl⟩⟩⟩⟩
 ·obtain⟨h1,h2⟩:=gD h;exact⟨h1,fun i c' hc=>let⟨c,a,b⟩:=h2 i c' hc;⟨c,a,(bU b).1,(bU b).2⟩⟩
theorem FK{w:World}{b:Nat}{o:Obj}(h:w.heap[b]?=some o):b<w.heap.size:=(Array.getElem?_eq_some_iff.1 h).1
theorem MA(M:dI P w pr tk m){t:Tok}{es:List (D×D)}(hm:m t=some (.map es))(bS:es.all (fun p=>p.1.aK&&p.2.aK)=true){v:Value}(hr:ai w pr tk v (.mp t)){pr':aT}(K:cY w w pr pr' tk tk)
  (hp: ∀b o,w.heap[b]?=some o→bX tk m b→pr' b 0):ai w pr' aI v (.fm (aG es)):=by
 cases hr with
 |mp ht=>
  obtain⟨b',lR,a7,h1,h2,h3,h4,h5⟩:=M.obj t _ hm;rw[ht]at h1;cases h1;have nt:=fun(i:Nat) (p:D×D) (h:es[i]?=some p)=>Tz.1 bS p (Lz h);simp only[Az]at nt;refine .fm h2 (hp _ _ h2 ⟨t,_,_,hm,ht⟩) h3 h4 (fun i en he=> ?_) (fun i en p he hpp=>iw ((h5 i en p he hpp).2.1.keeps K) (nt i p hpp).1) (fun i en p he hpp=>iw ((h5 i en p he hpp).2.2.keeps K) (nt i p hpp).2);have hi:=(Array.getElem?_eq_some_iff.1 he).1;exact(h5 i en _ he (Ez (show i<es.length by omega))).1
theorem mz(M:dI P w pr tk m)(hpr: ∀b o,pr b o→b<w.heap.size): ∀(n:Nat) (v:Value) (d d':D),az m n d=some d'→ai w pr tk v d→ai w (eN w) aI v d'
 |0,_,_,_,h,_=>by simp[az]at h
 |n+1,v,d,d',h,hr=>by
  have K:cY w w pr (eN w) tk tk:=⟨fun b o h=>⟨rfl,hpr b o h⟩,fun _ _ h=>h⟩;have Po: ∀{b o:Nat} {u:Value},w.cell? ⟨b,o,none⟩=some u→b<w.heap.size:=fun h=>World.block_lt_of_cell? w _ h
  have step: ∀{v:Value} {x x':D},ai w pr tk v x→(x.bB=true∧x'=x∨az m n x=some x')→ai w (eN w) aI v x':=fun{v x x'} hv h=>by
   rcases h with⟨h1,rfl⟩|h1
   ·exact cM hv h1
   ·exact mz M hpr n v x x' h1 hv
  cases d<;>simp only[az]at h<;>try (cases h;done)
  case v x=>cases h;cases hr;exact .v ‹_›
  case nil=>cases h;cases hr;exact .nil'
  case mt=>cases h;exact aW ((rF hr).keeps K) rfl
  case list es=>cases h;exact aW (hr.keeps K) rfl
  case lptr xs=>cases h;exact aW (hr.keeps K) rfl
  case nilmap=>cases h;exact aW (hr.keeps K) rfl
  case fm es=>cases h;exact aW (hr.keeps K) rfl
  case mp t=>
   split at h
   ·rename_i es hm;split at h<;>cases h;rename_i bS;exact MA M hm bS hr K fun b _ hb _=>FK hb
   ·cases h
  case sl t size off len lim=>
   rw[Bz]at h;obtain⟨es,he,h⟩:=h;obtain⟨es',hv,rfl⟩:=Mz.1 h;obtain⟨hl,hg⟩:=lr hv;rcases eB M hr he with⟨hv0,rfl⟩|⟨b,o,cap,sz,us,rfl,h1,h2,h3,h4⟩
   ·have:es'= []:=List.eq_nil_of_length_eq_zero (by simpa using hl);subst this;rcases hv0 with rfl|⟨a,cap,rfl⟩
    ·exact .nil'
    ·exact .emp
   ·have jB:es'.length≤cap:=by omega
    have:=ai.list (w:=w) (pr:=eN w) (tk:=aI) (b:=b) (off:=o) (cap:=cap) (es:=es') (size:=sz) us (fun c' hc'=>by
      obtain⟨i,hi,rfl⟩:=List.getElem_of_mem hc';obtain⟨c,hc,hlc,_⟩:=hg i _ (Ez hi)
      rw[hlc,h2 c (Lz hc)]) jB (fun j hj=>by
       rw[hl]at hj
       exact⟨(h3 j hj).1,Po (h3 j hj).1,(h3 j hj).2⟩) (fun i c' hc' j x' hx'=>by
        obtain⟨c,hc,_,hg2⟩:=hg i c' hc';obtain⟨x,hx,hfx⟩:=hg2 j x' hx'
        exact step (h4 i c hc j x hx) hfx)
    grind
  case ptr t off=>
   split at h
   ·rename_i xs hm;split at h
    ·obtain⟨c',hv,rfl⟩:=Mz.1 h;obtain⟨hl,hg⟩:=bU hv;cases hr with
     |ptr ht=>
      obtain⟨us,h1,h2⟩:=jk M hm ht off;refine .lptr us (fun j hj=> ?_) fun j x' hx'=> ?_
      ·grind
      ·grind
    ·cases h
   ·cases h
  case rptr t size i j=>
   split at h
   ·rename_i g e es hm;rw[Bz]at h;obtain⟨c,hc,h⟩:=h;split at h
    ·rename_i bc;obtain⟨c',hv,rfl⟩:=Mz.1 h;obtain⟨hl,hg⟩:=bU hv;cases hr with
     |rptr ht=>
      obtain⟨us,h1,h2⟩:=lS M hm ht hc j;refine .lptr us (fun k hk=> ?_) fun k x' hx'=> ?_
      ·grind
      ·grind
    ·cases h
   ·cases h
  case clo f xs=>
   obtain⟨c',hv,rfl⟩:=Mz.1 h;obtain⟨hl,hg⟩:=bU hv;cases hr with
   |clo hf h1 h3=>
    refine .clo hf (by rw[hl];exact h1) fun i c x' hc hx'=> ?_
    grind
   |bclo h1 h3=>
    refine .bclo (by rw[hl];exact h1) fun i c x' hc hx'=> ?_
    grind
theorem my(M:dI P w pr tk m)(hpr: ∀b o,pr b o→b<w.heap.size){v:Value}{d d':D}(h:bD m d=some d')(hr:ai w pr tk v d):ai w (eN w) aI v d':=by
 cases d
 case agg xs=>
  obtain⟨c',hv,rfl⟩:=Mz.1 h;obtain⟨hl,hg⟩:=bU hv;cases hr with
  |agg h1 h2 h3=>
   refine .agg (by rw[hl];exact h1) h2 fun i c x' hc hx'=> ?_;obtain⟨x,hx,hfx⟩:=hg i x' hx';rcases hfx with⟨hf,rfl⟩|hf
   ·exact cM (h3 i c _ hc hx) hf
   ·exact mz M hpr 6 c x x' hf (h3 i c x hc hx)
 all_goals exact mz M hpr 6 v _ d' (by simpa only[bD]using h) hr
theorem uD{n:Nat}{v:Value}{d d':D}(h:az m n d=some d')(hd:d.eF=true)(hr:ai w pr tk v d):ai w pr aI v d':=by
 cases n with
 |zero=>simp[az]at h
 |succ n=>
  cases d<;>simp only[D.eF]at hd<;>try (cases hd;done)
  all_goals simp only[az,Jz]at h;subst h
  case v x=>exact aW hr rfl
  case nil=>cases hr;exact .nil'
  case mt=>exact aW (rF hr) rfl
  case list=>exact aW hr rfl
  case lptr=>exact aW hr rfl
  case nilmap=>exact aW hr rfl
  case fm=>exact aW hr rfl
theorem uE{n:Nat}{v:Value}{d d':D}(h:az m n d=some d')(hd:d.aN=true)(hr:ai w pr tk v d):ai w pr aI v d':=by
 cases d
 case clo f xs=>
  cases n with
  |zero=>cases h
  |succ n=>
   obtain⟨xs',h1,rfl⟩:=Mz.1 (show(aS (az m n) xs).map (D.clo f)=some d' from h);obtain⟨hl,hg⟩:=bU h1;simp only[D.aN,Tz]at hd
   have one: ∀(u:Value) (i:Nat) (x':D),xs'[i]?=some x'→(∀x,xs[i]?=some x→ai w pr tk u x)→ai w pr aI u x':=fun u i x' hx' hu=>by
    obtain⟨x,hx,h⟩:=hg i x' hx';rcases h with⟨hf,rfl⟩|h
    ·exact cM (hu _ hx) hf
    ·exact uD h (hd x (Lz hx)) (hu _ hx)
   cases hr with
   |clo hf h1 h3=>exact .clo hf (by rw[hl];exact h1) fun i c x' hc hx'=>one c i x' hx' fun x hx=>h3 i c x hc hx
   |bclo h1 h3=>exact .bclo (by rw[hl];exact h1) fun i c x' hc hx'=>one c i x' hx' fun x hx=>h3 i c x hc hx
 all_goals exact uD h hd hr
theorem wI{v:Value}{d d':D}(h:bD m d=some d')(hd:d.aK=true)(hr:ai w pr tk v d):ai w pr aI v d':=by
 have row: ∀{xs c':List D} {n:Nat},xs.all D.aN=true→aS (az m n) xs=some c'→c'.length=xs.length∧ ∀(u:Value) (i:Nat) (x':D),c'[i]?=some x'→ ∃x,xs[i]?=some x∧(ai w pr tk u x→ai w pr aI u x'):=by
  intro xs c' n bS hv;obtain⟨hl,hg⟩:=bU hv;refine⟨hl,fun u i x' hx'=> ?_⟩;obtain⟨x,hx,hfx⟩:=hg i x' hx';refine⟨x,hx,fun hu=> ?_⟩;rcases hfx with⟨hf,rfl⟩|hf
  ·exact cM hu hf
  ·exact uE hf (Tz.1 bS x (Lz hx)) hu
 cases d
 case agg xs=>
  obtain⟨c',hv,rfl⟩:=Mz.1 h;obtain⟨hl,hg⟩:=row (by simpa only[D.aK]using hd) hv;cases hr with
  |agg h1 h2 h3=>
   refine .agg (by rw[hl];exact h1) h2 fun i c x' hc hx'=> ?_;obtain⟨x,hx,hfx⟩:=hg c i x' hx'
   grind
 case clo f xs=>
  obtain⟨c',hv,rfl⟩:=Mz.1 h;obtain⟨hl,hg⟩:=row (by simpa only[D.aK]using hd) hv;cases hr with
  |clo hf h1 h3=>
   refine .clo hf (by rw[hl];exact h1) fun i c x' hc hx'=> ?_;obtain⟨x,hx,hfx⟩:=hg c i x' hx';exact hfx (h3 i c x hc hx)
  |bclo h1 h3=>
   refine .bclo (by rw[hl];exact h1) fun i c x' hc hx'=> ?_;obtain⟨x,hx,hfx⟩:=hg c i x' hx'
   grind
 case tup xs=>simp[bD,az]at h
 all_goals exact uE (n:=6) (by simpa only[bD]using h) (by simpa only[D.aK]using hd) hr
theorem iG{pr':aT}{p:D→Bool}(H: ∀v d d',bD m d=some d'→p d=true→ai w pr tk v d→ai w pr' aI v d'): ∀{vs:List Value} {ds as:List D},aX w pr tk vs ds→ds.mapM (bD m)=some as→ds.all p=true→aX w pr' aI vs as
 | [],[],as,_,h,_=>by simp at h;subst h;trivial
 |v::vs,d::ds,as,hr,h,hp=>by
  simp only[List.mapM_cons,Option.bind_eq_bind,Bz,Option.pure_def,Jz]at h;obtain⟨d',hd,r,hr',rfl⟩:=h;simp only[List.all_cons,Az]at hp;exact⟨H v d d' hd hp.1 hr.1,iG H hr.2 hr' hp.2⟩
 | [],_::_,_,h,_,_=>absurd h (by simp[aX])
 |_::_,[],_,h,_,_=>absurd h (by simp[aX])
end
def cX (P : Program) (f : Nat) : Prop := ∃ fn, P.funcs[f]? = some fn ∧ fn.body.isSome = true ∧ (fn.name == "runtime.NumGoroutine") = false
def AQ(w:World)(pr:aT):Prop:= ∀g xs,C_ g=some xs→ai w pr aI (.pointer (some ⟨g,0,none⟩)) (.lptr xs)
theorem AQ.keeps{w w':World}{pr pr':aT}(h:AQ w pr)(K: ∀b o,pr b o→w'.heap[b]?=w.heap[b]?∧pr' b o):AQ w' pr':=
 fun g xs hx=>(h g xs hx).keeps ⟨K,fun _ _ h=>h⟩
def wM(P:Program)(f:Nat)(ds:List D)(d:D):Prop:=
 (∀(w:World) (pr:aT) (cargs:Array Value),aX w pr aI cargs.toList ds→ ∃v,(callFunc f cargs).run P w= .ok (.value v) w∧ai w pr aI v d)∨
 cX P f∧ ∀(w:World) (pr:aT) (cargs:Array Value),(∀b o,pr b o→b<w.heap.size)→AQ w pr→aX w pr aI cargs.toList ds→
  Calls P f cargs w fun e w'=> ∃v pr',e= .returned v∧cW (fun _=>False) w w'∧(∀b o,pr b o→pr' b o)∧(∀b o,pr' b o→pr b o∨(w.heap.size≤b∧b<w'.heap.size))∧ai w' pr' aI v d
def YW(P:Program)(f:Nat)(ds:List D)(d:D):Prop:=
 cX P f∧ ∀(w:World) (pr:aT) (cargs:Array Value),(∀b o,pr b o→b<w.heap.size)→AQ w pr→aX w pr aI cargs.toList ds→
  Calls P f cargs w fun e w'=> ∃v pr',e= .returned v∧cW (fun _=>False) w w'∧(∀b o,pr' b o→w.heap.size≤b∧b<w'.heap.size)∧ai w' pr' aI v d
theorem YW.toP{P:Program}{f:Nat}{ds:List D}{d:D}(h:YW P f ds d):wM P f ds d:=
 .inr ⟨h.1,fun w pr cargs h1 h2 h3=>(h.2 w pr cargs h1 h2 h3).mono fun e w' ⟨v,pr',k1,k2,k3,k4⟩=>
  ⟨v,fun b o=>pr b o∨pr' b o,k1,k2,fun _ _ h=> .inl h,fun b o h=>h.elim .inl fun h=> .inr (k3 b o h),k4.keeps ⟨fun b o h=>⟨rfl, .inr h⟩,fun _ _ h=>h⟩⟩⟩
def Tk(P:Program)(f:Nat)(ds:List D)(r:D):Prop:=wM P f ds r.bare∧(r.eD=true→YW P f ds r.bare)
theorem rp{r:D}(h:r.eD=false):r.bare=r:=by
 unfold D.eD at h;unfold D.bare;split at h
 ·cases h
 ·rfl
theorem wM.toR{P:Program}{f:Nat}{ds:List D}{d:D}(h:wM P f ds d)(hd:d.eD=false):Tk P f ds d:=
 ⟨by rw[rp hd];exact h,fun h=>by rw[hd]at h;cases h⟩
def YV(P:Program)(f e:Nat)(ds:List D)(es:List (List D)):Prop:=
 cX P f∧ ∀(w:World) (pr:aT) (cargs:Array Value),(∀b o,pr b o→b<w.heap.size)→AQ w pr→aX w pr aI cargs.toList ds→
  Calls P f cargs w fun ex w'=> ∃b cap C,ex= .returned (.slice (some ⟨b,0,none⟩) es.length cap)∧cW (fun _=>False) w w'∧w.heap.size≤b∧w'.heap[b]?=some (.cells C e (0,0))∧es.length≤cap∧cap≤maxLen∧C.size=cap*P.cellsOf e∧bf P w' (fun _ _=>False) aI C e es
def OL(P:Program)(k f:Nat)(ds:List D)(es es':List (List D))(d:D):Prop:=
 cX P f∧es'.length=es.length∧ ∀(w:World) (pr:aT) (cargs:Array Value),(∀b o,pr b o→b<w.heap.size)→AQ w pr→cargs.size=ds.length→
  (∀(i:Nat) (v:Value) (x:D),i≠k→cargs[i]?=some v→ds[i]?=some x→ai w pr aI v x)→
  (es= []→cargs[k]?=some (.slice none 0 0)→Calls P f cargs w fun e w'=> ∃v pr',e= .returned v∧cW (fun _=>False) w w'∧(∀b o,pr b o→pr' b o)∧(∀b o,pr' b o→pr b o∨(w.heap.size≤b∧b<w'.heap.size))∧ai w' pr' aI v d)∧
  ∀(b cap t:Nat) (C:Array Value),(∀o,¬pr b o)→w.heap[b]?=some (.cells C t (0,0))→es.length≤cap→cap≤maxLen→C.size=cap*P.cellsOf t→bf P w pr aI C t es→cargs[k]?=some (.slice (some ⟨b,0,none⟩) es.length cap)→
   Calls P f cargs w fun e w'=> ∃v pr' C',e= .returned v∧cW (fun k=>k=b) w w'∧(∀b o,pr b o→pr' b o)∧(∀b o,pr' b o→pr b o∨(w.heap.size≤b∧b<w'.heap.size))∧ai w' pr' aI v d∧
    w'.heap[b]?=some (.cells C' t (0,0))∧C'.size=C.size∧bf P w' pr' aI C' t es'
structure Sound(P:Program)(Γ:Env):Prop where
 p: ∀f ds d,f<1000000→Γ.p f ds=some d→Tk P f ds d
 e: ∀k f ds r,f<1000000→k<1000000→Γ.e k f ds=some r→ ∃es es' d,ds[k]?=some (.list es)∧r= .tup [d, .list es']∧OL P k f ds es es' d
 q: ∀e f ds r,f<1000000→Γ.q (1000000*e+f) ds=some r→ ∃es:List (List D),r.1= .list es∧YV P f e ds es
structure gZ where
 a:Nat→Prop
 z:ag
 sv:Nat→Value
def pX:gZ:=⟨fun _=>False,fun _=>none,fun _=>undef⟩
structure Rel(P:Program)(w0:World)(pr:aT)(A:gZ)(n:Nat)(w:World)(cs:Array Value)(J:St)(tk:ag):Prop where
 size:cs.size=n
 chg:cW A.a w0 w
 prlt: ∀b o,pr b o→b<w0.heap.size
 prA: ∀b o,pr b o→ ¬A.a b
 glob:AQ w pr
 mem:dI P w pr tk J.m
 live: ∀t o b c,J.m t=some o→tk t=some (b,c)→w0.heap.size≤b∨A.a b
 fresh: ∀x k r,J.c x≤k→tk ((x+1)::k::r)=none
 zero: ∀t,tk (0::t)=A.z t
 one: ∀l p,tk [l+1]=some p→p=(l,0)
 slot: ∀i,i<n→ai w pr tk (cs.getD i undef) (J.s i)
 sav: ∀i,n≤i→ai w pr tk (A.sv i) (J.s i)
structure eo where
 w:World
 pr:aT
 A:gZ
structure iI(B:eo)(w1:World)(pr:aT)(A:gZ):Prop where
 chg:cW B.A.a B.w w1
 sub: ∀b,b<B.w.heap.size→A.a b→B.A.a b
 z:A.z=B.A.z
 sv:A.sv=B.A.sv
 sup: ∀b o,B.pr b o→pr b o
 inf: ∀b o,pr b o→B.pr b o∨B.w.heap.size≤b∨B.A.a b
def bW(P:Program)(B:eo)(n:Nat)(w:World)(cs:Array Value)(J:St):Prop:= ∃w1 pr A tk,Rel P w1 pr A n w cs J tk∧iI B w1 pr A
inductive aM where
 |t (i:Nat)
 |c (d:D)
 deriving Inhabited
def aM.val(s:Nat→D):aM→D
 | .t i=>s i
 | .c d=>d
def dO(n:Nat):Operand→Option aM
 | .tmp t=>if t<n then some (.t t)else none
 | .const v=>(za v).map .c
 | .func f=>if f<1000000 then some (.c (.clo f []))else none
 | .global g=>(C_ g).map fun xs=> .c (.lptr xs)
section
variable {P : Program} {w0 w : World} {pr : aT} {A : gZ} {n : Nat} {tk : ag} {J : St} {a : Act}
theorem bo(R:Rel P w0 pr A n w a.tmps J tk){x:Operand}{g:aM}(h:dO n x=some g):ai w pr tk (a.eval x) (g.val J.s):=by
 cases x<;>simp only[dO]at h
 case tmp t=>
  split at h<;>cases h;exact R.slot t ‹_›
 case const v=>
  obtain⟨d,hd,rfl⟩:=Mz.1 h;exact(pD hd).1
 case func f=>
  split at h<;>cases h;exact .clo ‹_› (by simp) (fun i c x hc=>by simp at hc)
 case global g=>
  obtain⟨xs,hx,rfl⟩:=Mz.1 h;exact(R.glob g xs hx).nE
theorem eS(R:Rel P w0 pr A n w a.tmps J tk): ∀{xs:List Operand} {gs:List aM},xs.mapM (dO n)=some gs→aX w pr tk (xs.map a.eval) (gs.map (aM.val J.s))
 | [],gs,h=>by simp at h;subst h;trivial
 |x::xs,gs,h=>by
  simp only[List.mapM_cons,Option.bind_eq_bind,Bz,Option.pure_def,Jz]at h;obtain⟨g,hg,gs',hgs,rfl⟩:=h;exact⟨bo R hg,eS R hgs⟩
theorem Rel.uL(R:Rel P w0 pr A n w a.tmps J tk): ∀b o,pr b o→b<w.heap.size:=fun b o h=>Nat.lt_of_lt_of_le (R.prlt b o h) R.chg.size
theorem Rel.free(R:Rel P w0 pr A n w a.tmps J tk){t:Tok}{o:HO}{b c x:Nat}(hm:J.m t=some o)(ht:tk t=some (b,c)): ¬pr b x:=fun h=>by
 rcases R.live t o b c hm ht with h1|h1
 ·have:=R.prlt b x h;omega
 ·exact R.prA b x h h1
theorem j_{cs:Array Value}{i x:Nat}{v:Value}(hx:x<cs.size):(cs.setIfInBounds x v).getD i undef=if i=x then v else cs.getD i undef:=by
 simp only[Array.getD_eq_getD_getElem?]
 grind
theorem Rel.fU(R:Rel P w0 pr A n w a.tmps J tk){w':World}{tk':ag}(hc:cW (fun _=>False) w w')(htk: ∀t p,tk t=some p→tk' t=some p):cY w w' pr pr tk tk':=
 ⟨fun b o h=>⟨hc.block b (R.uL b o h) id,h⟩,htk⟩
theorem Rel.put(R:Rel P w0 pr A n w a.tmps J tk){w':World}{x:Nat}{v:Value}{d:D}(hx:x<n)(hc:cW (fun _=>False) w w')(hv:ai w' pr tk v d):
  Rel P w0 pr A n w' (a.put (some x) v).tmps (J.set x d) tk:=by
 have K:=R.fU hc (fun _ _ h=>h);refine⟨by simp[Act.put,R.size],R.chg.trans hc (fun _ _ h=>h.elim),R.prlt,R.prA,R.glob.keeps K.cell,R.mem.keeps K fun t o b c h ht=> ?_,R.live,R.fresh,R.zero,R.one,fun i hi=> ?_,fun i hi=> ?_⟩
 ·obtain⟨b',c',h1,h2⟩:=(R.mem.obj t o h).place;rw[ht]at h1;cases h1;exact hc.block b h2 id
 rotate_left
 ·rw[St.cQ _ _ (show i≠x by omega)];exact(R.sav i hi).keeps K
 ·simp only[Act.put,j_ (show x<a.tmps.size by rw[R.size];exact hx),St.set];split
  ·exact hv
  ·exact(R.slot i hi).keeps K
theorem Rel.drop(R:Rel P w0 pr A n w a.tmps J tk){x:Nat}(hx:x<n):Rel P w0 pr A n w (a.put (some x) undef).tmps (J.set x (.tup [])) tk:=
 R.put hx (cW.refl _ _) (.tup (cs:= #[]) rfl (fun i c x hc=>by simp at hc))
def wF(r:Option Nat):Fence:={Fence.wide with round:=r}
theorem iJ{r:Option Nat}{n:Nat}{f:Nat}{args:Array Value}{w:World}{R:Ending→World→Prop}:CallsIn (wF r) n P f args w R↔Calls P f args w R:=callsIn_wide
def Oper.rj(r:Option Nat)(P:Program)(o:Oper)(a:Act)(w:World)(next:Act→World→Prop)(Q:Exit→Act→World→Prop):Prop:=o.wpIn (wF r) 0 P a w next Q
def mN:Op→Bool
 | .defer _=>false
 |_=>true
section
variable {r : Option Nat} {o : Oper} {next : Act → World → Prop} {Q : Exit → Act → World → Prop}
theorem yy(hd:mN o.op=true)(h:o.uponIn (wF r) 0 P a next Q ((execOp a.eval o).run P w)):Oper.rj r P o a w next Q:=
 ⟨fun _ _=>trivial,by rw[Oper.semAt_plain _ _ _ (fun c hc=>by rw[hc]at hd;cases hd)];exact h⟩
theorem bR{v:Value}{w':World}(hd:mN o.op=true)(h:(execOp a.eval o).run P w= .ok (.value v) w')(hn:next (a.put o.dst v) w'):Oper.rj r P o a w next Q:=yy hd (by rw[h];exact hn)
theorem uG{w':World}(hd:mN o.op=true)(h:(execOp a.eval o).run P w= .ok .skip w')(hn:next (a.put o.dst undef) w'):Oper.rj r P o a w next Q:=yy hd (by rw[h];exact hn)
theorem kI{f:Nat}{args:Array Value}{w':World}(hd:mN o.op=true)(h:(execOp a.eval o).run P w= .ok (.enter f args) w')
  (hn:Calls P f args w' fun e w''=> ∃v,e= .returned v∧next (a.put o.dst v) w''):Oper.rj r P o a w next Q:=yy hd (by
 rw[h,Oper.uponIn_enter];refine⟨fun h=>(by simp[wF,Fence.wide]at h),iJ.2 (hn.mono ?_)⟩;rintro e w'' ⟨v,rfl,h⟩
 exact h)
end
theorem na{fr:mZ}{op:Op}{q:PK×List Operand}(h:oe P fr op=some q):mN op=true:=by
 cases op<;>first|rfl|cases h
theorem Fk{r:Option Nat}{fr:mZ}{Γ:Env}{o:Oper}{k:PK}{xs:List Operand}{gs:List aM}{d:D}{x:Nat}{next:Act→World→Prop}{Q:Exit→Act→World→Prop}
  (R:Rel P w0 pr A n w a.tmps J tk) (hd:oe P fr o.op=some (k,xs)) (hk:k.simple=true) (hgs:xs.mapM (dO n)=some gs) (hx:o.dst=some x) (hxn:x<n)
  (af:k.run Γ J.m (gs.map (aM.val J.s))=some d) (h: ∀v w',Rel P w0 pr A n w' (a.put (some x) v).tmps (J.set x d) tk→next (a.put (some x) v) w'):Oper.rj r P o a w next Q:=by
 obtain⟨v,h1,h3⟩:=BV (o:=o) R.mem hd hk (eS R hgs) af;refine bR (na hd) h1 ?_;rw[hx];exact h v w (R.put hxn (cW.refl _ _) h3)
theorem qp{Γ:Env}(hΓ:Sound P Γ){m:Mem}(M:dI P w pr tk m){f:Nat}{cargs:Array Value}{ds:List D}{d:D}(a6:aX w pr tk cargs.toList ds)(hpr: ∀b o,pr b o→b<w.heap.size)(hG:AQ w pr)(hlt:f<1000000)
  (af:lQ Γ m f ds=some d):(∃v,(callFunc f cargs).run P w= .ok (.value v) w∧ai w pr tk v d)∨cX P f∧Calls P f cargs w fun e w'=> ∃v pr',e= .returned v∧cW (fun _=>False) w w'∧(∀b o,pr b o→pr' b o)∧(∀b o,pr' b o→pr b o∨(w.heap.size≤b∧b<w'.heap.size))∧ai w' pr' tk v d:=by
 unfold lQ at af;rw[Bz]at af;obtain⟨as,has,af⟩:=af;rw[Bz]at af;obtain⟨d',h1,h2⟩:=af;split at h2
 ·rename_i hc;cases h2;simp only[Bool.or_eq_true,Az]at hc;obtain⟨hP,hN⟩:=hΓ.p f _ _ hlt h1;rw[or_assoc,or_left_comm]at hc;rcases hc with⟨how,hno⟩|hc
  ·obtain⟨hb,l7⟩:=hN how;refine .inr ⟨hb, ?_⟩;have ha:=iG (pr':=eN w) (p:=fun _=>true) (fun v d d' h _ hr=>my M hpr h hr) a6 has (by simp);refine(l7 w (eN w) cargs (fun _ _ h=>h) (hG.keeps fun b o h=>⟨rfl,hpr b o h⟩) ha).mono ?_;rintro e w' ⟨v,pr',rfl,h3,k1,h5⟩;exact⟨v,fun b o=>pr b o∨pr' b o,rfl,h3,fun _ _ h=> .inl h,fun b o h=>h.elim .inl fun h=> .inr (k1 b o h),iw (h5.keeps ⟨fun b o h=>⟨rfl, .inr h⟩,fun _ _ h=>h⟩) hno⟩
  rcases hP with l7|⟨hb,l7⟩
  ·left;rcases hc with hfl|⟨bS,hno⟩
   ·have ha:=iG (pr':=eN w) (p:=fun _=>true) (fun v d d' h _ hr=>my M hpr h hr) a6 has (by simp);obtain⟨v,g1,g2⟩:=l7 w (eN w) cargs ha;exact⟨v,g1,tN g2 hfl⟩
   ·have ha:=iG (pr':=pr) (p:=D.aK) (fun v d d' h hp hr=>wI h hp hr) a6 has bS;obtain⟨v,g1,g2⟩:=l7 w pr cargs ha;exact⟨v,g1,iw g2 hno⟩
  right;refine⟨hb, ?_⟩;rcases hc with hfl|⟨bS,hno⟩
  ·have ha:=iG (pr':=eN w) (p:=fun _=>true) (fun v d d' h _ hr=>my M hpr h hr) a6 has (by simp);refine(l7 w (eN w) cargs (fun _ _ h=>h) (hG.keeps fun b o h=>⟨rfl,hpr b o h⟩) ha).mono ?_;rintro e w' ⟨v,pr',rfl,h3,_,_,h5⟩;exact⟨v,pr,rfl,h3,fun _ _ h=>h,fun _ _ h=> .inl h,tN h5 hfl⟩
  ·have ha:=iG (pr':=pr) (p:=D.aK) (fun v d d' h hp hr=>wI h hp hr) a6 has bS;refine(l7 w pr cargs hpr hG ha).mono ?_;rintro e w' ⟨v,pr',rfl,h3,k1,k2,h5⟩;exact⟨v,pr',rfl,h3,k1,k2,iw h5 hno⟩
 ·cases h2
theorem bI{f:Nat}{cargs:Array Value}(h:cX P f):(callFunc f cargs).run P w= .ok (.enter f cargs) w:=by
 obtain⟨fn,h1,h2,h3⟩:=h;have h3 : fn.name ≠ "runtime.NumGoroutine" := by simpa using h3
 obtain⟨c,hc⟩:=Option.isSome_iff_exists.1 h2;simp[callFunc,h1,h3,hc]
theorem ju{pr:aT}: ∀{l l':List Value} {m m':List D},aX w pr tk l m→aX w pr tk l' m'→aX w pr tk (l++l') (m++m')
 | [],_,[],_,_,h'=>h'
 |_::l,_,_::m,_,h,h'=>⟨h.1,ju h.2 h'⟩
 | [],_,_::_,_,h,_=>absurd h (by simp[aX])
 |_::_,_,[],_,h,_=>absurd h (by simp[aX])
theorem mR{pr:aT}: ∀{l:List Value} {m:List D},l.length=m.length→(∀(i:Nat) (c:Value) (x:D),l[i]?=some c→m[i]?=some x→ai w pr tk c x)→aX w pr tk l m
 | [],[],_,_=>trivial
 |y::l,z::m,hl,hh=>⟨hh 0 y z rfl rfl,mR (by simpa using hl) fun i c x hc hx=>hh (i+1) c x (by simpa using hc) (by simpa using hx)⟩
 | [],_::_,hl,_=>by simp at hl
 |_::_,[],hl,_=>by simp at hl
end
end
section
def A0(x:Nat)(d:D)(J:St):Option St:=
 if d.cells.all D.gE then some (J.new x (.box d.cells) (.ptr (J.tok x) 0))else none
def gT(n:Nat)(a v:D)(J:St):Option St:=
 match a with
 | .ptr t off=>match J.m t with
  |some (.box xs)=>if v.cells.length=n∧off+n≤xs.length∧v.cells.all D.gE=true then some (J.put t (some (.box (putAt xs off v.cells))))else none
  |_=>none
 | .rptr t size i j=>match J.m t with
  |some (.row g e es)=>(es[i]?).bind fun c=>if v.cells.length=n∧j+n≤size∧c.length=size∧v.cells.all D.gE=true then
    some ((J.aL g i).put t (some (.row g e (es.set i (putAt c j v.cells)))))else none
  |some (.box xs)=>if size=1∧v.cells.length=n∧i+j+n≤xs.length∧v.cells.all D.gE=true then some (J.put t (some (.box (putAt xs (i+j) v.cells))))else none
  |_=>none
 |_=>none
def rY(x e size:Nat)(a b:D)(J:St):Option St:=
 (b.elems J.m).bind fun es2=>if es2.all (fun c=>c.length==size)=false then none else
 match a with
 | .nil=>if es2.isEmpty then some (J.set x .nil)else if es2.length≤bx then some (J.new x (.row (J.tok x) e es2) (.sl (J.tok x) size 0 es2.length none))else none
 | .sl t kB off len lim=>if es2.isEmpty then some (J.set x (.sl t kB off len lim))else match J.m t with
  |some (.row g e' es1)=>if e'=e∧kB=size∧len+es2.length≤bx∧off+len≤es1.length then
    match lim with
    |none=>if off=0 then some ((J.aL g len).new x (.row g e (es1.take len++es2)) (.sl (J.tok x) size 0 (len+es2.length) none))else none
    |some c=>if c<len+es2.length then some (J.new x (.row (J.tok x) e ((es1.drop off).take len++es2)) (.sl (J.tok x) size 0 (len+es2.length) none))else none
   else none
  |_=>none
 |_=>none
def BO(x e size:Nat)(zero:List D)(a b:D)(J:St):Option St:=
 match a,b with
 | .v (.int _ l), .v (.int _ c)=>if 0≤l∧l≤c∧c≤bx∧c.toNat*size≤16777216 then some (J.new x (.row (J.tok x) e (List.replicate l.toNat zero)) (.sl (J.tok x) size 0 l.toNat none))else none
 |_,_=>none
def BK(x e size len:Nat)(zero:List D)(places:List (Nat×Nat))(ds:List D)(J:St):Option St:=
 if ds.all (fun d=>d.cells.all D.gE)then(nb zero places ds).bind fun cs=>if cs.length=len*size then
  some (J.new x (.row (J.tok x) e (kL size len (cs.map D.nz))) (.sl (J.tok x) size 0 len none))else none else none
section
variable {P : Program} {w0 w : World} {pr : aT} {A : gZ} {n : Nat} {tk : ag} {J : St} {a : Act}
theorem ck{g:Tok}{k:Nat}{o:Option HO}{q:HO}(h:HO.cE g k o=some q):o=some q∧ ∀e es,q= .row g e es→es.length≤k:=by
 unfold HO.cE at h
 grind
theorem Rel.CI(R:Rel P w0 pr A n w a.tmps J tk){x:Nat}(hx:x<n){w':World}(hc:cW (fun _=>False) w w'){o:HO}{d:D}{v:Value}{cap b0:Nat}(hb0:w.heap.size≤b0)
  (ho: ∀tk':ag,tk' (J.tok x)=some (b0,cap)→(∀t p,tk t=some p→tk' t=some p)→mX P w' pr tk' (J.tok x) o)
  (hv: ∀tk':ag,tk' (J.tok x)=some (b0,cap)→ai w' pr tk' v d): ∃tk',Rel P w0 pr A n w' (a.put (some x) v).tmps (J.new x o d) tk':=by
 let tk':ag:=fun t=>if t=J.tok x then some (b0,cap)else tk t
 have zF:tk (J.tok x)=none:=R.fresh x (J.c x) [] (Nat.le_refl _);have cB:tk' (J.tok x)=some (b0,cap):=by simp[tk']
 have zD: ∀t p,tk t=some p→tk' t=some p:=fun t p h=>by
  have:t≠J.tok x:=fun e=>by rw[e,zF]at h;cases h
  simp[tk',this,h]
 have K:=R.fU hc zD;have hsz:=R.chg.size
 have hm: ∀t q,(J.new x o d).m t=some q→(t=J.tok x∧q=o)∨(t≠J.tok x∧J.m t=some q):=fun t q h=>by
  simp only[St.new,St.L8,St.jw,St.put]at h;split at h
  ·cases h;exact .inl ⟨by assumption,rfl⟩
  ·exact .inr ⟨by assumption,h⟩
 have hold: ∀t q b c,t≠J.tok x→J.m t=some q→tk' t=some (b,c)→tk t=some (b,c)∧b<w.heap.size:=fun t q b c hne h ht=>by
  simp only[tk',if_neg hne]at ht;obtain⟨b1,c1,h1,h2⟩:=(R.mem.obj t q h).place;rw[ht]at h1;cases h1;exact⟨ht,h2⟩
 refine⟨tk',by simp[Act.put,R.size],R.chg.trans hc (fun _ _ h=>h.elim),R.prlt,R.prA,R.glob.keeps K.cell,⟨fun t q h=> ?_,fun t t' q q' b c c' h h' ht ht'=> ?_⟩,fun t q b c h ht=> ?_,fun y k r hk=> ?_,fun t=>by simp only[tk',St.tok,List.cons.injEq,show¬(0=x+1) by omega,false_and,if_false];exact R.zero t,fun l p=>by simp only[tk',St.tok,List.cons.injEq,reduceCtorEq,and_false,if_false];exact R.one l p,fun i hi=> ?_,fun i hi=>by
  show ai _ pr tk' (A.sv i) (if i=x then d else J.s i)
  rw[if_neg (show i≠x by omega)];exact(R.sav i hi).keeps K⟩
 ·rcases hm t q h with⟨rfl,rfl⟩|⟨hne,h⟩
  ·exact ho tk' cB zD
  ·exact(R.mem.obj t q h).keeps K fun b c hb=>by
    obtain⟨b1,c1,h1,h2⟩:=(R.mem.obj t q h).place;rw[hb]at h1;cases h1;exact hc.block b h2 id
 ·rcases hm t q h with⟨e1,e2⟩|⟨hne,k1⟩<;>rcases hm t' q' h' with⟨e3,e4⟩|⟨Bw,k2⟩
  ·exact .inl (e1.trans e3.symm)
  ·rw[e1,cB]at ht;cases ht;have:=hold t' q' _ c' Bw k2 ht';omega
  ·rw[e3,cB]at ht';cases ht';have:=hold t q _ c hne k1 ht;omega
  ·exact R.mem.inj t t' q q' b c c' k1 k2 (hold t q b c hne k1 ht).1 (hold t' q' b c' Bw k2 ht').1
 ·rcases hm t q h with⟨rfl,rfl⟩|⟨hne,h⟩
  ·rw[cB]at ht;cases ht;exact .inl (by omega)
  ·exact R.live t q b c h (hold t q b c hne h ht).1
 ·simp only[St.new,St.inc,St.MU,St.MQ]at hk
  have hne:(y+1)::k::r≠J.tok x:=fun e=>by
   simp only[St.tok,List.cons.injEq]at e;obtain⟨e1,e2,_⟩:=e;have:y=x:=by omega
   subst this;rw[if_pos rfl]at hk;omega
  simp only[tk',if_neg hne];refine R.fresh y k r ?_;split at hk<;>omega
 ·simp only[Act.put,j_ (show x<a.tmps.size by rw[R.size];exact hx),St.new,St.G',St.set];split
  ·exact hv tk' cB
  ·exact(R.slot i hi).keeps K
theorem Rel.alloc(R:Rel P w0 pr A n w a.tmps J tk){x:Nat}(hx:x<n){w':World}(hc:cW (fun _=>False) w w'){o:HO}{d:D}{v:Value}{cap:Nat}
  (ho: ∀tk':ag,tk' (J.tok x)=some (w.heap.size,cap)→(∀t p,tk t=some p→tk' t=some p)→mX P w' pr tk' (J.tok x) o)
  (hv: ∀tk':ag,tk' (J.tok x)=some (w.heap.size,cap)→ai w' pr tk' v d): ∃tk',Rel P w0 pr A n w' (a.put (some x) v).tmps (J.new x o d) tk':=R.CI hx hc (Nat.le_refl _) ho hv
theorem Rel.write(R:Rel P w0 pr A n w a.tmps J tk){t:Tok}{o o':HO}{b c:Nat}(hm:J.m t=some o)(ht:tk t=some (b,c)){w':World}(hc:cW (fun k=>k=b) w w')(hg:o'.gJ=o.gJ){m':Mem}
  (cB:m' t=some o') (iU: ∀t' q,t'≠t→m' t'=some q→J.m t'=some q) (ho:mX P w' pr tk t o')
  (Er: ∀t' q c',t'≠t→m' t'=some q→tk t'=some (b,c')→mX P w pr tk t' q→mX P w' pr tk t' q):Rel P w0 pr A n w' a.tmps ⟨J.s,m',J.c⟩ tk:=by
 have K:cY w w' pr pr tk tk:=⟨fun b' x h=>⟨hc.block b' (R.uL b' x h) (fun e=>by subst e;exact R.free hm ht h),h⟩,fun _ _ h=>h⟩
 have hin:=fun t' q (h:m' t'=some q)=>show∃q',J.m t'=some q'∧q'.gJ=q.gJ from by
  by_cases e:t'=t
  ·subst e;rw[cB]at h;cases h;exact⟨o,hm,hg.symm⟩
  ·exact⟨q,iU t' q e h,rfl⟩
 refine⟨R.size,R.chg.trans hc (fun k hk e=> ?_),R.prlt,R.prA,R.glob.keeps K.cell,⟨fun t' q (h:m' t'=some q)=> ?_,fun t1 t2 q1 q2 b' c1 c2 h1 h2 g1 g2=> ?_⟩,fun t' q b' c' h h1=> ?_,R.fresh,R.zero,R.one,fun i hi=>(R.slot i hi).keeps K,fun i hi=>(R.sav i hi).keeps K⟩
 ·subst e;rcases R.live t o k c hm ht with h|h
  ·omega
  ·exact h
 ·by_cases e:t'=t
  ·subst e;rw[cB]at h;cases h;exact ho
  ·have h0:=iU t' q e h;have hr:=R.mem.obj t' q h0;obtain⟨b1,c1,h1,h2⟩:=hr.place;by_cases hb:b1=b
   ·subst hb;exact Er t' q c1 e h h1 hr
   ·exact hr.keeps K fun b2 c2 h3=>by
     rw[h1]at h3;cases h3;exact hc.block b1 h2 hb
 ·obtain⟨q1',k1,e1⟩:=hin t1 q1 h1;obtain⟨q2',k2,e2⟩:=hin t2 q2 h2;rw[←e1,←e2];exact R.mem.inj t1 t2 q1' q2' b' c1 c2 k1 k2 g1 g2
 ·obtain⟨q',k,_⟩:=hin t' q h;exact R.live t' q' b' c' k h1
theorem DH(R:Rel P w0 pr A n w a.tmps J tk){t x:Nat}{v:Value}{d:D}{J':St}(hv:ai w pr tk v d)(hx:x<n)(h:A0 x d J=some J'):
  ∃tk',Rel P w0 pr A n (w.alloc (.cells v.cells t)) (a.put (some x) (.pointer (some ⟨w.heap.size,0,none⟩))).tmps J' tk':=by
 unfold A0 at h;split at h<;>cases h;rename_i hd;have hc:=cW.alloc (fun _=>False) w (.cells v.cells t);refine R.alloc hx (cap:=0) hc (fun tk' hs he=> ?_) fun tk' hs=> .ptr hs;exact⟨w.heap.size,0,v.cells,t,hs,(Go.MapKept.heap_alloc w _).1,(fA hv hd).keeps (R.fU hc he)⟩
def putCells(C:Array Value)(off:Nat)(V:Array Value):Array Value:=(C.toList.take off++V.toList++C.toList.drop (off+V.size)).toArray
theorem cK{C V:Array Value}{off:Nat}(h:off+V.size≤C.size):(putCells C off V).size=C.size:=by
 simp[putCells];omega
theorem fH{C V:Array Value}{off:Nat}(h:off+V.size≤C.size)(i:Nat):(putCells C off V)[i]?=if off≤i∧i<off+V.size then V[i-off]? else C[i]?:=by
 simp only[putCells,List.getElem?_toArray];by_cases h1:i<off
 ·grind
 ·by_cases h2:i<off+V.size
  ·grind
  ·rw[if_neg (by omega),Xz (by simp;omega),List.getElem?_drop,Array.getElem?_toList];congr 1;simp;omega
theorem run_store{t b off tt:Nat}{C:Array Value}{v:Value}{ds:List D}(hi:(P.info? t).isSome)(h3:w.heap[b]?=some (.cells C tt (0,0)))(hv:cq w pr tk v.cells ds)(hl:ds.length=P.cellsOf t)(ho:off+P.cellsOf t≤C.size):
  (Instr.storeAt t (.pointer (some ⟨b,off,none⟩)) v).run P w= .ok () (w.setRow b (putCells C off v.cells)):=by
 have hvs:v.cells.size=P.cellsOf t:=by rw[hv.1,hl]
 have qX: ∀u∈v.cells.toList,u.oneCell'=true:=fun u hu=>by
  obtain⟨i,hi,rfl⟩:=List.getElem_of_mem hu;exact hv.2.1 i _ (by rw[←Array.getElem?_toList,Ez hi])
 have af:=run_storeCells_at P b off tt v.cells.toList 0 C w h3 (by simp only[Array.length_toList];omega) qX;simp[Instr.storeAt,storeVar,bu hi,hvs];exact af
theorem cW.setRow(w:World)(b:Nat)(C:Array Value):cW (fun k=>k=b) w (w.setRow b C):=⟨rfl,rfl,rfl,by simp,fun k _ h=>setRow_other w b k C h,Nat.le_refl _⟩
theorem oT(R:Rel P w0 pr A n w a.tmps J tk){t:Nat}{τ:Tok}{b cap off:Nat}{xs:List D}{v:Value}{d2:D}(hm:J.m τ=some (.box xs))(ht:tk τ=some (b,cap))(hv:ai w pr tk v d2)(hi:(P.info? t).isSome)
  (hlen:d2.cells.length=P.cellsOf t) (qW:off+P.cellsOf t≤xs.length) (hok:d2.cells.all D.gE=true):
  ∃w',(Instr.storeAt t (.pointer (some ⟨b,off,none⟩)) v).run P w= .ok () w'∧Rel P w0 pr A n w' a.tmps (J.put τ (some (.box (putAt xs off d2.cells)))) tk:=by
 obtain⟨b',lR,C,tt,h1,h3,h4⟩:=R.mem.obj τ _ hm;rw[ht]at h1;cases h1;have hcv:=fA hv hok;have hvs:v.cells.size=P.cellsOf t:=by rw[hcv.1,hlen]
 have ho:off+P.cellsOf t≤C.size:=by rw[h4.1];omega
 refine⟨_,run_store hi h3 hcv hlen ho, ?_⟩;have jf:=cW.setRow w b (putCells C off v.cells);have K:cY w (w.setRow b (putCells C off v.cells)) pr pr tk tk:=⟨fun b' x h=>⟨jf.block b' (R.uL b' x h) (fun e=>by subst e;exact R.free hm ht h),h⟩,fun _ _ h=>h⟩;refine R.write hm ht jf (o':= .box (putAt xs off d2.cells)) rfl (m':=(J.put τ (some (.box (putAt xs off d2.cells)))).m) (by simp[St.put]) (fun t' q hne hq=>by simpa[St.put,hne]using hq) ?_ (fun t' q c' hne hq htk hr=> ?_)
 ·refine⟨b,cap,putCells C off v.cells,tt,ht,setRow_heap w b C _ tt _ h3, ?_⟩
  have hcs:cq w pr tk (putCells C off v.cells) (putAt xs off d2.cells):=by
   have g:=fun i=>fH (C:=C) (V:=v.cells) (off:=off) (by omega) i;refine⟨by rw[cK (by omega),eL (by omega)];exact h4.1,fun i c hc=> ?_,fun i c x hc hx=> ?_⟩
   ·rw[g]at hc;split at hc
    ·exact hcv.2.1 _ c hc
    ·exact h4.2.1 _ c hc
   ·rw[g]at hc;rw[fX (by omega)]at hx;split at hc
    ·rw[if_pos (by omega)]at hx;exact hcv.2.2 _ c x hc hx
    ·rename_i hn;rw[if_neg (by omega)]at hx;exact h4.2.2 _ c x hc hx
  exact hcs.keeps K
 ·have hq':J.m t'=some q:=by simpa[St.put,hne]using hq
  rcases R.mem.inj t' τ q _ b c' cap hq' hm htk ht with h|⟨h1,h2⟩
  ·grind
  ·rw[h2]at h1;simp[HO.gJ]at h1
theorem E6(R:Rel P w0 pr A n w a.tmps J tk){t:Nat}{av v:Value}{d1 d2:D}{J':St}(ha:ai w pr tk av d1)(hv:ai w pr tk v d2)(hi:(P.info? t).isSome)
  (h:gT (P.cellsOf t) d1 d2 J=some J'): ∃w',(Instr.storeAt t av v).run P w= .ok () w'∧Rel P w0 pr A n w' a.tmps J' tk:=by
 cases d1<;>simp only[gT]at h<;>try (cases h;done)
 case ptr τ off=>
  split at h
  ·rename_i xs hm;split at h<;>cases h;rename_i hc;obtain⟨hlen,qW,hok⟩:=hc;cases ha with
   |ptr ht=>exact oT R hm ht hv hi hlen qW hok
  ·cases h
 case rptr τ size i j=>
  split at h
  ·rename_i g e es hm;rw[Bz]at h;obtain⟨c,hc,h⟩:=h;split at h<;>cases h;rename_i bc;obtain⟨hlen,hj,hcl,hok⟩:=bc;cases ha with
   |rptr ht=>
    rename_i b cap;obtain⟨b',lR,C,h1,h3,h5,h6,h7,h8,h9⟩:=R.mem.obj τ _ hm;rw[ht]at h1;cases h1;have hsz:=h8 c (Lz hc);have hse:size=P.cellsOf e:=by omega
    subst hse;have hcv:=fA hv hok;have hvs:v.cells.size=P.cellsOf t:=by rw[hcv.1,hlen]
    have hil:=(Gz.1 hc).1;have Ep:(i+1)*P.cellsOf e≤cap*P.cellsOf e:=Nat.mul_le_mul_right _ (by omega);rw[Nat.add_mul]at Ep;have ho:i*P.cellsOf e+j+P.cellsOf t≤C.size:=by omega
    refine⟨_,run_store hi h3 hcv hlen ho, ?_⟩;have jf:=cW.setRow w b (putCells C (i*P.cellsOf e+j) v.cells);have K:cY w (w.setRow b (putCells C (i*P.cellsOf e+j) v.cells)) pr pr tk tk:=⟨fun b' x h=>⟨jf.block b' (R.uL b' x h) (fun e=>by subst e;exact R.free hm ht h),h⟩,fun _ _ h=>h⟩;have Eo:=fun k=>fH (C:=C) (V:=v.cells) (off:=i*P.cellsOf e+j) (by omega) k;refine R.write hm ht jf (o':= .row g e (es.set i (putAt c j d2.cells))) rfl (m':=((J.aL g i).put τ (some (.row g e (es.set i (putAt c j d2.cells))))).m) (by simp[St.put]) (fun t' q hne hq=> ?_) ?_ (fun t' q c' hne hq htk hr=> ?_)
    ·simp only[St.put,hne,if_false,St.aL]at hq;exact(ck hq).1
    ·refine⟨b,cap,putCells C (i*P.cellsOf e+j) v.cells,ht,setRow_heap w b C _ e _ h3,by simpa using h5,h6,by rw[cK (by omega)];exact h7, ?_⟩
     have gO:bf P w pr tk (putCells C (i*P.cellsOf e+j) v.cells) e (es.set i (putAt c j d2.cells)):=by
      refine⟨fun q hq=> ?_,fun k q hq l d hd=> ?_⟩
      ·rcases List.mem_or_eq_of_mem_set hq with hq|rfl
       ·grind
       ·rw[eL (by omega)];exact hsz
      ·rw[Eo];by_cases hk:k=i
       ·subst hk;rw[List.getElem?_set_self (by omega)]at hq;cases hq;rw[fX (by omega)]at hd;have adu:=hcv.1;split at hd
        ·rw[if_pos (by omega)];have hlt:l-j<v.cells.size:=by omega
         have ge:=Rz hlt;have e2:k*P.cellsOf e+l-(k*P.cellsOf e+j)=l-j:=by omega
         rw[e2];exact⟨_,ge,hcv.2.1 _ _ ge,hcv.2.2 _ _ d ge hd⟩
        ·grind
       ·rw[List.getElem?_set_ne (by omega)]at hq;have hll:l<P.cellsOf e:=by rw[←h8 q (Lz hq)];exact(Gz.1 hd).1
        have aae: ¬(i*P.cellsOf e+j≤k*P.cellsOf e+l∧k*P.cellsOf e+l<i*P.cellsOf e+j+v.cells.size):=by
         rintro⟨g1,g2⟩;rcases Nat.lt_or_ge k i with hki|hki
         ·have:(k+1)*P.cellsOf e≤i*P.cellsOf e:=Nat.mul_le_mul_right _ hki;rw[Nat.add_mul]at this;omega
         ·have:(i+1)*P.cellsOf e≤k*P.cellsOf e:=Nat.mul_le_mul_right _ (by omega);rw[Nat.add_mul]at this;omega
        rw[if_neg aae];exact h9 k q hq l d hd
     exact gO.keeps K
    ·simp only[St.put,hne,if_false,St.aL]at hq;obtain⟨hq1,hq2⟩:=ck hq;rcases R.mem.inj t' τ q _ b c' cap hq1 hm htk ht with h|⟨g1,g2⟩
     ·exact absurd h hne
     ·cases q with
      |box=>simp[HO.gJ]at g1
      |map=>simp[HO.gJ]at g1
      |iter=>simp[HO.gJ]at g1
      |raw=>simp[HO.gJ]at g1
      |row g' e' es'=>
       simp only[HO.gJ,Jz]at g2;subst g2;have By:=hq2 e' es' rfl;obtain⟨b2,so,C2,k1,k3,k5,k6,k7,k8,k9⟩:=hr;rw[htk]at k1;cases k1;rw[h3]at k3;cases k3;refine⟨b,c',putCells C (i*P.cellsOf e+j) v.cells,htk,setRow_heap w b C _ e _ h3,k5,k6,by rw[cK (by omega)];exact k7, ?_⟩;refine bf.keeps ⟨k8,fun k q hq l d hd=> ?_⟩ K;rw[Eo];have hkl:=(Gz.1 hq).1;have hll:l<P.cellsOf e:=by rw[←k8 q (Lz hq)];exact(Gz.1 hd).1
       have:(k+1)*P.cellsOf e≤i*P.cellsOf e:=Nat.mul_le_mul_right _ (by omega);rw[Nat.add_mul]at this;rw[if_neg (by omega)];exact k9 k q hq l d hd
  ·rename_i xs hm;split at h<;>cases h;rename_i bc;obtain⟨rfl,hlen,qW,hok⟩:=bc;cases ha with
   |rptr ht=>
    have:=oT R (off:=i+j) hm ht hv hi hlen qW hok;rw[Nat.mul_one];exact this
  ·cases h
def copyV(x:Option Nat)(a b:D)(J:St):Option St:=
 match a,b with
 | .sl t 1 o l _, .sl t' 1 o' l' _=>match J.m t,J.m t' with
  |some (.box xs),some (.box ys)=>if 0<l∧0<l'∧o+l≤xs.length∧o'+l'≤ys.length then
    some (match x with
     |some i=>(J.put t (some (.box (putAt xs o ((ys.drop o').take (min l' l)))))).set i (iv ((min l' l:Nat):Int))
     |none=>J.put t (some (.box (putAt xs o ((ys.drop o').take (min l' l))))))else none
  |_,_=>none
 |_,_=>none
theorem Ie(R:Rel P w0 pr A n w a.tmps J tk){dT sT ty e:Nat}{av bv':Value}{d1 d2:D}{x:Option Nat}{J':St}(hu:P.underlying dT=some (.slice e))(hsz:(P.info? e).map (·.size)=some 1)
  (ha:ai w pr tk av d1) (hb:ai w pr tk bv' d2) (hx: ∀i,x=some i→i<n) (h:copyV x d1 d2 J=some J'):
  ∃v w',(Builtin.copy_ #[dT,sT] ty #[av,bv']).run P w= .ok v w'∧Rel P w0 pr A n w' (a.put x v).tmps J' tk:=by
 unfold copyV at h;split at h
 ·rename_i t o l lim t' o' l' adA;split at h
  ·rename_i xs ys hm hm';split at h
   ·rename_i hc;obtain⟨hl0,adw,hol,ady⟩:=hc;cases ha with
    |sl ht hcc hll ho=>
     rename_i b cap c oo;have hoo:oo=o:=by rcases ho with h|h<;>omega
     subst hoo;cases hb with
     |sl ht' adt adx ho'=>
      rename_i b' lR c' oo';have aag:oo'=o':=by rcases ho' with h|h<;>omega
      subst aag;obtain⟨b1,ZT,C,tt,g1,g2,g3⟩:=R.mem.obj t _ hm;rw[ht]at g1;cases g1;obtain⟨b2,so,C',tt',k1,k2,k3⟩:=R.mem.obj t' _ hm';rw[ht']at k1;cases k1;have hC:=g3.1;have hC':=k3.1;let cs:=(C'.toList.drop oo').take (min l' l);have hcl:cs.length=min l' l:=by simp[cs];omega
      have fp: ∀j,j<min l' l→cs[j]?=C'[oo'+j]?:=fun j hj=>by
       grind
      have qX: ∀u∈cs,u.oneCell'=true:=fun u hu=>by
       obtain⟨j,hj⟩:=List.getElem?_of_mem hu;have hjl:=(Gz.1 hj).1;rw[fp j (by omega)]at hj;exact k3.2.1 _ _ hj
      have af:=run_copy_row (P:=P) w dT sT ty e b oo l c ⟨b',oo',none⟩ l' c' C tt cs hu hsz g2 (by rw[hcl]) (fun j u hj=>by
       have hjl:=(Gz.1 hj).1;rw[fp j (by omega)]at hj
       rw[dM,cell_of_row w b' _ C' tt' (0,0) k2];exact hj) (by omega) qX
      rw[hcl]at af;have oD:(C.toList.take oo++cs++C.toList.drop (oo+min l' l)).toArray=putCells C oo cs.toArray:=by simp[putCells,hcl]
      rw[oD]at af;have hns:cs.toArray.size=min l' l:=by simp[hcl]
      have jf:=cW.setRow w b (putCells C oo cs.toArray);have K:cY w (w.setRow b (putCells C oo cs.toArray)) pr pr tk tk:=⟨fun b' x h=>⟨jf.block b' (R.uL b' x h) (fun e=>by subst e;exact R.free hm ht h),h⟩,fun _ _ h=>h⟩;have hdl:((ys.drop oo').take (min l' l)).length=min l' l:=by simp;omega
      have R':Rel P w0 pr A n (w.setRow b (putCells C oo cs.toArray)) a.tmps (J.put t (some (.box (putAt xs oo ((ys.drop oo').take (min l' l)))))) tk:=by
       refine R.write hm ht jf (o':= .box (putAt xs oo ((ys.drop oo').take (min l' l)))) rfl (m':=(J.put t (some (.box (putAt xs oo ((ys.drop oo').take (min l' l)))))).m) (by simp[St.put]) (fun t'' q hne hq=>by simpa[St.put,hne]using hq) ?_ (fun t'' q c' hne hq htk hr=> ?_)
       ·refine⟨b,cap,putCells C oo cs.toArray,tt,ht,setRow_heap w b C _ tt _ g2, ?_⟩
        have hcs:cq w pr tk (putCells C oo cs.toArray) (putAt xs oo ((ys.drop oo').take (min l' l))):=by
         have g:=fun i=>fH (C:=C) (V:=cs.toArray) (off:=oo) (by omega) i;refine⟨by rw[cK (by omega),eL (by omega)];exact hC,fun i c hc=> ?_,fun i c x hc hx=> ?_⟩
         ·rw[g]at hc;split at hc
          ·exact qX c (Lz (by simpa using hc))
          ·exact g3.2.1 _ c hc
         ·rw[g]at hc;rw[fX (by omega)]at hx;split at hc
          ·rename_i hi;rw[if_pos (by omega)]at hx;have hlt:i-oo<min l' l:=by omega
           rw[List.getElem?_toArray,fp _ hlt]at hc;rw[List.getElem?_take_of_lt hlt,List.getElem?_drop]at hx;exact k3.2.2 _ c x hc hx
          ·rename_i hi;rw[if_neg (by omega)]at hx;exact g3.2.2 _ c x hc hx
        exact hcs.keeps K
       ·have hq':J.m t''=some q:=by simpa[St.put,hne]using hq
        rcases R.mem.inj t'' t q _ b c' cap hq' hm htk ht with h|⟨h1,h2⟩
        ·exact absurd h hne
        ·rw[h2]at h1;simp[HO.gJ]at h1
      refine⟨_,_,af, ?_⟩;cases x with
      |none=>cases h;exact R'
      |some i=>cases h;exact R'.put (hx i rfl) (cW.refl _ _) (.v rfl)
   ·cases h
  ·cases h
 ·cases h
theorem Rel.alias(R:Rel P w0 pr A n w a.tmps J tk){x:Nat}(hx:x<n){g:Tok}{e:Nat}{es:List (List D)}{d:D}{v:Value}{b cap:Nat}(hblk:w0.heap.size≤b∨A.a b)(hb:b<w.heap.size)
  (Er: ∀t q c,J.m t=some q→tk t=some (b,c)→q.gJ=some g)
  (ho: ∀tk':ag,tk' (J.tok x)=some (b,cap)→(∀t p,tk t=some p→tk' t=some p)→mX P w pr tk' (J.tok x) (.row g e es))
  (hv: ∀tk':ag,tk' (J.tok x)=some (b,cap)→ai w pr tk' v d): ∃tk',Rel P w0 pr A n w (a.put (some x) v).tmps (J.new x (.row g e es) d) tk':=by
 let tk':ag:=fun t=>if t=J.tok x then some (b,cap)else tk t
 have zF:tk (J.tok x)=none:=R.fresh x (J.c x) [] (Nat.le_refl _);have cB:tk' (J.tok x)=some (b,cap):=by simp[tk']
 have zD: ∀t p,tk t=some p→tk' t=some p:=fun t p h=>by
  have:t≠J.tok x:=fun e=>by rw[e,zF]at h;cases h
  simp[tk',this,h]
 have K:=R.fU (cW.refl _ _) zD
 have hm: ∀t q,(J.new x (.row g e es) d).m t=some q→(t=J.tok x∧q= .row g e es)∨(t≠J.tok x∧J.m t=some q):=fun t q h=>by
  simp only[St.new,St.L8,St.jw,St.put]at h;split at h
  ·cases h;exact .inl ⟨by assumption,rfl⟩
  ·exact .inr ⟨by assumption,h⟩
 have hold: ∀t b c,t≠J.tok x→tk' t=some (b,c)→tk t=some (b,c):=fun t b c hne ht=>by
  simpa only[tk',if_neg hne]using ht
 refine⟨tk',by simp[Act.put,R.size],R.chg,R.prlt,R.prA,R.glob,⟨fun t q h=> ?_,fun t t' q q' b1 c c' h h' ht ht'=> ?_⟩,fun t q b1 c h ht=> ?_,fun y k r hk=> ?_,fun t=>by simp only[tk',St.tok,List.cons.injEq,show¬(0=x+1) by omega,false_and,if_false];exact R.zero t,fun l p=>by simp only[tk',St.tok,List.cons.injEq,reduceCtorEq,and_false,if_false];exact R.one l p,fun i hi=> ?_,fun i hi=>by
  show ai _ pr tk' (A.sv i) (if i=x then d else J.s i)
  rw[if_neg (show i≠x by omega)];exact(R.sav i hi).keeps K⟩
 ·rcases hm t q h with⟨rfl,rfl⟩|⟨hne,h⟩
  ·exact ho tk' cB zD
  ·exact(R.mem.obj t q h).keeps K fun _ _ _=>rfl
 ·rcases hm t q h with⟨e1,e2⟩|⟨hne,k1⟩<;>rcases hm t' q' h' with⟨e3,e4⟩|⟨Bw,k2⟩
  ·exact .inl (e1.trans e3.symm)
  ·rw[e1,cB]at ht;cases ht;right;rw[e2,Er t' q' c' k2 (hold t' _ c' Bw ht')];exact⟨rfl,rfl⟩
  ·rw[e3,cB]at ht';cases ht';right;rw[e4,Er t q c k1 (hold t _ c hne ht)];exact⟨rfl,rfl⟩
  ·exact R.mem.inj t t' q q' b1 c c' k1 k2 (hold t b1 c hne ht) (hold t' b1 c' Bw ht')
 ·rcases hm t q h with⟨rfl,rfl⟩|⟨hne,h⟩
  ·rw[cB]at ht;cases ht;exact hblk
  ·exact R.live t q b1 c h (hold t b1 c hne ht)
 ·simp only[St.new,St.inc,St.MU,St.MQ]at hk
  have hne:(y+1)::k::r≠J.tok x:=fun e=>by
   simp only[St.tok,List.cons.injEq]at e;obtain⟨e1,e2,_⟩:=e;have:y=x:=by omega
   subst this;rw[if_pos rfl]at hk;omega
  simp only[tk',if_neg hne];refine R.fresh y k r ?_;split at hk<;>omega
 ·simp only[Act.put,j_ (show x<a.tmps.size by rw[R.size];exact hx),St.new,St.G',St.set];split
  ·exact hv tk' cB
  ·exact(R.slot i hi).keeps K
theorem Rel.SA(R:Rel P w0 pr A n w a.tmps J tk){t:Tok}{o:HO}{b c:Nat}(hm:J.m t=some o)(ht:tk t=some (b,c)){w':World}(hc:cW (fun k=>k=b) w w'){m':Mem}
  (iU: ∀t' q,m' t'=some q→J.m t'=some q) (Er: ∀t' q c',m' t'=some q→tk t'=some (b,c')→mX P w pr tk t' q→mX P w' pr tk t' q):Rel P w0 pr A n w' a.tmps ⟨J.s,m',J.c⟩ tk:=by
 have K:cY w w' pr pr tk tk:=⟨fun b' x h=>⟨hc.block b' (R.uL b' x h) (fun e=>by subst e;exact R.free hm ht h),h⟩,fun _ _ h=>h⟩;refine⟨R.size,R.chg.trans hc (fun k hk e=> ?_),R.prlt,R.prA,R.glob.keeps K.cell,⟨fun t' q (h:m' t'=some q)=> ?_,fun t1 t2 q1 q2 b' c1 c2 h1 h2 g1 g2=> ?_⟩,fun t' q b' c' h h1=> ?_,R.fresh,R.zero,R.one,fun i hi=>(R.slot i hi).keeps K,fun i hi=>(R.sav i hi).keeps K⟩
 ·subst e;rcases R.live t o k c hm ht with h|h
  ·omega
  ·exact h
 ·have hr:=R.mem.obj t' q (iU t' q h);obtain⟨b1,c1,h1,h2⟩:=hr.place;by_cases hb:b1=b
  ·subst hb;exact Er t' q c1 h h1 hr
  ·exact hr.keeps K fun b2 c2 h3=>by
    rw[h1]at h3;cases h3;exact hc.block b1 h2 hb
 ·exact R.mem.inj t1 t2 q1 q2 b' c1 c2 (iU _ _ h1) (iU _ _ h2) g1 g2
 ·exact R.live t' q b' c' (iU _ _ h) h1
theorem E9{e:Nat}{es:List (List D)}{us:Nat→Value}{C:Array Value}(hsz: ∀c∈es,c.length=P.cellsOf e)(hC: ∀j,j<es.length*P.cellsOf e→C[j]?=some (us j))
  (h1: ∀j,j<es.length*P.cellsOf e→(us j).oneCell'=true) (hr: ∀(i:Nat) (c:List D),es[i]?=some c→ ∀(j:Nat) (x:D),c[j]?=some x→ai w pr tk (us (i*P.cellsOf e+j)) x):bf P w pr tk C e es:=by
 refine⟨hsz,fun i c hc j d hd=> ?_⟩;have hi:=(Gz.1 hc).1;have hj:j<P.cellsOf e:=by rw[←hsz c (Lz hc)];exact(Gz.1 hd).1
 have hlt:i*P.cellsOf e+j<es.length*P.cellsOf e:=by
  have:(i+1)*P.cellsOf e≤es.length*P.cellsOf e:=Nat.mul_le_mul_right _ hi;rw[Nat.add_mul]at this;omega
 exact⟨_,hC _ hlt,h1 _ hlt,hr i c hc j d hd⟩
theorem tU{e:Nat}{es1 es2:List (List D)}{C C1 C2:Array Value}(h1:bf P w pr tk C1 e es1)(h2:bf P w pr tk C2 e es2)(g1: ∀j,j<es1.length*P.cellsOf e→C[j]?=C1[j]?)
  (g2: ∀j,j<es2.length*P.cellsOf e→C[es1.length*P.cellsOf e+j]?=C2[j]?):bf P w pr tk C e (es1++es2):=by
 refine⟨fun c hc=>(List.mem_append.1 hc).elim (h1.1 c) (h2.1 c),fun i c hc j d hd=> ?_⟩
 have below: ∀{es:List (List D)} {i:Nat},(∀c∈es,c.length=P.cellsOf e)→es[i]?=some c→i*P.cellsOf e+j<es.length*P.cellsOf e:=fun{es i} hs hc=>by
  have hi:=(Gz.1 hc).1;have hj:j<P.cellsOf e:=by rw[←hs c (Lz hc)];exact(Gz.1 hd).1
  have:(i+1)*P.cellsOf e≤es.length*P.cellsOf e:=Nat.mul_le_mul_right _ hi;rw[Nat.add_mul]at this;omega
 by_cases hi:i<es1.length
 ·rw[Yz hi]at hc;obtain⟨u,hu,k1,k2⟩:=h1.2 i c hc j d hd;exact⟨u,by rw[g1 _ (below h1.1 hc)];exact hu,k1,k2⟩
 ·rw[Xz (by omega)]at hc;obtain⟨u,hu,k1,k2⟩:=h2.2 _ c hc j d hd;refine⟨u, ?_,k1,k2⟩
  have e1:i*P.cellsOf e+j=es1.length*P.cellsOf e+((i-es1.length)*P.cellsOf e+j):=by
   rw[←Nat.add_assoc,←Nat.add_mul];congr 2;omega
  rw[e1,g2 _ (below h2.1 hc)];exact hu
theorem bf.take{e k:Nat}{es:List (List D)}{C:Array Value}(h:bf P w pr tk C e es):bf P w pr tk C e (es.take k):=
 ⟨fun c hc=>h.1 c (List.mem_of_mem_take hc),fun i c hc j d hd=>by
  have hlt:i<k:=by have:=(Gz.1 hc).1;simp at this;omega
  rw[List.getElem?_take_of_lt hlt]at hc
  exact h.2 i c hc j d hd⟩
theorem bf.drop{e k:Nat}{es:List (List D)}{C C':Array Value}(h:bf P w pr tk C e es)(hC: ∀j,j<(es.length-k)*P.cellsOf e→C'[j]?=C[k*P.cellsOf e+j]?):bf P w pr tk C' e (es.drop k):=
 ⟨fun c hc=>h.1 c (List.mem_of_mem_drop hc),fun i c hc j d hd=>by
  rw[List.getElem?_drop]at hc;obtain⟨u,hu,k1,k2⟩:=h.2 (k+i) c hc j d hd;have hi:=(Gz.1 hc).1;have hj:j<P.cellsOf e:=by rw[←h.1 c (Lz hc)];exact(Gz.1 hd).1
  have hlt:i*P.cellsOf e+j<(es.length-k)*P.cellsOf e:=by
   have:(i+1)*P.cellsOf e≤(es.length-k)*P.cellsOf e:=Nat.mul_le_mul_right _ (by omega)
   grind
  refine⟨u, ?_,k1,k2⟩;rw[hC _ hlt,←hu];congr 1
  rw[Nat.add_mul];omega⟩
end
end
section
section
variable {P : Program} {w0 w : World} {pr : aT} {A : gZ} {n : Nat} {tk : ag} {J : St} {a : Act}
theorem cW.A9(A:Nat→Prop)(w:World)(o:Obj):cW A w (w.drew.alloc o):=
 ⟨rfl,rfl,rfl,Nat.le_of_lt ((Array.getElem?_eq_some_iff.1 (Go.MapKept.heap_alloc w.drew o).1).1),fun k hk _=>(Go.MapKept.heap_alloc w.drew o).2 k hk,Nat.le_succ _⟩
theorem Rel.less(R:Rel P w0 pr A n w a.tmps J tk){m':Mem}(h: ∀t q,m' t=some q→J.m t=some q):Rel P w0 pr A n w a.tmps ⟨J.s,m',J.c⟩ tk:=
 ⟨R.size,R.chg,R.prlt,R.prA,R.glob,⟨fun t o ho=>R.mem.obj t o (h t o ho),fun t t' o o' b c c' h1 h2=>R.mem.inj t t' o o' b c c' (h _ _ h1) (h _ _ h2)⟩,fun t o b c ho=>R.live t o b c (h t o ho),R.fresh,R.zero,R.one,R.slot,R.sav⟩
theorem qa{t ty e:Nat}{i:TypeInfo}(ht:P.underlying t=some (.slice e))(hi:P.info? e=some i){b o len c:Nat}(hlc:len≤c){v2:Value}(h2:v2= .slice none 0 0∨ ∃a c2,v2= .slice (some a) 0 c2):
  (Builtin.append_ #[t,t] ty #[.slice (some ⟨b,o,none⟩) len c,v2]).run P w= .ok (.slice (some ⟨b,o,none⟩) len c) w:=by
 rcases h2 with rfl|⟨a,c2,rfl⟩
 ·simp[Builtin.append_,run_underlying ht,sizeOf,typeInfo,hi,Builtin.lenOf,Builtin.firstCells,hlc,storeCells]
 ·simp[Builtin.append_,run_underlying ht,sizeOf,typeInfo,hi,Builtin.lenOf,Builtin.firstCells,hlc,storeCells,loadCells,loadCellsFrom]
theorem Dv(M:dI P w pr tk J.m){v:Value}{d:D}{es:List (List D)}{e:Nat}(h:ai w pr tk v d)(he:d.elems J.m=some es)(hsz: ∀c∈es,c.length=P.cellsOf e)(hne:es≠ []):
  ∃(a:Addr) (cap:Nat) (news:List Value),v= .slice (some a) es.length cap∧news.length=es.length*P.cellsOf e∧(∀(j:Nat) (u:Value),news[j]?=some u→w.cell? (a.add j)=some u)∧(∀u∈news,u.oneCell'=true)∧
   ∀C:Array Value,(∀j,j<es.length*P.cellsOf e→C[j]?=news[j]?)→bf P w pr tk C e es:=by
 rcases eB M h he with⟨_,h0⟩|⟨b,off,cap,size,us,rfl,h1,h2,h3,h4⟩
 ·exact absurd h0 hne
 ·have hse:size=P.cellsOf e:=by
   cases es with
   |nil=>exact absurd rfl hne
   |cons c r=>rw[←h2 c (by simp),hsz c (by simp)]
  subst hse;refine⟨⟨b,off,none⟩,cap,(List.range (es.length*P.cellsOf e)).map us,rfl,by simp,fun j u hu=> ?_,fun u hu=> ?_,fun C hC=> ?_⟩
  ·simp only[Dz,Mz]at hu;obtain⟨k,hk,rfl⟩:=hu;obtain⟨hlt,rfl⟩:=Gz.1 hk;simp only[List.length_range]at hlt;rw[dM,List.getElem_range];exact(h3 j hlt).1
  ·simp only[List.mem_map,List.mem_range]at hu;obtain⟨k,hk,rfl⟩:=hu;exact(h3 k hk).2
  ·refine E9 hsz (us:=us) (fun j hj=> ?_) (fun j hj=>(h3 j hj).2) h4;rw[hC j hj];simp[List.getElem?_range hj]
theorem KI (R : Rel P w0 pr A n w a.tmps J tk) {t ty e x : Nat} {i : TypeInfo} {z : Value} {av bv' : Value} {d1 d2 : D} {J' : St} (ht : P.underlying t = some (.slice e)) (hi : P.info? e = some i) (hz : i.zero = some z)
    (hzs : z.cells.size = i.size) (hby : i.bytes ≤ 8192) (hx : x < n)
    (ha : ai w pr tk av d1) (hb : ai w pr tk bv' d2) (h : rY x e i.size d1 d2 J = some J') :
    ∃ v' w' tk', (Builtin.append_ #[t, t] ty #[av, bv']).run P w = .ok v' w' ∧ Rel P w0 pr A n w' (a.put (some x) v').tmps J' tk' := by
  have hce : P.cellsOf e = i.size := by simp [Program.cellsOf, hi]
  unfold rY at h
  rw [Bz] at h
  obtain ⟨es2, he2, h⟩ := h
  split at h
  · cases h
  rename_i bS
  have hs2 : ∀ c ∈ es2, c.length = P.cellsOf e := fun c hc => by
    have bS : es2.all (fun c => c.length == i.size) = true := by simpa only [Bool.not_eq_false] using bS
    rw [hce]; simpa using Tz.1 bS c hc
  have pO : es2 = [] → bv' = .slice none 0 0 ∨ ∃ a c2, bv' = .slice (some a) 0 c2 := fun h0 => by
    subst h0
    rcases eB R.mem hb he2 with ⟨rfl | ⟨a, cap, rfl⟩, _⟩ | ⟨b, off, cap, size, us, rfl, _⟩
    · exact .inl rfl
    · exact .inr ⟨_, _, rfl⟩
    · exact .inr ⟨_, _, rfl⟩
  have grown : ∀ (J1 : St) (_ : Rel P w0 pr A n w a.tmps J1 tk) (C : Array Value) (g : Tok) (es : List (List D)) (old : Nat), es.length ≤ maxLen → C.size = grownCap w es.length old e * P.cellsOf e → bf P w pr tk C e es →
      ∃ tk', Rel P w0 pr A n (w.drew.alloc (.cells C e)) (a.put (some x) (.slice (some ⟨w.heap.size, 0, none⟩) es.length (grownCap w es.length old e))).tmps (J1.new x (.row g e es) (.sl (J1.tok x) i.size 0 es.length none)) tk' := by
    intro J1 R C g es old sV hC gO
    have hc := cW.A9 (fun _ => False) w (.cells C e)
    have hge := grownCap_ge w es.length old e
    refine R.alloc hx (cap := grownCap w es.length old e) hc (fun tk' hs he => ?_) fun tk' hs => ?_
    · exact ⟨w.heap.size, _, C, hs, heap_alloc_new w.drew _, hge, grownCap_le_maxLen w _ _ e sV, hC, gO.keeps (R.fU hc he)⟩
    · exact .sl hs (by simp) hge (.inl (by simp))
  have m63 : ∀ {k : Nat}, k ≤ bx → k ≤ maxLen := fun {k} h => by simp only [bx] at h; simp only [maxLen]; omega
  have mby : ∀ {k : Nat}, k ≤ bx → k * i.bytes ≤ 140737488355328 := fun {k} h => by
    simp only [bx] at h
    calc k * i.bytes ≤ 1048576 * 8192 := Nat.mul_le_mul h hby
      _ ≤ _ := by decide
  have zc : ∀ k : Nat, (Builtin.zeroCells z.cells k).size = k * P.cellsOf e := fun k => by rw [size_zeroCells, hzs, hce]
  have GQ : ∀ (re news : List Value) (n1 n2 old : Nat), re.length = n1 * P.cellsOf e → news.length = n2 * P.cellsOf e →
      (re.toArray ++ news.toArray ++ Builtin.zeroCells z.cells (grownCap w (n1 + n2) old e - (n1 + n2))).size = grownCap w (n1 + n2) old e * P.cellsOf e := by
    intro re news n1 n2 old h1 h2
    have hge := grownCap_ge w (n1 + n2) old e
    rw [Array.size_append, zc, Array.size_append, List.size_toArray, List.size_toArray, h1, h2, ← Nat.add_mul, ← Nat.add_mul]
    congr 1
    omega
  cases d1 <;> simp only [] at h <;> try (cases h; done)
  case nil =>
    cases ha
    by_cases h0 : es2 = []
    · subst h0
      simp only [List.isEmpty_nil, if_true, Jz] at h
      subst h
      rcases pO rfl with rfl | ⟨a2, c2, rfl⟩
      · exact ⟨.slice none 0 0, w, tk, by simp [Builtin.append_, run_underlying ht, sizeOf, typeInfo, hi, Builtin.lenOf, Builtin.firstCells], R.put hx (cW.refl _ _) .nil⟩
      · exact ⟨.slice none 0 0, w, tk, by simp [Builtin.append_, run_underlying ht, sizeOf, typeInfo, hi, Builtin.lenOf, Builtin.firstCells, loadCells, loadCellsFrom], R.put hx (cW.refl _ _) .nil⟩
    · rw [if_neg (by simpa using h0)] at h
      split at h <;> cases h
      rename_i sV
      obtain ⟨ad, cap, news, rfl, h1, h2, h3, h4⟩ := Dv R.mem hb he2 hs2 h0
      have sW : 0 < es2.length := List.length_pos_iff.2 h0
      have af := run_append_nil (P := P) w t ty e i z ht hi hz ad es2.length cap news (by rw [← hce]; exact h1) h2 sW (by have := m63 sV; simp only [maxLen] at this; omega) (by have := mby sV; omega)
      obtain ⟨tk', R'⟩ := grown J R (news.toArray ++ Builtin.zeroCells z.cells (grownCap w es2.length 0 e - es2.length)) (J.tok x) es2 0 (m63 sV) (by
          have := GQ [] news 0 es2.length 0 (by simp) h1
          simpa using this) (h4 _ fun j hj => by
            rw [Array.getElem?_append_left (by simp; omega)]; simp)
      exact ⟨_, _, tk', af, R'⟩
  case sl τ kB off len lim =>
    cases ha with
    | sl htk hcc hl ho =>
      rename_i b cap c o
      by_cases h0 : es2 = []
      · subst h0
        simp only [List.isEmpty_nil, if_true, Jz] at h
        subst h
        exact ⟨_, w, tk, qa ht hi hl (pO rfl), R.put hx (cW.refl _ _) (.sl htk hcc hl ho)⟩
      · rw [if_neg (by simpa using h0)] at h
        obtain ⟨ad, so, news, rfl, h1, h2, h3, h4⟩ := Dv R.mem hb he2 hs2 h0
        have sW : 0 < es2.length := List.length_pos_iff.2 h0
        split at h
        · rename_i g e' es1 hm
          split at h
          · rename_i bc
            obtain ⟨rfl, rfl, sV, hle⟩ := bc
            obtain ⟨b', lR, C, k1, k3, k5, k6, k7, k8⟩ := R.mem.obj τ _ hm
            rw [htk] at k1; cases k1
            have Qd : bf P w pr tk C e' es1 := k8
            have holds : ∀ (oo : Nat), (oo = off * P.cellsOf e' ∨ len = 0) → ∃ re : List Value, re.length = len * P.cellsOf e' ∧ (∀ (j : Nat) (u : Value), re[j]? = some u → w.cell? ((⟨b, oo, none⟩ : Addr).add j) = some u) ∧
                ∀ C' : Array Value, (∀ j, j < len * P.cellsOf e' → C'[j]? = re[j]?) → bf P w pr tk C' e' ((es1.drop off).take len) := by
              intro oo hoo
              by_cases hl0 : len = 0
              · subst hl0
                exact ⟨[], by simp, by simp, fun C' _ => ⟨by simp, by simp⟩⟩
              have hoo : oo = off * P.cellsOf e' := hoo.resolve_right hl0
              subst hoo
              have Ep : (off + len) * P.cellsOf e' ≤ cap * P.cellsOf e' := Nat.mul_le_mul_right _ (by omega)
              rw [Nat.add_mul] at Ep
              have fp : ∀ j, j < len * P.cellsOf e' → (List.take (len * P.cellsOf e') (List.drop (off * P.cellsOf e') C.toList))[j]? = C[off * P.cellsOf e' + j]? := fun j hj => by
                rw [List.getElem?_take_of_lt hj, List.getElem?_drop, Array.getElem?_toList]
              refine ⟨(C.toList.drop (off * P.cellsOf e')).take (len * P.cellsOf e'), by simp; omega, fun j u hu => ?_, fun C' hC' => ?_⟩
              · have hj : j < len * P.cellsOf e' := by have := (Gz.1 hu).1; simp at this; omega
                rw [fp j hj] at hu
                rw [dM, cell_of_row w b _ C e' (0, 0) k3]
                exact hu
              · have : bf P w pr tk C' e' ((es1.take (off + len)).drop off) := bf.drop (C := C) Qd.take (fun j hj => by
                    have hj' : j < len * P.cellsOf e' := by
                      have e1 : (es1.take (off + len)).length - off = len := by simp; omega
                      rw [e1] at hj; exact hj
                    rw [hC' j hj', fp j hj'])
                rw [List.drop_take] at this
                have e1 : off + len - off = len := by omega
                rwa [e1] at this
            have grow : ∀ (oo : Nat), (oo = off * P.cellsOf e' ∨ len = 0) → c < len + es2.length → (es1.drop off).length ≥ len → ∀ (g' : Tok) (J1 : St) (_ : Rel P w0 pr A n w a.tmps J1 tk), ∃ v' w' tk', (Builtin.append_ #[t, t] ty #[.slice (some ⟨b, oo, none⟩) len c, .slice (some ad) es2.length so]).run P w = .ok v' w' ∧
                Rel P w0 pr A n w' (a.put (some x) v').tmps (J1.new x (.row g' e' ((es1.drop off).take len ++ es2)) (.sl (J1.tok x) i.size 0 (len + es2.length) none)) tk' := by
              intro oo hoo hlt hlen g' J1 R1
              obtain ⟨re, q1, q2, q3⟩ := holds oo hoo
              have af := run_append_grow (P := P) w t ty e' i z ht hi hz ⟨b, oo, none⟩ len c re (by rw [← hce]; exact q1) q2 ad es2.length so news (by rw [← hce]; exact h1) h2 hlt (by have := m63 sV; simp only [maxLen] at this; omega) (growslice_fits hlt (mby sV))
              have hl2 : ((es1.drop off).take len ++ es2).length = len + es2.length := by simp at hlen ⊢; omega
              have gO : bf P w pr tk (re.toArray ++ news.toArray ++ Builtin.zeroCells z.cells (grownCap w (len + es2.length) c e' - (len + es2.length))) e' ((es1.drop off).take len ++ es2) := by
                have e1 : ((es1.drop off).take len).length = len := by simp at hlen ⊢; omega
                refine tU (C1 := re.toArray) (C2 := news.toArray) (q3 _ fun j hj => by simp) (h4 _ fun j hj => by simp) (fun j hj => ?_) (fun j hj => ?_)
                · rw [e1] at hj
                  rw [Array.getElem?_append_left (by simp; omega), Array.getElem?_append_left (by simp; omega)]
                · rw [e1]
                  rw [Array.getElem?_append_left (by simp; omega), Array.getElem?_append_right (by simp; omega)]
                  congr 1
                  simp; omega
              obtain ⟨tk', R'⟩ := grown J1 R1 _ g' ((es1.drop off).take len ++ es2) c (by rw [hl2]; exact m63 sV) (by rw [hl2]; exact GQ re news len es2.length c q1 h1) gO
              rw [hl2] at R'
              exact ⟨_, _, tk', af, R'⟩
            split at h
            · split at h <;> cases h
              rename_i qW
              subst qW
              have ho0 : o = 0 := by rcases ho with h | h; simpa using h; omega
              subst ho0
              simp only [Option.getD_none, Nat.sub_zero] at hcc
              subst hcc
              have Uu : Rel P w0 pr A n w a.tmps (J.aL g len) tk := R.less fun t q h => (ck h).1
              by_cases De : len + es2.length ≤ c
              · have uR : len * i.size + news.length ≤ C.size := by
                  rw [h1, k7, hce, ← Nat.add_mul]
                  exact Nat.mul_le_mul_right _ De
                have af := run_append_room (P := P) w t ty e' i ht hi b len c C k3 ad es2.length so news (by rw [← hce]; exact h1) h2 h3 De uR
                have hC' : (C.toList.take (len * i.size) ++ news ++ C.toList.drop (len * i.size + news.length)).toArray = putCells C (len * i.size) news.toArray := by simp [putCells]
                rw [hC'] at af
                have hns : news.toArray.size = news.length := by simp
                have fp := fun k => fH (C := C) (V := news.toArray) (off := len * i.size) (by simpa using uR) k
                have jf := cW.setRow w b (putCells C (len * i.size) news.toArray)
                have L4 : ∀ (es' : List (List D)), es'.length ≤ len → bf P w pr tk C e' es' → bf P w pr tk (putCells C (len * i.size) news.toArray) e' es' := fun es' hl hr => by
                  refine ⟨hr.1, fun k q hq l d hd => ?_⟩
                  rw [fp]
                  have hkl := (Gz.1 hq).1
                  have hll : l < P.cellsOf e' := by rw [← hr.1 q (Lz hq)]; exact (Gz.1 hd).1
                  have : (k + 1) * P.cellsOf e' ≤ len * P.cellsOf e' := Nat.mul_le_mul_right _ (by omega)
                  rw [Nat.add_mul] at this
                  rw [if_neg (by rw [← hce]; omega)]
                  exact hr.2 k q hq l d hd
                have K : cY w (w.setRow b (putCells C (len * i.size) news.toArray)) pr pr tk tk := ⟨fun b' x h => ⟨jf.block b' (R.uL b' x h) (fun e => by subst e; exact R.free hm htk h), h⟩, fun _ _ h => h⟩
                have L9 : ∀ t' q c', J.m t' = some q → tk t' = some (b, c') → q.gJ = some g := fun t' q c' hq ht' => by
                  rcases R.mem.inj t' τ q _ b c' c hq hm ht' htk with rfl | ⟨_, g2⟩
                  · rw [hm] at hq; cases hq; rfl
                  · rw [g2]; rfl
                have R1 : Rel P w0 pr A n (w.setRow b (putCells C (len * i.size) news.toArray)) a.tmps (J.aL g len) tk := R.SA hm htk jf (m' := (J.aL g len).m) (fun t' q h => (ck h).1) (fun t' q c' h ht' hr => by
                  obtain ⟨hq1, hq2⟩ := ck h
                  have hg := L9 t' q c' hq1 ht'
                  cases q with
                  | box => simp [HO.gJ] at hg
                  | map => simp [HO.gJ] at hg
                  | iter => simp [HO.gJ] at hg
                  | raw => simp [HO.gJ] at hg
                  | row g' e'' es' =>
                    simp only [HO.gJ, Jz] at hg
                    subst hg
                    have By := hq2 e'' es' rfl
                    obtain ⟨b2, acQ, C2, j1, j3, j5, j6, j7, j8⟩ := hr
                    rw [ht'] at j1; cases j1
                    rw [k3] at j3; cases j3
                    exact ⟨b, c', _, ht', setRow_heap w b C _ e' _ k3, j5, j6, by rw [cK (by simpa using uR)]; exact j7, (L4 es' By j8).keeps K⟩)
                obtain ⟨tk', R2⟩ := R1.alias hx (g := g) (e := e') (es := es1.take len ++ es2) (d := .sl (J.tok x) i.size 0 (len + es2.length) none) (v := .slice (some ⟨b, 0, none⟩) (len + es2.length) c) (b := b) (cap := c)
                  (R.live τ _ b c hm htk) (by have := (Array.getElem?_eq_some_iff.1 k3).1; simpa using this) (fun t' q c' h ht' => L9 t' q c' (ck h).1 ht') (fun tk' hs he => by
                    have K2 := R.fU (cW.refl _ w) he
                    have K3 : cY w (w.setRow b (putCells C (len * i.size) news.toArray)) pr pr tk tk' := ⟨K.cell, he⟩
                    have hl1 : (es1.take len).length = len := by simp; omega
                    refine ⟨b, c, _, hs, setRow_heap w b C _ e' _ k3, by rw [List.length_append, hl1]; exact De, k6, by rw [cK (by simpa using uR)]; exact k7, ?_⟩
                    refine bf.keeps ?_ K3
                    refine tU (C1 := putCells C (len * i.size) news.toArray) (C2 := news.toArray) (L4 _ (by omega) k8.take) (h4 _ fun j hj => by simp) (fun j hj => rfl) (fun j hj => ?_)
                    rw [hce] at hj
                    rw [hce] at h1
                    rw [fp, hl1, hce, if_pos (by rw [hns, h1]; omega)]
                    congr 1
                    omega) (fun tk' hs => .sl hs (by simp) De (.inl (by simp)))
                exact ⟨_, _, tk', af, R2⟩
              · have := grow 0 (.inl (by simp)) (by omega) (by simp; omega) g (J.aL g len) Uu
                simpa [St.tok] using this
            · rename_i cl
              split at h <;> cases h
              rename_i hlt
              simp only [Option.getD_some] at hcc
              subst hcc
              exact grow o (ho.imp (fun h => by rw [hce]; exact h) fun h => by omega) hlt (by simp; omega) _ J R
          · cases h
        · cases h
theorem AN{e k l:Nat}{z:Value}{zd:List D}(h:cq w pr tk z.cells zd)(hz:z.cells.size=P.cellsOf e)(hl:l≤k):bf P w pr tk (madeCells z.cells (k*P.cellsOf e)) e (List.replicate l zd):=by
 have hzl:zd.length=P.cellsOf e:=by rw[←h.1,hz]
 refine⟨fun c hc=>by rw[List.eq_of_mem_replicate hc];exact hzl,fun i c hc j d hd=> ?_⟩;have hi:i<l:=by have:=(Gz.1 hc).1;simpa using this
 have:c=zd:=List.eq_of_mem_replicate (Lz hc);subst this;have hj:j<P.cellsOf e:=by rw[←hzl];exact(Gz.1 hd).1
 have hlt:i*P.cellsOf e+j<k*P.cellsOf e:=by
  have:(i+1)*P.cellsOf e≤k*P.cellsOf e:=Nat.mul_le_mul_right _ (by omega);rw[Nat.add_mul]at this;omega
 have hjz:j<z.cells.size:=by omega
 have P5:(i*P.cellsOf e+j)%z.cells.size=j:=by
  rw[hz,Nat.mul_comm,Nat.mul_add_mod,Nat.mod_eq_of_lt hj]
 refine⟨z.cells[j], ?_,h.2.1 j _ (Rz hjz),h.2.2 j _ d (Rz hjz) hd⟩;simp only[madeCells,Array.getElem?_map,Array.getElem?_range];rw[if_pos hlt];simp only[Pz,P5];rw[getElem!_pos z.cells j hjz]
theorem KL(R:Rel P w0 pr A n w a.tmps J tk){t e x:Nat}{i:TypeInfo}{z:Value}{zd:List D}{av bv':Value}{d1 d2:D}{J':St}(ht:P.underlying t=some (.slice e))(hi:P.info? e=some i)(hz:i.zero=some z)
  (hzs:z.cells.size=i.size) (hzd:cq w pr tk z.cells zd) (hsz:i.size≤40) (hby:i.bytes≤8192) (hx:x<n) (ha:ai w pr tk av d1) (hb:ai w pr tk bv' d2) (h:BO x e i.size zd d1 d2 J=some J'):
  ∃v' w' tk',(Instr.makeSlice t av bv').run P w= .ok v' w'∧Rel P w0 pr A n w' (a.put (some x) v').tmps J' tk':=by
 have hce:P.cellsOf e=i.size:=by simp[Program.cellsOf,hi]
 unfold BO at h;split at h
 ·rename_i k1 l k2 c;split at h<;>cases h;rename_i hc;obtain⟨h0,h1,h2,hcs⟩:=hc;obtain⟨rfl,_⟩:=aP.1 ha;obtain⟨rfl,_⟩:=aP.1 hb;have hmm:c≤1048576:=h2
  have af:=run_makeSlice (P:=P) w t e i z ht hi hz k1 k2 l c h0 h1 (by omega) (by
    have:i.bytes*c.toNat≤8192*1048576:=Nat.mul_le_mul hby (by omega);have e1:((i.bytes*c.toNat:Nat):Int)=(i.bytes:Int)*c:=by rw[Int.natCast_mul,Int.toNat_of_nonneg (by omega)]
    omega) (by omega)
  have jf:=cW.alloc (fun _=>False) w (.cells (madeCells z.cells (c.toNat*i.size)) e)
  obtain⟨tk',R'⟩:=R.alloc hx (cap:=c.toNat) jf (o:= .row (J.tok x) e (List.replicate l.toNat zd)) (d:= .sl (J.tok x) i.size 0 l.toNat none) (v:= .slice (some ⟨w.heap.size,0,none⟩) l.toNat c.toNat) (fun tk' hs he=>by
    refine⟨w.heap.size,c.toNat,_,hs,(Go.MapKept.heap_alloc w _).1,by simp;omega,by simp only[maxLen];omega,by simp[madeCells,hce], ?_⟩;have q:=AN (e:=e) (k:=c.toNat) (l:=l.toNat) hzd (by rw[hce];exact hzs) (by omega);rw[hce]at q
    exact q.keeps (R.fU jf he)) (fun tk' hs=> .sl hs (by simp) (by omega) (.inl (by simp)))
  grind
 ·cases h
theorem KV{t e len:Nat}{ie:TypeInfo}{zv:Value}{parts:Array (Nat×Value)}{C:Array Value}(hu:P.underlying t=some (.slice e))(hie:P.info? e=some ie)(hzv:ie.zero=some zv)(hsm:len*ie.size≤65536)(sW:0<ie.size)
  (g1:Instr.fill (fun i=>some (i*ie.size,ie.size)) ((Array.range (len*ie.size)).map (zv.cells[· %zv.cells.size]!)) parts.toList=some C):
  (Instr.buildSlice t len parts).run P w= .ok (.slice (some ⟨w.heap.size,0,none⟩) len len) (w.alloc (.cells C e)):=by
 by_cases h0:len=0
 ·subst h0;have e0: ∀g:Nat→Value,(Array.range 0).map g= #[]:=fun g=>Array.eq_empty_of_size_eq_zero (by simp);simp only[Nat.zero_mul,e0]at g1;simp[Instr.buildSlice,run_underlying hu,sizeOf,typeInfo,hie,newRow,e0,g1]
 ·exact run_buildSlice w t e len parts C ie zv hu hie hzv (by omega) (by
   intro h;rcases Nat.mul_eq_zero.1 h with h|h
   ·grind
   ·omega) g1
theorem KK(R:Rel P w0 pr A n w a.tmps J tk){t e size len x:Nat}{zero:List D}{places:List (Nat×Nat)}{parts:Array (Nat×Operand)}{E:Operand→Value}{ds:List D}{J':St}
  (hd:xd P t len (parts.toList.map (·.1))=some (e,size,zero,places)) (hx:x<n) (a6:aX w pr tk ((parts.toList.map (·.2)).map E) ds) (h:BK x e size len zero places ds J=some J'):
  ∃v' w' tk',(Instr.buildSlice t len (parts.map fun(i,x)=>(i,E x))).run P w= .ok v' w'∧Rel P w0 pr A n w' (a.put (some x) v').tmps J' tk':=by
 unfold xd at hd;split at hd
 ·rename_i e' hu;rw[Bz]at hd;obtain⟨ie,hie,hd⟩:=hd;split at hd
  ·rename_i hsz;rw[Bz]at hd;obtain⟨z,hz,hd⟩:=hd;split at hd
   ·rename_i hzl;simp only[Jz,Prod.mk.injEq]at hd;obtain⟨rfl,rfl,rfl,rfl⟩:=hd;have hce:P.cellsOf e'=ie.size:=by simp[Program.cellsOf,hie]
    unfold BK at h;split at h
    ·rename_i bS;rw[Bz]at h;obtain⟨out,aah,h⟩:=h;split at h<;>cases h;rename_i hlen;obtain⟨i',zv,hi',hzv,hzr⟩:=iL (w:=w) (pr:=pr) (tk:=tk) hz;obtain rfl:ie=i':=by rw[hie]at hi';exact Option.some.inj hi'
     have hzs:zv.cells.size=ie.size:=by rw[hzr.1,hzl]
     have hzero:cq w pr tk ((Array.range (len*ie.size)).map (zv.cells[· %zv.cells.size]!)) ((List.range (len*ie.size)).map fun j=>z.getD (j%ie.size) .undef):=by
      have hj: ∀j,j%ie.size<zv.cells.size:=fun j=>by rw[hzs];exact Nat.mod_lt _ hsz.2
      refine⟨by simp,fun i c hc=> ?_,fun i c x hc hx=> ?_⟩
      ·simp only[Array.getElem?_map,Mz]at hc;obtain⟨j,_,rfl⟩:=hc;refine hzr.2.1 (j%ie.size) _ ?_
       grind
      ·simp only[Array.getElem?_map,Dz,Mz]at hc hx;obtain⟨j,hj1,rfl⟩:=hc;obtain⟨j',hj2,rfl⟩:=hx
       have hjj:j=j':=by
        grind
       subst hjj;refine hzr.2.2 (j%ie.size) _ _ ?_ ?_
       ·grind
       ·have hl:j%ie.size<z.length:=by rw[hzl];exact Nat.mod_lt _ hsz.2
        grind
     have hpl:(parts.toList.map fun p=>(p.1,E p.2)).mapM (fun p=>(fun i=>some (i*ie.size,ie.size)) p.1)=some ((parts.toList.map (·.1)).map fun k=>(k*ie.size,ie.size)):=by
      generalize parts.toList=l
      induction l with
      |nil=>rfl
      |cons a l ih=>simp only[List.map_cons,List.mapM_cons,ih];rfl
     obtain⟨C,g1,g2⟩:=sJ (w:=w) (pr:=pr) (tk:=tk) (place:=fun i=>some (i*ie.size,ie.size)) (parts.toList.map fun p=>(p.1,E p.2)) _ _ _ _ out hzero hpl
      (by simpa[List.map_map,Function.comp_def]using a6) bS aah
     have hCl:C.size=len*P.cellsOf e':=by rw[g2.1,hlen,hce]
     have af:=KV (w:=w) hu hie hzv (by omega) hsz.2 (parts:=parts.map fun(i,x)=>(i,E x)) (len:=len) (C:=C) (by simpa using g1);have jf:=cW.alloc (fun _=>False) w (.cells C e')
     have hlb:len≤65536:=by
      have:len*1≤len*ie.size:=Nat.mul_le_mul_left _ hsz.2;omega
     obtain⟨tk',R'⟩:=R.alloc hx (cap:=len) jf (o:= .row (J.tok x) e' (kL ie.size len (out.map D.nz))) (d:= .sl (J.tok x) ie.size 0 len none) (v:= .slice (some ⟨w.heap.size,0,none⟩) len len) (fun tk' hs he=>by
       refine⟨w.heap.size,len,C,hs,(Go.MapKept.heap_alloc w _).1,by rw[gu];exact Nat.le_refl _,by simp only[maxLen];omega,hCl, ?_⟩;rw[←hce]
       exact(xP (Ij g2) (by rw[hce,List.length_map];exact hlen)).keeps (R.fU jf he)) (fun tk' hs=> .sl hs (by simp) (Nat.le_refl _) (.inl (by simp)))
     exact⟨_,_,tk',af,R'⟩
    ·cases h
   ·cases hd
  ·cases hd
 ·cases hd
theorem Rel.called(R:Rel P w0 pr A n w a.tmps J tk){B:eo}(U:iI B w0 pr A){x:Nat}(hx:x<n){w':World}(hc:cW (fun _=>False) w w'){pr':aT}{v:Value}{d:D}
  (h1: ∀b o,pr b o→pr' b o) (h2: ∀b o,pr' b o→pr b o∨(w.heap.size≤b∧b<w'.heap.size)) (hv:ai w' pr' tk v d):bW P B n w' (a.put (some x) v).tmps (J.set x d):=by
 have K:cY w w' pr pr' tk tk:=⟨fun b o h=>⟨hc.block b (R.uL b o h) id,h1 b o h⟩,fun _ _ h=>h⟩
 have lt: ∀t q b c,J.m t=some q→tk t=some (b,c)→b<w.heap.size:=fun t q b c hm ht=>by
  obtain⟨b1,c1,g1,g2⟩:=(R.mem.obj t q hm).place;rw[ht]at g1;cases g1;exact g2
 have s1:=R.chg.size;have s2:=U.chg.size;have s3:=hc.size
 refine⟨w',pr',⟨bX tk J.m,A.z,A.sv⟩,tk,⟨by simp[Act.put,R.size],cW.refl _ _,fun b o h=> ?_,fun b o h hb=> ?_,R.glob.keeps K.cell,R.mem.keeps K fun t q b c hm ht=>hc.block b (lt t q b c hm ht) id,
  fun t q b c hm ht=> .inr ⟨t,q,c,hm,ht⟩,R.fresh,R.zero,R.one,fun i hi=> ?_,fun i hi=>by rw[St.cQ _ _ (show i≠x by omega)];exact(R.sav i hi).keeps K⟩,⟨U.chg.trans (R.chg.trans hc fun _ _ h=>h.elim) fun b hb h=>U.sub b hb h,fun b hb h=> ?_,U.z,U.sv,fun b o h=>h1 b o (U.sup b o h),fun b o h=> ?_⟩⟩
 ·rcases h2 b o h with h|h
  ·have:=R.uL b o h;omega
  ·exact h.2
 ·obtain⟨t,q,c,hm,ht⟩:=hb;rcases h2 b o h with h|h
  ·exact R.free hm ht h
  ·have:=lt t q b c hm ht;omega
 ·simp only[Act.put,j_ (show x<a.tmps.size by rw[R.size];exact hx),St.set];split
  ·exact hv
  ·exact(R.slot i hi).keeps K
 ·obtain⟨t,q,c,hm,ht⟩:=h;rcases R.live t q b c hm ht with h|h
  ·omega
  ·exact U.sub b hb h
 ·rcases h2 b o h with h|h
  ·exact U.inf b o h
  ·exact .inr (.inl (by omega))
def BD:Op→Bool
 | .call _=>true
 |_=>false
theorem yY{op:BinOp}{t:Nat}{k:PK}(h:Ga P op t=some k):k.simple=true:=by
 unfold Ga at h
 (repeat' split at h)<;>(try cases h)<;>rfl
theorem xh{op:BinOp}{t:Nat}{k:PK}(h:y_ P op t=some k):k.simple=true:=by
 unfold y_ at h
 (repeat' split at h)<;>(try cases h)<;>rfl
theorem yW{op:BinOp}{t:Nat}{k:PK}(h:F9 P op t=some k):k.simple=true:=by
 unfold F9 at h
 (repeat' split at h)<;>first|(cases h;done)|(obtain⟨ks,_,rfl⟩:=Mz.1 h;rfl)
theorem A6{op:UnOp}{k:PK}(h:TD op=some k):k.simple=true:=by
 unfold TD at h
 (repeat' split at h)<;>(try cases h)<;>rfl
theorem xf{s t:Nat}{k:PK}(h:yZ P s t=some k):k.simple=true:=by
 unfold yZ at h
 (repeat' split at h)<;>(try cases h)<;>rfl
theorem y6{t:Nat}{k:PK}(h:Jx P t=some k):k.simple=true:=by
 unfold Jx at h
 (repeat' split at h)<;>(try cases h)<;>rfl
theorem xg{t:Nat}{k:PK}(h:Gg P t=some k):k.simple=true:=by
 obtain⟨g,_,h⟩:=Bz.1 h
 (repeat' split at h)<;>(try cases h)<;>rfl
theorem yX{t:Nat}{k:PK}(h:F_ P t=some k):k.simple=true:=by
 unfold F_ at h;split at h
 ·obtain⟨g,_,h⟩:=Bz.1 h
  (repeat' split at h)<;>(try cases h)<;>rfl
 ·cases h
theorem y9{t:Nat}{x:Operand}{lo hi mx:Option Operand}{k:PK}{xs:List Operand}(h:Gh P t x lo hi mx=some (k,xs)):k.simple=true:=by
 unfold Gh at h
 (repeat' split at h)<;>(try cases h)<;>rfl
theorem Fh {fr : mZ} {op : Op} {k : PK} {xs : List Operand} (ho : BD op = false) (h : oe P fr op = some (k, xs)) : k.simple = true := by
  unfold oe at h
  split at h
  case h_11 => simp [BD] at ho
  all_goals first
    | (cases h; rfl)
    | (cases h; done)
    | (obtain ⟨q, hq, he⟩ := Mz.1 h
       cases he
       first
         | rfl
         | exact xg hq
         | exact y6 hq
         | exact A6 hq
         | exact xf hq
         | exact yX hq
         | (rcases or3 hq with hq | hq | hq
            · exact yY hq
            · exact xh hq
            · exact yW hq))
    | exact y9 h
    | (split at h <;> cases h <;> rfl)
    | (split at h
       · cases h; rfl
       · split at h <;> cases h; rfl)
    | (obtain ⟨q, hq, he⟩ := Bz.1 h
       first
         | (split at he <;> cases he <;> rfl)
         | (obtain ⟨z, hz, he⟩ := Mz.1 he
            cases he
            rfl))
theorem Fj{r:Option Nat}{B:eo}{fr:mZ}{Γ:Env}(hΓ:Sound P Γ){o:Oper}{k:PK}{xs:List Operand}{gs:List aM}{d:D}{x:Nat}{next:Act→World→Prop}{Q:Exit→Act→World→Prop}
  (R:Rel P w0 pr A n w a.tmps J tk) (U:iI B w0 pr A) (hd:oe P fr o.op=some (k,xs)) (hk:k.simple=false) (hgs:xs.mapM (dO n)=some gs) (hx:o.dst=some x) (hxn:x<n)
  (af:k.run Γ J.m (gs.map (aM.val J.s))=some d) (h: ∀v w',bW P B n w' (a.put (some x) v).tmps (J.set x d)→next (a.put (some x) v) w'):Oper.rj r P o a w next Q:=by
 have fin: ∀(f:Nat) (cargs:Array Value),(execOp a.eval o).run P w= .ok (.enter f cargs) w→
   (Calls P f cargs w fun e w'=> ∃v pr',e= .returned v∧cW (fun _=>False) w w'∧(∀b o,pr b o→pr' b o)∧(∀b o,pr' b o→pr b o∨(w.heap.size≤b∧b<w'.heap.size))∧ai w' pr' tk v d)→Oper.rj r P o a w next Q:=fun f cargs he hc=>by
  refine kI (na hd) he (hc.mono ?_);rintro e w' ⟨v,pr',rfl,h2,h3,h4,h5⟩;refine⟨v,rfl, ?_⟩;rw[hx];exact h v w' (R.called U hxn h2 h3 h4 h5)
 have a6:=eS R hgs;generalize ho:o.op=op at hd;have hd0:=hd;have ho2:(∃c,op= .call c)∨BD op=false:=by cases op<;>first|exact .inl ⟨_,rfl⟩|exact .inr rfl
 rcases ho2 with⟨c,rfl⟩|ho2
 case inr=>rw[Fh ho2 hd0]at hk;cases hk
 case inl=>
  simp only[oe]at hd;unfold Gc at hd;split at hd
  ·rename_i b hc;obtain⟨k',hk',hd⟩:=Mz.1 hd;cases hd;unfold lY at hk'
   split at hk'<;>first
    |(cases hk';done)
    |(cases hk';simp[PK.simple]at hk;done)
    |(split at hk'<;>cases hk'<;>simp[PK.simple]at hk)
  ·rename_i f hc;split at hd<;>cases hd;rename_i hlt;rcases qp (P:=P) (cargs:=c.args.map a.eval) hΓ R.mem (by simpa using a6) R.uL R.glob hlt.2 af with⟨v,hv,hr⟩|⟨hb,oz⟩
   ·refine bR (by rw[ho];rfl) (show(execOp a.eval o).run P w= .ok (.value v) w by simp[execOp,ho,resolve,hc,Act.eval,Deferred.ofValue,invoke,hv]) ?_;rw[hx];exact h v w ⟨_,_,_,_,R.put hxn (cW.refl _ _) hr,U⟩
   exact fin f _ (by simp[execOp,ho,resolve,hc,Act.eval,Deferred.ofValue,invoke,bI hb]) oz
  ·rename_i t hc;cases hd;simp only[List.mapM_cons,Option.bind_eq_bind,Bz,Option.pure_def,Jz]at hgs;obtain⟨g,hg,gs',adv,rfl⟩:=hgs;simp only[List.map_cons,PK.run]at af;have hfv:ai w pr tk (a.eval (.tmp t)) (g.val J.s):=a6.1;have iU:aX w pr tk (c.args.toList.map a.eval) (gs'.map (aM.val J.s)):=a6.2;cases hgv:g.val J.s<;>rw[hgv]at af<;>simp only[sq]at af<;>try (cases af;done)
   rename_i f eT;split at af
   rotate_left
   ·grind
   rename_i Bq;rw[hgv]at hfv;generalize hev:a.eval (.tmp t)=fv at hfv;cases hfv with
   | @clo _ _ cv _ _ hs hr=>
    have η:aX w pr tk ((c.args.map a.eval)++cv).toList (gs'.map (aM.val J.s)++eT):=by
     rw[Array.toList_append];exact ju (by simpa using iU) (mR (by simpa using hs) fun i c x hc hx=>hr i c x (by simpa using hc) hx)
    rcases qp (P:=P) hΓ R.mem η R.uL R.glob Bq af with⟨v,hv,hr⟩|⟨hb,oz⟩
    ·refine bR (by rw[ho];rfl) (show(execOp a.eval o).run P w= .ok (.value v) w by simp[execOp,ho,resolve,hc,hev,Deferred.ofValue,invoke,hv]) ?_;rw[hx];exact h v w ⟨_,_,_,_,R.put hxn (cW.refl _ _) hr,U⟩
    exact fin f _ (by simp[execOp,ho,resolve,hc,hev,Deferred.ofValue,invoke,bI hb]) oz
   |bclo=>omega
  ·cases hd
end
end
section
def QT(x:Nat)(J:St):Option St:=some (J.new x (.map []) (.mp (J.tok x)))
def gW(ks:List Nat)(a k v:D)(J:St):Option St:=
 match a with
 | .mp t=>match J.m t with
  |some (.map es)=>if v.rJ=true∧k.rJ=true∧cj ks k k=some true then(bq ks k es 0).bind fun r=>match r with
   |some i=>(es[i]?).map fun p=>J.put t (some (.map (es.set i (p.1,v))))
   |none=>if es.length<bx then some (J.put t (some (.map (es++ [(k,v)]))))else none
   else none
  |_=>none
 |_=>none
def vX(ks:List Nat)(z:D)(x:Nat)(a k:D)(J:St):Option St:=
 match a with
 | .mp t=>match J.m t with
  |some (.map es)=>if cj ks k k=some true then(bq ks k es 0).bind fun r=>match r with
   |some i=>(es[i]?).bind fun p=>(gW ks a k p.2 J).map fun J'=>J'.set x (.tup [p.2,iv i])
   |none=>(gW ks a k z J).map fun J'=>J'.set x (.tup [z,iv es.length])
   else none
  |_=>none
 |_=>none
def tw(a s v:D)(J:St):Option St:=
 match a,s with
 | .mp t, .v (.int _ i)=>match J.m t with
  |some (.map es)=>if v.rJ=true∧0≤i then(es[i.toNat]?).map fun p=>J.put t (some (.map (es.set i.toNat (p.1,v))))else none
  |_=>none
 |_,_=>none
section
variable {P : Program} {w0 w : World} {pr : aT} {A : gZ} {n : Nat} {tk : ag} {J : St} {a : Act}
theorem DI(R:Rel P w0 pr A n w a.tmps J tk){x:Nat}(hx:x<n){t:Nat}{J':St}(h:QT x J=some J'):
  ∃v w' tk',(Instr.makeMap t none).run P w= .ok v w'∧Rel P w0 pr A n w' (a.put (some x) v).tmps J' tk':=by
 cases h
 obtain⟨tk',R'⟩:=R.alloc hx (cap:=0) (cW.alloc _ w (.map #[] 0)) (o:= .map []) (d:= .mp (J.tok x)) (v:= .map (some w.heap.size))
  (fun tk' hs _=>⟨_,_,#[],hs,(MapKept.heap_alloc w _).1,rfl,by simp,fun i en p he=>by simp at he⟩) (fun tk' hs=> .mp hs)
 exact⟨_,_,tk',by simp[Instr.makeMap],R'⟩
theorem ru{b:Nat}{o o':Obj}(hb:w.heap[b]?=some o):cW (fun k=>k=b) w {w with heap:=w.heap.setIfInBounds b o'}:=
 ⟨rfl,rfl,rfl,by simp,fun k _ hk=>(MapKept.heap_set hb).2 k hk,Nat.le_refl _⟩
theorem Rel.BP(R:Rel P w0 pr A n w a.tmps J tk){u:Tok}{b cap:Nat}{es es':List (D×D)}{o o':Obj}(hm:J.m u=some (.map es))(ht:tk u=some (b,cap))(h2:w.heap[b]?=some o)
  (ho:cY w {w with heap:=w.heap.setIfInBounds b o'} pr pr tk tk→mX P {w with heap:=w.heap.setIfInBounds b o'} pr tk u (.map es')):
  Rel P w0 pr A n {w with heap:=w.heap.setIfInBounds b o'} a.tmps (J.put u (some (.map es'))) tk∧cY w {w with heap:=w.heap.setIfInBounds b o'} pr pr tk tk:=by
 have K:cY w {w with heap:=w.heap.setIfInBounds b o'} pr pr tk tk:=⟨fun b' x hp=>⟨(ru h2).block b' (R.uL b' x hp) (fun e=>by subst e;exact R.free hm ht hp),hp⟩,fun _ _ h=>h⟩
 exact⟨R.write hm ht (ru h2) (o':= .map es') rfl (m':=(J.put u (some (.map es'))).m) (by simp[St.put]) (fun t' q hne hq=>by simpa[St.put,hne]using hq) (ho K)
  (fun t' q c' hne hq ht' _=>by
   have hq:J.m t'=some q:=by simpa[St.put,hne]using hq
   rcases R.mem.inj t' u q _ b c' cap hq hm ht' ht with h|⟨h1,h2⟩
   ·grind
   ·rw[h2]at h1;cases h1),K⟩
theorem tM(R:Rel P w0 pr A n w a.tmps J tk){t e:Nat}{ks:List Nat}(hk:y7 P t=some (ks,e)){av kv vv:Value}{d k v:D}{J':St}(ha:ai w pr tk av d)(hkr:ai w pr tk kv k)(hv:ai w pr tk vv v)
  (h:gW ks d k v J=some J'): ∃w',(Instr.mapUpdate t av kv vv).run P w= .ok () w'∧Rel P w0 pr A n w' a.tmps J' tk∧cY w w' pr pr tk tk:=by
 obtain⟨kt,hu,L⟩:=pA hk;unfold gW at h;split at h
 ·rename_i u;split at h
  ·rename_i es hm;split at h
   rotate_left
   ·cases h
   rename_i oA;have uQ:=L.check hkr oA.2.2;rw[Bz]at h;obtain⟨r,hf,h⟩:=h;cases ha with
   |mp ht=>
    rename_i b cap;obtain⟨a7,h2,h3,h4,h5,h6⟩:=jA R.mem L hm ht hkr hf;split at h
    ·rename_i i;obtain⟨p,hp,rfl⟩:=Mz.1 h;obtain⟨en,p',g1,g2,g3,g4,g5⟩:=h6;rw[hp]at g2;cases g2
     have Df:(Instr.keyThatStays en.key kv).run P w= .ok kv w:=by
      rw[←g4];simp[Instr.keyThatStays,g5]
     refine⟨_, ?_,R.BP hm ht h2 (o':= .map (a7.modify i fun e=>{e with key:=kv,val:=vv}) es.length) fun hK=> ?_⟩
     ·simp[Instr.mapUpdate,run_underlying hu,MapKept.run_getObj_map h2,uQ,g3,g1,Df,MapKept.run_setObj_map _ h2,Result.andThen]
     ·refine⟨b,cap,a7.modify i fun e=>{e with key:=kv,val:=vv},ht,by rw[(MapKept.heap_set h2).1];simp,by simpa using h3,by simpa using h4,fun j en' p' he hp'=> ?_⟩;rw[Array.getElem?_modify]at he;rw[List.getElem?_set]at hp';have hi:i<es.length:=(Gz.1 hp).1;by_cases hij:i=j
      ·subst hij;simp only[if_true,g1,Pz,Jz]at he;simp only[if_true,hi,Jz]at hp';subst he;subst hp';obtain⟨q1,q2,q3⟩:=h5 i en p g1 hp;exact⟨q1,by have:=q2.keeps hK;rwa[←g4]at this,hv.keeps hK⟩
      ·simp only[hij,if_false]at he hp';obtain⟨q1,q2,q3⟩:=h5 j en' p' he hp';exact⟨q1,q2.keeps hK,q3.keeps hK⟩
    ·split at h<;>cases h;rename_i hlt;refine⟨_, ?_,R.BP hm ht h2 (o':= .map (a7.push {key:=kv,val:=vv,born:=es.length}) (es.length+1)) fun hK=> ?_⟩
     ·have h6:(Instr.findKey kt kv a7.toList).run P w= .ok none w:=h6;simp[Instr.mapUpdate,run_underlying hu,MapKept.run_getObj_map h2,uQ,h6,MapKept.run_setObj_map _ h2,Result.andThen]
     ·refine⟨b,cap,a7.push {key:=kv,val:=vv,born:=es.length},ht,by rw[(MapKept.heap_set h2).1];simp,by simp[h3],by simp[bx,maxLen]at hlt⊢;omega,fun j en' p' he hp'=> ?_⟩;rw[Array.getElem?_push,h3]at he;by_cases hj:j=es.length
      ·subst hj;simp only[if_true,Jz]at he;rw[Xz (Nat.le_refl _)]at hp';simp only[Nat.sub_self,List.getElem?_cons_zero,Jz]at hp';subst he;subst hp';exact⟨rfl,hkr.keeps hK,hv.keeps hK⟩
      ·rw[if_neg hj]at he;have hjl:j<es.length:=by have:=(Array.getElem?_eq_some_iff.1 he).1;omega
       rw[Yz hjl]at hp';obtain⟨q1,q2,q3⟩:=h5 j en' p' he hp';exact⟨q1,q2.keeps hK,q3.keeps hK⟩
  ·cases h
 ·cases h
theorem zW{α:Type}{xs:Array α}{i:Nat}{a:α}{f g:α→α}(h:xs[i]?=some a)(e:f a=g a):xs.modify i f=xs.modify i g:=by
 apply Array.ext_getElem?;intro j;simp only[Array.getElem?_modify];split
 ·rename_i hij;subst hij;simp[h,e]
 ·rfl
theorem Ig(R:Rel P w0 pr A n w a.tmps J tk){t e:Nat}{ks:List Nat}(hk:y7 P t=some (ks,e)){z:D}(hz:pE P e=some z){x:Nat}(hx:x<n){av kv:Value}{d k:D}{J':St}(ha:ai w pr tk av d)(hkr:ai w pr tk kv k)
  (h:vX ks z x d k J=some J'): ∃v w',(Instr.mapEntry t av kv).run P w= .ok v w'∧Rel P w0 pr A n w' (a.put (some x) v).tmps J' tk:=by
 obtain⟨kt,hu,L⟩:=pA hk;unfold vX at h
 have tup: ∀{w':World} {p:Value} {dd:D} {j:Nat},ai w' pr tk p dd→ai w' pr tk (.tuple #[p,goInt j]) (.tup [dd,iv j]):=fun{w' p dd j} h=>
  .tup (by simp) fun i c xx hc hxx=>by
   match i,hc,hxx with
   |0,hc,hxx=>simp at hc hxx;subst hc;subst hxx;exact h
   |1,hc,hxx=>simp at hc hxx;subst hc;subst hxx;exact .v rfl
   |_+2,hc,hxx=>simp at hc
 split at h
 ·rename_i u;split at h
  ·rename_i es hm;split at h
   rotate_left
   ·cases h
   rename_i oA;have uQ:=L.check hkr oA;rw[Bz]at h;obtain⟨r,hf,h⟩:=h;have ha':=ha;cases ha' with
   |mp ht=>
    rename_i b cap;obtain⟨a7,h2,h3,h4,h5,h6⟩:=jA R.mem L hm ht hkr hf;split at h
    ·rename_i i;obtain⟨p,hp,h⟩:=Bz.1 h;obtain⟨J1,hu1,rfl⟩:=Mz.1 h;obtain⟨en,p',g1,g2,g3,g4,g5⟩:=h6;rw[hp]at g2;cases g2;obtain⟨q1,q2,q3⟩:=h5 i en p g1 hp;obtain⟨w',k1,R',K⟩:=tM R hk ha hkr q3 hu1
     have Df:(Instr.keyThatStays en.key kv).run P w= .ok kv w:=by
      rw[←g4];simp[Instr.keyThatStays,g5]
     refine⟨.tuple #[en.val,goInt i],w', ?_,R'.put hx (cW.refl _ _) (tup (q3.keeps K))⟩;have hs:a7.modify i (fun e=>{e with key:=kv})=a7.modify i (fun e=>{e with key:=kv,val:=en.val}):=zW g1 rfl;simp[Instr.mapUpdate,run_underlying hu,MapKept.run_getObj_map h2,uQ,g3,g1,Df,MapKept.run_setObj_map _ h2,Result.andThen]at k1;simp[Instr.mapEntry,run_underlying hu,MapKept.run_getObj_map h2,uQ,g3,g1,Df,q1,hs,k1,MapKept.run_setObj_map _ h2,Result.andThen]
    ·obtain⟨J1,hu1,rfl⟩:=Mz.1 h;obtain⟨zv,hzr,zH⟩:=qU (w:=w) (pr:=pr) (tk:=tk) hz;obtain⟨w',k1,R',K⟩:=tM R hk ha hkr zH hu1;have h6:(Instr.findKey kt kv a7.toList).run P w= .ok none w:=h6;refine⟨.tuple #[zv,goInt es.length],w', ?_,R'.put hx (cW.refl _ _) (tup (zH.keeps K))⟩;simp[Instr.mapUpdate,run_underlying hu,MapKept.run_getObj_map h2,uQ,h6,MapKept.run_setObj_map _ h2,Result.andThen]at k1;simp[Instr.mapEntry,run_underlying hu,MapKept.run_getObj_map h2,uQ,h6,hzr,k1,MapKept.run_setObj_map _ h2,Result.andThen]
  ·cases h
 ·cases h
theorem Ih(R:Rel P w0 pr A n w a.tmps J tk){t:Nat}{av sv vv:Value}{d s v:D}{J':St}(ha:ai w pr tk av d)(hs:ai w pr tk sv s)(hv:ai w pr tk vv v)
  (h:tw d s v J=some J'): ∃w',(Instr.entryStore t av sv vv).run P w= .ok () w'∧Rel P w0 pr A n w' a.tmps J' tk:=by
 unfold tw at h;split at h
 ·rename_i u q i;split at h
  ·rename_i es hm;split at h
   ·rename_i hc;obtain⟨p,hp,rfl⟩:=Mz.1 h;cases ha with
    |mp ht=>
     rename_i b cap;obtain⟨b',lR,a7,g1,h2,h3,h4,h5⟩:=R.mem.obj _ _ hm;rw[ht]at g1;cases g1;have hsv:sv= .int q i:=by cases hs;rfl
     subst hsv;have hi:i.toNat<es.length:=(Gz.1 hp).1
     have Bt:a7.findIdx? (fun e=>((e.born:Nat):Int)==i)=some i.toNat:=by
      rw[Array.findIdx?_eq_some_iff_getElem];refine⟨by omega, ?_,fun j hj=> ?_⟩
      ·have:=(h5 i.toNat _ _ (Rz (by omega)) hp).1;simp[this];omega
      ·have:=(h5 j _ _ (Rz (by omega)) (Ez (by omega))).1;simp[this];omega
     refine⟨_, ?_,(R.BP hm ht h2 (o':= .map (a7.modify i.toNat fun e=>{e with val:=vv}) es.length) fun hK=> ?_).1⟩
     ·simp[Instr.entryStore,MapKept.run_getObj_map h2,asInt,asIntOf,Bt,MapKept.run_setObj_map _ h2,Result.andThen]
     ·refine⟨b,cap,a7.modify i.toNat fun e=>{e with val:=vv},ht,by rw[(MapKept.heap_set h2).1];simp,by simpa using h3,by simpa using h4,fun j en' p' he hp'=> ?_⟩;rw[Array.getElem?_modify]at he;rw[List.getElem?_set]at hp';by_cases hij:i.toNat=j
      ·subst hij;rw[if_pos rfl]at he;obtain⟨en,g1,rfl⟩:=Mz.1 he;simp only[if_true,hi,Jz]at hp';subst hp';obtain⟨q1,q2,q3⟩:=h5 _ en p g1 hp;exact⟨q1,q2.keeps hK,hv.keeps hK⟩
      ·simp only[hij,if_false]at he hp';obtain⟨q1,q2,q3⟩:=h5 j en' p' he hp';exact⟨q1,q2.keeps hK,q3.keeps hK⟩
   ·cases h
  ·cases h
 ·cases h
end
end
section
def Ru(x:Nat)(a:D)(J:St):Option St:=
 match a with
 | .mp t=>match J.m t with
  |some (.map es)=>some (J.new x (.iter t es.length []) (.ptr (J.tok x) 0))
  |_=>none
 |_=>none
def Vs(x:Nat)(a:D)(K:St→Prop)(J:St):Prop:=
 ∃u t n seen es,a= .ptr u 0∧J.m u=some (.iter t n seen)∧J.m t=some (.map es)∧es.length=n∧
  ((∀i,i<n→i∈seen)→K (J.set x (.tup [bv false])))∧
  ∀(i:Nat) (p:D×D),es[i]?=some p→i∉seen→K ((J.put u (some (.iter t n (seen++ [i])))).set x (.tup [bv true,p.1,p.2]))
section
variable {P : Program} {w0 w : World} {pr : aT} {A : gZ} {n : Nat} {tk : ag} {J : St} {a : Act}
theorem KO(R:Rel P w0 pr A n w a.tmps J tk){x:Nat}(hx:x<n){t k e:Nat}(hu:P.underlying t=some (.map k e)){av:Value}{d:D}{J':St}(ha:ai w pr tk av d)(h:Ru x d J=some J'):
  ∃v w' tk',(Instr.range t av).run P w= .ok v w'∧Rel P w0 pr A n w' (a.put (some x) v).tmps J' tk':=by
 unfold Ru at h;split at h
 ·rename_i u;split at h<;>cases h;rename_i es hm;cases ha with
  |mp ht=>
   rename_i b cap;obtain⟨b1,c1,a7,h1,h2,_⟩:=R.mem.obj _ _ hm;rw[ht]at h1;cases h1
   obtain⟨tk',R'⟩:=R.alloc hx (cap:=0) (cW.alloc _ w (.mapIter (some b) es.length #[] es.length)) (o:= .iter u es.length []) (d:= .ptr (J.tok x) 0) (v:= .pointer (some ⟨w.heap.size,0,none⟩))
    (fun tk' hs he=>⟨_,_,b,cap,hs,he _ _ ht,(MapKept.heap_alloc w _).1⟩) (fun tk' hs=> .ptr hs)
   exact⟨_,_,tk',by simp[Instr.range,run_underlying hu,MapKept.run_getObj_map h2,Result.andThen],R'⟩
 ·cases h
theorem cW.drew(A:Nat→Prop)(w:World):cW A w w.drew:=⟨rfl,rfl,rfl,Nat.le_refl _,fun _ _ _=>rfl,Nat.le_succ _⟩
theorem Rel.world(R:Rel P w0 pr A n w a.tmps J tk){w':World}(hc:cW (fun _=>False) w w'):Rel P w0 pr A n w' a.tmps J tk:=by
 have K:=R.fU hc (fun _ _ h=>h);refine⟨R.size,R.chg.trans hc (fun _ _ h=>h.elim),R.prlt,R.prA,R.glob.keeps K.cell,R.mem.keeps K fun t o b c h ht=> ?_,R.live,R.fresh,R.zero,R.one,fun i hi=>(R.slot i hi).keeps K,fun i hi=>(R.sav i hi).keeps K⟩;obtain⟨b',c',h1,h2⟩:=(R.mem.obj t o h).place;rw[ht]at h1;cases h1;exact hc.block b h2 id
theorem KN(R:Rel P w0 pr A n w a.tmps J tk){x:Nat}(hx:x<n){ty:Nat}{av:Value}{d:D}{K:St→Prop}(ha:ai w pr tk av d)(h:Vs x d K J):
  ∃v w' J',(Instr.next av false ty).run P w= .ok v w'∧Rel P w0 pr A n w' (a.put (some x) v).tmps J' tk∧K J':=by
 obtain⟨u,t,m,seen,es,rfl,hm1,hm2,rfl,hno,aao⟩:=h;cases ha with
 |ptr ht=>
  rename_i r cap;obtain⟨b1,c1,b2,c2,g1,g2,g3⟩:=R.mem.obj _ _ hm1;rw[ht]at g1;cases g1;obtain⟨b3,c3,a7,h1,h2,h3,h4,h5⟩:=R.mem.obj _ _ hm2;rw[g2]at h1;cases h1
  have GR: ∀(i:Nat) (en:MapEntry),a7[i]?=some en→en.born=i:=fun i en he=>by
   have hi:i<es.length:=by have:=(Array.getElem?_eq_some_iff.1 he).1;omega
   exact(h5 i en es[i] he (Ez hi)).1
  have hold: ∀y∈a7.toList,y.born<es.length:=fun y hy=>by
   obtain⟨i,hi,rfl⟩:=List.getElem_of_mem hy;have:=GR i _ (Rz (by simpa using hi));simp only[Array.getElem_toList];rw[this];simp at hi;omega
  rcases run_next_at w ty _ b2 es.length es.length seen.toArray a7 es.length g3 h2 hold (Nat.le_refl _)with⟨k1,k2⟩|⟨e,k1,w1,k2,k3⟩
  ·refine⟨_,w,_,k2,R.put hx (cW.refl _ _) (.tup (by simp) fun i c y hc hy=> ?_),hno fun i hi=> ?_⟩
   ·match i,hc,hy with
    |0,hc,hy=>simp at hc hy;subst hc;subst hy;exact .v rfl
    |_+1,hc,hy=>simp at hc
   ·have pO:leftOf a7 seen.toArray= #[]:=Array.eq_empty_of_size_eq_zero k1;unfold leftOf at pO;rw[Array.filter_eq_empty_iff]at pO;have hil:i<a7.size:=by omega
    have:=pO a7[i] (Array.getElem_mem hil);rw[GR i _ (Rz hil)]at this;simpa using this
  ·have oC:e∈a7∧e.born∉seen:=by
    unfold leftOf at k1;simp only[Array.mem_toList_iff,Array.mem_filter]at k1;exact⟨k1.1,by simpa using k1.2⟩
   obtain⟨i,hi,rfl⟩:=Array.getElem_of_mem oC.1;have hbi:=GR i _ (Rz hi);rw[hbi]at oC k3;have hil:i<es.length:=by omega
   obtain⟨_,q2,q3⟩:=h5 i a7[i] es[i] (Rz hi) (Ez hil);have hw1:Rel P w0 pr A n w1 a.tmps J tk:=by rcases k2 with rfl|rfl;exact R;exact R.world (cW.drew _ _)
   have iT:w1.heap=w.heap:=by rcases k2 with rfl|rfl<;>rfl
   have g3':w1.heap[r]?=some (Obj.mapIter (some b2) es.length seen.toArray es.length):=by rw[iT];exact g3
   have Ew: ∀o',ChangeMaps.setBlock w1 r o'={w1 with heap:=w1.heap.setIfInBounds r o'}:=fun _=>rfl;have Up: ∀b' y,pr b' y→b'≠r:=fun b' y hp e=>by subst e;exact hw1.free hm1 ht hp
   have hK: ∀o',cY w1 {w1 with heap:=w1.heap.setIfInBounds r o'} pr pr tk tk:=fun o'=>⟨fun b' y hp=>⟨(ru g3').block b' (hw1.uL b' y hp) (Up b' y hp),hp⟩,fun _ _ h=>h⟩
   have R2:Rel P w0 pr A n {w1 with heap:=w1.heap.setIfInBounds r (.mapIter (some b2) es.length (seen.toArray.push i) es.length)} a.tmps (J.put u (some (.iter t es.length (seen++ [i])))) tk:=
    hw1.write hm1 ht (ru g3') (o':= .iter t es.length (seen++ [i])) rfl (m':=(J.put u (some (.iter t es.length (seen++ [i])))).m) (by simp[St.put]) (fun t' q hne hq=>by simpa[St.put,hne]using hq)
     ⟨r,cap,b2,c2,ht,g2,by rw[(MapKept.heap_set g3').1];simp⟩
     (fun t' q c' hne hq ht' _=>by
      have hq:J.m t'=some q:=by simpa[St.put,hne]using hq
      rcases hw1.mem.inj t' u q _ r c' cap hq hm1 ht' ht with h|⟨h1,h2⟩
      ·exact absurd h hne
      ·rw[h2]at h1;cases h1)
   have hq2: ∀{v d},ai w pr tk v d→ai w1 pr tk v d:=fun{v d} h=>by rcases k2 with rfl|rfl;exact h;exact h.keeps (R.fU (cW.drew _ _) fun _ _ h=>h)
   refine⟨_,_,_,k3,R2.put hx (cW.refl _ _) (.tup (xs:= [bv true,es[i].1,es[i].2]) (by simp) fun j c y hc hy=> ?_),aao i es[i] (Ez hil) oC.2⟩
   match j,hc,hy with
   |0,hc,hy=>simp at hc hy;subst hc;subst hy;exact .v rfl
   |1,hc,hy=>simp at hc hy;subst hc;subst hy;exact(hq2 q2).keeps (hK _)
   |2,hc,hy=>simp at hc hy;subst hc;subst hy;exact(hq2 q3).keeps (hK _)
   |_+3,hc,hy=>simp at hc
end
end
section
def kP(Γ:Env)(x k f:Nat)(ds:List D)(J:St):Option St:=
 if(ds.set k .nil).all D.aK=true∧f<1000000 then
  match ds[k]? with
  |some .nil=>(Γ.e k f (ds.set k (.list []))).bind fun r=>match r with
   | .tup [d, .list _]=>if d.aK=true then some (J.set x d)else none
   |_=>none
  |some (.sl t _ off len none)=>match J.m t with
   |some (.row g e es)=>if(off=0∧len=es.length)∧es.all (fun c=>c.all D.aN)=true then
     (Γ.e k f (ds.set k (.list es))).bind fun r=>match r with
     | .tup [d, .list es']=>if d.aK=true then some (((J.aL g 0).put t (some (.row g e es'))).set x d)else none
     |_=>none
    else none
   |_=>none
  |_=>none
 else none
def nC(Γ:Env)(x e size f:Nat)(ds:List D)(J:St):Option St:=
 if ds.all D.aK=true∧f<1000000 then(Γ.q (1000000*e+f) ds).bind fun r=>match r.1 with
  | .list es=>if es.all (fun c=>c.length==size)=true then some (J.new x (.row (J.tok x) e es) (.sl (J.tok x) size 0 es.length none))else none
  |_=>none
 else none
section
variable {P : Program} {w0 w : World} {pr : aT} {A : gZ} {n : Nat} {tk : ag} {J : St} {a : Act}
theorem Rel.JB(R:Rel P w0 pr A n w a.tmps J tk){B:eo}(U:iI B w0 pr A){x:Nat}(hx:x<n){t g:Tok}{e b cap:Nat}{es es':List (List D)}{C':Array Value}(hm:J.m t=some (.row g e es))(ht:tk t=some (b,cap))
  {w':World} (hc:cW (fun k=>k=b) w w') {pr':aT} {v:Value} {d:D} (h1: ∀b o,pr b o→pr' b o) (h2: ∀b o,pr' b o→pr b o∨(w.heap.size≤b∧b<w'.heap.size)) (hv:ai w' pr' tk v d)
  (hb':w'.heap[b]?=some (.cells C' e (0,0))) (hsz: ∀C,w.heap[b]?=some (.cells C e (0,0))→C'.size=C.size) (hlen:es'.length=es.length) (gO:bf P w' pr' tk C' e es'):
  bW P B n w' (a.put (some x) v).tmps (((J.aL g 0).put t (some (.row g e es'))).set x d):=by
 have K:cY w w' pr pr' tk tk:=⟨fun b' o h=>⟨hc.block b' (R.uL b' o h) (fun e=>by subst e;exact R.free hm ht h),h1 b' o h⟩,fun _ _ h=>h⟩
 have lt: ∀t q b c,J.m t=some q→tk t=some (b,c)→b<w.heap.size:=fun t q b c hm ht=>by
  obtain⟨b1,c1,g1,g2⟩:=(R.mem.obj t q hm).place
  grind
 have s1:=R.chg.size;have s2:=U.chg.size;have s3:=hc.size;obtain⟨b0,ZS,C0,k1,k2,k3,k4,k5,k6⟩:=R.mem.obj t _ hm;rw[ht]at k1;cases k1
 have hm': ∀t' q,(((J.aL g 0).put t (some (.row g e es'))).set x d).m t'=some q→(t'=t∧q= .row g e es')∨(t'≠t∧J.m t'=some q∧ ∀e1 es1,q= .row g e1 es1→es1.length≤0):=fun t' q h=>by
  simp only[St.jw,St.put]at h;split at h
  ·grind
  ·obtain⟨g1,g2⟩:=ck (show HO.cE g 0 (J.m t')=some q from h)
   grind
 have hin: ∀t' q,(((J.aL g 0).put t (some (.row g e es'))).set x d).m t'=some q→ ∃q',J.m t'=some q'∧q'.gJ=q.gJ:=fun t' q h=>by
  rcases hm' t' q h with⟨rfl,rfl⟩|⟨_,h,_⟩
  ·exact⟨_,hm,rfl⟩
  ·grind
 refine⟨w',pr',⟨bX tk (((J.aL g 0).put t (some (.row g e es'))).set x d).m,A.z,A.sv⟩,tk,⟨by simp[Act.put,R.size],cW.refl _ _,fun b o h=> ?_,fun b o h hb=> ?_,R.glob.keeps K.cell,⟨fun t' q h=> ?_,fun t1 t2 q1 q2 b1 c1 c2 g1 g2 j1 j2=> ?_⟩,
  fun t q b c hm ht=> .inr ⟨t,q,c,hm,ht⟩,R.fresh,R.zero,R.one,fun i hi=> ?_,fun i hi=>by rw[St.cQ _ _ (show i≠x by omega)];exact(R.sav i hi).keeps K⟩,
  ⟨U.chg.trans (R.chg.trans hc fun k hk e=> ?_) fun b hb h=>U.sub b hb h,fun b hb h=> ?_,U.z,U.sv,fun b o h=>h1 b o (U.sup b o h),fun b o h=> ?_⟩⟩
 ·rcases h2 b o h with h|h
  ·have:=R.uL b o h;omega
  ·exact h.2
 ·obtain⟨t1,q,c,hq,ht1⟩:=hb;obtain⟨q',hq',_⟩:=hin t1 q hq;rcases h2 b o h with h|h
  ·exact R.free hq' ht1 h
  ·have:=lt t1 q' b c hq' ht1;omega
 ·rcases hm' t' q h with⟨rfl,rfl⟩|⟨hne,h0,sU⟩
  ·exact⟨b,cap,C',ht,hb',by omega,k4,(hsz C0 k2).trans k5,gO⟩
  ·have hr:=R.mem.obj t' q h0;obtain⟨b1,c1,g1,g2⟩:=hr.place;by_cases hbb:b1=b
   ·subst hbb;rcases R.mem.inj t' t q _ b1 c1 cap h0 hm g1 ht with h|⟨_,h⟩
    ·grind
    ·obtain⟨eq',esq,rfl⟩: ∃eq' esq,q= .row g eq' esq:=by
      cases q<;>simp only[HO.gJ,reduceCtorEq,Jz]at h
      grind
     have:=List.length_eq_zero_iff.1 (Nat.le_zero.1 (sU eq' esq rfl));subst this;obtain⟨b2,c2,C2,j1,j2,j3,j4,j5,j6⟩:=hr;rw[g1]at j1;cases j1;rw[k2]at j2;cases j2;exact⟨b1,c1,C',g1,hb',j3,j4,(hsz C0 k2).trans j5,fun c hc=>by simp at hc,fun i c hc=>by simp at hc⟩
   ·exact hr.keeps K fun b2 c2 hb2=>by
     rw[g1]at hb2;cases hb2;exact hc.block b1 g2 hbb
 ·obtain⟨q1',l1,l2⟩:=hin t1 q1 g1;obtain⟨q2',l3,l4⟩:=hin t2 q2 g2;have:=R.mem.inj t1 t2 q1' q2' b1 c1 c2 l1 l3 j1 j2
  rwa[l2,l4]at this
 ·simp only[Act.put,j_ (show x<a.tmps.size by rw[R.size];exact hx),St.set];split
  ·exact hv
  ·exact(R.slot i hi).keeps K
 ·subst e;rcases R.live t _ _ _ hm ht with h|h
  ·omega
  ·exact h
 ·obtain⟨t1,q,c,hq,ht1⟩:=h;obtain⟨q',hq',_⟩:=hin t1 q hq;rcases R.live t1 q' b c hq' ht1 with h|h
  ·omega
  ·exact U.sub b hb h
 ·rcases h2 b o h with h|h
  ·exact U.inf b o h
  ·exact .inr (.inl (by omega))
theorem Cc{r:Option Nat}{B:eo}{Γ:Env}(hΓ:Sound P Γ){o:Oper}{c:Call}{gs:List aM}{x k f:Nat}{J':St}{next:Act→World→Prop}{Q:Exit→Act→World→Prop}
  (R:Rel P w0 pr A n w a.tmps J tk) (U:iI B w0 pr A) (ho:o.op= .call c) (Bp:c.callee= .value (.func f)) (hgs:c.args.toList.mapM (dO n)=some gs) (hx:o.dst=some x) (hxn:x<n) (hk6:k<1000000)
  (af:kP Γ x k f (gs.map (aM.val J.s)) J=some J') (h: ∀v w',bW P B n w' (a.put (some x) v).tmps J'→next (a.put (some x) v) w'):Oper.rj r P o a w next Q:=by
 have a6:aX w pr tk (c.args.map a.eval).toList (gs.map (aM.val J.s)):=by simpa using eS R hgs
 generalize hds:gs.map (aM.val J.s)=ds at af a6;generalize hca:c.args.map a.eval=cargs at a6
 obtain⟨hl,fp⟩:cargs.size=ds.length∧ ∀(i:Nat) (v:Value) (x:D),cargs[i]?=some v→ds[i]?=some x→ai w pr tk v x:=by
  have key: ∀{l:List Value} {m:List D},aX w pr tk l m→l.length=m.length∧ ∀(i:Nat) (v:Value) (x:D),l[i]?=some v→m[i]?=some x→ai w pr tk v x:=by
   intro l
   induction l with
   |nil=>intro m h;cases m with
    |nil=>exact⟨rfl,fun i v x h=>by simp at h⟩
    |cons y m=>exact absurd h (by simp[aX])
   |cons y l ih=>intro m h;cases m with
    |nil=>exact absurd h (by simp[aX])
    |cons z m=>
     obtain⟨i1,i2⟩:=ih h.2;refine⟨by simp[i1],fun i v x hv hx=> ?_⟩;cases i with
     |zero=>simp at hv hx;subst hv hx;exact h.1
     |succ i=>exact i2 i v x (by simpa using hv) (by simpa using hx)
  obtain⟨q1,q2⟩:=key a6
  grind
 have fin:(execOp a.eval o).run P w=(callFunc f cargs).run P w:=by
  simp[execOp,ho,resolve,Bp,Act.eval,Deferred.ofValue,invoke,hca]
 unfold kP at af;split at af
 rotate_left
 ·grind
 rename_i bc;obtain⟨hno,hlt⟩:=bc
 have others: ∀(es:List (List D)) (i:Nat) (v:Value) (x:D),i≠k→cargs[i]?=some v→(ds.set k (.list es))[i]?=some x→ai w pr aI v x:=fun es i v x hik hv hx=>by
  rw[List.getElem?_set_ne (Ne.symm hik)]at hx;refine iw (fp i v x hv hx) (Tz.1 hno x ?_);exact Lz (show(ds.set k .nil)[i]?=some x by rw[List.getElem?_set_ne (Ne.symm hik)];exact hx)
 split at af
 ·rename_i hk;obtain⟨q,hq,af⟩:=Bz.1 af;obtain⟨es,es',d,e1,e2,hb,e3,l7⟩:=hΓ.e k f _ _ hlt hk6 hq;subst e2;simp only[]at af;split at af<;>cases af;have hkl:=(Gz.1 hk).1;rw[List.getElem?_set_self hkl]at e1;cases e1;obtain⟨g1,_⟩:=l7 w pr cargs R.uL R.glob (by simpa using hl) (others [])
  have hck:cargs[k]?=some (.slice none 0 0):=by
   have pP:k<cargs.size:=by omega
   have hv:=Rz pP;have:=fp k _ _ hv hk;rw[hv];generalize cargs[k]=vk at this;cases this;rfl
  refine kI (by rw[ho];rfl) (by rw[fin];exact bI hb) ((g1 rfl hck).mono ?_);rintro e w' ⟨v,pr',rfl,g2,g3,g4,g5⟩;refine⟨v,rfl, ?_⟩;rw[hx];exact h v w' (R.called U hxn g2 g3 g4 (iw g5 ‹_›))
 ·rename_i t sz off len hk;split at af
  ·rename_i g e es hm;split at af
   ·rename_i hcc;obtain⟨⟨rfl,rfl⟩,bS⟩:=hcc;obtain⟨q,hq,af⟩:=Bz.1 af;obtain⟨es0,es',d,e1,e2,hb,e3,l7⟩:=hΓ.e k f _ _ hlt hk6 hq;subst e2;simp only[]at af;split at af<;>cases af;rename_i hdn;have hkl:=(Gz.1 hk).1;rw[List.getElem?_set_self hkl]at e1;cases e1;obtain⟨b,cap,C,k1,k2,k3,k4,k5,k6⟩:=R.mem.obj t _ hm;obtain⟨_,g1⟩:=l7 w pr cargs R.uL R.glob (by simpa using hl) (others es)
    have hck: ∃o,cargs[k]?=some (.slice (some ⟨b,o,none⟩) es.length cap)∧(o=0∨cap=0∧0<0):=by
     have pP:k<cargs.size:=by omega
     have hv:=Rz pP;have:=fp k _ _ hv hk;rw[hv];generalize cargs[k]=vk at this;cases this with
     |sl ht hc hl ho=>
      rw[k1]at ht;cases ht;simp only[Option.getD_none,Nat.sub_zero]at hc;subst hc;exact⟨_,rfl,by simpa using ho⟩
    obtain⟨o',hck,ho'⟩:=hck;have ho':o'=0:=by omega
    subst ho';have gO:bf P w pr aI C e es:=⟨k6.1,fun i c hc j d hd=>let⟨u,u1,u2,u3⟩:=k6.2 i c hc j d hd;⟨u,u1,u2,aW u3 (Tz.1 (Tz.1 bS c (Lz hc)) d (Lz hd))⟩⟩;refine kI (by rw[ho];rfl) (by rw[fin];exact bI hb) ((g1 b cap e C (fun o h=>R.free hm k1 h) k2 k3 k4 k5 gO hck).mono ?_);rintro ex w' ⟨v,pr',C',rfl,g2,g3,g4,g5,g6,g7,g8⟩;refine⟨v,rfl, ?_⟩;rw[hx];refine h v w' (R.JB U hxn hm k1 g2 g3 g4 (iw g5 hdn) g6 (fun C1 h1=> ?_) e3 ⟨g8.1,fun i c hc j d hd=>let⟨u,u1,u2,u3⟩:=g8.2 i c hc j d hd;⟨u,u1,u2,u3.nE⟩⟩);rw[k2]at h1;cases h1;exact g7
   ·cases af
  ·cases af
 ·cases af
theorem Cb{r:Option Nat}{B:eo}{Γ:Env}(hΓ:Sound P Γ){o:Oper}{c:Call}{gs:List aM}{x e size f:Nat}{J':St}{next:Act→World→Prop}{Q:Exit→Act→World→Prop}
  (R:Rel P w0 pr A n w a.tmps J tk) (U:iI B w0 pr A) (ho:o.op= .call c) (Bp:c.callee= .value (.func f)) (hgs:c.args.toList.mapM (dO n)=some gs) (hx:o.dst=some x) (hxn:x<n)
  (af:nC Γ x e size f (gs.map (aM.val J.s)) J=some J') (h: ∀v w',bW P B n w' (a.put (some x) v).tmps J'→next (a.put (some x) v) w'):Oper.rj r P o a w next Q:=by
 have a6:aX w pr tk (c.args.map a.eval).toList (gs.map (aM.val J.s)):=by simpa using eS R hgs
 generalize hca:c.args.map a.eval=cargs at a6
 have fin:(execOp a.eval o).run P w=(callFunc f cargs).run P w:=by
  simp[execOp,ho,resolve,Bp,Act.eval,Deferred.ofValue,invoke,hca]
 unfold nC at af;split at af
 rotate_left
 ·grind
 rename_i bc;obtain⟨hno,hlt⟩:=bc;obtain⟨q,hq,af⟩:=Bz.1 af;obtain⟨es,e1,hb,l7⟩:=hΓ.q e f _ _ hlt hq;rw[e1]at af;simp only at af;split at af<;>cases af
 have aaf: ∀{l:List Value} {m:List D},aX w pr tk l m→m.all D.aK=true→aX w pr aI l m:=by
  intro l
  induction l with
  |nil=>intro m h hm;cases m with
   |nil=>exact trivial
   |cons y m=>exact absurd h (by simp[aX])
  |cons y l ih=>intro m h hm;cases m with
   |nil=>exact absurd h (by simp[aX])
   |cons z m=>
    simp only[List.all_cons,Az]at hm;exact⟨iw h.1 hm.1,ih h.2 hm.2⟩
 refine kI (by rw[ho];rfl) (by rw[fin];exact bI hb) ((l7 w pr cargs R.uL R.glob (aaf a6 hno)).mono ?_);rintro ex w' ⟨b,cap,C,rfl,g1,g2,g3,g4,g5,g6,g7⟩;refine⟨_,rfl, ?_⟩;rw[hx]
 obtain⟨tk',R'⟩:=R.CI hxn g1 g2 (cap:=cap) (o:= .row (J.tok x) e es) (d:= .sl (J.tok x) size 0 es.length none) (v:= .slice (some ⟨b,0,none⟩) es.length cap)
  (fun tk' hs he=>⟨b,cap,C,hs,g3,g4,g5,g6,g7.1,fun i c hc j d hd=>let⟨u,u1,u2,u3⟩:=g7.2 i c hc j d hd;⟨u,u1,u2,(u3.keeps (pr':=pr) ⟨fun _ _ h=>h.elim,fun _ _ h=>h⟩).nE⟩⟩)
  (fun tk' hs=> .sl hs (by simp) (by omega) (.inl (by simp)))
 exact h _ w' ⟨_,_,_,tk',R',U⟩
end
end
section
def yT(size:Nat)(zero:List D)(a:D)(J:St):Option St:=
 match a with
 | .list []| .nil| .mt=>some J
 | .sl t kB off len _=>if len=0 then some J else match J.m t with
  |some (.row g e es)=>if(kB=size∧zero.length=size)∧off+len≤es.length∧es.all (fun c=>c.length==size)=true then some ((J.aL g off).put t (some (.row g e (es.take off++List.replicate len zero++es.drop (off+len)))))else none
  |_=>none
 |_=>none
section
variable {P : Program} {w0 w : World} {pr : aT} {A : gZ} {n : Nat} {tk : ag} {J : St} {a : Act}
theorem KJ(R:Rel P w0 pr A n w a.tmps J tk){t e ty:Nat}{i:TypeInfo}{z:Value}{zd:List D}{av:Value}{d:D}{J':St}(ht:P.underlying t=some (.slice e))(hi:P.info? e=some i)(hz:i.zero=some z)
  (hzs:z.cells.size=i.size) (hzd:cq w pr tk z.cells zd) (ha:ai w pr tk av d) (h:yT i.size zd d J=some J'):
  ∃w',(Builtin.clear_ #[t] ty #[av]).run P w= .ok (.tuple #[]) w'∧Rel P w0 pr A n w' a.tmps J' tk:=by
 have hce:P.cellsOf e=i.size:=by simp[Program.cellsOf,hi]
 have wg: ∀q:Option Addr,∀c,(Builtin.clear_ #[t] ty #[.slice q 0 c]).run P w= .ok (.tuple #[]) w:=fun q c=>by cases q<;>simp[Builtin.clear_,run_underlying ht]
 unfold yT at h;split at h
 ·cases h;cases ha with
  |nil'=>exact⟨w,wg _ _,R⟩
  |emp=>exact⟨w,wg _ _,R⟩
  |list us _ _ _ _=>exact⟨w,wg _ _,R⟩
 ·cases h;cases ha;exact⟨w,wg _ _,R⟩
 ·cases h;cases ha;exact⟨w,wg _ _,R⟩
 ·rename_i τ kB off len lim;cases ha with
  |sl htk hc hl ho=>
   rename_i b cap c o;split at h
   ·rename_i h0;subst h0;cases h;exact⟨w,wg _ _,R⟩
   ·rename_i hlen;split at h
    ·rename_i g e' es hm;split at h<;>cases h;rename_i bc;obtain⟨⟨rfl,hzl⟩,hle,bS⟩:=bc;obtain⟨b',lR,C,k1,k3,k5,k6,k7,k8,k9⟩:=R.mem.obj τ _ hm;rw[htk]at k1;cases k1
     have ho:o=off*i.size:=by
      rcases ho with ho|ho
      ·exact ho
      ·omega
     have hsz:P.cellsOf e'=i.size:=by
      have h0:0<es.length:=by omega
      have hm0:es[0]∈es:=List.getElem_mem h0;rw[←k8 _ hm0];simpa using Tz.1 bS _ hm0
     have hV:Builtin.zeroCells z.cells len=madeCells z.cells (len*P.cellsOf e'):=by simp only[Builtin.zeroCells,madeCells,hzs,hsz]
     have hz0:=AN (e:=e') (k:=len) (l:=len) hzd (by rw[hsz];exact hzs) (Nat.le_refl _);rw[←hV]at hz0;have hVs:(Builtin.zeroCells z.cells len).size=len*P.cellsOf e':=by rw[hV];simp[madeCells]
     have Ep:(off+len)*P.cellsOf e'≤cap*P.cellsOf e':=Nat.mul_le_mul_right _ (by omega);rw[Nat.add_mul]at Ep;have uR:off*P.cellsOf e'+(Builtin.zeroCells z.cells len).size≤C.size:=by omega
     have qX: ∀u∈(Builtin.zeroCells z.cells len).toList,u.oneCell'=true:=fun u hu=>by
      obtain⟨j,hj,rfl⟩:=List.getElem_of_mem hu;have hj':j<len*P.cellsOf e':=by simpa[hVs]using hj
      have sW:0<P.cellsOf e':=by
       rcases Nat.eq_zero_or_pos (P.cellsOf e')with h|h
       ·rw[h]at hj';simp at hj'
       ·exact h
      have hlt:j%z.cells.size<z.cells.size:=Nat.mod_lt _ (by omega)
      have:(Builtin.zeroCells z.cells len).toList[j]=z.cells[j%z.cells.size]:=by
       simp only[Builtin.zeroCells,Array.getElem_toList,Array.getElem_map,Array.getElem_range];rw[getElem!_pos z.cells _ hlt]
      rw[this];exact hzd.2.1 _ _ (Rz hlt)
     have af:=run_storeCells_at P b (off*P.cellsOf e') e' (Builtin.zeroCells z.cells len).toList 0 C w k3 (by simpa using uR) qX;simp only[Nat.add_zero]at af;refine⟨w.setRow b (putCells C (off*P.cellsOf e') (Builtin.zeroCells z.cells len)), ?_, ?_⟩
     ·obtain⟨m,rfl⟩: ∃m,len=m+1:=⟨len-1,by omega⟩;have hzv:(zeroValue e).run P w= .ok z w:=by simp[zeroValue,typeInfo,hi,hz]
      rw[hsz]at af;simp[Builtin.clear_,run_underlying ht,hzv,ho,af,putCells,hsz]
     ·have jf:=cW.setRow w b (putCells C (off*P.cellsOf e') (Builtin.zeroCells z.cells len));have K:cY w (w.setRow b (putCells C (off*P.cellsOf e') (Builtin.zeroCells z.cells len))) pr pr tk tk:=⟨fun b' x h=>⟨jf.block b' (R.uL b' x h) (fun e=>by subst e;exact R.free hm htk h),h⟩,fun _ _ h=>h⟩;have Eo:=fun k=>fH (C:=C) (V:=Builtin.zeroCells z.cells len) (off:=off*P.cellsOf e') uR k
      have eP: ∀(k:Nat) (q:List D),es[k]?=some q→(k<off∨off+len≤k)→ ∀(l:Nat) (d:D),q[l]?=some d→ ∃u,(putCells C (off*P.cellsOf e') (Builtin.zeroCells z.cells len))[k*P.cellsOf e'+l]?=some u∧u.oneCell'=true∧ai w pr tk u d:=fun k q hq hk l d hd=>by
       have hll:l<P.cellsOf e':=by rw[←k8 q (Lz hq)];exact(Gz.1 hd).1
       rw[Eo,if_neg]
       ·exact k9 k q hq l d hd
       ·rintro⟨g1,g2⟩;rcases hk with hk|hk
        ·have:(k+1)*P.cellsOf e'≤off*P.cellsOf e':=Nat.mul_le_mul_right _ hk;rw[Nat.add_mul]at this;omega
        ·have:(off+len)*P.cellsOf e'≤k*P.cellsOf e':=Nat.mul_le_mul_right _ hk;rw[Nat.add_mul]at this;omega
      have gO:bf P w pr tk (putCells C (off*P.cellsOf e') (Builtin.zeroCells z.cells len)) e' (es.take off++List.replicate len zd++es.drop (off+len)):=by
       have hl1:(es.take off).length=off:=by simp;omega
       have hl2:(es.take off++List.replicate len zd).length=off+len:=by simp;omega
       refine⟨fun q hq=> ?_,fun k q hq l d hd=> ?_⟩
       ·rcases List.mem_append.1 hq with hq|hq
        ·rcases List.mem_append.1 hq with hq|hq
         ·exact k8 q (List.mem_of_mem_take hq)
         ·exact hz0.1 q hq
        ·exact k8 q (List.mem_of_mem_drop hq)
       ·by_cases hk1:k<off
        ·rw[Yz (by omega),Yz (by omega),List.getElem?_take_of_lt hk1]at hq;exact eP k q hq (.inl hk1) l d hd
        ·by_cases hk2:k<off+len
         ·rw[Yz (by omega),Xz (by omega),hl1]at hq;obtain⟨u,u1,u2,u3⟩:=hz0.2 (k-off) q hq l d hd;have hll:l<P.cellsOf e':=by rw[←hz0.1 q (Lz hq)];exact(Gz.1 hd).1
          have e1:k*P.cellsOf e'=off*P.cellsOf e'+(k-off)*P.cellsOf e':=by rw[←Nat.add_mul];congr 1;omega
          have e2:(k-off+1)*P.cellsOf e'≤len*P.cellsOf e':=Nat.mul_le_mul_right _ (by omega);rw[Nat.add_mul]at e2;refine⟨u, ?_,u2,u3⟩;rw[Eo,if_pos (by omega)];rw[←u1];congr 1;omega
         ·rw[Xz (by omega),hl2,List.getElem?_drop,show off+len+(k-(off+len))=k by omega]at hq;exact eP k q hq (.inr (by omega)) l d hd
      have hln:(es.take off++List.replicate len zd++es.drop (off+len)).length=es.length:=by simp;omega
      refine R.write hm htk jf (o':= .row g e' (es.take off++List.replicate len zd++es.drop (off+len))) rfl (m':=((J.aL g off).put τ (some (.row g e' (es.take off++List.replicate len zd++es.drop (off+len))))).m) (by simp[St.put]) (fun t' q hne hq=> ?_) ?_ (fun t' q c' hne hq Qe hr=> ?_)
      ·simp only[St.put,hne,if_false,St.aL]at hq;exact(ck hq).1
      ·exact⟨b,cap,_,htk,setRow_heap w b C _ e' _ k3,by rw[hln];exact k5,k6,by rw[cK uR];exact k7,gO.keeps K⟩
      ·simp only[St.put,hne,if_false,St.aL]at hq;obtain⟨hq1,hq2⟩:=ck hq;rcases R.mem.inj t' τ q _ b c' cap hq1 hm Qe htk with h|⟨h1,h2⟩
       ·exact absurd h hne
       ·obtain⟨e2,es2,rfl⟩: ∃e2 es2,q= .row g e2 es2:=by
         cases q<;>simp only[HO.gJ,reduceCtorEq,Jz]at h2;subst h2;exact⟨_,_,rfl⟩
        have By:=hq2 e2 es2 rfl;obtain⟨b2,so,C2,j1,j3,j5,j6,j7,j8,j9⟩:=hr;rw[Qe]at j1;cases j1;rw[k3]at j3;cases j3;refine⟨b,c',_,Qe,setRow_heap w b C _ e' _ k3,j5,j6,by rw[cK uR];exact j7,bf.keeps ⟨j8,fun k q hq l d hd=> ?_⟩ K⟩;have hkl:=(Gz.1 hq).1;have hll:l<P.cellsOf e':=by rw[←j8 q (Lz hq)];exact(Gz.1 hd).1
        rw[Eo,if_neg]
        ·exact j9 k q hq l d hd
        ·rintro⟨g1,g2⟩;have:(k+1)*P.cellsOf e'≤off*P.cellsOf e':=Nat.mul_le_mul_right _ (by omega);rw[Nat.add_mul]at this;omega
    ·cases h
 ·cases h
end
end
section
inductive bZ where
 |box (n:Nat) (g:Bool) (x:Nat) (a:aM)
 |store (n:Nat) (g:Bool) (a v:aM)
 |app (x e size:Nat) (a b:aM)
 |mks (x e size:Nat) (zero:List D) (a b:aM)
 |lit (x e size len:Nat) (zero:List D) (places:List (Nat×Nat)) (args:List aM)
 |mkm (x:Nat)
 |copy (x:Option Nat) (a b:aM)
 |mkml (x e size:Nat)
 |ecall (x k f:Nat) (args:List aM)
 |acall (x e size f:Nat) (args:List aM)
 |clr (size:Nat) (zero:List D) (a:aM)
 |mupd (ks:List Nat) (a k v:aM)
 |ment (ks:List Nat) (z:D) (x:Nat) (a k:aM)
 |mest (a s v:aM)
 deriving Inhabited
inductive aw where
 |op (x:Nat) (k:PK) (args:List aM) (g:Option (Nat×Bool))
 |eff (e:bZ) (g:Option (Nat×Bool))
 |bad
 deriving Inhabited
def bZ.dst:bZ→Option Nat
 | .box _ _ x .. | .app x .. | .mks x .. | .lit x .. | .mkm x| .mkml x .. | .ecall x .. | .acall x .. | .ment _ _ x .. =>some x
 | .store .. | .mupd .. | .clr .. | .mest .. =>none
 | .copy x _ _=>x
def St.void(J:St):Option Nat→St
 |some x=>J.set x (.tup [])
 |none=>J
def MP(Γ:Env)(x:Nat)(k:PK)(args:List aM)(J:St):Option St:=(k.run Γ J.m (args.map (aM.val J.s))).map (J.set x)
def bG(J:St):Option (Nat×Bool)→Option Bool
 |none=>some true
 |some (j,want)=>match J.s j with
  | .v (.bool b)=>some (b==want)
  | .tup _=>some false
  |_=>none
def bZ.run(Γ:Env):bZ→St→Option St
 | .box _ _ x a,J=>A0 x (a.val J.s) J
 | .store n _ a v,J=>gT n (a.val J.s) (v.val J.s) J
 | .app x e size a b,J=>rY x e size (a.val J.s) (b.val J.s) J
 | .mks x e size zero a b,J=>BO x e size zero (a.val J.s) (b.val J.s) J
 | .lit x e size len zero places args,J=>BK x e size len zero places (args.map (aM.val J.s)) J
 | .mkm x,J=>QT x J
 | .mkml x _ _,J=>QT x J
 | .clr size zero a,J=>yT size zero (a.val J.s) J
 | .ecall x k f args,J=>kP Γ x k f (args.map (aM.val J.s)) J
 | .acall x e size f args,J=>nC Γ x e size f (args.map (aM.val J.s)) J
 | .copy x a b,J=>copyV x (a.val J.s) (b.val J.s) J
 | .mupd ks a k v,J=>gW ks (a.val J.s) (k.val J.s) (v.val J.s) J
 | .ment ks z x a k,J=>vX ks z x (a.val J.s) (k.val J.s) J
 | .mest a s v,J=>tw (a.val J.s) (s.val J.s) (v.val J.s) J
def aw.run(Γ:Env):aw→St→Option St
 | .op x k args g,J=>(bG J g).bind fun b=>bif b then MP Γ x k args J else some (J.set x (.tup []))
 | .eff e g,J=>(bG J g).bind fun b=>bif b then e.run Γ J else some (J.void e.dst)
 | .bad,_=>none
def runs(Γ:Env):List aw→St→Option St
 | [],J=>some J
 |st::r,J=>(st.run Γ J).bind (runs Γ r)
def iK(n:Nat)(ops:Array Oper)(o:Oper):Option (Option (Nat×Bool)):=
 match o.guard with
 |none=>some none
 |some (j,want)=>((ops[j]?).bind (·.dst)).bind fun x=>if x<n then some (some (x,want))else none
def sC(P:Program)(t:Nat):Option (Nat×Nat):=
 match P.underlying t with
 |some (.slice e)=>(P.info? e).bind fun i=>if i.bytes≤8192∧i.size≤40 then(match i.zero with
  |some z=>if z.cells.size=i.size then some (e,i.size)else none
  |none=>none)else none
 |_=>none
def y5(P:Program)(_:mZ)(n:Nat)(o:Oper):Option bZ:=
 match o.op,o.dst with
  | .box t v,some x=>if x<n then(dF P t).bind fun g=>(dO n v).map (.box (P.cellsOf t) g x)else none
  | .alloc t,some x=>if x<n then(vF P t).map fun z=> .box z.length true x (.c (.agg z))else none
  | .store t a v,none=>(dF P t).bind fun g=>(dO n a).bind fun a=>(dO n v).bind fun v=>if(P.info? t).isSome then some (.store (P.cellsOf t) g a v)else none
  | .makeSlice t a b,some x=>if x<n then(sC P t).bind fun q=>(vF P q.1).bind fun z=>(dO n a).bind fun a=>(dO n b).map fun b=> .mks x q.1 q.2 z a b else none
  | .buildSlice t len parts,some x=>if x<n then(xd P t len (parts.toList.map (·.1))).bind fun q=>((parts.toList.map (·.2)).mapM (dO n)).map fun gs=> .lit x q.1 q.2.1 len q.2.2.1 q.2.2.2 gs else none
  | .makeMap _ none,some x=>if x<n then some (.mkm x)else none
  | .mapUpdate t m k v,none=>(y7 P t).bind fun q=>(dO n m).bind fun m=>(dO n k).bind fun k=>(dO n v).map fun v=> .mupd q.1 m k v
  | .call c,some x=>if x<n then match c.callee with
   | .builtin .append=>match c.args.toList,c.argTypes.toList with
    | [a,b],[t,t']=>if t=t' then(sC P t).bind fun q=>(dO n a).bind fun a=>(dO n b).map fun b=> .app x q.1 q.2 a b else none
    |_,_=>none
   |_=>none
   else none
  |_,_=>none
def Gd(P:Program)(n:Nat)(o:Oper):Option bZ:=
 match o.op with
 | .call c=>match c.callee,c.args.toList,c.argTypes.toList with
  | .builtin .copy,[a,b],[t,_]=>match P.underlying t with
   |some (.slice e)=>if o.dst.all (fun i=>decide (i<n))=true∧(P.info? e).map (·.size)=some 1 then(dO n a).bind fun a=>(dO n b).map fun b=> .copy o.dst a b else none
   |_=>none
  |_,_,_=>none
 |_=>none
def Z0(P:Program)(s:Nat):Option (Nat×Nat):=match P.underlying s with
 |some (.pointer _)=>some (0,0)
 |_=>sC P s
def Py(P:Program)(n:Nat)(o:Oper):Option bZ:=
 match o.op,o.dst with
 | .makeMap t none,some x=>if x<n then(match P.underlying t with
  |some (.map _ s)=>(Z0 P s).map fun q=> .mkml x q.1 q.2
  |_=>none)else none
 |_,_=>none
def Pv(P:Program)(n:Nat)(o:Oper):Option bZ:=
 match o.op,o.dst with
 | .call c,none=>match c.callee,c.args.toList,c.argTypes.toList with
  | .builtin .clear,[a],[t]=>(sC P t).bind fun q=>(vF P q.1).bind fun z=>(dO n a).map fun a=> .clr q.2 z a
  |_,_,_=>none
 |_,_=>none
def Px(P:Program)(n:Nat)(o:Oper):Option bZ:=
 match o.op,o.dst with
 | .mapEntry t m k,some x=>if x<n then(y7 P t).bind fun q=>(pE P q.2).bind fun z=>(dO n m).bind fun m=>(dO n k).map fun k=> .ment q.1 z x m k else none
 | .entryStore _ m s v,none=>(dO n m).bind fun m=>(dO n s).bind fun s=>(dO n v).map fun v=> .mest m s v
 |_,_=>none
def Pw(P:Program)(fr:mZ)(n:Nat)(o:Oper):Option bZ:=(Px P n o).or ((Py P n o).or ((y5 P fr n o).or ((Gd P n o).or (Pv P n o))))
def ZZ(P:Program)(fr:mZ)(o:Oper):Option (PK×List Operand):=
 match o.op,o.dst with
 | .box t v,some x=>if fr.fz x then(dF P t).map fun _=>(.fbox (P.cellsOf t),[v])else none
 |_,_=>none
def TC(P:Program)(fr:mZ)(n:Nat)(ops:Array Oper)(o:Oper):Option aw:=
 ((oe P fr o.op).or (ZZ P fr o)).bind fun q=>o.dst.bind fun x=>if x<n then(q.2.mapM (dO n)).bind fun gs=>(iK n ops o).map fun g=> .op x q.1 gs g else none
def Ge(P:Program)(fr:mZ)(n:Nat)(ops:Array Oper)(o:Oper):Option aw:=
 (Pw P fr n o).bind fun e=>(iK n ops o).map fun g=> .eff e g
def ZY(P:Program)(fr:mZ)(n:Nat)(ops:Array Oper)(o:Oper):Option aw:=
 match o.op,o.dst with
 | .call c,some x=>match c.callee with
  | .value (.func f)=>if x<n∧2≤fr.fr f∧fr.fr f<1000000 then(c.args.toList.mapM (dO n)).bind fun gs=>(iK n ops o).map fun g=> .eff (.ecall x (fr.fr f-2) f gs) g else none
  |_=>none
 |_,_=>none
def ZX(P:Program)(fr:mZ)(n:Nat)(ops:Array Oper)(o:Oper):Option aw:=
 match o.op,o.dst with
 | .call c,some x=>match c.callee with
  | .value (.func f)=>if x<n∧fr.fr f=1000000 then(sC P o.type).bind fun q=>(c.args.toList.mapM (dO n)).bind fun gs=>(iK n ops o).map fun g=> .eff (.acall x q.1 q.2 f gs) g else none
  |_=>none
 |_,_=>none
def pC(P:Program)(fr:mZ)(n:Nat)(ops:Array Oper)(o:Oper):aw:=((TC P fr n ops o).or ((Ge P fr n ops o).or ((ZY P fr n ops o).or (ZX P fr n ops o)))).getD .bad
section
variable {P : Program} {fr : mZ} {w0 w : World} {pr : aT} {A : gZ} {n : Nat} {tk : ag} {J : St} {a : Act}
def LF(r:Option Nat)(P:Program)(B:eo)(n:Nat)(ops:Array Oper)(o:Oper)(J':St)(a:Act)(w:World):Prop:=
 ∀(next:Act→World→Prop) (Q:Exit→Act→World→Prop),(∀a' w',a'.defers=a.defers→bW P B n w' a'.tmps J'→next a' w')→
  if Region.wanted o (yielded ops a.tmps)then Oper.rj r P o a w next Q else next (a.put o.dst undef) w
theorem xt(R:Rel P w0 pr A n w a.tmps J tk){x:Nat}(hx:x<n):a.tmps[x]?=some (a.tmps.getD x undef):=by
 have:x<a.tmps.size:=by rw[R.size];exact hx
 simp[this]
theorem cJ(R:Rel P w0 pr A n w a.tmps J tk){ops:Array Oper}{o:Oper}{g:Option (Nat×Bool)}{b:Bool}(hg:iK n ops o=some g)(hb:bG J g=some b):
  Region.wanted o (yielded ops a.tmps)=b:=by
 unfold iK at hg;cases ho:o.guard with
 |none=>
  simp only[ho]at hg;cases hg;cases hb;simp[Region.wanted,ho]
 |some q=>
  obtain⟨j,want⟩:=q;simp only[ho]at hg;obtain⟨x,hx,hg⟩:=Bz.1 hg;split at hg<;>cases hg;rename_i hxn
  have hy:yielded ops a.tmps j=match a.tmps.getD x undef with| .bool b=>some b|_=>none:=by
   unfold yielded;rw[hx];simp only[Oz,xt R hxn]
   grind
  have hr:=R.slot x hxn;simp only[bG]at hb;cases hs:J.s x<;>simp only[hs]at hb<;>try (cases hb;done)
  ·rename_i xv;cases xv<;>simp only[]at hb<;>try (cases hb;done)
   cases hb;rw[hs]at hr;obtain⟨hv,_⟩:=aP.1 hr;simp only[Region.wanted]
   grind
  ·cases hb;rw[hs]at hr;generalize a.tmps.getD x undef=cc at hr hy;cases hr;simp only[Region.wanted,ho,hy];rfl
theorem nV(P:Program)(w:World)(t:Nat)(v:Value):(newVar t v).run P w= .ok ⟨w.heap.size,0,none⟩ (w.alloc (.cells v.cells t)):=by
 rfl
theorem K5{r:Option Nat}{B:eo}(U:iI B w0 pr A){Γ:Env}{o:Oper}{k:PK}{xs:List Operand}{gs:List aM}{d:D}{x:Nat}{next:Act→World→Prop}{Q:Exit→Act→World→Prop}
  (R:Rel P w0 pr A n w a.tmps J tk) (hd:ZZ P fr o=some (k,xs)) (hgs:xs.mapM (dO n)=some gs) (hx:o.dst=some x) (hxn:x<n)
  (af:k.run Γ J.m (gs.map (aM.val J.s))=some d) (h: ∀v w',bW P B n w' (a.put (some x) v).tmps (J.set x d)→next (a.put (some x) v) w'):Oper.rj r P o a w next Q:=by
 unfold ZZ at hd;split at hd
 ·rename_i t v y ho bw;split at hd
  ·obtain⟨g,_,hd⟩:=Mz.1 hd;cases hd;rw[hx]at bw;cases bw;simp only[List.mapM_cons,List.mapM_nil,Option.bind_eq_bind,Bz,Option.pure_def,Jz]at hgs;obtain⟨gv,hgv,_,rfl,rfl⟩:=hgs;simp only[List.map_cons,List.map_nil,PK.run,Gt]at af;split at af<;>cases af;rename_i hc;obtain⟨_,hok,hno⟩:=hc;have hcs:=fA (bo R hgv) hok;generalize gv.val J.s=dv at hcs hok hno h;refine bR (by rw[ho];rfl) (show(execOp a.eval o).run P w= .ok (.value (.pointer (some ⟨w.heap.size,0,none⟩))) (w.alloc (.cells (a.eval v).cells t)) by simp[execOp,ho,Instr.box,nV]) ?_;rw[hx];refine h _ _ (R.called U hxn (cW.alloc _ w _) (pr':=fun b o=>pr b o∨b=w.heap.size) (fun b o h=> .inl h) (fun b o h=>h.imp id fun h=> ?_) ?_)
   ·rw[h];exact⟨Nat.le_refl _,by simp⟩
   ·have G1:=(Go.MapKept.heap_alloc w (.cells (a.eval v).cells t)).1;have K:cY w (w.alloc (.cells (a.eval v).cells t)) pr (fun b o=>pr b o∨b=w.heap.size) tk tk:=⟨fun b o h=>⟨(cW.alloc (fun _=>False) w _).block b (R.uL b o h) id, .inl h⟩,fun _ _ h=>h⟩;refine .lptr (fun j=>(a.eval v).cells.getD j undef) (fun j hj=> ?_) fun j dd hdd=> ?_
    ·have hjs:j<(a.eval v).cells.size:=by rw[hcs.1];exact hj
     rw[Nat.zero_add,cell_of_row _ _ _ _ _ (0,0) G1];have e:(a.eval v).cells[j]?=some ((a.eval v).cells.getD j undef):=by simp[Array.getD,hjs]
     exact⟨e, .inr rfl,hcs.2.1 _ _ e⟩
    ·have hjs:j<(a.eval v).cells.size:=by rw[hcs.1];exact(Gz.1 hdd).1
     have e:(a.eval v).cells[j]?=some ((a.eval v).cells.getD j undef):=by simp[Array.getD,hjs]
     exact aW ((hcs.2.2 j _ dd e hdd).keeps K) (Tz.1 hno dd (Lz hdd))
  ·cases hd
 ·cases hd
theorem H5{r:Option Nat}{B:eo}(U:iI B w0 pr A){Γ:Env}(hΓ:Sound P Γ){ops:Array Oper}{o:Oper}{x:Nat}{k:PK}{args:List aM}{g:Option (Nat×Bool)}{J':St}(R:Rel P w0 pr A n w a.tmps J tk)
  (hd:TC P fr n ops o=some (.op x k args g)) (af:(aw.op x k args g).run Γ J=some J'):LF r P B n ops o J' a w:=by
 intro next Q hn
 unfold TC at hd;rw[Bz]at hd;obtain⟨⟨k',xs⟩,hp,hd⟩:=hd;rw[Bz]at hd;obtain⟨x',hx',hd⟩:=hd;split at hd
 ·rename_i hxn;rw[Bz]at hd;obtain⟨gs,hgs,hd⟩:=hd;obtain⟨g',hg',hd⟩:=Mz.1 hd;cases hd;simp only[aw.run]at af;rw[Bz]at af;obtain⟨b,hb,af⟩:=af;rw[cJ R hg' hb];cases b
  ·simp only[cond_false,Jz]at af;subst af;rw[hx'];exact hn _ _ rfl ⟨_,_,_,_,R.drop hxn,U⟩
  ·simp only[cond_true]at af;obtain⟨d,hd,rfl⟩:=Mz.1 af;rcases Option.or_eq_some_iff.1 hp with hp|⟨_,hp⟩
   ·cases hk:k'.simple
    ·exact Fj hΓ R U hp hk hgs hx' hxn hd fun v w' R'=>hn _ _ rfl R'
    ·exact Fk R hp hk hgs hx' hxn hd fun v w' R'=>hn _ _ rfl ⟨_,_,_,_,R',U⟩
   ·exact K5 U R hp hgs hx' hxn hd fun v w' R'=>hn _ _ rfl R'
 ·cases hd
theorem nH{t:Nat}{q:Nat×Nat}(h:sC P t=some q): ∃i z,P.underlying t=some (.slice q.1)∧P.info? q.1=some i∧i.zero=some z∧z.cells.size=i.size∧i.bytes≤8192∧i.size≤40∧q.2=i.size:=by
 unfold sC at h;split at h
 ·rename_i e hu;rw[Bz]at h
  grind
 ·cases h
theorem A_{r:Option Nat}{Γ:Env}{o:Oper}{st:bZ}{J':St}(R:Rel P w0 pr A n w a.tmps J tk)
  (hd:y5 P fr n o=some st) (af:st.run Γ J=some J') (next:Act→World→Prop) (Q:Exit→Act→World→Prop) (hn: ∀a' w' tk',a'.defers=a.defers→Rel P w0 pr A n w' a'.tmps J' tk'→next a' w'):Oper.rj r P o a w next Q:=by
 unfold y5 at hd;split at hd
 ·rename_i t v x ho bw;split at hd
  ·rename_i hxn;rw[Bz]at hd;obtain⟨_,_,hd⟩:=hd;obtain⟨av,hav,rfl⟩:=Mz.1 hd;obtain⟨tk',R'⟩:=DH (t:=t) R (bo R hav) hxn af;refine bR (by rw[ho];rfl) (show(execOp a.eval o).run P w= .ok (.value (.pointer (some ⟨w.heap.size,0,none⟩))) (w.alloc (.cells (a.eval v).cells t)) by simp[execOp,ho,Instr.box,nV]) ?_;rw[bw];exact hn _ _ _ rfl R'
  ·cases hd
 ·rename_i t x ho bw;split at hd
  ·rename_i hxn;obtain⟨z,hz,rfl⟩:=Mz.1 hd;obtain⟨i,zv,hi,hzi,a6⟩:=iL (w:=w) (pr:=pr) (tk:=tk) hz;have UD:ai w pr tk (.agg zv.cells) (.agg z):=dA.2 ⟨_,rfl,a6⟩;obtain⟨tk',R'⟩:=DH (t:=t) R UD hxn af;refine bR (by rw[ho];rfl) (show(execOp a.eval o).run P w= .ok (.value (.pointer (some ⟨w.heap.size,0,none⟩))) (w.alloc (.cells zv.cells t)) by simp[execOp,ho,Instr.alloc,zeroValue,typeInfo,hi,hzi,nV]) ?_;rw[bw];exact hn _ _ _ rfl R'
  ·cases hd
 ·rename_i t av v ho bw;rw[Bz]at hd;obtain⟨_,_,hd⟩:=hd;rw[Bz]at hd;obtain⟨ga,hga,hd⟩:=hd;rw[Bz]at hd;obtain⟨gv,hgv,hd⟩:=hd;split at hd<;>cases hd;have hi:(P.info? t).isSome=true:=by assumption
  obtain⟨w',h1,R'⟩:=E6 R (bo R hga) (bo R hgv) hi af;refine uG (by rw[ho];rfl) (show(execOp a.eval o).run P w= .ok .skip w' by simp[execOp,ho,h1]) ?_;rw[bw];exact hn _ _ _ rfl R'
 ·rename_i t av bv x ho bw;split at hd
  ·rename_i hxn;rw[Bz]at hd;obtain⟨q,hq,hd⟩:=hd;rw[Bz]at hd;obtain⟨z,hz,hd⟩:=hd;rw[Bz]at hd;obtain⟨ga,hga,hd⟩:=hd;obtain⟨gb,hgb,rfl⟩:=Mz.1 hd;obtain⟨i,zv,hu,hi,hzi,hzs,hby,hsz,hq2⟩:=nH hq;obtain⟨i',zv',hi',G7,a6⟩:=iL (w:=w) (pr:=pr) (tk:=tk) hz;obtain rfl:i=i':=by rw[hi]at hi';exact Option.some.inj hi'
   obtain rfl:zv=zv':=by rw[hzi]at G7;exact Option.some.inj G7
   simp only[bZ.run,hq2]at af;obtain⟨v',w',tk',h1,R'⟩:=KL R hu hi hzi hzs a6 hsz hby hxn (bo R hga) (bo R hgb) af;refine bR (by rw[ho];rfl) (show(execOp a.eval o).run P w= .ok (.value v') w' by simp[execOp,ho,h1]) ?_;rw[bw];exact hn _ _ _ rfl R'
  ·cases hd
 ·rename_i t len parts x ho bw;split at hd
  ·rename_i hxn;rw[Bz]at hd;obtain⟨⟨e,size,zero,places⟩,hq,hd⟩:=hd;obtain⟨gs,hgs,rfl⟩:=Mz.1 hd;obtain⟨v',w',tk',h1,R'⟩:=KK R hq hxn (eS R hgs) af;refine bR (by rw[ho];rfl) (show(execOp a.eval o).run P w= .ok (.value v') w' by simp[execOp,ho,h1]) ?_;rw[bw];exact hn _ _ _ rfl R'
  ·cases hd
 ·rename_i t x ho bw;split at hd<;>cases hd;rename_i hxn;obtain⟨v',w',tk',h1,R'⟩:=DI (t:=t) R hxn af;refine bR (by rw[ho];rfl) (show(execOp a.eval o).run P w= .ok (.value v') w' by simp[execOp,ho,h1]) ?_;rw[bw];exact hn _ _ _ rfl R'
 ·rename_i t mv kv vv ho bw;rw[Bz]at hd;obtain⟨⟨ks,e⟩,hq,hd⟩:=hd;rw[Bz]at hd;obtain⟨gm,hgm,hd⟩:=hd;rw[Bz]at hd;obtain⟨gk,hgk,hd⟩:=hd;obtain⟨gv,hgv,rfl⟩:=Mz.1 hd;obtain⟨w',h1,R',_⟩:=tM R hq (bo R hgm) (bo R hgk) (bo R hgv) af;refine uG (by rw[ho];rfl) (show(execOp a.eval o).run P w= .ok .skip w' by simp[execOp,ho,h1]) ?_;rw[bw];exact hn _ _ _ rfl R'
 ·rename_i c x ho bw;split at hd
  ·rename_i hxn;split at hd
   ·rename_i hc;split at hd
    ·rename_i a0 b0 t t' jo hts;split at hd
     ·rename_i htt;subst htt;rw[Bz]at hd;obtain⟨q,hq,hd⟩:=hd;rw[Bz]at hd;obtain⟨ga,hga,hd⟩:=hd;obtain⟨gb,hgb,rfl⟩:=Mz.1 hd;obtain⟨i,zv,hu,hi,hzi,hzs,hby,hsz,hq2⟩:=nH hq;simp only[bZ.run,hq2]at af;obtain⟨v',w',tk',h1,R'⟩:=KI (ty:=o.type) R hu hi hzi hzs hby hxn (bo R hga) (bo R hgb) af;obtain⟨callee,⟨args⟩,⟨ts⟩⟩:=c;simp only[]at jo hts hc;subst jo hts hc;refine bR (by rw[ho];rfl) (show(execOp a.eval o).run P w= .ok (.value v') w' by simp[execOp,ho,resolve,invoke,builtin,h1]) ?_;rw[bw];exact hn _ _ _ rfl R'
     ·cases hd
    ·cases hd
   ·cases hd
  ·cases hd
 ·cases hd
theorem Ee{r:Option Nat}{Γ:Env}{o:Oper}{st:bZ}{J':St}(R:Rel P w0 pr A n w a.tmps J tk)
  (hd:Pw P fr n o=some st) (af:st.run Γ J=some J') (next:Act→World→Prop) (Q:Exit→Act→World→Prop) (hn: ∀a' w' tk',a'.defers=a.defers→Rel P w0 pr A n w' a'.tmps J' tk'→next a' w'):Oper.rj r P o a w next Q:=by
 rcases Option.or_eq_some_iff.1 hd with hd|⟨_,hd⟩
 ·unfold Px at hd;split at hd
  ·rename_i t mv kv x ho bw;split at hd
   ·rename_i hxn;obtain⟨⟨ks,e⟩,hq,hd⟩:=Bz.1 hd;obtain⟨z,hz,hd⟩:=Bz.1 hd;obtain⟨gm,hgm,hd⟩:=Bz.1 hd;obtain⟨gk,hgk,rfl⟩:=Mz.1 hd;obtain⟨v',w',h1,R'⟩:=Ig R hq hz hxn (bo R hgm) (bo R hgk) af;refine bR (by rw[ho];rfl) (show(execOp a.eval o).run P w= .ok (.value v') w' by simp[execOp,ho,h1]) ?_;rw[bw];exact hn _ _ _ rfl R'
   ·cases hd
  ·rename_i t mv sv vv ho bw;obtain⟨gm,hgm,hd⟩:=Bz.1 hd;obtain⟨gs,hgs,hd⟩:=Bz.1 hd;obtain⟨gv,hgv,rfl⟩:=Mz.1 hd;obtain⟨w',h1,R'⟩:=Ih (t:=t) R (bo R hgm) (bo R hgs) (bo R hgv) af;refine uG (by rw[ho];rfl) (show(execOp a.eval o).run P w= .ok .skip w' by simp[execOp,ho,h1]) ?_;rw[bw];exact hn _ _ _ rfl R'
  ·cases hd
 rcases Option.or_eq_some_iff.1 hd with hd|⟨_,hd⟩
 ·unfold Py at hd;split at hd
  ·rename_i t x ho bw;split at hd
   ·rename_i hxn
    (split at hd<;>try (cases hd;done))
    obtain⟨q,_,rfl⟩:=Mz.1 hd;obtain⟨v',w',tk',h1,R'⟩:=DI (t:=t) R hxn af;refine bR (by rw[ho];rfl) (show(execOp a.eval o).run P w= .ok (.value v') w' by simp[execOp,ho,h1]) ?_;rw[bw];exact hn _ _ _ rfl R'
   ·cases hd
  ·cases hd
 rcases Option.or_eq_some_iff.1 hd with hd|⟨_,hd⟩
 ·exact A_ R hd af next Q hn
 rcases Option.or_eq_some_iff.1 hd with hd|⟨_,hd⟩
 rotate_left
 ·unfold Pv at hd;split at hd
  ·rename_i c ho bw;split at hd
   ·rename_i a0 t hc jo hts;obtain⟨q,hq,hd⟩:=Bz.1 hd;obtain⟨z,hz,hd⟩:=Bz.1 hd;obtain⟨ga,hga,rfl⟩:=Mz.1 hd;obtain⟨i,zv,hu,hi,hzi,hzs,hby,hsz,hq2⟩:=nH hq;obtain⟨i',zv',hi',G7,hzd⟩:=iL (w:=w) (pr:=pr) (tk:=tk) hz;rw[hi]at hi';cases hi';rw[hzi]at G7;cases G7;simp only[bZ.run,hq2]at af;obtain⟨w',h1,R'⟩:=KJ (ty:=o.type) R hu hi hzi hzs hzd (bo R hga) af;obtain⟨callee,⟨args⟩,⟨ts⟩⟩:=c;simp only[]at jo hts hc;subst jo hts hc;refine bR (by rw[ho];rfl) (show(execOp a.eval o).run P w= .ok (.value (.tuple #[])) w' by simp[execOp,ho,resolve,invoke,builtin,h1]) ?_;rw[bw];exact hn _ _ _ rfl R'
   ·cases hd
  ·cases hd
 ·unfold Gd at hd;split at hd
  ·rename_i c ho;split at hd
   ·rename_i a0 b0 t t' hc jo hts;split at hd
    ·rename_i e hu;split at hd
     ·rename_i bc;rw[Bz]at hd;obtain⟨ga,hga,hd⟩:=hd;obtain⟨gb,hgb,rfl⟩:=Mz.1 hd;obtain⟨v',w',h1,R'⟩:=Ie (ty:=o.type) (sT:=t') R hu bc.2 (bo R hga) (bo R hgb) (fun i hi=>by have:=bc.1;rw[hi]at this;simpa using this) af;obtain⟨callee,⟨args⟩,⟨ts⟩⟩:=c;subst jo hts hc;refine bR (by rw[ho];rfl) (show(execOp a.eval o).run P w= .ok (.value v') w' by simp[execOp,ho,resolve,invoke,builtin,h1]) ?_;exact hn _ _ _ (by cases o.dst<;>rfl) R'
     ·cases hd
    ·cases hd
   ·cases hd
  ·cases hd
theorem D_{o:Oper}{e:bZ}(h:y5 P fr n o=some e):e.dst=o.dst∧ ∀x,o.dst=some x→x<n:=by
 have fin: ∀{x:Nat} {e:bZ},e.dst=some x→x<n→o.dst=some x→e.dst=o.dst∧ ∀x,o.dst=some x→x<n:=fun{x e} h1 h2 h3=>⟨h1.trans h3.symm,fun y hy=>by rw[h3]at hy;cases hy;exact h2⟩;unfold y5 at h;split at h
 ·rename_i bw;split at h
  ·rw[Bz]at h;obtain⟨_,_,h⟩:=h;obtain⟨_,_,rfl⟩:=Mz.1 h;exact fin rfl (by assumption) bw
  ·cases h
 ·rename_i bw;split at h
  ·obtain⟨_,_,rfl⟩:=Mz.1 h;exact fin rfl (by assumption) bw
  ·cases h
 ·rename_i bw;rw[Bz]at h;obtain⟨_,_,h⟩:=h;rw[Bz]at h;obtain⟨_,_,h⟩:=h;rw[Bz]at h;obtain⟨_,_,h⟩:=h;split at h<;>cases h;exact⟨bw.symm,fun x hx=>by rw[bw]at hx;cases hx⟩
 ·rename_i bw;split at h
  ·rw[Bz]at h;obtain⟨_,_,h⟩:=h;rw[Bz]at h;obtain⟨_,_,h⟩:=h;rw[Bz]at h;obtain⟨_,_,h⟩:=h;obtain⟨_,_,rfl⟩:=Mz.1 h;exact fin rfl (by assumption) bw
  ·cases h
 ·rename_i bw;split at h
  ·rw[Bz]at h;obtain⟨_,_,h⟩:=h;obtain⟨_,_,rfl⟩:=Mz.1 h;exact fin rfl (by assumption) bw
  ·cases h
 ·rename_i bw;split at h<;>cases h;exact fin rfl (by assumption) bw
 ·rename_i bw;rw[Bz]at h;obtain⟨_,_,h⟩:=h;rw[Bz]at h;obtain⟨_,_,h⟩:=h;rw[Bz]at h;obtain⟨_,_,h⟩:=h;obtain⟨_,_,rfl⟩:=Mz.1 h;exact⟨bw.symm,fun x hx=>by rw[bw]at hx;cases hx⟩
 ·rename_i bw;split at h
  ·split at h
   ·split at h
    ·split at h
     ·rw[Bz]at h;obtain⟨_,_,h⟩:=h;rw[Bz]at h;obtain⟨_,_,h⟩:=h;obtain⟨_,_,rfl⟩:=Mz.1 h;exact fin rfl (by assumption) bw
     ·cases h
    ·cases h
   ·cases h
  ·cases h
 ·cases h
theorem Gf{o:Oper}{e:bZ}(h:Pw P fr n o=some e):e.dst=o.dst∧ ∀x,o.dst=some x→x<n:=by
 rcases Option.or_eq_some_iff.1 h with h|⟨_,h⟩
 ·unfold Px at h;split at h
  ·rename_i bw;split at h
   ·obtain⟨_,_,h⟩:=Bz.1 h;obtain⟨_,_,h⟩:=Bz.1 h;obtain⟨_,_,h⟩:=Bz.1 h;obtain⟨_,_,rfl⟩:=Mz.1 h;exact⟨bw.symm,fun y hy=>by rw[bw]at hy;cases hy;assumption⟩
   ·cases h
  ·rename_i bw;obtain⟨_,_,h⟩:=Bz.1 h;obtain⟨_,_,h⟩:=Bz.1 h;obtain⟨_,_,rfl⟩:=Mz.1 h;exact⟨bw.symm,fun x hx=>by rw[bw]at hx;cases hx⟩
  ·cases h
 rcases Option.or_eq_some_iff.1 h with h|⟨_,h⟩
 ·unfold Py at h;split at h
  ·rename_i t x ho bw;split at h
   ·(split at h<;>try (cases h;done))
    obtain⟨q,_,rfl⟩:=Mz.1 h;exact⟨bw.symm,fun y hy=>by rw[bw]at hy;cases hy;assumption⟩
   ·cases h
  ·cases h
 rcases Option.or_eq_some_iff.1 h with h|⟨_,h⟩
 ·exact D_ h
 rcases Option.or_eq_some_iff.1 h with h|⟨_,h⟩
 rotate_left
 ·unfold Pv at h;split at h
  ·rename_i bw;split at h
   ·obtain⟨q,_,h⟩:=Bz.1 h;obtain⟨z,_,h⟩:=Bz.1 h;obtain⟨_,_,rfl⟩:=Mz.1 h;exact⟨bw.symm,fun x hx=>by rw[bw]at hx;cases hx⟩
   ·cases h
  ·cases h
 ·unfold Gd at h;split at h
  ·split at h
   ·split at h
    ·split at h
     ·rename_i hc;rw[Bz]at h;obtain⟨_,_,h⟩:=h;obtain⟨_,_,rfl⟩:=Mz.1 h;exact⟨rfl,fun x hx=>by have:=hc.1;rw[hx]at this;simpa using this⟩
     ·cases h
    ·cases h
   ·cases h
  ·cases h
theorem Rel.void(R:Rel P w0 pr A n w a.tmps J tk){dst:Option Nat}(h: ∀x,dst=some x→x<n):Rel P w0 pr A n w (a.put dst undef).tmps (J.void dst) tk:=by
 cases dst with
 |none=>exact R
 |some x=>exact R.drop (h x rfl)
theorem kF{r:Option Nat}{B:eo}{Γ:Env}(hΓ:Sound P Γ){ops:Array Oper}{o:Oper}{J':St}(RE:bW P B n w a.tmps J)(af:(pC P fr n ops o).run Γ J=some J'):LF r P B n ops o J' a w:=by
 obtain⟨w1,pr,A,tk,R,U⟩:=RE;unfold pC at af;cases h:TC P fr n ops o with
 |none=>
  cases h2:Ge P fr n ops o with
  |none=>
   cases h3:ZY P fr n ops o with
   |none=>
    cases h4:ZX P fr n ops o with
    |none=>rw[h,h2,h3,h4]at af;cases af
    |some st=>
     rw[h,h2,h3,h4]at af;unfold ZX at h4;split at h4
     ·rename_i c x ho bw;split at h4
      ·rename_i f Bp;split at h4
       ·rename_i hc;obtain⟨q,hq,h4⟩:=Bz.1 h4;obtain⟨gs,hgs,h4⟩:=Bz.1 h4;obtain⟨g,hg,rfl⟩:=Mz.1 h4;simp only[Option.none_or,Option.some_or,Option.getD_some,aw.run]at af;rw[Bz]at af;obtain⟨b,hb,af⟩:=af;intro next Q hn
        rw[cJ R hg hb];cases b
        ·simp only[cond_false,Jz]at af;subst af;simp only[Bool.false_eq_true,if_false];rw[bw];exact hn _ _ rfl ⟨_,_,_,_,R.void (dst:=some x) (fun y hy=>by cases hy;exact hc.1),U⟩
        ·simp only[cond_true]at af;simp only[if_true];exact Cb hΓ R U ho Bp hgs bw hc.1 af fun v w' R'=>hn _ _ rfl R'
       ·cases h4
      ·cases h4
     ·cases h4
   |some st=>
    rw[h,h2,h3]at af;unfold ZY at h3;split at h3
    ·rename_i c x ho bw;split at h3
     ·rename_i f Bp;split at h3
      ·rename_i hc;obtain⟨gs,hgs,h3⟩:=Bz.1 h3;obtain⟨g,hg,rfl⟩:=Mz.1 h3;simp only[Option.none_or,Option.some_or,Option.getD_some,aw.run]at af;rw[Bz]at af;obtain⟨b,hb,af⟩:=af;intro next Q hn
       rw[cJ R hg hb];cases b
       ·simp only[cond_false,Jz]at af;subst af;simp only[Bool.false_eq_true,if_false];rw[bw];exact hn _ _ rfl ⟨_,_,_,_,R.void (dst:=some x) (fun y hy=>by cases hy;exact hc.1),U⟩
       ·simp only[cond_true]at af;simp only[if_true];exact Cc hΓ R U ho Bp hgs bw hc.1 (by have:=hc.2.2;omega) af fun v w' R'=>hn _ _ rfl R'
      ·cases h3
     ·cases h3
    ·cases h3
  |some st=>
   rw[h,h2]at af;unfold Ge at h2;rw[Bz]at h2;obtain⟨e,he,h2⟩:=h2;obtain⟨g,hg,rfl⟩:=Mz.1 h2;simp only[Option.none_or,Option.some_or,Option.getD_some,aw.run]at af;rw[Bz]at af;obtain⟨b,hb,af⟩:=af;obtain⟨hds,hlt⟩:=Gf he;intro next Q hn
   rw[cJ R hg hb];cases b
   ·simp only[cond_false,Jz]at af;subst af;simp only[Bool.false_eq_true,if_false];rw[hds]at*;exact hn _ _ (by cases o.dst<;>rfl) ⟨_,_,_,_,R.void hlt,U⟩
   ·simp only[cond_true]at af;simp only[if_true];exact Ee R he af next Q fun a' w' tk' hd R'=>hn a' w' hd ⟨_,_,_,_,R',U⟩
 |some st=>
  rw[h]at af
  have hst: ∃x k args g,st= .op x k args g:=by
   unfold TC at h;rw[Bz]at h;obtain⟨q,_,h⟩:=h;rw[Bz]at h;obtain⟨x,_,h⟩:=h;split at h
   ·rw[Bz]at h;obtain⟨gs,_,h⟩:=h;obtain⟨g,_,h⟩:=Mz.1 h;exact⟨_,_,_,_,h.symm⟩
   ·cases h
  obtain⟨x,k,args,g,rfl⟩:=hst;exact H5 U hΓ R h af
def pB(P:Program)(fr:mZ)(n:Nat)(ops:Array Oper):List aw:=ops.toList.map (pC P fr n ops)
abbrev e9(r:Option Nat)(P:Program)(ops:Array Oper)(Q:Exit→Act→World→Prop):=wpOpsIn (wF r) 0 P ops Q
theorem wpOps_cons{r:Option Nat}{ops:Array Oper}{Q:Exit→Act→World→Prop}{k:Nat}{o:Oper}{tail:List Nat}{w:World}{a:Act}(ho:ops[k]?=some o)
  (h:if Region.wanted o (yielded ops a.tmps)then Oper.rj r P o a w (e9 r P ops Q tail) Q else e9 r P ops Q tail (a.put o.dst undef) w):e9 r P ops Q (k::tail) a w:=by
 simp only[wpOpsIn,ho];split
 ·rename_i hw;rw[if_pos hw]at h;exact h
 ·rename_i hw;rw[if_neg hw]at h;exact⟨fun _ _=>trivial,h⟩
theorem qK{r:Option Nat}{B:eo}{Γ:Env}(hΓ:Sound P Γ){ops:Array Oper}{Q:Exit→Act→World→Prop}{tail:List Nat}: ∀(l:List Oper) (k:Nat),(∀j,j<l.length→l[j]?=ops[k+j]?)→
  ∀{w:World} {a:Act} {J J':St},bW P B n w a.tmps J→runs Γ (l.map (pC P fr n ops)) J=some J'→
  (∀a' w',a'.defers=a.defers→bW P B n w' a'.tmps J'→e9 r P ops Q tail a' w')→e9 r P ops Q (List.range' k l.length++tail) a w
 | [],k,_,w,a,J,J',R,hr,hQ=>by
  cases hr
  grind
 |o::l,k,hl,w,a,J,J',R,hr,hQ=>by
  simp only[List.map_cons,runs]at hr;rw[Bz]at hr;obtain⟨J1,h1,h2⟩:=hr;have ho:ops[k]?=some o:=by have:=hl 0 (by simp);simpa using this.symm
  have:=kF (r:=r) hΓ R h1 (e9 r P ops Q (List.range' (k+1) l.length++tail)) Q fun a' w' hdf R'=>
   qK hΓ l (k+1) (fun j hj=>by have:=hl (j+1) (by simpa using hj);simpa[Nat.add_assoc,Nat.add_comm 1 j]using this) R' h2 fun a2 w2 ϝ R2=>hQ a2 w2 (ϝ.trans hdf) R2
  exact wpOps_cons ho this
abbrev Code.rj(r:Option Nat)(P:Program)(c:Code)(Q:Exit→Act→World→Prop)(a:Act)(w:World):Prop:=c.wpIn (wF r) 0 P Q a w
theorem xO{r:Option Nat}{B:eo}{Γ:Env}(hΓ:Sound P Γ){ops:Array Oper}{id:Nat}{Q:Exit→Act→World→Prop}{J':St}(R:bW P B n w a.tmps J)
  (hr:runs Γ (pB P fr n ops) J=some J') (hQ: ∀a' w',a'.defers=a.defers→bW P B n w' a'.tmps J'→Q .normal a' w'):
  Code.rj r P (Code.region id ops false) Q a w:=by
 apply wpIn_region;have:=qK (r:=r) (Q:=Q) (tail:= []) hΓ ops.toList 0 (by simp) R hr hQ;rw[List.range_eq_range']
 grind
end
end
end Go.Proofs.YtdepmampjnlgiaaGreatDoor
