/- Part of the proof: symbolic execution of the program, its soundness, and the closing lemmas. No condition. -/
import Derived.Test.YtkcfpgaepmllhaaGreatDoorEaa
import Derived.OwnWalkIn
import Derived.Maps.AppendAt
import Derived.Laws.OwnMore
import Derived.Laws.CopyRow
import Derived.Great.BuildSlice
namespace Go.Proofs.YtkcfpgaepmllhaaGreatDoor
open Go.RowKit
set_option maxRecDepth 100000
set_option linter.all false
section
abbrev e9(w:World):aX:=fun b _=>b<w.heap.size
abbrev dI:Mem:=fun _=>none
theorem gQ{α β:Type}{f:α→Option β}: ∀{l:List α} {l':List β},l.mapM f=some l'→l'.length=l.length∧ ∀(i:Nat) (x':β),l'[i]?=some x'→ ∃x:α,l[i]?=some x∧f x=some x'
 | [],l',h=>by simp at h;subst h;simp
 |a::l,l',h=>by
  simp only[List.mapM_cons,Option.bind_eq_bind,Bz,Option.pure_def,Jz]at h;obtain⟨b,hb,r,hr,rfl⟩:=h;obtain⟨h1,h2⟩:=gQ hr
  grind
section
variable {P : Program} {w : World} {pr : aX} {tk : ahw} {m : Mem}
theorem cK{w':World}{pr':aX}{tk':ahw}{v:Value}{d:D}(h:ao w pr tk v d)(hd:d.aY=true):ao w' pr' tk' v d:=by
 cases d<;>simp only[D.aY]at hd<;>try (cases hd;done)
 cases h;exact .v ‹_›
theorem ur{w':World}{pr':aX}{tk':ahw}{v:Value}{d:D}(h:ao w pr tk v d)(hd:d.flat=true):ao w' pr' tk' v d:=by
 cases d<;>simp only[D.flat]at hd<;>try (simp[D.aY]at hd;done)
 ·exact cK h hd
 ·simp only[Tz]at hd;cases h with
  |agg h1 h2 h3=>exact .agg h1 h2 fun i c x hc hx=>cK (h3 i c x hc hx) (hd x (Lz hx))
 ·simp only[Tz]at hd;cases h with
  |tup h1 h3=>
   refine .tup h1 fun i c x hc hx=> ?_;have hx':=hd x (Lz hx);have h4:=h3 i c x hc hx;cases x
   case agg ys=>
    simp only[Tz]at hx';cases h4 with
    |agg h1 h2 h3=>exact .agg h1 h2 fun i c x hc hx=>cK (h3 i c x hc hx) (hx' x (Lz hx))
   all_goals first|exact cK h4 hx'|(simp[D.aY]at hx';done)
theorem uu{v:Value}{d:D}(h:ao w pr tk v d)(hd:d.eT=true){tk':ahw}:ao w pr tk' v d:=by
 cases h<;>first
  |exact .v ‹_›
  |exact .nil
  |exact .nil'
  |exact .mt
  |exact .emp
  |exact .list _ ‹_› ‹_› ‹_› ‹_›
  |exact .lptr _ ‹_› ‹_›
  |exact .nilmap
  |exact .fm ‹_› ‹_› ‹_› ‹_› ‹_› ‹_› ‹_›
  |(simp[D.eT]at hd;done)
theorem bf{v:Value}{d:D}(h:ao w pr tk v d)(hd:d.aO=true){tk':ahw}:ao w pr tk' v d:=by
 cases d
 case clo f xs=>
  simp only[D.aO,Tz]at hd;cases h with
  |clo hf h1 h3=>exact .clo hf h1 fun i c x hc hx=>uu (h3 i c x hc hx) (hd x (Lz hx))
  |bclo h1 h3=>exact .bclo h1 fun i c x hc hx=>uu (h3 i c x hc hx) (hd x (Lz hx))
 all_goals exact uu h hd
theorem iB{v:Value}{d:D}(h:ao w pr tk v d)(hd:d.aF=true){tk':ahw}:ao w pr tk' v d:=by
 cases d
 case agg xs=>
  simp only[D.aF,Tz]at hd;cases h with
  |agg h1 h2 h3=>exact .agg h1 h2 fun i c x hc hx=>bf (h3 i c x hc hx) (hd x (Lz hx))
 case clo f xs=>
  simp only[D.aF,Tz]at hd;cases h with
  |clo hf h1 h3=>exact .clo hf h1 fun i c x hc hx=>bf (h3 i c x hc hx) (hd x (Lz hx))
  |bclo h1 h3=>exact .bclo h1 fun i c x hc hx=>bf (h3 i c x hc hx) (hd x (Lz hx))
 case tup xs=>
  simp only[D.aF,Tz]at hd;cases h with
  |tup h1 h3=>
   refine .tup h1 fun i c x hc hx=> ?_;have hx':=hd x (Lz hx);have h4:=h3 i c x hc hx;cases x
   case agg ys=>
    simp only[Tz]at hx';cases h4 with
    |agg h1 h2 h3=>exact .agg h1 h2 fun i c x hc hx=>bf (h3 i c x hc hx) (hx' x (Lz hx))
   all_goals exact bf h4 hx'
 all_goals exact bf h (by simpa only[D.aF]using hd)
theorem eP(M:dK P w pr tk m){v:Value}{d:D}{es:List (List D)}(h:ao w pr tk v d)(he:d.elems m=some es):
  ((v= .slice none 0 0∨ ∃a cap,v= .slice (some a) 0 cap)∧es= [])∨ ∃(b off cap size:Nat) (us:Nat→Value),v= .slice (some ⟨b,off,none⟩) es.length cap∧es.length≤cap∧(∀c∈es,c.length=size)∧
   (∀j,j<es.length*size→w.cell? ⟨b,off+j,none⟩=some (us j)∧(us j).oneCell'=true)∧
   ∀(i:Nat) (c:List D),es[i]?=some c→ ∀(j:Nat) (x:D),c[j]?=some x→ao w pr tk (us (i*size+j)) x:=by
 cases d<;>simp only[D.elems]at he<;>try (cases he;done)
 case nil=>cases he;cases h;exact .inl ⟨.inl rfl,rfl⟩
 case mt=>cases he;cases h;exact .inl ⟨.inr ⟨_,_,rfl⟩,rfl⟩
 case list es'=>
  cases he;cases h with
  |nil'=>exact .inl ⟨.inl rfl,rfl⟩
  |emp=>exact .inl ⟨.inr ⟨_,_,rfl⟩,rfl⟩
  |list us hes kC fG hrr=>
   exact .inr ⟨_,_,_,_,us,rfl,kC,hes,fun j hj=>⟨(fG j hj).1,(fG j hj).2.2⟩,fun i c hc j x hx=>(hrr i c hc j x hx).nS⟩
 case sl t size off len lim=>
  split at he
  ·rename_i g e es0 hm;split at he
   ·rename_i hc;obtain⟨hlen,bN⟩:=hc;cases he;have hl:((es0.drop off).take len).length=len:=by simp;omega
    cases h with
    |sl ht hcc hll ho=>
     rename_i b cap c o;have hsz: ∀q∈es0,q.length=size:=fun q hq=>by simpa using Tz.1 bN q hq
     have Xe:=Bd M hm
     have hse:es0= []∨size=P.cellsOf e:=by
      cases h0:es0 with
      |nil=>exact .inl rfl
      |cons q r=>exact .inr (by rw[←hsz q (by rw[h0];simp),Xe q (by rw[h0];simp)])
     right;refine⟨b,o,c,size,fun j=>(w.cell? ⟨b,o+j,none⟩).getD undef,by rw[hl],by rw[hl];exact hll,fun q hq=>hsz q (List.mem_of_mem_drop (List.mem_of_mem_take hq)),fun j hj=> ?_,fun i q hq j x hx=> ?_⟩
     ·rw[hl]at hj;have Nw:0<len:=by rcases Nat.eq_zero_or_pos len with h|h;subst h;simp at hj;exact h
      have SM:0<size:=by rcases Nat.eq_zero_or_pos size with h|h;subst h;simp at hj;exact h
      have ho:o=off*size:=by rcases ho with h|h;exact h;omega
      have hse:size=P.cellsOf e:=by rcases hse with h|h;subst h;simp at hlen;omega;exact h
      have hdiv:j/size<len:=Nat.div_lt_of_lt_mul (by rw[Nat.mul_comm];exact hj);have SC:j%size<size:=Nat.mod_lt _ SM;have hi:off+j/size<es0.length:=by omega
      have hcl:es0[off+j/size].length=size:=hsz _ (List.getElem_mem hi);obtain⟨u,h1,h2,_⟩:=uC M hm ht (i:=off+j/size) (j:=j%size) (c:=es0[off+j/size]) (d:=es0[off+j/size][j%size]'(by rw[hcl];exact SC)) (Ez hi) (Ez _)
      have he1:(off+j/size)*P.cellsOf e+j%size=o+j:=by
       rw[←hse,ho,Nat.add_mul,Nat.add_assoc];congr 1;rw[Nat.mul_comm];exact Nat.div_add_mod j size
      rw[he1]at h1;simp only[h1,Option.getD_some];exact⟨trivial,h2⟩
     ·have hi:i<len:=by have:=(Gz.1 hq).1;omega
      rw[List.getElem?_take_of_lt hi,List.getElem?_drop]at hq;have hcl:=hsz q (Lz hq);have hj:j<size:=by rw[←hcl];exact(Gz.1 hx).1
      have ho:o=off*size:=by rcases ho with h|h;exact h;omega
      have hse:size=P.cellsOf e:=by rw[←hcl,Xe q (Lz hq)]
      obtain⟨u,h1,_,h3⟩:=uC M hm ht hq hx;have he1:(off+i)*P.cellsOf e+j=o+(i*size+j):=by rw[←hse,ho,Nat.add_mul,Nat.add_assoc]
      rw[he1]at h1;simp only[h1,Option.getD_some];exact h3
   ·cases he
  ·rename_i xs hm;split at he
   ·rename_i hc;obtain⟨rfl,hlen⟩:=hc;cases he;have hl:(((xs.drop off).take len).map fun d=> [d]).length=len:=by simp;omega
    cases h with
    |sl ht hcc hll ho=>
     rename_i b cap c o;obtain⟨b',ng,C,ty,g1,g2,g3⟩:=M.obj _ _ hm;rw[ht]at g1;cases g1;right;refine⟨b,o,c,1,fun j=>(w.cell? ⟨b,o+j,none⟩).getD undef,by rw[hl],by rw[hl];exact hll,fun q hq=> ?_,fun j hj=> ?_,fun i q hq j x hx=> ?_⟩
     ·obtain⟨_,_,rfl⟩:=List.mem_map.1 hq;rfl
     ·rw[hl]at hj;have ho:o=off:=by rcases ho with h|h;omega;omega
      subst ho;have hjl:o+j<C.size:=by rw[g3.1];omega
      have fG:w.cell? ⟨b,o+j,none⟩=some C[o+j]:=by rw[cell_of_row w b _ C ty (0,0) g2];exact Rz hjl
      simp only[fG,Option.getD_some];exact⟨trivial,g3.2.1 _ _ (Rz hjl)⟩
     ·have hi:i<len:=by have:=(Gz.1 hq).1;omega
      have ho:o=off:=by rcases ho with h|h;omega;omega
      subst ho;rw[Dz,List.getElem?_take_of_lt hi,List.getElem?_drop]at hq;obtain⟨d0,hd0,rfl⟩:=Mz.1 hq;have hj:j=0:=by have:=(Gz.1 hx).1;simpa using this
      subst hj;simp only[List.getElem?_cons_zero,Jz]at hx;subst hx;have hil:o+i<C.size:=by rw[g3.1];omega
      have fG:w.cell? ⟨b,o+(i*1+0),none⟩=some C[o+i]:=by rw[Nat.mul_one,Nat.add_zero,cell_of_row w b _ C ty (0,0) g2];exact Rz hil
      simp only[fG,Option.getD_some];exact g3.2.2 _ _ _ (Rz hil) hd0
   ·cases he
  ·cases he
theorem bV{f:D→Option D}{c c':List D}(h:aW f c=some c'):c'.length=c.length∧ ∀(i:Nat) (x':D),c'[i]?=some x'→ ∃x:D,c[i]?=some x∧(x.aY=true∧x'=x∨f x=some x'):=by
 unfold aW at h;split at h
 ·grind
 ·obtain⟨h1,h2⟩:=gQ h
  grind
theorem lJ{f:D→Option D}{es es':List (List D)}(h:cP f es=some es'):es'.length=es.length∧ ∀(i:Nat) (c':List D),es'[i]?=some c'→ ∃c:List D,es[i]?=some c∧c'.length=c.length∧
  ∀(j:Nat) (x':D),c'[j]?=some x'→ ∃x:D,c[j]?=some x∧(x.aY=true∧x'=x∨f x=some x'):=by
 unfold cP at h;split at h
 ·rename_i bN;cases h;exact⟨rfl,fun i c hc=>⟨c,hc,rfl,fun j x hx=>⟨x,hx, .inl ⟨Tz.1 (Tz.1 bN c (Lz hc)) x (Lz hx),rfl⟩⟩⟩⟩
 ·obtain⟨h1,h2⟩:=gQ h;exact⟨h1,fun i c' hc=>let⟨c,a,b⟩:=h2 i c' hc;⟨c,a,(bV b).1,(bV b).2⟩⟩
theorem Gy{w:World}{b:Nat}{o:Obj}(h:w.heap[b]?=some o):b<w.heap.size:=(Array.getElem?_eq_some_iff.1 h).1
theorem N0(M:dK P w pr tk m){t:Tok}{es:List (D×D)}(hm:m t=some (.map es))(bN:es.all (fun p=>p.1.aF&&p.2.aF)=true){v:Value}(hr:ao w pr tk v (.mp t)){pr':aX}(K:dW w w pr pr' tk tk)
  (hp: ∀b o,w.heap[b]?=some o→bY tk m b→pr' b 0):ao w pr' aA v (.fm (aH es)):=by
 cases hr with
 |mp ht=>
  obtain⟨b',ng,bW,h1,h2,h3,h4,h5⟩:=M.obj t _ hm;rw[ht]at h1;cases h1;have nt:=fun(i:Nat) (p:D×D) (h:es[i]?=some p)=>Tz.1 bN p (Lz h);simp only[Az]at nt;refine .fm h2 (hp _ _ h2 ⟨t,_,_,hm,ht⟩) h3 h4 (fun i en he=> ?_) (fun i en p he hpp=>iB ((h5 i en p he hpp).2.1.keeps K) (nt i p hpp).1) (fun i en p he hpp=>iB ((h5 i en p he hpp).2.2.keeps K) (nt i p hpp).2);have hi:=(Array.getElem?_eq_some_iff.1 he).1;exact(h5 i en _ he (Ez (show i<es.length by omega))).1
theorem mI(M:dK P w pr tk m)(hpr: ∀b o,pr b o→b<w.heap.size): ∀(n:Nat) (v:Value) (d d':D),ay m n d=some d'→ao w pr tk v d→ao w (e9 w) aA v d'
 |0,_,_,_,h,_=>by simp[ay]at h
 |n+1,v,d,d',h,hr=>by
  have K:dW w w pr (e9 w) tk tk:=⟨fun b o h=>⟨rfl,hpr b o h⟩,fun _ _ h=>h⟩;have RM: ∀{b o:Nat} {u:Value},w.cell? ⟨b,o,none⟩=some u→b<w.heap.size:=fun h=>World.block_lt_of_cell? w _ h
  have step: ∀{v:Value} {x x':D},ao w pr tk v x→(x.aY=true∧x'=x∨ay m n x=some x')→ao w (e9 w) aA v x':=fun{v x x'} hv h=>by
   rcases h with⟨h1,rfl⟩|h1
   ·exact cK hv h1
   ·exact mI M hpr n v x x' h1 hv
  cases d<;>simp only[ay]at h<;>try (cases h;done)
  case v x=>cases h;cases hr;exact .v ‹_›
  case nil=>cases h;cases hr;exact .nil'
  case mt=>cases h;exact bf ((sC hr).keeps K) rfl
  case list es=>cases h;exact bf (hr.keeps K) rfl
  case lptr xs=>cases h;exact bf (hr.keeps K) rfl
  case nilmap=>cases h;exact bf (hr.keeps K) rfl
  case fm es=>cases h;exact bf (hr.keeps K) rfl
  case mp t=>
   split at h
   ·rename_i es hm;split at h<;>cases h;rename_i bN;exact N0 M hm bN hr K fun b _ hb _=>Gy hb
   ·cases h
  case sl t size off len lim=>
   rw[Bz]at h;obtain⟨es,he,h⟩:=h;obtain⟨es',hv,rfl⟩:=Mz.1 h;obtain⟨hl,hg⟩:=lJ hv;rcases eP M hr he with⟨hv0,rfl⟩|⟨b,o,cap,sz,us,rfl,h1,h2,h3,h4⟩
   ·have:es'= []:=List.eq_nil_of_length_eq_zero (by simpa using hl);subst this;rcases hv0 with rfl|⟨a,cap,rfl⟩
    ·exact .nil'
    ·exact .emp
   ·have kC:es'.length≤cap:=by omega
    have:=ao.list (w:=w) (pr:=e9 w) (tk:=aA) (b:=b) (off:=o) (cap:=cap) (es:=es') (size:=sz) us (fun c' hc'=>by
      obtain⟨i,hi,rfl⟩:=List.getElem_of_mem hc';obtain⟨c,hc,hlc,_⟩:=hg i _ (Ez hi)
      rw[hlc,h2 c (Lz hc)]) kC (fun j hj=>by
       rw[hl]at hj
       exact⟨(h3 j hj).1,RM (h3 j hj).1,(h3 j hj).2⟩) (fun i c' hc' j x' hx'=>by
        obtain⟨c,hc,_,hg2⟩:=hg i c' hc';obtain⟨x,hx,hfx⟩:=hg2 j x' hx'
        exact step (h4 i c hc j x hx) hfx)
    grind
  case ptr t off=>
   split at h
   ·rename_i xs hm;split at h
    ·obtain⟨c',hv,rfl⟩:=Mz.1 h;obtain⟨hl,hg⟩:=bV hv;cases hr with
     |ptr ht=>
      obtain⟨us,h1,h2⟩:=jk M hm ht off;refine .lptr us (fun j hj=> ?_) fun j x' hx'=> ?_
      ·grind
      ·grind
    ·cases h
   ·cases h
  case rptr t size i j=>
   split at h
   ·rename_i g e es hm;rw[Bz]at h;obtain⟨c,hc,h⟩:=h;split at h
    ·rename_i br;obtain⟨c',hv,rfl⟩:=Mz.1 h;obtain⟨hl,hg⟩:=bV hv;cases hr with
     |rptr ht=>
      obtain⟨us,h1,h2⟩:=l6 M hm ht hc j;refine .lptr us (fun k hk=> ?_) fun k x' hx'=> ?_
      ·grind
      ·grind
    ·cases h
   ·cases h
  case clo f xs=>
   obtain⟨c',hv,rfl⟩:=Mz.1 h;obtain⟨hl,hg⟩:=bV hv;cases hr with
   |clo hf h1 h3=>
    refine .clo hf (by rw[hl];exact h1) fun i c x' hc hx'=> ?_
    grind
   |bclo h1 h3=>
    refine .bclo (by rw[hl];exact h1) fun i c x' hc hx'=> ?_
    grind
theorem mH(M:dK P w pr tk m)(hpr: ∀b o,pr b o→b<w.heap.size){v:Value}{d d':D}(h:bu m d=some d')(hr:ao w pr tk v d):ao w (e9 w) aA v d':=by
 cases d
 case agg xs=>
  obtain⟨c',hv,rfl⟩:=Mz.1 h;obtain⟨hl,hg⟩:=bV hv;cases hr with
  |agg h1 h2 h3=>
   refine .agg (by rw[hl];exact h1) h2 fun i c x' hc hx'=> ?_;obtain⟨x,hx,hfx⟩:=hg i x' hx';rcases hfx with⟨hf,rfl⟩|hf
   ·exact cK (h3 i c _ hc hx) hf
   ·exact mI M hpr 6 c x x' hf (h3 i c x hc hx)
 all_goals exact mI M hpr 6 v _ d' (by simpa only[bu]using h) hr
theorem u0{n:Nat}{v:Value}{d d':D}(h:ay m n d=some d')(hd:d.eT=true)(hr:ao w pr tk v d):ao w pr aA v d':=by
 cases n with
 |zero=>simp[ay]at h
 |succ n=>
  cases d<;>simp only[D.eT]at hd<;>try (cases hd;done)
  all_goals simp only[ay,Jz]at h;subst h
  case v x=>exact bf hr rfl
  case nil=>cases hr;exact .nil'
  case mt=>exact bf (sC hr) rfl
  case list=>exact bf hr rfl
  case lptr=>exact bf hr rfl
  case nilmap=>exact bf hr rfl
  case fm=>exact bf hr rfl
theorem u6{n:Nat}{v:Value}{d d':D}(h:ay m n d=some d')(hd:d.aO=true)(hr:ao w pr tk v d):ao w pr aA v d':=by
 cases d
 case clo f xs=>
  cases n with
  |zero=>cases h
  |succ n=>
   obtain⟨xs',h1,rfl⟩:=Mz.1 (show(aW (ay m n) xs).map (D.clo f)=some d' from h);obtain⟨hl,hg⟩:=bV h1;simp only[D.aO,Tz]at hd
   have one: ∀(u:Value) (i:Nat) (x':D),xs'[i]?=some x'→(∀x,xs[i]?=some x→ao w pr tk u x)→ao w pr aA u x':=fun u i x' hx' hu=>by
    obtain⟨x,hx,h⟩:=hg i x' hx';rcases h with⟨hf,rfl⟩|h
    ·exact cK (hu _ hx) hf
    ·exact u0 h (hd x (Lz hx)) (hu _ hx)
   cases hr with
   |clo hf h1 h3=>exact .clo hf (by rw[hl];exact h1) fun i c x' hc hx'=>one c i x' hx' fun x hx=>h3 i c x hc hx
   |bclo h1 h3=>exact .bclo (by rw[hl];exact h1) fun i c x' hc hx'=>one c i x' hx' fun x hx=>h3 i c x hc hx
 all_goals exact u0 h hd hr
theorem xg{v:Value}{d d':D}(h:bu m d=some d')(hd:d.aF=true)(hr:ao w pr tk v d):ao w pr aA v d':=by
 have row: ∀{xs c':List D} {n:Nat},xs.all D.aO=true→aW (ay m n) xs=some c'→c'.length=xs.length∧ ∀(u:Value) (i:Nat) (x':D),c'[i]?=some x'→ ∃x,xs[i]?=some x∧(ao w pr tk u x→ao w pr aA u x'):=by
  intro xs c' n bN hv;obtain⟨hl,hg⟩:=bV hv;refine⟨hl,fun u i x' hx'=> ?_⟩;obtain⟨x,hx,hfx⟩:=hg i x' hx';refine⟨x,hx,fun hu=> ?_⟩;rcases hfx with⟨hf,rfl⟩|hf
  ·exact cK hu hf
  ·exact u6 hf (Tz.1 bN x (Lz hx)) hu
 cases d
 case agg xs=>
  obtain⟨c',hv,rfl⟩:=Mz.1 h;obtain⟨hl,hg⟩:=row (by simpa only[D.aF]using hd) hv;cases hr with
  |agg h1 h2 h3=>
   refine .agg (by rw[hl];exact h1) h2 fun i c x' hc hx'=> ?_;obtain⟨x,hx,hfx⟩:=hg c i x' hx'
   grind
 case clo f xs=>
  obtain⟨c',hv,rfl⟩:=Mz.1 h;obtain⟨hl,hg⟩:=row (by simpa only[D.aF]using hd) hv;cases hr with
  |clo hf h1 h3=>
   refine .clo hf (by rw[hl];exact h1) fun i c x' hc hx'=> ?_;obtain⟨x,hx,hfx⟩:=hg c i x' hx';exact hfx (h3 i c x hc hx)
  |bclo h1 h3=>
   refine .bclo (by rw[hl];exact h1) fun i c x' hc hx'=> ?_;obtain⟨x,hx,hfx⟩:=hg c i x' hx'
   grind
 case tup xs=>simp[bu,ay]at h
 all_goals exact u6 (n:=6) (by simpa only[bu]using h) (by simpa only[D.aF]using hd) hr
theorem iI{pr':aX}{p:D→Bool}(H: ∀v d d',bu m d=some d'→p d=true→ao w pr tk v d→ao w pr' aA v d'): ∀{vs:List Value} {ds as:List D},a_ w pr tk vs ds→ds.mapM (bu m)=some as→ds.all p=true→a_ w pr' aA vs as
 | [],[],as,_,h,_=>by simp at h;subst h;trivial
 |v::vs,d::ds,as,hr,h,hp=>by
  simp only[List.mapM_cons,Option.bind_eq_bind,Bz,Option.pure_def,Jz]at h;obtain⟨d',hd,r,hr',rfl⟩:=h;simp only[List.all_cons,Az]at hp;exact⟨H v d d' hd hp.1 hr.1,iI H hr.2 hr' hp.2⟩
 | [],_::_,_,h,_,_=>absurd h (by simp[a_])
 |_::_,[],_,h,_,_=>absurd h (by simp[a_])
end
def dw (P : Program) (f : Nat) : Prop := ∃ fn, P.funcs[f]? = some fn ∧ fn.body.isSome = true ∧ (fn.name == "runtime.NumGoroutine") = false
def BN(w:World)(pr:aX):Prop:= ∀g xs,Ed g=some xs→ao w pr aA (.pointer (some ⟨g,0,none⟩)) (.lptr xs)
theorem BN.keeps{w w':World}{pr pr':aX}(h:BN w pr)(K: ∀b o,pr b o→w'.heap[b]?=w.heap[b]?∧pr' b o):BN w' pr':=
 fun g xs hx=>(h g xs hx).keeps ⟨K,fun _ _ h=>h⟩
def xk(P:Program)(f:Nat)(ds:List D)(d:D):Prop:=
 (∀(w:World) (pr:aX) (cargs:Array Value),a_ w pr aA cargs.toList ds→ ∃v,(callFunc f cargs).run P w= .ok (.value v) w∧ao w pr aA v d)∨
 dw P f∧ ∀(w:World) (pr:aX) (cargs:Array Value),(∀b o,pr b o→b<w.heap.size)→BN w pr→a_ w pr aA cargs.toList ds→
  Calls P f cargs w fun e w'=> ∃v pr',e= .returned v∧dU (fun _=>False) w w'∧(∀b o,pr b o→pr' b o)∧(∀b o,pr' b o→pr b o∨(w.heap.size≤b∧b<w'.heap.size))∧ao w' pr' aA v d
def M9(P:Program)(f:Nat)(ds:List D)(d:D):Prop:=
 dw P f∧ ∀(w:World) (pr:aX) (cargs:Array Value),(∀b o,pr b o→b<w.heap.size)→BN w pr→a_ w pr aA cargs.toList ds→
  Calls P f cargs w fun e w'=> ∃v pr',e= .returned v∧dU (fun _=>False) w w'∧(∀b o,pr' b o→w.heap.size≤b∧b<w'.heap.size)∧ao w' pr' aA v d
theorem M9.toP{P:Program}{f:Nat}{ds:List D}{d:D}(h:M9 P f ds d):xk P f ds d:=
 .inr ⟨h.1,fun w pr cargs h1 h2 h3=>(h.2 w pr cargs h1 h2 h3).mono fun e w' ⟨v,pr',k1,k2,k3,k4⟩=>
  ⟨v,fun b o=>pr b o∨pr' b o,k1,k2,fun _ _ h=> .inl h,fun b o h=>h.elim .inl fun h=> .inr (k3 b o h),k4.keeps ⟨fun b o h=>⟨rfl, .inr h⟩,fun _ _ h=>h⟩⟩⟩
def U7(P:Program)(f:Nat)(ds:List D)(r:D):Prop:=xk P f ds r.bare∧(r.eS=true→M9 P f ds r.bare)
theorem sh{r:D}(h:r.eS=false):r.bare=r:=by
 unfold D.eS at h;unfold D.bare;split at h
 ·cases h
 ·rfl
theorem xk.toR{P:Program}{f:Nat}{ds:List D}{d:D}(h:xk P f ds d)(hd:d.eS=false):U7 P f ds d:=
 ⟨by rw[sh hd];exact h,fun h=>by rw[hd]at h;cases h⟩
def VCa(P:Program)(f e:Nat)(ds:List D)(es:List (List D)):Prop:=
 dw P f∧ ∀(w:World) (pr:aX) (cargs:Array Value),(∀b o,pr b o→b<w.heap.size)→BN w pr→a_ w pr aA cargs.toList ds→
  Calls P f cargs w fun ex w'=> ∃b cap C,ex= .returned (.slice (some ⟨b,0,none⟩) es.length cap)∧dU (fun _=>False) w w'∧w.heap.size≤b∧w'.heap[b]?=some (.cells C e (0,0))∧es.length≤cap∧cap≤maxLen∧C.size=cap*P.cellsOf e∧bk P w' (fun _ _=>False) aA C e es
def VEp(P:Program)(k f:Nat)(ds:List D)(es es':List (List D))(d:D):Prop:=
 dw P f∧es'.length=es.length∧ ∀(w:World) (pr:aX) (cargs:Array Value),(∀b o,pr b o→b<w.heap.size)→BN w pr→cargs.size=ds.length→
  (∀(i:Nat) (v:Value) (x:D),i≠k→cargs[i]?=some v→ds[i]?=some x→ao w pr aA v x)→
  (es= []→cargs[k]?=some (.slice none 0 0)→Calls P f cargs w fun e w'=> ∃v pr',e= .returned v∧dU (fun _=>False) w w'∧(∀b o,pr b o→pr' b o)∧(∀b o,pr' b o→pr b o∨(w.heap.size≤b∧b<w'.heap.size))∧ao w' pr' aA v d)∧
  ∀(b cap t:Nat) (C:Array Value),(∀o,¬pr b o)→w.heap[b]?=some (.cells C t (0,0))→es.length≤cap→cap≤maxLen→C.size=cap*P.cellsOf t→bk P w pr aA C t es→cargs[k]?=some (.slice (some ⟨b,0,none⟩) es.length cap)→
   Calls P f cargs w fun e w'=> ∃v pr' C',e= .returned v∧dU (fun k=>k=b) w w'∧(∀b o,pr b o→pr' b o)∧(∀b o,pr' b o→pr b o∨(w.heap.size≤b∧b<w'.heap.size))∧ao w' pr' aA v d∧
    w'.heap[b]?=some (.cells C' t (0,0))∧C'.size=C.size∧bk P w' pr' aA C' t es'
structure Sound(P:Program)(Γ:Env):Prop where
 p: ∀f ds d,f<1000000→Γ.p f ds=some d→U7 P f ds d
 e: ∀k f ds r,f<1000000→k<1000000→Γ.e k f ds=some r→ ∃es es' d,ds[k]?=some (.list es)∧r= .tup [d, .list es']∧VEp P k f ds es es' d
 q: ∀e f ds r,f<1000000→Γ.q (1000000*e+f) ds=some r→ ∃es:List (List D),r.1= .list es∧VCa P f e ds es
structure iJ where
 a:Nat→Prop
 z:ahw
 sv:Nat→Value
def qn:iJ:=⟨fun _=>False,fun _=>none,fun _=>undef⟩
structure Rel(P:Program)(w0:World)(pr:aX)(A:iJ)(n:Nat)(w:World)(cs:Array Value)(J:St)(tk:ahw):Prop where
 size:cs.size=n
 chg:dU A.a w0 w
 prlt: ∀b o,pr b o→b<w0.heap.size
 prA: ∀b o,pr b o→ ¬A.a b
 glob:BN w pr
 mem:dK P w pr tk J.m
 live: ∀t o b c,J.m t=some o→tk t=some (b,c)→w0.heap.size≤b∨A.a b
 fresh: ∀x k r,J.c x≤k→tk ((x+1)::k::r)=none
 zero: ∀t,tk (0::t)=A.z t
 one: ∀l p,tk [l+1]=some p→p=(l,0)
 slot: ∀i,i<n→ao w pr tk (cs.getD i undef) (J.s i)
 sav: ∀i,n≤i→ao w pr tk (A.sv i) (J.s i)
structure fe where
 w:World
 pr:aX
 A:iJ
structure iL(B:fe)(w1:World)(pr:aX)(A:iJ):Prop where
 chg:dU B.A.a B.w w1
 sub: ∀b,b<B.w.heap.size→A.a b→B.A.a b
 z:A.z=B.A.z
 sv:A.sv=B.A.sv
 sup: ∀b o,B.pr b o→pr b o
 inf: ∀b o,pr b o→B.pr b o∨B.w.heap.size≤b∨B.A.a b
def dm(P:Program)(B:fe)(n:Nat)(w:World)(cs:Array Value)(J:St):Prop:= ∃w1 pr A tk,Rel P w1 pr A n w cs J tk∧iL B w1 pr A
inductive aL where
 |t (i:Nat)
 |c (d:D)
 deriving Inhabited
def aL.val(s:Nat→D):aL→D
 | .t i=>s i
 | .c d=>d
def ft(n:Nat):Operand→Option aL
 | .tmp t=>if t<n then some (.t t)else none
 | .const v=>(Ad v).map .c
 | .func f=>if f<1000000 then some (.c (.clo f []))else none
 | .global g=>(Ed g).map fun xs=> .c (.lptr xs)
section
variable {P : Program} {w0 w : World} {pr : aX} {A : iJ} {n : Nat} {tk : ahw} {J : St} {a : Act}
theorem cy(R:Rel P w0 pr A n w a.tmps J tk){x:Operand}{g:aL}(h:ft n x=some g):ao w pr tk (a.eval x) (g.val J.s):=by
 cases x<;>simp only[ft]at h
 case tmp t=>
  split at h<;>cases h;exact R.slot t ‹_›
 case const v=>
  obtain⟨d,hd,rfl⟩:=Mz.1 h;exact(pV hd).1
 case func f=>
  split at h<;>cases h;exact .clo ‹_› (by simp) (fun i c x hc=>by simp at hc)
 case global g=>
  obtain⟨xs,hx,rfl⟩:=Mz.1 h;exact(R.glob g xs hx).nS
theorem fi(R:Rel P w0 pr A n w a.tmps J tk): ∀{xs:List Operand} {gs:List aL},xs.mapM (ft n)=some gs→a_ w pr tk (xs.map a.eval) (gs.map (aL.val J.s))
 | [],gs,h=>by simp at h;subst h;trivial
 |x::xs,gs,h=>by
  simp only[List.mapM_cons,Option.bind_eq_bind,Bz,Option.pure_def,Jz]at h;obtain⟨g,hg,gs',hgs,rfl⟩:=h;exact⟨cy R hg,fi R hgs⟩
theorem Rel.vt(R:Rel P w0 pr A n w a.tmps J tk): ∀b o,pr b o→b<w.heap.size:=fun b o h=>Nat.lt_of_lt_of_le (R.prlt b o h) R.chg.size
theorem Rel.free(R:Rel P w0 pr A n w a.tmps J tk){t:Tok}{o:HO}{b c x:Nat}(hm:J.m t=some o)(ht:tk t=some (b,c)): ¬pr b x:=fun h=>by
 rcases R.live t o b c hm ht with h1|h1
 ·have:=R.prlt b x h;omega
 ·exact R.prA b x h h1
theorem kB{cs:Array Value}{i x:Nat}{v:Value}(hx:x<cs.size):(cs.setIfInBounds x v).getD i undef=if i=x then v else cs.getD i undef:=by
 simp only[Array.getD_eq_getD_getElem?]
 grind
theorem Rel.jG(R:Rel P w0 pr A n w a.tmps J tk){w':World}{tk':ahw}(hc:dU (fun _=>False) w w')(htk: ∀t p,tk t=some p→tk' t=some p):dW w w' pr pr tk tk':=
 ⟨fun b o h=>⟨hc.block b (R.vt b o h) id,h⟩,htk⟩
theorem Rel.put(R:Rel P w0 pr A n w a.tmps J tk){w':World}{x:Nat}{v:Value}{d:D}(hx:x<n)(hc:dU (fun _=>False) w w')(hv:ao w' pr tk v d):
  Rel P w0 pr A n w' (a.put (some x) v).tmps (J.set x d) tk:=by
 have K:=R.jG hc (fun _ _ h=>h);refine⟨by simp[Act.put,R.size],R.chg.trans hc (fun _ _ h=>h.elim),R.prlt,R.prA,R.glob.keeps K.cell,R.mem.keeps K fun t o b c h ht=> ?_,R.live,R.fresh,R.zero,R.one,fun i hi=> ?_,fun i hi=> ?_⟩
 ·obtain⟨b',c',h1,h2⟩:=(R.mem.obj t o h).place;rw[ht]at h1;cases h1;exact hc.block b h2 id
 rotate_left
 ·rw[St.dg _ _ (show i≠x by omega)];exact(R.sav i hi).keeps K
 ·simp only[Act.put,kB (show x<a.tmps.size by rw[R.size];exact hx),St.set];split
  ·exact hv
  ·exact(R.slot i hi).keeps K
theorem Rel.drop(R:Rel P w0 pr A n w a.tmps J tk){x:Nat}(hx:x<n):Rel P w0 pr A n w (a.put (some x) undef).tmps (J.set x (.tup [])) tk:=
 R.put hx (dU.refl _ _) (.tup (cs:= #[]) rfl (fun i c x hc=>by simp at hc))
def wF(r:Option Nat):Fence:={Fence.wide with round:=r}
theorem iO{r:Option Nat}{n:Nat}{f:Nat}{args:Array Value}{w:World}{R:Ending→World→Prop}:CallsIn (wF r) n P f args w R↔Calls P f args w R:=callsIn_wide
def Oper.vP(r:Option Nat)(P:Program)(o:Oper)(a:Act)(w:World)(next:Act→World→Prop)(Q:Exit→Act→World→Prop):Prop:=o.wpIn (wF r) 0 P a w next Q
def mS:Op→Bool
 | .defer _=>false
 |_=>true
section
variable {r : Option Nat} {o : Oper} {next : Act → World → Prop} {Q : Exit → Act → World → Prop}
theorem zj(hd:mS o.op=true)(h:o.uponIn (wF r) 0 P a next Q ((execOp a.eval o).run P w)):Oper.vP r P o a w next Q:=
 ⟨fun _ _=>trivial,by rw[Oper.semAt_plain _ _ _ (fun c hc=>by rw[hc]at hd;cases hd)];exact h⟩
theorem cL{v:Value}{w':World}(hd:mS o.op=true)(h:(execOp a.eval o).run P w= .ok (.value v) w')(hn:next (a.put o.dst v) w'):Oper.vP r P o a w next Q:=zj hd (by rw[h];exact hn)
theorem BH{w':World}(hd:mS o.op=true)(h:(execOp a.eval o).run P w= .ok .skip w')(hn:next (a.put o.dst undef) w'):Oper.vP r P o a w next Q:=zj hd (by rw[h];exact hn)
theorem kQ{f:Nat}{args:Array Value}{w':World}(hd:mS o.op=true)(h:(execOp a.eval o).run P w= .ok (.enter f args) w')
  (hn:Calls P f args w' fun e w''=> ∃v,e= .returned v∧next (a.put o.dst v) w''):Oper.vP r P o a w next Q:=zj hd (by
 rw[h,Oper.uponIn_enter];refine⟨fun h=>(by simp[wF,Fence.wide]at h),iO.2 (hn.mono ?_)⟩;rintro e w'' ⟨v,rfl,h⟩
 exact h)
end
theorem ny{fr:pI}{op:Op}{q:PK×List Operand}(h:oK P fr op=some q):mS op=true:=by
 cases op<;>first|rfl|cases h
theorem Gg{r:Option Nat}{fr:pI}{Γ:Env}{o:Oper}{k:PK}{xs:List Operand}{gs:List aL}{d:D}{x:Nat}{next:Act→World→Prop}{Q:Exit→Act→World→Prop}
  (R:Rel P w0 pr A n w a.tmps J tk) (hd:oK P fr o.op=some (k,xs)) (hk:k.simple=true) (hgs:xs.mapM (ft n)=some gs) (hx:o.dst=some x) (hxn:x<n)
  (ai:k.run Γ J.m (gs.map (aL.val J.s))=some d) (h: ∀v w',Rel P w0 pr A n w' (a.put (some x) v).tmps (J.set x d) tk→next (a.put (some x) v) w'):Oper.vP r P o a w next Q:=by
 obtain⟨v,h1,h3⟩:=CP (o:=o) R.mem hd hk (fi R hgs) ai;refine cL (ny hd) h1 ?_;rw[hx];exact h v w (R.put hxn (dU.refl _ _) h3)
theorem qG{Γ:Env}(hΓ:Sound P Γ){m:Mem}(M:dK P w pr tk m){f:Nat}{cargs:Array Value}{ds:List D}{d:D}(bg:a_ w pr tk cargs.toList ds)(hpr: ∀b o,pr b o→b<w.heap.size)(hG:BN w pr)(hlt:f<1000000)
  (ai:lZ Γ m f ds=some d):(∃v,(callFunc f cargs).run P w= .ok (.value v) w∧ao w pr tk v d)∨dw P f∧Calls P f cargs w fun e w'=> ∃v pr',e= .returned v∧dU (fun _=>False) w w'∧(∀b o,pr b o→pr' b o)∧(∀b o,pr' b o→pr b o∨(w.heap.size≤b∧b<w'.heap.size))∧ao w' pr' tk v d:=by
 unfold lZ at ai;rw[Bz]at ai;obtain⟨as,has,ai⟩:=ai;rw[Bz]at ai;obtain⟨d',h1,h2⟩:=ai;split at h2
 ·rename_i hc;cases h2;simp only[Bool.or_eq_true,Az]at hc;obtain⟨hP,hN⟩:=hΓ.p f _ _ hlt h1;rw[or_assoc,or_left_comm]at hc;rcases hc with⟨how,hno⟩|hc
  ·obtain⟨hb,mj⟩:=hN how;refine .inr ⟨hb, ?_⟩;have ha:=iI (pr':=e9 w) (p:=fun _=>true) (fun v d d' h _ hr=>mH M hpr h hr) bg has (by simp);refine(mj w (e9 w) cargs (fun _ _ h=>h) (hG.keeps fun b o h=>⟨rfl,hpr b o h⟩) ha).mono ?_;rintro e w' ⟨v,pr',rfl,h3,k1,h5⟩;exact⟨v,fun b o=>pr b o∨pr' b o,rfl,h3,fun _ _ h=> .inl h,fun b o h=>h.elim .inl fun h=> .inr (k1 b o h),iB (h5.keeps ⟨fun b o h=>⟨rfl, .inr h⟩,fun _ _ h=>h⟩) hno⟩
  rcases hP with mj|⟨hb,mj⟩
  ·left;rcases hc with hfl|⟨bN,hno⟩
   ·have ha:=iI (pr':=e9 w) (p:=fun _=>true) (fun v d d' h _ hr=>mH M hpr h hr) bg has (by simp);obtain⟨v,g1,g2⟩:=mj w (e9 w) cargs ha;exact⟨v,g1,ur g2 hfl⟩
   ·have ha:=iI (pr':=pr) (p:=D.aF) (fun v d d' h hp hr=>xg h hp hr) bg has bN;obtain⟨v,g1,g2⟩:=mj w pr cargs ha;exact⟨v,g1,iB g2 hno⟩
  right;refine⟨hb, ?_⟩;rcases hc with hfl|⟨bN,hno⟩
  ·have ha:=iI (pr':=e9 w) (p:=fun _=>true) (fun v d d' h _ hr=>mH M hpr h hr) bg has (by simp);refine(mj w (e9 w) cargs (fun _ _ h=>h) (hG.keeps fun b o h=>⟨rfl,hpr b o h⟩) ha).mono ?_;rintro e w' ⟨v,pr',rfl,h3,_,_,h5⟩;exact⟨v,pr,rfl,h3,fun _ _ h=>h,fun _ _ h=> .inl h,ur h5 hfl⟩
  ·have ha:=iI (pr':=pr) (p:=D.aF) (fun v d d' h hp hr=>xg h hp hr) bg has bN;refine(mj w pr cargs hpr hG ha).mono ?_;rintro e w' ⟨v,pr',rfl,h3,k1,k2,h5⟩;exact⟨v,pr',rfl,h3,k1,k2,iB h5 hno⟩
 ·cases h2
theorem bD{f:Nat}{cargs:Array Value}(h:dw P f):(callFunc f cargs).run P w= .ok (.enter f cargs) w:=by
 obtain⟨fn,h1,h2,h3⟩:=h;have h3 : fn.name ≠ "runtime.NumGoroutine" := by simpa using h3
 obtain⟨c,hc⟩:=Option.isSome_iff_exists.1 h2;simp[callFunc,h1,h3,hc]
theorem jx{pr:aX}: ∀{l l':List Value} {m m':List D},a_ w pr tk l m→a_ w pr tk l' m'→a_ w pr tk (l++l') (m++m')
 | [],_,[],_,_,h'=>h'
 |_::l,_,_::m,_,h,h'=>⟨h.1,jx h.2 h'⟩
 | [],_,_::_,_,h,_=>absurd h (by simp[a_])
 |_::_,_,[],_,h,_=>absurd h (by simp[a_])
theorem mX{pr:aX}: ∀{l:List Value} {m:List D},l.length=m.length→(∀(i:Nat) (c:Value) (x:D),l[i]?=some c→m[i]?=some x→ao w pr tk c x)→a_ w pr tk l m
 | [],[],_,_=>trivial
 |y::l,z::m,hl,hh=>⟨hh 0 y z rfl rfl,mX (by simpa using hl) fun i c x hc hx=>hh (i+1) c x (by simpa using hc) (by simpa using hx)⟩
 | [],_::_,hl,_=>by simp at hl
 |_::_,[],hl,_=>by simp at hl
end
end
section
def aid(x:Nat)(d:D)(J:St):Option St:=
 if d.cells.all D.gH then some (J.new x (.box d.cells) (.ptr (J.tok x) 0))else none
def jN(n:Nat)(a v:D)(J:St):Option St:=
 match a with
 | .ptr t off=>match J.m t with
  |some (.box xs)=>if v.cells.length=n∧off+n≤xs.length∧v.cells.all D.gH=true then some (J.put t (some (.box (putAt xs off v.cells))))else none
  |_=>none
 | .rptr t size i j=>match J.m t with
  |some (.row g e es)=>(es[i]?).bind fun c=>if v.cells.length=n∧j+n≤size∧c.length=size∧v.cells.all D.gH=true then
    some ((J.aG g i).put t (some (.row g e (es.set i (putAt c j v.cells)))))else none
  |some (.box xs)=>if size=1∧v.cells.length=n∧i+j+n≤xs.length∧v.cells.all D.gH=true then some (J.put t (some (.box (putAt xs (i+j) v.cells))))else none
  |_=>none
 |_=>none
def sU(x e size:Nat)(a b:D)(J:St):Option St:=
 (b.elems J.m).bind fun es2=>if es2.all (fun c=>c.length==size)=false then none else
 match a with
 | .nil=>if es2.isEmpty then some (J.set x .nil)else if es2.length≤aD then some (J.new x (.row (J.tok x) e es2) (.sl (J.tok x) size 0 es2.length none))else none
 | .sl t kM off len lim=>if es2.isEmpty then some (J.set x (.sl t kM off len lim))else match J.m t with
  |some (.row g e' es1)=>if e'=e∧kM=size∧len+es2.length≤aD∧off+len≤es1.length then
    match lim with
    |none=>if off=0 then some ((J.aG g len).new x (.row g e (es1.take len++es2)) (.sl (J.tok x) size 0 (len+es2.length) none))else none
    |some c=>if c<len+es2.length then some (J.new x (.row (J.tok x) e ((es1.drop off).take len++es2)) (.sl (J.tok x) size 0 (len+es2.length) none))else none
   else none
  |_=>none
 |_=>none
def CJ(x e size:Nat)(zero:List D)(a b:D)(J:St):Option St:=
 match a,b with
 | .v (.int _ l), .v (.int _ c)=>if 0≤l∧l≤c∧c≤aD∧c.toNat*size≤16777216 then some (J.new x (.row (J.tok x) e (List.replicate l.toNat zero)) (.sl (J.tok x) size 0 l.toNat none))else none
 |_,_=>none
def CF(x e size len:Nat)(zero:List D)(places:List (Nat×Nat))(ds:List D)(J:St):Option St:=
 if ds.all (fun d=>d.cells.all D.gH)then(ahI zero places ds).bind fun cs=>if cs.length=len*size then
  some (J.new x (.row (J.tok x) e (kV size len (cs.map D.nz))) (.sl (J.tok x) size 0 len none))else none else none
section
variable {P : Program} {w0 w : World} {pr : aX} {A : iJ} {n : Nat} {tk : ahw} {J : St} {a : Act}
theorem cr{g:Tok}{k:Nat}{o:Option HO}{q:HO}(h:HO.ez g k o=some q):o=some q∧ ∀e es,q= .row g e es→es.length≤k:=by
 unfold HO.ez at h
 grind
theorem Rel.DB(R:Rel P w0 pr A n w a.tmps J tk){x:Nat}(hx:x<n){w':World}(hc:dU (fun _=>False) w w'){o:HO}{d:D}{v:Value}{cap b0:Nat}(hb0:w.heap.size≤b0)
  (ho: ∀tk':ahw,tk' (J.tok x)=some (b0,cap)→(∀t p,tk t=some p→tk' t=some p)→nc P w' pr tk' (J.tok x) o)
  (hv: ∀tk':ahw,tk' (J.tok x)=some (b0,cap)→ao w' pr tk' v d): ∃tk',Rel P w0 pr A n w' (a.put (some x) v).tmps (J.new x o d) tk':=by
 let tk':ahw:=fun t=>if t=J.tok x then some (b0,cap)else tk t
 have AG:tk (J.tok x)=none:=R.fresh x (J.c x) [] (Nat.le_refl _);have cz:tk' (J.tok x)=some (b0,cap):=by simp[tk']
 have AF: ∀t p,tk t=some p→tk' t=some p:=fun t p h=>by
  have:t≠J.tok x:=fun e=>by rw[e,AG]at h;cases h
  simp[tk',this,h]
 have K:=R.jG hc AF;have hsz:=R.chg.size
 have hm: ∀t q,(J.new x o d).m t=some q→(t=J.tok x∧q=o)∨(t≠J.tok x∧J.m t=some q):=fun t q h=>by
  simp only[St.new,St.NF,St.lO,St.put]at h;split at h
  ·cases h;exact .inl ⟨by assumption,rfl⟩
  ·exact .inr ⟨by assumption,h⟩
 have hold: ∀t q b c,t≠J.tok x→J.m t=some q→tk' t=some (b,c)→tk t=some (b,c)∧b<w.heap.size:=fun t q b c hne h ht=>by
  simp only[tk',if_neg hne]at ht;obtain⟨b1,c1,h1,h2⟩:=(R.mem.obj t q h).place;rw[ht]at h1;cases h1;exact⟨ht,h2⟩
 refine⟨tk',by simp[Act.put,R.size],R.chg.trans hc (fun _ _ h=>h.elim),R.prlt,R.prA,R.glob.keeps K.cell,⟨fun t q h=> ?_,fun t t' q q' b c c' h h' ht ht'=> ?_⟩,fun t q b c h ht=> ?_,fun y k r hk=> ?_,fun t=>by simp only[tk',St.tok,List.cons.injEq,show¬(0=x+1) by omega,false_and,if_false];exact R.zero t,fun l p=>by simp only[tk',St.tok,List.cons.injEq,reduceCtorEq,and_false,if_false];exact R.one l p,fun i hi=> ?_,fun i hi=>by
  show ao _ pr tk' (A.sv i) (if i=x then d else J.s i)
  rw[if_neg (show i≠x by omega)];exact(R.sav i hi).keeps K⟩
 ·rcases hm t q h with⟨rfl,rfl⟩|⟨hne,h⟩
  ·exact ho tk' cz AF
  ·exact(R.mem.obj t q h).keeps K fun b c hb=>by
    obtain⟨b1,c1,h1,h2⟩:=(R.mem.obj t q h).place;rw[hb]at h1;cases h1;exact hc.block b h2 id
 ·rcases hm t q h with⟨e1,e2⟩|⟨hne,k1⟩<;>rcases hm t' q' h' with⟨e3,e4⟩|⟨Cq,k2⟩
  ·exact .inl (e1.trans e3.symm)
  ·rw[e1,cz]at ht;cases ht;have:=hold t' q' _ c' Cq k2 ht';omega
  ·rw[e3,cz]at ht';cases ht';have:=hold t q _ c hne k1 ht;omega
  ·exact R.mem.inj t t' q q' b c c' k1 k2 (hold t q b c hne k1 ht).1 (hold t' q' b c' Cq k2 ht').1
 ·rcases hm t q h with⟨rfl,rfl⟩|⟨hne,h⟩
  ·rw[cz]at ht;cases ht;exact .inl (by omega)
  ·exact R.live t q b c h (hold t q b c hne h ht).1
 ·simp only[St.new,St.inc,St.Pj,St.Pb]at hk
  have hne:(y+1)::k::r≠J.tok x:=fun e=>by
   simp only[St.tok,List.cons.injEq]at e;obtain⟨e1,e2,_⟩:=e;have:y=x:=by omega
   subst this;rw[if_pos rfl]at hk;omega
  simp only[tk',if_neg hne];refine R.fresh y k r ?_;split at hk<;>omega
 ·simp only[Act.put,kB (show x<a.tmps.size by rw[R.size];exact hx),St.new,St.H8,St.set];split
  ·exact hv tk' cz
  ·exact(R.slot i hi).keeps K
theorem Rel.alloc(R:Rel P w0 pr A n w a.tmps J tk){x:Nat}(hx:x<n){w':World}(hc:dU (fun _=>False) w w'){o:HO}{d:D}{v:Value}{cap:Nat}
  (ho: ∀tk':ahw,tk' (J.tok x)=some (w.heap.size,cap)→(∀t p,tk t=some p→tk' t=some p)→nc P w' pr tk' (J.tok x) o)
  (hv: ∀tk':ahw,tk' (J.tok x)=some (w.heap.size,cap)→ao w' pr tk' v d): ∃tk',Rel P w0 pr A n w' (a.put (some x) v).tmps (J.new x o d) tk':=R.DB hx hc (Nat.le_refl _) ho hv
theorem Rel.write(R:Rel P w0 pr A n w a.tmps J tk){t:Tok}{o o':HO}{b c:Nat}(hm:J.m t=some o)(ht:tk t=some (b,c)){w':World}(hc:dU (fun k=>k=b) w w')(hg:o'.gV=o.gV){m':Mem}
  (cz:m' t=some o') (iU: ∀t' q,t'≠t→m' t'=some q→J.m t'=some q) (ho:nc P w' pr tk t o')
  (Fx: ∀t' q c',t'≠t→m' t'=some q→tk t'=some (b,c')→nc P w pr tk t' q→nc P w' pr tk t' q):Rel P w0 pr A n w' a.tmps ⟨J.s,m',J.c⟩ tk:=by
 have K:dW w w' pr pr tk tk:=⟨fun b' x h=>⟨hc.block b' (R.vt b' x h) (fun e=>by subst e;exact R.free hm ht h),h⟩,fun _ _ h=>h⟩
 have hin:=fun t' q (h:m' t'=some q)=>show∃q',J.m t'=some q'∧q'.gV=q.gV from by
  by_cases e:t'=t
  ·subst e;rw[cz]at h;cases h;exact⟨o,hm,hg.symm⟩
  ·exact⟨q,iU t' q e h,rfl⟩
 refine⟨R.size,R.chg.trans hc (fun k hk e=> ?_),R.prlt,R.prA,R.glob.keeps K.cell,⟨fun t' q (h:m' t'=some q)=> ?_,fun t1 t2 q1 q2 b' c1 c2 h1 h2 g1 g2=> ?_⟩,fun t' q b' c' h h1=> ?_,R.fresh,R.zero,R.one,fun i hi=>(R.slot i hi).keeps K,fun i hi=>(R.sav i hi).keeps K⟩
 ·subst e;rcases R.live t o k c hm ht with h|h
  ·omega
  ·exact h
 ·by_cases e:t'=t
  ·subst e;rw[cz]at h;cases h;exact ho
  ·have h0:=iU t' q e h;have hr:=R.mem.obj t' q h0;obtain⟨b1,c1,h1,h2⟩:=hr.place;by_cases hb:b1=b
   ·subst hb;exact Fx t' q c1 e h h1 hr
   ·exact hr.keeps K fun b2 c2 h3=>by
     rw[h1]at h3;cases h3;exact hc.block b1 h2 hb
 ·obtain⟨q1',k1,e1⟩:=hin t1 q1 h1;obtain⟨q2',k2,e2⟩:=hin t2 q2 h2;rw[←e1,←e2];exact R.mem.inj t1 t2 q1' q2' b' c1 c2 k1 k2 g1 g2
 ·obtain⟨q',k,_⟩:=hin t' q h;exact R.live t' q' b' c' k h1
theorem EH(R:Rel P w0 pr A n w a.tmps J tk){t x:Nat}{v:Value}{d:D}{J':St}(hv:ao w pr tk v d)(hx:x<n)(h:aid x d J=some J'):
  ∃tk',Rel P w0 pr A n (w.alloc (.cells v.cells t)) (a.put (some x) (.pointer (some ⟨w.heap.size,0,none⟩))).tmps J' tk':=by
 unfold aid at h;split at h<;>cases h;rename_i hd;have hc:=dU.alloc (fun _=>False) w (.cells v.cells t);refine R.alloc hx (cap:=0) hc (fun tk' hs he=> ?_) fun tk' hs=> .ptr hs;exact⟨w.heap.size,0,v.cells,t,hs,(Go.MapKept.heap_alloc w _).1,(fO hv hd).keeps (R.jG hc he)⟩
def putCells(C:Array Value)(off:Nat)(V:Array Value):Array Value:=(C.toList.take off++V.toList++C.toList.drop (off+V.size)).toArray
theorem cH{C V:Array Value}{off:Nat}(h:off+V.size≤C.size):(putCells C off V).size=C.size:=by
 simp[putCells];omega
theorem fW{C V:Array Value}{off:Nat}(h:off+V.size≤C.size)(i:Nat):(putCells C off V)[i]?=if off≤i∧i<off+V.size then V[i-off]? else C[i]?:=by
 simp only[putCells,List.getElem?_toArray];by_cases h1:i<off
 ·grind
 ·by_cases h2:i<off+V.size
  ·grind
  ·rw[if_neg (by omega),Xz (by simp;omega),List.getElem?_drop,Array.getElem?_toList];congr 1;simp;omega
theorem run_store{t b off tt:Nat}{C:Array Value}{v:Value}{ds:List D}(hi:(P.info? t).isSome)(h3:w.heap[b]?=some (.cells C tt (0,0)))(hv:ct w pr tk v.cells ds)(hl:ds.length=P.cellsOf t)(ho:off+P.cellsOf t≤C.size):
  (Instr.storeAt t (.pointer (some ⟨b,off,none⟩)) v).run P w= .ok () (w.setRow b (putCells C off v.cells)):=by
 have hvs:v.cells.size=P.cellsOf t:=by rw[hv.1,hl]
 have rK: ∀u∈v.cells.toList,u.oneCell'=true:=fun u hu=>by
  obtain⟨i,hi,rfl⟩:=List.getElem_of_mem hu;exact hv.2.1 i _ (by rw[←Array.getElem?_toList,Ez hi])
 have ai:=run_storeCells_at P b off tt v.cells.toList 0 C w h3 (by simp only[Array.length_toList];omega) rK;simp[Instr.storeAt,storeVar,bo hi,hvs];exact ai
theorem dU.setRow(w:World)(b:Nat)(C:Array Value):dU (fun k=>k=b) w (w.setRow b C):=⟨rfl,rfl,rfl,by simp,fun k _ h=>setRow_other w b k C h,Nat.le_refl _⟩
theorem pg(R:Rel P w0 pr A n w a.tmps J tk){t:Nat}{τ:Tok}{b cap off:Nat}{xs:List D}{v:Value}{d2:D}(hm:J.m τ=some (.box xs))(ht:tk τ=some (b,cap))(hv:ao w pr tk v d2)(hi:(P.info? t).isSome)
  (hlen:d2.cells.length=P.cellsOf t) (rJ:off+P.cellsOf t≤xs.length) (hok:d2.cells.all D.gH=true):
  ∃w',(Instr.storeAt t (.pointer (some ⟨b,off,none⟩)) v).run P w= .ok () w'∧Rel P w0 pr A n w' a.tmps (J.put τ (some (.box (putAt xs off d2.cells)))) tk:=by
 obtain⟨b',ng,C,tt,h1,h3,h4⟩:=R.mem.obj τ _ hm;rw[ht]at h1;cases h1;have hcv:=fO hv hok;have hvs:v.cells.size=P.cellsOf t:=by rw[hcv.1,hlen]
 have ho:off+P.cellsOf t≤C.size:=by rw[h4.1];omega
 refine⟨_,run_store hi h3 hcv hlen ho, ?_⟩;have jg:=dU.setRow w b (putCells C off v.cells);have K:dW w (w.setRow b (putCells C off v.cells)) pr pr tk tk:=⟨fun b' x h=>⟨jg.block b' (R.vt b' x h) (fun e=>by subst e;exact R.free hm ht h),h⟩,fun _ _ h=>h⟩;refine R.write hm ht jg (o':= .box (putAt xs off d2.cells)) rfl (m':=(J.put τ (some (.box (putAt xs off d2.cells)))).m) (by simp[St.put]) (fun t' q hne hq=>by simpa[St.put,hne]using hq) ?_ (fun t' q c' hne hq htk hr=> ?_)
 ·refine⟨b,cap,putCells C off v.cells,tt,ht,setRow_heap w b C _ tt _ h3, ?_⟩
  have hcs:ct w pr tk (putCells C off v.cells) (putAt xs off d2.cells):=by
   have g:=fun i=>fW (C:=C) (V:=v.cells) (off:=off) (by omega) i;refine⟨by rw[cH (by omega),eX (by omega)];exact h4.1,fun i c hc=> ?_,fun i c x hc hx=> ?_⟩
   ·rw[g]at hc;split at hc
    ·exact hcv.2.1 _ c hc
    ·exact h4.2.1 _ c hc
   ·rw[g]at hc;rw[gD (by omega)]at hx;split at hc
    ·rw[if_pos (by omega)]at hx;exact hcv.2.2 _ c x hc hx
    ·rename_i hn;rw[if_neg (by omega)]at hx;exact h4.2.2 _ c x hc hx
  exact hcs.keeps K
 ·have hq':J.m t'=some q:=by simpa[St.put,hne]using hq
  rcases R.mem.inj t' τ q _ b c' cap hq' hm htk ht with h|⟨h1,h2⟩
  ·grind
  ·rw[h2]at h1;simp[HO.gV]at h1
theorem F7(R:Rel P w0 pr A n w a.tmps J tk){t:Nat}{av v:Value}{d1 d2:D}{J':St}(ha:ao w pr tk av d1)(hv:ao w pr tk v d2)(hi:(P.info? t).isSome)
  (h:jN (P.cellsOf t) d1 d2 J=some J'): ∃w',(Instr.storeAt t av v).run P w= .ok () w'∧Rel P w0 pr A n w' a.tmps J' tk:=by
 cases d1<;>simp only[jN]at h<;>try (cases h;done)
 case ptr τ off=>
  split at h
  ·rename_i xs hm;split at h<;>cases h;rename_i hc;obtain⟨hlen,rJ,hok⟩:=hc;cases ha with
   |ptr ht=>exact pg R hm ht hv hi hlen rJ hok
  ·cases h
 case rptr τ size i j=>
  split at h
  ·rename_i g e es hm;rw[Bz]at h;obtain⟨c,hc,h⟩:=h;split at h<;>cases h;rename_i br;obtain⟨hlen,hj,hcl,hok⟩:=br;cases ha with
   |rptr ht=>
    rename_i b cap;obtain⟨b',ng,C,h1,h3,h5,h6,h7,h8,h9⟩:=R.mem.obj τ _ hm;rw[ht]at h1;cases h1;have hsz:=h8 c (Lz hc);have hse:size=P.cellsOf e:=by omega
    subst hse;have hcv:=fO hv hok;have hvs:v.cells.size=P.cellsOf t:=by rw[hcv.1,hlen]
    have hil:=(Gz.1 hc).1;have Fw:(i+1)*P.cellsOf e≤cap*P.cellsOf e:=Nat.mul_le_mul_right _ (by omega);rw[Nat.add_mul]at Fw;have ho:i*P.cellsOf e+j+P.cellsOf t≤C.size:=by omega
    refine⟨_,run_store hi h3 hcv hlen ho, ?_⟩;have jg:=dU.setRow w b (putCells C (i*P.cellsOf e+j) v.cells);have K:dW w (w.setRow b (putCells C (i*P.cellsOf e+j) v.cells)) pr pr tk tk:=⟨fun b' x h=>⟨jg.block b' (R.vt b' x h) (fun e=>by subst e;exact R.free hm ht h),h⟩,fun _ _ h=>h⟩;have Fv:=fun k=>fW (C:=C) (V:=v.cells) (off:=i*P.cellsOf e+j) (by omega) k;refine R.write hm ht jg (o':= .row g e (es.set i (putAt c j d2.cells))) rfl (m':=((J.aG g i).put τ (some (.row g e (es.set i (putAt c j d2.cells))))).m) (by simp[St.put]) (fun t' q hne hq=> ?_) ?_ (fun t' q c' hne hq htk hr=> ?_)
    ·simp only[St.put,hne,if_false,St.aG]at hq;exact(cr hq).1
    ·refine⟨b,cap,putCells C (i*P.cellsOf e+j) v.cells,ht,setRow_heap w b C _ e _ h3,by simpa using h5,h6,by rw[cH (by omega)];exact h7, ?_⟩
     have gi:bk P w pr tk (putCells C (i*P.cellsOf e+j) v.cells) e (es.set i (putAt c j d2.cells)):=by
      refine⟨fun q hq=> ?_,fun k q hq l d hd=> ?_⟩
      ·rcases List.mem_or_eq_of_mem_set hq with hq|rfl
       ·grind
       ·rw[eX (by omega)];exact hsz
      ·rw[Fv];by_cases hk:k=i
       ·subst hk;rw[List.getElem?_set_self (by omega)]at hq;cases hq;rw[gD (by omega)]at hd;have afH:=hcv.1;split at hd
        ·rw[if_pos (by omega)];have hlt:l-j<v.cells.size:=by omega
         have ge:=Rz hlt;have e2:k*P.cellsOf e+l-(k*P.cellsOf e+j)=l-j:=by omega
         rw[e2];exact⟨_,ge,hcv.2.1 _ _ ge,hcv.2.2 _ _ d ge hd⟩
        ·grind
       ·rw[List.getElem?_set_ne (by omega)]at hq;have hll:l<P.cellsOf e:=by rw[←h8 q (Lz hq)];exact(Gz.1 hd).1
        have SE: ¬(i*P.cellsOf e+j≤k*P.cellsOf e+l∧k*P.cellsOf e+l<i*P.cellsOf e+j+v.cells.size):=by
         rintro⟨g1,g2⟩;rcases Nat.lt_or_ge k i with hki|hki
         ·have:(k+1)*P.cellsOf e≤i*P.cellsOf e:=Nat.mul_le_mul_right _ hki;rw[Nat.add_mul]at this;omega
         ·have:(i+1)*P.cellsOf e≤k*P.cellsOf e:=Nat.mul_le_mul_right _ (by omega);rw[Nat.add_mul]at this;omega
        rw[if_neg SE];exact h9 k q hq l d hd
     exact gi.keeps K
    ·simp only[St.put,hne,if_false,St.aG]at hq;obtain⟨hq1,hq2⟩:=cr hq;rcases R.mem.inj t' τ q _ b c' cap hq1 hm htk ht with h|⟨g1,g2⟩
     ·exact absurd h hne
     ·cases q with
      |box=>simp[HO.gV]at g1
      |map=>simp[HO.gV]at g1
      |iter=>simp[HO.gV]at g1
      |raw=>simp[HO.gV]at g1
      |row g' e' es'=>
       simp only[HO.gV,Jz]at g2;subst g2;have Cr:=hq2 e' es' rfl;obtain⟨b2,te,C2,k1,k3,k5,k6,k7,k8,k9⟩:=hr;rw[htk]at k1;cases k1;rw[h3]at k3;cases k3;refine⟨b,c',putCells C (i*P.cellsOf e+j) v.cells,htk,setRow_heap w b C _ e _ h3,k5,k6,by rw[cH (by omega)];exact k7, ?_⟩;refine bk.keeps ⟨k8,fun k q hq l d hd=> ?_⟩ K;rw[Fv];have hkl:=(Gz.1 hq).1;have hll:l<P.cellsOf e:=by rw[←k8 q (Lz hq)];exact(Gz.1 hd).1
       have:(k+1)*P.cellsOf e≤i*P.cellsOf e:=Nat.mul_le_mul_right _ (by omega);rw[Nat.add_mul]at this;rw[if_neg (by omega)];exact k9 k q hq l d hd
  ·rename_i xs hm;split at h<;>cases h;rename_i br;obtain⟨rfl,hlen,rJ,hok⟩:=br;cases ha with
   |rptr ht=>
    have:=pg R (off:=i+j) hm ht hv hi hlen rJ hok;rw[Nat.mul_one];exact this
  ·cases h
def copyV(x:Option Nat)(a b:D)(J:St):Option St:=
 match a,b with
 | .sl t 1 o l _, .sl t' 1 o' l' _=>match J.m t,J.m t' with
  |some (.box xs),some (.box ys)=>if 0<l∧0<l'∧o+l≤xs.length∧o'+l'≤ys.length then
    some (match x with
     |some i=>(J.put t (some (.box (putAt xs o ((ys.drop o').take (min l' l)))))).set i (iv ((min l' l:Nat):Int))
     |none=>J.put t (some (.box (putAt xs o ((ys.drop o').take (min l' l))))))else none
  |_,_=>none
 |_,_=>none
theorem I1(R:Rel P w0 pr A n w a.tmps J tk){dT sT ty e:Nat}{av bv':Value}{d1 d2:D}{x:Option Nat}{J':St}(hu:P.underlying dT=some (.slice e))(hsz:(P.info? e).map (·.size)=some 1)
  (ha:ao w pr tk av d1) (hb:ao w pr tk bv' d2) (hx: ∀i,x=some i→i<n) (h:copyV x d1 d2 J=some J'):
  ∃v w',(Builtin.copy_ #[dT,sT] ty #[av,bv']).run P w= .ok v w'∧Rel P w0 pr A n w' (a.put x v).tmps J' tk:=by
 unfold copyV at h;split at h
 ·rename_i t o l lim t' o' l' agi;split at h
  ·rename_i xs ys hm hm';split at h
   ·rename_i hc;obtain⟨hl0,afJ,hol,afM⟩:=hc;cases ha with
    |sl ht hcc hll ho=>
     rename_i b cap c oo;have hoo:oo=o:=by rcases ho with h|h<;>omega
     subst hoo;cases hb with
     |sl ht' afG afK ho'=>
      rename_i b' ng c' oo';have acJ:oo'=o':=by rcases ho' with h|h<;>omega
      subst acJ;obtain⟨b1,VG,C,tt,g1,g2,g3⟩:=R.mem.obj t _ hm;rw[ht]at g1;cases g1;obtain⟨b2,te,C',tt',k1,k2,k3⟩:=R.mem.obj t' _ hm';rw[ht']at k1;cases k1;have hC:=g3.1;have hC':=k3.1;let cs:=(C'.toList.drop oo').take (min l' l);have hcl:cs.length=min l' l:=by simp[cs];omega
      have gY: ∀j,j<min l' l→cs[j]?=C'[oo'+j]?:=fun j hj=>by
       grind
      have rK: ∀u∈cs,u.oneCell'=true:=fun u hu=>by
       obtain⟨j,hj⟩:=List.getElem?_of_mem hu;have hjl:=(Gz.1 hj).1;rw[gY j (by omega)]at hj;exact k3.2.1 _ _ hj
      have ai:=run_copy_row (P:=P) w dT sT ty e b oo l c ⟨b',oo',none⟩ l' c' C tt cs hu hsz g2 (by rw[hcl]) (fun j u hj=>by
       have hjl:=(Gz.1 hj).1;rw[gY j (by omega)]at hj
       rw[dN,cell_of_row w b' _ C' tt' (0,0) k2];exact hj) (by omega) rK
      rw[hcl]at ai;have KV:(C.toList.take oo++cs++C.toList.drop (oo+min l' l)).toArray=putCells C oo cs.toArray:=by simp[putCells,hcl]
      rw[KV]at ai;have hns:cs.toArray.size=min l' l:=by simp[hcl]
      have jg:=dU.setRow w b (putCells C oo cs.toArray);have K:dW w (w.setRow b (putCells C oo cs.toArray)) pr pr tk tk:=⟨fun b' x h=>⟨jg.block b' (R.vt b' x h) (fun e=>by subst e;exact R.free hm ht h),h⟩,fun _ _ h=>h⟩;have hdl:((ys.drop oo').take (min l' l)).length=min l' l:=by simp;omega
      have R':Rel P w0 pr A n (w.setRow b (putCells C oo cs.toArray)) a.tmps (J.put t (some (.box (putAt xs oo ((ys.drop oo').take (min l' l)))))) tk:=by
       refine R.write hm ht jg (o':= .box (putAt xs oo ((ys.drop oo').take (min l' l)))) rfl (m':=(J.put t (some (.box (putAt xs oo ((ys.drop oo').take (min l' l)))))).m) (by simp[St.put]) (fun t'' q hne hq=>by simpa[St.put,hne]using hq) ?_ (fun t'' q c' hne hq htk hr=> ?_)
       ·refine⟨b,cap,putCells C oo cs.toArray,tt,ht,setRow_heap w b C _ tt _ g2, ?_⟩
        have hcs:ct w pr tk (putCells C oo cs.toArray) (putAt xs oo ((ys.drop oo').take (min l' l))):=by
         have g:=fun i=>fW (C:=C) (V:=cs.toArray) (off:=oo) (by omega) i;refine⟨by rw[cH (by omega),eX (by omega)];exact hC,fun i c hc=> ?_,fun i c x hc hx=> ?_⟩
         ·rw[g]at hc;split at hc
          ·exact rK c (Lz (by simpa using hc))
          ·exact g3.2.1 _ c hc
         ·rw[g]at hc;rw[gD (by omega)]at hx;split at hc
          ·rename_i hi;rw[if_pos (by omega)]at hx;have hlt:i-oo<min l' l:=by omega
           rw[List.getElem?_toArray,gY _ hlt]at hc;rw[List.getElem?_take_of_lt hlt,List.getElem?_drop]at hx;exact k3.2.2 _ c x hc hx
          ·rename_i hi;rw[if_neg (by omega)]at hx;exact g3.2.2 _ c x hc hx
        exact hcs.keeps K
       ·have hq':J.m t''=some q:=by simpa[St.put,hne]using hq
        rcases R.mem.inj t'' t q _ b c' cap hq' hm htk ht with h|⟨h1,h2⟩
        ·exact absurd h hne
        ·rw[h2]at h1;simp[HO.gV]at h1
      refine⟨_,_,ai, ?_⟩;cases x with
      |none=>cases h;exact R'
      |some i=>cases h;exact R'.put (hx i rfl) (dU.refl _ _) (.v rfl)
   ·cases h
  ·cases h
 ·cases h
theorem Rel.alias(R:Rel P w0 pr A n w a.tmps J tk){x:Nat}(hx:x<n){g:Tok}{e:Nat}{es:List (List D)}{d:D}{v:Value}{b cap:Nat}(hblk:w0.heap.size≤b∨A.a b)(hb:b<w.heap.size)
  (Fx: ∀t q c,J.m t=some q→tk t=some (b,c)→q.gV=some g)
  (ho: ∀tk':ahw,tk' (J.tok x)=some (b,cap)→(∀t p,tk t=some p→tk' t=some p)→nc P w pr tk' (J.tok x) (.row g e es))
  (hv: ∀tk':ahw,tk' (J.tok x)=some (b,cap)→ao w pr tk' v d): ∃tk',Rel P w0 pr A n w (a.put (some x) v).tmps (J.new x (.row g e es) d) tk':=by
 let tk':ahw:=fun t=>if t=J.tok x then some (b,cap)else tk t
 have AG:tk (J.tok x)=none:=R.fresh x (J.c x) [] (Nat.le_refl _);have cz:tk' (J.tok x)=some (b,cap):=by simp[tk']
 have AF: ∀t p,tk t=some p→tk' t=some p:=fun t p h=>by
  have:t≠J.tok x:=fun e=>by rw[e,AG]at h;cases h
  simp[tk',this,h]
 have K:=R.jG (dU.refl _ _) AF
 have hm: ∀t q,(J.new x (.row g e es) d).m t=some q→(t=J.tok x∧q= .row g e es)∨(t≠J.tok x∧J.m t=some q):=fun t q h=>by
  simp only[St.new,St.NF,St.lO,St.put]at h;split at h
  ·cases h;exact .inl ⟨by assumption,rfl⟩
  ·exact .inr ⟨by assumption,h⟩
 have hold: ∀t b c,t≠J.tok x→tk' t=some (b,c)→tk t=some (b,c):=fun t b c hne ht=>by
  simpa only[tk',if_neg hne]using ht
 refine⟨tk',by simp[Act.put,R.size],R.chg,R.prlt,R.prA,R.glob,⟨fun t q h=> ?_,fun t t' q q' b1 c c' h h' ht ht'=> ?_⟩,fun t q b1 c h ht=> ?_,fun y k r hk=> ?_,fun t=>by simp only[tk',St.tok,List.cons.injEq,show¬(0=x+1) by omega,false_and,if_false];exact R.zero t,fun l p=>by simp only[tk',St.tok,List.cons.injEq,reduceCtorEq,and_false,if_false];exact R.one l p,fun i hi=> ?_,fun i hi=>by
  show ao _ pr tk' (A.sv i) (if i=x then d else J.s i)
  rw[if_neg (show i≠x by omega)];exact(R.sav i hi).keeps K⟩
 ·rcases hm t q h with⟨rfl,rfl⟩|⟨hne,h⟩
  ·exact ho tk' cz AF
  ·exact(R.mem.obj t q h).keeps K fun _ _ _=>rfl
 ·rcases hm t q h with⟨e1,e2⟩|⟨hne,k1⟩<;>rcases hm t' q' h' with⟨e3,e4⟩|⟨Cq,k2⟩
  ·exact .inl (e1.trans e3.symm)
  ·rw[e1,cz]at ht;cases ht;right;rw[e2,Fx t' q' c' k2 (hold t' _ c' Cq ht')];exact⟨rfl,rfl⟩
  ·rw[e3,cz]at ht';cases ht';right;rw[e4,Fx t q c k1 (hold t _ c hne ht)];exact⟨rfl,rfl⟩
  ·exact R.mem.inj t t' q q' b1 c c' k1 k2 (hold t b1 c hne ht) (hold t' b1 c' Cq ht')
 ·rcases hm t q h with⟨rfl,rfl⟩|⟨hne,h⟩
  ·rw[cz]at ht;cases ht;exact hblk
  ·exact R.live t q b1 c h (hold t b1 c hne ht)
 ·simp only[St.new,St.inc,St.Pj,St.Pb]at hk
  have hne:(y+1)::k::r≠J.tok x:=fun e=>by
   simp only[St.tok,List.cons.injEq]at e;obtain⟨e1,e2,_⟩:=e;have:y=x:=by omega
   subst this;rw[if_pos rfl]at hk;omega
  simp only[tk',if_neg hne];refine R.fresh y k r ?_;split at hk<;>omega
 ·simp only[Act.put,kB (show x<a.tmps.size by rw[R.size];exact hx),St.new,St.H8,St.set];split
  ·exact hv tk' cz
  ·exact(R.slot i hi).keeps K
theorem Rel.UX(R:Rel P w0 pr A n w a.tmps J tk){t:Tok}{o:HO}{b c:Nat}(hm:J.m t=some o)(ht:tk t=some (b,c)){w':World}(hc:dU (fun k=>k=b) w w'){m':Mem}
  (iU: ∀t' q,m' t'=some q→J.m t'=some q) (Fx: ∀t' q c',m' t'=some q→tk t'=some (b,c')→nc P w pr tk t' q→nc P w' pr tk t' q):Rel P w0 pr A n w' a.tmps ⟨J.s,m',J.c⟩ tk:=by
 have K:dW w w' pr pr tk tk:=⟨fun b' x h=>⟨hc.block b' (R.vt b' x h) (fun e=>by subst e;exact R.free hm ht h),h⟩,fun _ _ h=>h⟩;refine⟨R.size,R.chg.trans hc (fun k hk e=> ?_),R.prlt,R.prA,R.glob.keeps K.cell,⟨fun t' q (h:m' t'=some q)=> ?_,fun t1 t2 q1 q2 b' c1 c2 h1 h2 g1 g2=> ?_⟩,fun t' q b' c' h h1=> ?_,R.fresh,R.zero,R.one,fun i hi=>(R.slot i hi).keeps K,fun i hi=>(R.sav i hi).keeps K⟩
 ·subst e;rcases R.live t o k c hm ht with h|h
  ·omega
  ·exact h
 ·have hr:=R.mem.obj t' q (iU t' q h);obtain⟨b1,c1,h1,h2⟩:=hr.place;by_cases hb:b1=b
  ·subst hb;exact Fx t' q c1 h h1 hr
  ·exact hr.keeps K fun b2 c2 h3=>by
    rw[h1]at h3;cases h3;exact hc.block b1 h2 hb
 ·exact R.mem.inj t1 t2 q1 q2 b' c1 c2 (iU _ _ h1) (iU _ _ h2) g1 g2
 ·exact R.live t' q b' c' (iU _ _ h) h1
theorem F'{e:Nat}{es:List (List D)}{us:Nat→Value}{C:Array Value}(hsz: ∀c∈es,c.length=P.cellsOf e)(hC: ∀j,j<es.length*P.cellsOf e→C[j]?=some (us j))
  (h1: ∀j,j<es.length*P.cellsOf e→(us j).oneCell'=true) (hr: ∀(i:Nat) (c:List D),es[i]?=some c→ ∀(j:Nat) (x:D),c[j]?=some x→ao w pr tk (us (i*P.cellsOf e+j)) x):bk P w pr tk C e es:=by
 refine⟨hsz,fun i c hc j d hd=> ?_⟩;have hi:=(Gz.1 hc).1;have hj:j<P.cellsOf e:=by rw[←hsz c (Lz hc)];exact(Gz.1 hd).1
 have hlt:i*P.cellsOf e+j<es.length*P.cellsOf e:=by
  have:(i+1)*P.cellsOf e≤es.length*P.cellsOf e:=Nat.mul_le_mul_right _ hi;rw[Nat.add_mul]at this;omega
 exact⟨_,hC _ hlt,h1 _ hlt,hr i c hc j d hd⟩
theorem uB{e:Nat}{es1 es2:List (List D)}{C C1 C2:Array Value}(h1:bk P w pr tk C1 e es1)(h2:bk P w pr tk C2 e es2)(g1: ∀j,j<es1.length*P.cellsOf e→C[j]?=C1[j]?)
  (g2: ∀j,j<es2.length*P.cellsOf e→C[es1.length*P.cellsOf e+j]?=C2[j]?):bk P w pr tk C e (es1++es2):=by
 refine⟨fun c hc=>(List.mem_append.1 hc).elim (h1.1 c) (h2.1 c),fun i c hc j d hd=> ?_⟩
 have below: ∀{es:List (List D)} {i:Nat},(∀c∈es,c.length=P.cellsOf e)→es[i]?=some c→i*P.cellsOf e+j<es.length*P.cellsOf e:=fun{es i} hs hc=>by
  have hi:=(Gz.1 hc).1;have hj:j<P.cellsOf e:=by rw[←hs c (Lz hc)];exact(Gz.1 hd).1
  have:(i+1)*P.cellsOf e≤es.length*P.cellsOf e:=Nat.mul_le_mul_right _ hi;rw[Nat.add_mul]at this;omega
 by_cases hi:i<es1.length
 ·rw[Yz hi]at hc;obtain⟨u,hu,k1,k2⟩:=h1.2 i c hc j d hd;exact⟨u,by rw[g1 _ (below h1.1 hc)];exact hu,k1,k2⟩
 ·rw[Xz (by omega)]at hc;obtain⟨u,hu,k1,k2⟩:=h2.2 _ c hc j d hd;refine⟨u, ?_,k1,k2⟩
  have e1:i*P.cellsOf e+j=es1.length*P.cellsOf e+((i-es1.length)*P.cellsOf e+j):=by
   rw[←Nat.add_assoc,←Nat.add_mul];congr 2;omega
  rw[e1,g2 _ (below h2.1 hc)];exact hu
theorem bk.take{e k:Nat}{es:List (List D)}{C:Array Value}(h:bk P w pr tk C e es):bk P w pr tk C e (es.take k):=
 ⟨fun c hc=>h.1 c (List.mem_of_mem_take hc),fun i c hc j d hd=>by
  have hlt:i<k:=by have:=(Gz.1 hc).1;simp at this;omega
  rw[List.getElem?_take_of_lt hlt]at hc
  exact h.2 i c hc j d hd⟩
theorem bk.drop{e k:Nat}{es:List (List D)}{C C':Array Value}(h:bk P w pr tk C e es)(hC: ∀j,j<(es.length-k)*P.cellsOf e→C'[j]?=C[k*P.cellsOf e+j]?):bk P w pr tk C' e (es.drop k):=
 ⟨fun c hc=>h.1 c (List.mem_of_mem_drop hc),fun i c hc j d hd=>by
  rw[List.getElem?_drop]at hc;obtain⟨u,hu,k1,k2⟩:=h.2 (k+i) c hc j d hd;have hi:=(Gz.1 hc).1;have hj:j<P.cellsOf e:=by rw[←h.1 c (Lz hc)];exact(Gz.1 hd).1
  have hlt:i*P.cellsOf e+j<(es.length-k)*P.cellsOf e:=by
   have:(i+1)*P.cellsOf e≤(es.length-k)*P.cellsOf e:=Nat.mul_le_mul_right _ (by omega)
   grind
  refine⟨u, ?_,k1,k2⟩;rw[hC _ hlt,←hu];congr 1
  rw[Nat.add_mul];omega⟩
end
end
section
section
variable {P : Program} {w0 w : World} {pr : aX} {A : iJ} {n : Nat} {tk : ahw} {J : St} {a : Act}
theorem dU.B6(A:Nat→Prop)(w:World)(o:Obj):dU A w (w.drew.alloc o):=
 ⟨rfl,rfl,rfl,Nat.le_of_lt ((Array.getElem?_eq_some_iff.1 (Go.MapKept.heap_alloc w.drew o).1).1),fun k hk _=>(Go.MapKept.heap_alloc w.drew o).2 k hk,Nat.le_succ _⟩
theorem Rel.less(R:Rel P w0 pr A n w a.tmps J tk){m':Mem}(h: ∀t q,m' t=some q→J.m t=some q):Rel P w0 pr A n w a.tmps ⟨J.s,m',J.c⟩ tk:=
 ⟨R.size,R.chg,R.prlt,R.prA,R.glob,⟨fun t o ho=>R.mem.obj t o (h t o ho),fun t t' o o' b c c' h1 h2=>R.mem.inj t t' o o' b c c' (h _ _ h1) (h _ _ h2)⟩,fun t o b c ho=>R.live t o b c (h t o ho),R.fresh,R.zero,R.one,R.slot,R.sav⟩
theorem qu{t ty e:Nat}{i:TypeInfo}(ht:P.underlying t=some (.slice e))(hi:P.info? e=some i){b o len c:Nat}(hlc:len≤c){v2:Value}(h2:v2= .slice none 0 0∨ ∃a c2,v2= .slice (some a) 0 c2):
  (Builtin.append_ #[t,t] ty #[.slice (some ⟨b,o,none⟩) len c,v2]).run P w= .ok (.slice (some ⟨b,o,none⟩) len c) w:=by
 rcases h2 with rfl|⟨a,c2,rfl⟩
 ·simp[Builtin.append_,run_underlying ht,sizeOf,typeInfo,hi,Builtin.lenOf,Builtin.firstCells,hlc,storeCells]
 ·simp[Builtin.append_,run_underlying ht,sizeOf,typeInfo,hi,Builtin.lenOf,Builtin.firstCells,hlc,storeCells,loadCells,loadCellsFrom]
theorem Et(M:dK P w pr tk J.m){v:Value}{d:D}{es:List (List D)}{e:Nat}(h:ao w pr tk v d)(he:d.elems J.m=some es)(hsz: ∀c∈es,c.length=P.cellsOf e)(hne:es≠ []):
  ∃(a:Addr) (cap:Nat) (news:List Value),v= .slice (some a) es.length cap∧news.length=es.length*P.cellsOf e∧(∀(j:Nat) (u:Value),news[j]?=some u→w.cell? (a.add j)=some u)∧(∀u∈news,u.oneCell'=true)∧
   ∀C:Array Value,(∀j,j<es.length*P.cellsOf e→C[j]?=news[j]?)→bk P w pr tk C e es:=by
 rcases eP M h he with⟨_,h0⟩|⟨b,off,cap,size,us,rfl,h1,h2,h3,h4⟩
 ·exact absurd h0 hne
 ·have hse:size=P.cellsOf e:=by
   cases es with
   |nil=>exact absurd rfl hne
   |cons c r=>rw[←h2 c (by simp),hsz c (by simp)]
  subst hse;refine⟨⟨b,off,none⟩,cap,(List.range (es.length*P.cellsOf e)).map us,rfl,by simp,fun j u hu=> ?_,fun u hu=> ?_,fun C hC=> ?_⟩
  ·simp only[Dz,Mz]at hu;obtain⟨k,hk,rfl⟩:=hu;obtain⟨hlt,rfl⟩:=Gz.1 hk;simp only[List.length_range]at hlt;rw[dN,List.getElem_range];exact(h3 j hlt).1
  ·simp only[List.mem_map,List.mem_range]at hu;obtain⟨k,hk,rfl⟩:=hu;exact(h3 k hk).2
  ·refine F' hsz (us:=us) (fun j hj=> ?_) (fun j hj=>(h3 j hj).2) h4;rw[hC j hj];simp[List.getElem?_range hj]
theorem L9 (R : Rel P w0 pr A n w a.tmps J tk) {t ty e x : Nat} {i : TypeInfo} {z : Value} {av bv' : Value} {d1 d2 : D} {J' : St} (ht : P.underlying t = some (.slice e)) (hi : P.info? e = some i) (hz : i.zero = some z)
    (hzs : z.cells.size = i.size) (hby : i.bytes ≤ 8192) (hx : x < n)
    (ha : ao w pr tk av d1) (hb : ao w pr tk bv' d2) (h : sU x e i.size d1 d2 J = some J') :
    ∃ v' w' tk', (Builtin.append_ #[t, t] ty #[av, bv']).run P w = .ok v' w' ∧ Rel P w0 pr A n w' (a.put (some x) v').tmps J' tk' := by
  have hce : P.cellsOf e = i.size := by simp [Program.cellsOf, hi]
  unfold sU at h
  rw [Bz] at h
  obtain ⟨es2, he2, h⟩ := h
  split at h
  · cases h
  rename_i bN
  have hs2 : ∀ c ∈ es2, c.length = P.cellsOf e := fun c hc => by
    have bN : es2.all (fun c => c.length == i.size) = true := by simpa only [Bool.not_eq_false] using bN
    rw [hce]; simpa using Tz.1 bN c hc
  have HU : es2 = [] → bv' = .slice none 0 0 ∨ ∃ a c2, bv' = .slice (some a) 0 c2 := fun h0 => by
    subst h0
    rcases eP R.mem hb he2 with ⟨rfl | ⟨a, cap, rfl⟩, _⟩ | ⟨b, off, cap, size, us, rfl, _⟩
    · exact .inl rfl
    · exact .inr ⟨_, _, rfl⟩
    · exact .inr ⟨_, _, rfl⟩
  have grown : ∀ (J1 : St) (_ : Rel P w0 pr A n w a.tmps J1 tk) (C : Array Value) (g : Tok) (es : List (List D)) (old : Nat), es.length ≤ maxLen → C.size = grownCap w es.length old e * P.cellsOf e → bk P w pr tk C e es →
      ∃ tk', Rel P w0 pr A n (w.drew.alloc (.cells C e)) (a.put (some x) (.slice (some ⟨w.heap.size, 0, none⟩) es.length (grownCap w es.length old e))).tmps (J1.new x (.row g e es) (.sl (J1.tok x) i.size 0 es.length none)) tk' := by
    intro J1 R C g es old x_ hC gi
    have hc := dU.B6 (fun _ => False) w (.cells C e)
    have hge := grownCap_ge w es.length old e
    refine R.alloc hx (cap := grownCap w es.length old e) hc (fun tk' hs he => ?_) fun tk' hs => ?_
    · exact ⟨w.heap.size, _, C, hs, heap_alloc_new w.drew _, hge, grownCap_le_maxLen w _ _ e x_, hC, gi.keeps (R.jG hc he)⟩
    · exact .sl hs (by simp) hge (.inl (by simp))
  have m63 : ∀ {k : Nat}, k ≤ aD → k ≤ maxLen := fun {k} h => by simp only [aD] at h; simp only [maxLen]; omega
  have mby : ∀ {k : Nat}, k ≤ aD → k * i.bytes ≤ 140737488355328 := fun {k} h => by
    simp only [aD] at h
    calc k * i.bytes ≤ 1048576 * 8192 := Nat.mul_le_mul h hby
      _ ≤ _ := by decide
  have zc : ∀ k : Nat, (Builtin.zeroCells z.cells k).size = k * P.cellsOf e := fun k => by rw [size_zeroCells, hzs, hce]
  have HP : ∀ (rS news : List Value) (n1 n2 old : Nat), rS.length = n1 * P.cellsOf e → news.length = n2 * P.cellsOf e →
      (rS.toArray ++ news.toArray ++ Builtin.zeroCells z.cells (grownCap w (n1 + n2) old e - (n1 + n2))).size = grownCap w (n1 + n2) old e * P.cellsOf e := by
    intro rS news n1 n2 old h1 h2
    have hge := grownCap_ge w (n1 + n2) old e
    rw [Array.size_append, zc, Array.size_append, List.size_toArray, List.size_toArray, h1, h2, ← Nat.add_mul, ← Nat.add_mul]
    congr 1
    omega
  cases d1 <;> simp only [] at h <;> try (cases h; done)
  case nil =>
    cases ha
    by_cases h0 : es2 = []
    · subst h0
      simp only [List.isEmpty_nil, if_true, Jz] at h
      subst h
      rcases HU rfl with rfl | ⟨a2, c2, rfl⟩
      · exact ⟨.slice none 0 0, w, tk, by simp [Builtin.append_, run_underlying ht, sizeOf, typeInfo, hi, Builtin.lenOf, Builtin.firstCells], R.put hx (dU.refl _ _) .nil⟩
      · exact ⟨.slice none 0 0, w, tk, by simp [Builtin.append_, run_underlying ht, sizeOf, typeInfo, hi, Builtin.lenOf, Builtin.firstCells, loadCells, loadCellsFrom], R.put hx (dU.refl _ _) .nil⟩
    · rw [if_neg (by simpa using h0)] at h
      split at h <;> cases h
      rename_i x_
      obtain ⟨ad, cap, news, rfl, h1, h2, h3, h4⟩ := Et R.mem hb he2 hs2 h0
      have rM : 0 < es2.length := List.length_pos_iff.2 h0
      have ai := run_append_nil (P := P) w t ty e i z ht hi hz ad es2.length cap news (by rw [← hce]; exact h1) h2 rM (by have := m63 x_; simp only [maxLen] at this; omega) (by have := mby x_; omega)
      obtain ⟨tk', R'⟩ := grown J R (news.toArray ++ Builtin.zeroCells z.cells (grownCap w es2.length 0 e - es2.length)) (J.tok x) es2 0 (m63 x_) (by
          have := HP [] news 0 es2.length 0 (by simp) h1
          simpa using this) (h4 _ fun j hj => by
            rw [Array.getElem?_append_left (by simp; omega)]; simp)
      exact ⟨_, _, tk', ai, R'⟩
  case sl τ kM off len lim =>
    cases ha with
    | sl htk hcc hl ho =>
      rename_i b cap c o
      by_cases h0 : es2 = []
      · subst h0
        simp only [List.isEmpty_nil, if_true, Jz] at h
        subst h
        exact ⟨_, w, tk, qu ht hi hl (HU rfl), R.put hx (dU.refl _ _) (.sl htk hcc hl ho)⟩
      · rw [if_neg (by simpa using h0)] at h
        obtain ⟨ad, te, news, rfl, h1, h2, h3, h4⟩ := Et R.mem hb he2 hs2 h0
        have rM : 0 < es2.length := List.length_pos_iff.2 h0
        split at h
        · rename_i g e' es1 hm
          split at h
          · rename_i br
            obtain ⟨rfl, rfl, x_, hle⟩ := br
            obtain ⟨b', ng, C, k1, k3, k5, k6, k7, k8⟩ := R.mem.obj τ _ hm
            rw [htk] at k1; cases k1
            have KX : bk P w pr tk C e' es1 := k8
            have holds : ∀ (oo : Nat), (oo = off * P.cellsOf e' ∨ len = 0) → ∃ rS : List Value, rS.length = len * P.cellsOf e' ∧ (∀ (j : Nat) (u : Value), rS[j]? = some u → w.cell? ((⟨b, oo, none⟩ : Addr).add j) = some u) ∧
                ∀ C' : Array Value, (∀ j, j < len * P.cellsOf e' → C'[j]? = rS[j]?) → bk P w pr tk C' e' ((es1.drop off).take len) := by
              intro oo hoo
              by_cases hl0 : len = 0
              · subst hl0
                exact ⟨[], by simp, by simp, fun C' _ => ⟨by simp, by simp⟩⟩
              have hoo : oo = off * P.cellsOf e' := hoo.resolve_right hl0
              subst hoo
              have Fw : (off + len) * P.cellsOf e' ≤ cap * P.cellsOf e' := Nat.mul_le_mul_right _ (by omega)
              rw [Nat.add_mul] at Fw
              have gY : ∀ j, j < len * P.cellsOf e' → (List.take (len * P.cellsOf e') (List.drop (off * P.cellsOf e') C.toList))[j]? = C[off * P.cellsOf e' + j]? := fun j hj => by
                rw [List.getElem?_take_of_lt hj, List.getElem?_drop, Array.getElem?_toList]
              refine ⟨(C.toList.drop (off * P.cellsOf e')).take (len * P.cellsOf e'), by simp; omega, fun j u hu => ?_, fun C' hC' => ?_⟩
              · have hj : j < len * P.cellsOf e' := by have := (Gz.1 hu).1; simp at this; omega
                rw [gY j hj] at hu
                rw [dN, cell_of_row w b _ C e' (0, 0) k3]
                exact hu
              · have : bk P w pr tk C' e' ((es1.take (off + len)).drop off) := bk.drop (C := C) KX.take (fun j hj => by
                    have hj' : j < len * P.cellsOf e' := by
                      have e1 : (es1.take (off + len)).length - off = len := by simp; omega
                      rw [e1] at hj; exact hj
                    rw [hC' j hj', gY j hj'])
                rw [List.drop_take] at this
                have e1 : off + len - off = len := by omega
                rwa [e1] at this
            have grow : ∀ (oo : Nat), (oo = off * P.cellsOf e' ∨ len = 0) → c < len + es2.length → (es1.drop off).length ≥ len → ∀ (g' : Tok) (J1 : St) (_ : Rel P w0 pr A n w a.tmps J1 tk), ∃ v' w' tk', (Builtin.append_ #[t, t] ty #[.slice (some ⟨b, oo, none⟩) len c, .slice (some ad) es2.length te]).run P w = .ok v' w' ∧
                Rel P w0 pr A n w' (a.put (some x) v').tmps (J1.new x (.row g' e' ((es1.drop off).take len ++ es2)) (.sl (J1.tok x) i.size 0 (len + es2.length) none)) tk' := by
              intro oo hoo hlt hlen g' J1 R1
              obtain ⟨rS, q1, q2, q3⟩ := holds oo hoo
              have ai := run_append_grow (P := P) w t ty e' i z ht hi hz ⟨b, oo, none⟩ len c rS (by rw [← hce]; exact q1) q2 ad es2.length te news (by rw [← hce]; exact h1) h2 hlt (by have := m63 x_; simp only [maxLen] at this; omega) (growslice_fits hlt (mby x_))
              have hl2 : ((es1.drop off).take len ++ es2).length = len + es2.length := by simp at hlen ⊢; omega
              have gi : bk P w pr tk (rS.toArray ++ news.toArray ++ Builtin.zeroCells z.cells (grownCap w (len + es2.length) c e' - (len + es2.length))) e' ((es1.drop off).take len ++ es2) := by
                have e1 : ((es1.drop off).take len).length = len := by simp at hlen ⊢; omega
                refine uB (C1 := rS.toArray) (C2 := news.toArray) (q3 _ fun j hj => by simp) (h4 _ fun j hj => by simp) (fun j hj => ?_) (fun j hj => ?_)
                · rw [e1] at hj
                  rw [Array.getElem?_append_left (by simp; omega), Array.getElem?_append_left (by simp; omega)]
                · rw [e1]
                  rw [Array.getElem?_append_left (by simp; omega), Array.getElem?_append_right (by simp; omega)]
                  congr 1
                  simp; omega
              obtain ⟨tk', R'⟩ := grown J1 R1 _ g' ((es1.drop off).take len ++ es2) c (by rw [hl2]; exact m63 x_) (by rw [hl2]; exact HP rS news len es2.length c q1 h1) gi
              rw [hl2] at R'
              exact ⟨_, _, tk', ai, R'⟩
            split at h
            · split at h <;> cases h
              rename_i rJ
              subst rJ
              have ho0 : o = 0 := by rcases ho with h | h; simpa using h; omega
              subst ho0
              simp only [Option.getD_none, Nat.sub_zero] at hcc
              subst hcc
              have WZ : Rel P w0 pr A n w a.tmps (J.aG g len) tk := R.less fun t q h => (cr h).1
              by_cases Eh : len + es2.length ≤ c
              · have vl : len * i.size + news.length ≤ C.size := by
                  rw [h1, k7, hce, ← Nat.add_mul]
                  exact Nat.mul_le_mul_right _ Eh
                have ai := run_append_room (P := P) w t ty e' i ht hi b len c C k3 ad es2.length te news (by rw [← hce]; exact h1) h2 h3 Eh vl
                have hC' : (C.toList.take (len * i.size) ++ news ++ C.toList.drop (len * i.size + news.length)).toArray = putCells C (len * i.size) news.toArray := by simp [putCells]
                rw [hC'] at ai
                have hns : news.toArray.size = news.length := by simp
                have gY := fun k => fW (C := C) (V := news.toArray) (off := len * i.size) (by simpa using vl) k
                have jg := dU.setRow w b (putCells C (len * i.size) news.toArray)
                have Nu : ∀ (es' : List (List D)), es'.length ≤ len → bk P w pr tk C e' es' → bk P w pr tk (putCells C (len * i.size) news.toArray) e' es' := fun es' hl hr => by
                  refine ⟨hr.1, fun k q hq l d hd => ?_⟩
                  rw [gY]
                  have hkl := (Gz.1 hq).1
                  have hll : l < P.cellsOf e' := by rw [← hr.1 q (Lz hq)]; exact (Gz.1 hd).1
                  have : (k + 1) * P.cellsOf e' ≤ len * P.cellsOf e' := Nat.mul_le_mul_right _ (by omega)
                  rw [Nat.add_mul] at this
                  rw [if_neg (by rw [← hce]; omega)]
                  exact hr.2 k q hq l d hd
                have K : dW w (w.setRow b (putCells C (len * i.size) news.toArray)) pr pr tk tk := ⟨fun b' x h => ⟨jg.block b' (R.vt b' x h) (fun e => by subst e; exact R.free hm htk h), h⟩, fun _ _ h => h⟩
                have NG : ∀ t' q c', J.m t' = some q → tk t' = some (b, c') → q.gV = some g := fun t' q c' hq ht' => by
                  rcases R.mem.inj t' τ q _ b c' c hq hm ht' htk with rfl | ⟨_, g2⟩
                  · rw [hm] at hq; cases hq; rfl
                  · rw [g2]; rfl
                have R1 : Rel P w0 pr A n (w.setRow b (putCells C (len * i.size) news.toArray)) a.tmps (J.aG g len) tk := R.UX hm htk jg (m' := (J.aG g len).m) (fun t' q h => (cr h).1) (fun t' q c' h ht' hr => by
                  obtain ⟨hq1, hq2⟩ := cr h
                  have hg := NG t' q c' hq1 ht'
                  cases q with
                  | box => simp [HO.gV] at hg
                  | map => simp [HO.gV] at hg
                  | iter => simp [HO.gV] at hg
                  | raw => simp [HO.gV] at hg
                  | row g' e'' es' =>
                    simp only [HO.gV, Jz] at hg
                    subst hg
                    have Cr := hq2 e'' es' rfl
                    obtain ⟨b2, aeR, C2, j1, j3, j5, j6, j7, j8⟩ := hr
                    rw [ht'] at j1; cases j1
                    rw [k3] at j3; cases j3
                    exact ⟨b, c', _, ht', setRow_heap w b C _ e' _ k3, j5, j6, by rw [cH (by simpa using vl)]; exact j7, (Nu es' Cr j8).keeps K⟩)
                obtain ⟨tk', R2⟩ := R1.alias hx (g := g) (e := e') (es := es1.take len ++ es2) (d := .sl (J.tok x) i.size 0 (len + es2.length) none) (v := .slice (some ⟨b, 0, none⟩) (len + es2.length) c) (b := b) (cap := c)
                  (R.live τ _ b c hm htk) (by have := (Array.getElem?_eq_some_iff.1 k3).1; simpa using this) (fun t' q c' h ht' => NG t' q c' (cr h).1 ht') (fun tk' hs he => by
                    have K2 := R.jG (dU.refl _ w) he
                    have K3 : dW w (w.setRow b (putCells C (len * i.size) news.toArray)) pr pr tk tk' := ⟨K.cell, he⟩
                    have hl1 : (es1.take len).length = len := by simp; omega
                    refine ⟨b, c, _, hs, setRow_heap w b C _ e' _ k3, by rw [List.length_append, hl1]; exact Eh, k6, by rw [cH (by simpa using vl)]; exact k7, ?_⟩
                    refine bk.keeps ?_ K3
                    refine uB (C1 := putCells C (len * i.size) news.toArray) (C2 := news.toArray) (Nu _ (by omega) k8.take) (h4 _ fun j hj => by simp) (fun j hj => rfl) (fun j hj => ?_)
                    rw [hce] at hj
                    rw [hce] at h1
                    rw [gY, hl1, hce, if_pos (by rw [hns, h1]; omega)]
                    congr 1
                    omega) (fun tk' hs => .sl hs (by simp) Eh (.inl (by simp)))
                exact ⟨_, _, tk', ai, R2⟩
              · have := grow 0 (.inl (by simp)) (by omega) (by simp; omega) g (J.aG g len) WZ
                simpa [St.tok] using this
            · rename_i cl
              split at h <;> cases h
              rename_i hlt
              simp only [Option.getD_some] at hcc
              subst hcc
              exact grow o (ho.imp (fun h => by rw [hce]; exact h) fun h => by omega) hlt (by simp; omega) _ J R
          · cases h
        · cases h
theorem BJ{e k l:Nat}{z:Value}{zd:List D}(h:ct w pr tk z.cells zd)(hz:z.cells.size=P.cellsOf e)(hl:l≤k):bk P w pr tk (madeCells z.cells (k*P.cellsOf e)) e (List.replicate l zd):=by
 have hzl:zd.length=P.cellsOf e:=by rw[←h.1,hz]
 refine⟨fun c hc=>by rw[List.eq_of_mem_replicate hc];exact hzl,fun i c hc j d hd=> ?_⟩;have hi:i<l:=by have:=(Gz.1 hc).1;simpa using this
 have:c=zd:=List.eq_of_mem_replicate (Lz hc);subst this;have hj:j<P.cellsOf e:=by rw[←hzl];exact(Gz.1 hd).1
 have hlt:i*P.cellsOf e+j<k*P.cellsOf e:=by
  have:(i+1)*P.cellsOf e≤k*P.cellsOf e:=Nat.mul_le_mul_right _ (by omega);rw[Nat.add_mul]at this;omega
 have hjz:j<z.cells.size:=by omega
 have SC:(i*P.cellsOf e+j)%z.cells.size=j:=by
  rw[hz,Nat.mul_comm,Nat.mul_add_mod,Nat.mod_eq_of_lt hj]
 refine⟨z.cells[j], ?_,h.2.1 j _ (Rz hjz),h.2.2 j _ d (Rz hjz) hd⟩;simp only[madeCells,Array.getElem?_map,Array.getElem?_range];rw[if_pos hlt];simp only[Pz,SC];rw[getElem!_pos z.cells j hjz]
theorem Md(R:Rel P w0 pr A n w a.tmps J tk){t e x:Nat}{i:TypeInfo}{z:Value}{zd:List D}{av bv':Value}{d1 d2:D}{J':St}(ht:P.underlying t=some (.slice e))(hi:P.info? e=some i)(hz:i.zero=some z)
  (hzs:z.cells.size=i.size) (hzd:ct w pr tk z.cells zd) (hsz:i.size≤40) (hby:i.bytes≤8192) (hx:x<n) (ha:ao w pr tk av d1) (hb:ao w pr tk bv' d2) (h:CJ x e i.size zd d1 d2 J=some J'):
  ∃v' w' tk',(Instr.makeSlice t av bv').run P w= .ok v' w'∧Rel P w0 pr A n w' (a.put (some x) v').tmps J' tk':=by
 have hce:P.cellsOf e=i.size:=by simp[Program.cellsOf,hi]
 unfold CJ at h;split at h
 ·rename_i k1 l k2 c;split at h<;>cases h;rename_i hc;obtain⟨h0,h1,h2,hcs⟩:=hc;obtain⟨rfl,_⟩:=aU.1 ha;obtain⟨rfl,_⟩:=aU.1 hb;have hmm:c≤1048576:=h2
  have ai:=run_makeSlice (P:=P) w t e i z ht hi hz k1 k2 l c h0 h1 (by omega) (by
    have:i.bytes*c.toNat≤8192*1048576:=Nat.mul_le_mul hby (by omega);have e1:((i.bytes*c.toNat:Nat):Int)=(i.bytes:Int)*c:=by rw[Int.natCast_mul,Int.toNat_of_nonneg (by omega)]
    omega) (by omega)
  have jg:=dU.alloc (fun _=>False) w (.cells (madeCells z.cells (c.toNat*i.size)) e)
  obtain⟨tk',R'⟩:=R.alloc hx (cap:=c.toNat) jg (o:= .row (J.tok x) e (List.replicate l.toNat zd)) (d:= .sl (J.tok x) i.size 0 l.toNat none) (v:= .slice (some ⟨w.heap.size,0,none⟩) l.toNat c.toNat) (fun tk' hs he=>by
    refine⟨w.heap.size,c.toNat,_,hs,(Go.MapKept.heap_alloc w _).1,by simp;omega,by simp only[maxLen];omega,by simp[madeCells,hce], ?_⟩;have q:=BJ (e:=e) (k:=c.toNat) (l:=l.toNat) hzd (by rw[hce];exact hzs) (by omega);rw[hce]at q
    exact q.keeps (R.jG jg he)) (fun tk' hs=> .sl hs (by simp) (by omega) (.inl (by simp)))
  grind
 ·cases h
theorem Mm{t e len:Nat}{ie:TypeInfo}{zv:Value}{parts:Array (Nat×Value)}{C:Array Value}(hu:P.underlying t=some (.slice e))(hie:P.info? e=some ie)(hzv:ie.zero=some zv)(hsm:len*ie.size≤65536)(rM:0<ie.size)
  (g1:Instr.fill (fun i=>some (i*ie.size,ie.size)) ((Array.range (len*ie.size)).map (zv.cells[· %zv.cells.size]!)) parts.toList=some C):
  (Instr.buildSlice t len parts).run P w= .ok (.slice (some ⟨w.heap.size,0,none⟩) len len) (w.alloc (.cells C e)):=by
 by_cases h0:len=0
 ·subst h0;have e0: ∀g:Nat→Value,(Array.range 0).map g= #[]:=fun g=>Array.eq_empty_of_size_eq_zero (by simp);simp only[Nat.zero_mul,e0]at g1;simp[Instr.buildSlice,run_underlying hu,sizeOf,typeInfo,hie,newRow,e0,g1]
 ·exact run_buildSlice w t e len parts C ie zv hu hie hzv (by omega) (by
   intro h;rcases Nat.mul_eq_zero.1 h with h|h
   ·grind
   ·omega) g1
theorem Ma(R:Rel P w0 pr A n w a.tmps J tk){t e size len x:Nat}{zero:List D}{places:List (Nat×Nat)}{parts:Array (Nat×Operand)}{E:Operand→Value}{ds:List D}{J':St}
  (hd:xD P t len (parts.toList.map (·.1))=some (e,size,zero,places)) (hx:x<n) (bg:a_ w pr tk ((parts.toList.map (·.2)).map E) ds) (h:CF x e size len zero places ds J=some J'):
  ∃v' w' tk',(Instr.buildSlice t len (parts.map fun(i,x)=>(i,E x))).run P w= .ok v' w'∧Rel P w0 pr A n w' (a.put (some x) v').tmps J' tk':=by
 unfold xD at hd;split at hd
 ·rename_i e' hu;rw[Bz]at hd;obtain⟨ie,hie,hd⟩:=hd;split at hd
  ·rename_i hsz;rw[Bz]at hd;obtain⟨z,hz,hd⟩:=hd;split at hd
   ·rename_i hzl;simp only[Jz,Prod.mk.injEq]at hd;obtain⟨rfl,rfl,rfl,rfl⟩:=hd;have hce:P.cellsOf e'=ie.size:=by simp[Program.cellsOf,hie]
    unfold CF at h;split at h
    ·rename_i bN;rw[Bz]at h;obtain⟨out,acL,h⟩:=h;split at h<;>cases h;rename_i hlen;obtain⟨i',zv,hi',hzv,hzr⟩:=iP (w:=w) (pr:=pr) (tk:=tk) hz;obtain rfl:ie=i':=by rw[hie]at hi';exact Option.some.inj hi'
     have hzs:zv.cells.size=ie.size:=by rw[hzr.1,hzl]
     have hzero:ct w pr tk ((Array.range (len*ie.size)).map (zv.cells[· %zv.cells.size]!)) ((List.range (len*ie.size)).map fun j=>z.getD (j%ie.size) .undef):=by
      have hj: ∀j,j%ie.size<zv.cells.size:=fun j=>by rw[hzs];exact Nat.mod_lt _ hsz.2
      refine⟨by simp,fun i c hc=> ?_,fun i c x hc hx=> ?_⟩
      ·simp only[Array.getElem?_map,Mz]at hc;obtain⟨j,_,rfl⟩:=hc;refine hzr.2.1 (j%ie.size) _ ?_
       grind
      ·simp only[Array.getElem?_map,Dz,Mz]at hc hx;obtain⟨j,hj1,rfl⟩:=hc;obtain⟨j',hj2,rfl⟩:=hx
       have hjj:j=j':=by
        grind
       subst hjj;refine hzr.2.2 (j%ie.size) _ _ ?_ ?_
       ·grind
       ·have hl:j%ie.size<z.length:=by rw[hzl];exact Nat.mod_lt _ hsz.2
        grind
     have hpl:(parts.toList.map fun p=>(p.1,E p.2)).mapM (fun p=>(fun i=>some (i*ie.size,ie.size)) p.1)=some ((parts.toList.map (·.1)).map fun k=>(k*ie.size,ie.size)):=by
      generalize parts.toList=l
      induction l with
      |nil=>rfl
      |cons a l ih=>simp only[List.map_cons,List.mapM_cons,ih];rfl
     obtain⟨C,g1,g2⟩:=tx (w:=w) (pr:=pr) (tk:=tk) (place:=fun i=>some (i*ie.size,ie.size)) (parts.toList.map fun p=>(p.1,E p.2)) _ _ _ _ out hzero hpl
      (by simpa[List.map_map,Function.comp_def]using bg) bN acL
     have hCl:C.size=len*P.cellsOf e':=by rw[g2.1,hlen,hce]
     have ai:=Mm (w:=w) hu hie hzv (by omega) hsz.2 (parts:=parts.map fun(i,x)=>(i,E x)) (len:=len) (C:=C) (by simpa using g1);have jg:=dU.alloc (fun _=>False) w (.cells C e')
     have hlb:len≤65536:=by
      have:len*1≤len*ie.size:=Nat.mul_le_mul_left _ hsz.2;omega
     obtain⟨tk',R'⟩:=R.alloc hx (cap:=len) jg (o:= .row (J.tok x) e' (kV ie.size len (out.map D.nz))) (d:= .sl (J.tok x) ie.size 0 len none) (v:= .slice (some ⟨w.heap.size,0,none⟩) len len) (fun tk' hs he=>by
       refine⟨w.heap.size,len,C,hs,(Go.MapKept.heap_alloc w _).1,by rw[gK];exact Nat.le_refl _,by simp only[maxLen];omega,hCl, ?_⟩;rw[←hce]
       exact(yw (I6 g2) (by rw[hce,List.length_map];exact hlen)).keeps (R.jG jg he)) (fun tk' hs=> .sl hs (by simp) (Nat.le_refl _) (.inl (by simp)))
     exact⟨_,_,tk',ai,R'⟩
    ·cases h
   ·cases hd
  ·cases hd
 ·cases hd
theorem Rel.called(R:Rel P w0 pr A n w a.tmps J tk){B:fe}(U:iL B w0 pr A){x:Nat}(hx:x<n){w':World}(hc:dU (fun _=>False) w w'){pr':aX}{v:Value}{d:D}
  (h1: ∀b o,pr b o→pr' b o) (h2: ∀b o,pr' b o→pr b o∨(w.heap.size≤b∧b<w'.heap.size)) (hv:ao w' pr' tk v d):dm P B n w' (a.put (some x) v).tmps (J.set x d):=by
 have K:dW w w' pr pr' tk tk:=⟨fun b o h=>⟨hc.block b (R.vt b o h) id,h1 b o h⟩,fun _ _ h=>h⟩
 have lt: ∀t q b c,J.m t=some q→tk t=some (b,c)→b<w.heap.size:=fun t q b c hm ht=>by
  obtain⟨b1,c1,g1,g2⟩:=(R.mem.obj t q hm).place;rw[ht]at g1;cases g1;exact g2
 have s1:=R.chg.size;have s2:=U.chg.size;have s3:=hc.size
 refine⟨w',pr',⟨bY tk J.m,A.z,A.sv⟩,tk,⟨by simp[Act.put,R.size],dU.refl _ _,fun b o h=> ?_,fun b o h hb=> ?_,R.glob.keeps K.cell,R.mem.keeps K fun t q b c hm ht=>hc.block b (lt t q b c hm ht) id,
  fun t q b c hm ht=> .inr ⟨t,q,c,hm,ht⟩,R.fresh,R.zero,R.one,fun i hi=> ?_,fun i hi=>by rw[St.dg _ _ (show i≠x by omega)];exact(R.sav i hi).keeps K⟩,⟨U.chg.trans (R.chg.trans hc fun _ _ h=>h.elim) fun b hb h=>U.sub b hb h,fun b hb h=> ?_,U.z,U.sv,fun b o h=>h1 b o (U.sup b o h),fun b o h=> ?_⟩⟩
 ·rcases h2 b o h with h|h
  ·have:=R.vt b o h;omega
  ·exact h.2
 ·obtain⟨t,q,c,hm,ht⟩:=hb;rcases h2 b o h with h|h
  ·exact R.free hm ht h
  ·have:=lt t q b c hm ht;omega
 ·simp only[Act.put,kB (show x<a.tmps.size by rw[R.size];exact hx),St.set];split
  ·exact hv
  ·exact(R.slot i hi).keeps K
 ·obtain⟨t,q,c,hm,ht⟩:=h;rcases R.live t q b c hm ht with h|h
  ·omega
  ·exact U.sub b hb h
 ·rcases h2 b o h with h|h
  ·exact U.inf b o h
  ·exact .inr (.inl (by omega))
def Cw:Op→Bool
 | .call _=>true
 |_=>false
theorem zX{op:BinOp}{t:Nat}{k:PK}(h:He P op t=some k):k.simple=true:=by
 unfold He at h
 (repeat' split at h)<;>(try cases h)<;>rfl
theorem xG{op:BinOp}{t:Nat}{k:PK}(h:Ac P op t=some k):k.simple=true:=by
 unfold Ac at h
 (repeat' split at h)<;>(try cases h)<;>rfl
theorem zV{op:BinOp}{t:Nat}{k:PK}(h:Hb P op t=some k):k.simple=true:=by
 unfold Hb at h
 (repeat' split at h)<;>first|(cases h;done)|(obtain⟨ks,_,rfl⟩:=Mz.1 h;rfl)
theorem B5{op:UnOp}{k:PK}(h:VN op=some k):k.simple=true:=by
 unfold VN at h
 (repeat' split at h)<;>(try cases h)<;>rfl
theorem xE{s t:Nat}{k:PK}(h:zY P s t=some k):k.simple=true:=by
 unfold zY at h
 (repeat' split at h)<;>(try cases h)<;>rfl
theorem z_{t:Nat}{k:PK}(h:Kn P t=some k):k.simple=true:=by
 unfold Kn at h
 (repeat' split at h)<;>(try cases h)<;>rfl
theorem xF{t:Nat}{k:PK}(h:Hk P t=some k):k.simple=true:=by
 obtain⟨g,_,h⟩:=Bz.1 h
 (repeat' split at h)<;>(try cases h)<;>rfl
theorem zW{t:Nat}{k:PK}(h:Hc P t=some k):k.simple=true:=by
 unfold Hc at h;split at h
 ·obtain⟨g,_,h⟩:=Bz.1 h
  (repeat' split at h)<;>(try cases h)<;>rfl
 ·cases h
theorem Ab{t:Nat}{x:Operand}{lo hi mx:Option Operand}{k:PK}{xs:List Operand}(h:Hl P t x lo hi mx=some (k,xs)):k.simple=true:=by
 unfold Hl at h
 (repeat' split at h)<;>(try cases h)<;>rfl
theorem Gd {fr : pI} {op : Op} {k : PK} {xs : List Operand} (ho : Cw op = false) (h : oK P fr op = some (k, xs)) : k.simple = true := by
  unfold oK at h
  split at h
  case h_11 => simp [Cw] at ho
  all_goals first
    | (cases h; rfl)
    | (cases h; done)
    | (obtain ⟨q, hq, he⟩ := Mz.1 h
       cases he
       first
         | rfl
         | exact xF hq
         | exact z_ hq
         | exact B5 hq
         | exact xE hq
         | exact zW hq
         | (rcases or3 hq with hq | hq | hq
            · exact zX hq
            · exact xG hq
            · exact zV hq))
    | exact Ab h
    | (split at h <;> cases h <;> rfl)
    | (split at h
       · cases h; rfl
       · split at h <;> cases h; rfl)
    | (obtain ⟨q, hq, he⟩ := Bz.1 h
       first
         | (split at he <;> cases he <;> rfl)
         | (obtain ⟨z, hz, he⟩ := Mz.1 he
            cases he
            rfl))
theorem Gf{r:Option Nat}{B:fe}{fr:pI}{Γ:Env}(hΓ:Sound P Γ){o:Oper}{k:PK}{xs:List Operand}{gs:List aL}{d:D}{x:Nat}{next:Act→World→Prop}{Q:Exit→Act→World→Prop}
  (R:Rel P w0 pr A n w a.tmps J tk) (U:iL B w0 pr A) (hd:oK P fr o.op=some (k,xs)) (hk:k.simple=false) (hgs:xs.mapM (ft n)=some gs) (hx:o.dst=some x) (hxn:x<n)
  (ai:k.run Γ J.m (gs.map (aL.val J.s))=some d) (h: ∀v w',dm P B n w' (a.put (some x) v).tmps (J.set x d)→next (a.put (some x) v) w'):Oper.vP r P o a w next Q:=by
 have fin: ∀(f:Nat) (cargs:Array Value),(execOp a.eval o).run P w= .ok (.enter f cargs) w→
   (Calls P f cargs w fun e w'=> ∃v pr',e= .returned v∧dU (fun _=>False) w w'∧(∀b o,pr b o→pr' b o)∧(∀b o,pr' b o→pr b o∨(w.heap.size≤b∧b<w'.heap.size))∧ao w' pr' tk v d)→Oper.vP r P o a w next Q:=fun f cargs he hc=>by
  refine kQ (ny hd) he (hc.mono ?_);rintro e w' ⟨v,pr',rfl,h2,h3,h4,h5⟩;refine⟨v,rfl, ?_⟩;rw[hx];exact h v w' (R.called U hxn h2 h3 h4 h5)
 have bg:=fi R hgs;generalize ho:o.op=op at hd;have hd0:=hd;have ho2:(∃c,op= .call c)∨Cw op=false:=by cases op<;>first|exact .inl ⟨_,rfl⟩|exact .inr rfl
 rcases ho2 with⟨c,rfl⟩|ho2
 case inr=>rw[Gd ho2 hd0]at hk;cases hk
 case inl=>
  simp only[oK]at hd;unfold Hg at hd;split at hd
  ·rename_i b hc;obtain⟨k',hk',hd⟩:=Mz.1 hd;cases hd;unfold mf at hk'
   split at hk'<;>first
    |(cases hk';done)
    |(cases hk';simp[PK.simple]at hk;done)
    |(split at hk'<;>cases hk'<;>simp[PK.simple]at hk)
  ·rename_i f hc;split at hd<;>cases hd;rename_i hlt;rcases qG (P:=P) (cargs:=c.args.map a.eval) hΓ R.mem (by simpa using bg) R.vt R.glob hlt.2 ai with⟨v,hv,hr⟩|⟨hb,oZ⟩
   ·refine cL (by rw[ho];rfl) (show(execOp a.eval o).run P w= .ok (.value v) w by simp[execOp,ho,resolve,hc,Act.eval,Deferred.ofValue,invoke,hv]) ?_;rw[hx];exact h v w ⟨_,_,_,_,R.put hxn (dU.refl _ _) hr,U⟩
   exact fin f _ (by simp[execOp,ho,resolve,hc,Act.eval,Deferred.ofValue,invoke,bD hb]) oZ
  ·rename_i t hc;cases hd;simp only[List.mapM_cons,Option.bind_eq_bind,Bz,Option.pure_def,Jz]at hgs;obtain⟨g,hg,gs',afI,rfl⟩:=hgs;simp only[List.map_cons,PK.run]at ai;have hfv:ao w pr tk (a.eval (.tmp t)) (g.val J.s):=bg.1;have iU:a_ w pr tk (c.args.toList.map a.eval) (gs'.map (aL.val J.s)):=bg.2;cases hgv:g.val J.s<;>rw[hgv]at ai<;>simp only[tf]at ai<;>try (cases ai;done)
   rename_i f eK;split at ai
   rotate_left
   ·grind
   rename_i Cn;rw[hgv]at hfv;generalize hev:a.eval (.tmp t)=fv at hfv;cases hfv with
   | @clo _ _ cv _ _ hs hr=>
    have abS:a_ w pr tk ((c.args.map a.eval)++cv).toList (gs'.map (aL.val J.s)++eK):=by
     rw[Array.toList_append];exact jx (by simpa using iU) (mX (by simpa using hs) fun i c x hc hx=>hr i c x (by simpa using hc) hx)
    rcases qG (P:=P) hΓ R.mem abS R.vt R.glob Cn ai with⟨v,hv,hr⟩|⟨hb,oZ⟩
    ·refine cL (by rw[ho];rfl) (show(execOp a.eval o).run P w= .ok (.value v) w by simp[execOp,ho,resolve,hc,hev,Deferred.ofValue,invoke,hv]) ?_;rw[hx];exact h v w ⟨_,_,_,_,R.put hxn (dU.refl _ _) hr,U⟩
    exact fin f _ (by simp[execOp,ho,resolve,hc,hev,Deferred.ofValue,invoke,bD hb]) oZ
   |bclo=>omega
  ·cases hd
end
end
section
def TG(x:Nat)(J:St):Option St:=some (J.new x (.map []) (.mp (J.tok x)))
def q9(ks:List Nat)(a k v:D)(J:St):Option St:=
 match a with
 | .mp t=>match J.m t with
  |some (.map es)=>if v.zt=true∧k.zt=true∧cj ks k k=some true then(cG ks k es 0).bind fun r=>match r with
   |some i=>(es[i]?).map fun p=>J.put t (some (.map (es.set i (p.1,v))))
   |none=>if es.length<aD then some (J.put t (some (.map (es++ [(k,v)]))))else none
   else none
  |_=>none
 |_=>none
section
variable {P : Program} {w0 w : World} {pr : aX} {A : iJ} {n : Nat} {tk : ahw} {J : St} {a : Act}
theorem EI(R:Rel P w0 pr A n w a.tmps J tk){x:Nat}(hx:x<n){t:Nat}{J':St}(h:TG x J=some J'):
  ∃v w' tk',(Instr.makeMap t none).run P w= .ok v w'∧Rel P w0 pr A n w' (a.put (some x) v).tmps J' tk':=by
 cases h
 obtain⟨tk',R'⟩:=R.alloc hx (cap:=0) (dU.alloc _ w (.map #[] 0)) (o:= .map []) (d:= .mp (J.tok x)) (v:= .map (some w.heap.size))
  (fun tk' hs _=>⟨_,_,#[],hs,(MapKept.heap_alloc w _).1,rfl,by simp,fun i en p he=>by simp at he⟩) (fun tk' hs=> .mp hs)
 exact⟨_,_,tk',by simp[Instr.makeMap],R'⟩
theorem DV{b:Nat}{o o':Obj}(hb:w.heap[b]?=some o):dU (fun k=>k=b) w {w with heap:=w.heap.setIfInBounds b o'}:=
 ⟨rfl,rfl,rfl,by simp,fun k _ hk=>(MapKept.heap_set hb).2 k hk,Nat.le_refl _⟩
theorem I3(R:Rel P w0 pr A n w a.tmps J tk){t e:Nat}{ks:List Nat}(hk:Fe P t=some (ks,e)){av kv vv:Value}{d k v:D}{J':St}(ha:ao w pr tk av d)(hkr:ao w pr tk kv k)(hv:ao w pr tk vv v)
  (h:q9 ks d k v J=some J'): ∃w',(Instr.mapUpdate t av kv vv).run P w= .ok () w'∧Rel P w0 pr A n w' a.tmps J' tk:=by
 obtain⟨kt,hu,L⟩:=v7 hk;unfold q9 at h;split at h
 ·rename_i u;split at h
  ·rename_i es hm;split at h
   rotate_left
   ·cases h
   rename_i xX;have HS:=L.check hkr xX.2.2;rw[Bz]at h;obtain⟨r,hf,h⟩:=h;cases ha with
   |mp ht=>
    rename_i b cap;obtain⟨bW,h2,h3,h4,h5,h6⟩:=ahJ R.mem L hm ht hkr hf
    have fin: ∀(o':Obj) (es':List (D×D)),nc P {w with heap:=w.heap.setIfInBounds b o'} pr tk u (.map es')→Rel P w0 pr A n {w with heap:=w.heap.setIfInBounds b o'} a.tmps (J.put u (some (.map es'))) tk:=fun o' es' ho=>
     R.write hm ht (DV h2) (o':= .map es') rfl (m':=(J.put u (some (.map es'))).m) (by simp[St.put]) (fun t' q hne hq=>by simpa[St.put,hne]using hq) ho
      (fun t' q c' hne hq ht' _=>by
       have hq:J.m t'=some q:=by simpa[St.put,hne]using hq
       rcases R.mem.inj t' u q _ b c' cap hq hm ht' ht with h|⟨h1,h2⟩
       ·grind
       ·rw[h2]at h1;cases h1)
    have hK: ∀o',dW w {w with heap:=w.heap.setIfInBounds b o'} pr pr tk tk:=fun o'=>⟨fun b' x hp=>⟨(DV h2).block b' (R.vt b' x hp) (fun e=>by subst e;exact R.free hm ht hp),hp⟩,fun _ _ h=>h⟩;split at h
    ·rename_i i;obtain⟨p,hp,rfl⟩:=Mz.1 h;obtain⟨en,p',g1,g2,g3,g4,g5⟩:=h6;rw[hp]at g2;cases g2
     have Xc:(Instr.keyThatStays en.key kv).run P w= .ok kv w:=by
      rw[←g4];simp[Instr.keyThatStays,g5]
     refine⟨_, ?_,fin (.map (bW.modify i fun e=>{e with key:=kv,val:=vv}) es.length) _ ?_⟩
     ·simp[Instr.mapUpdate,run_underlying hu,MapKept.run_getObj_map h2,HS,g3,g1,Xc,MapKept.run_setObj_map _ h2,Result.andThen]
     ·refine⟨b,cap,bW.modify i fun e=>{e with key:=kv,val:=vv},ht,by rw[(MapKept.heap_set h2).1];simp,by simpa using h3,by simpa using h4,fun j en' p' he hp'=> ?_⟩;rw[Array.getElem?_modify]at he;rw[List.getElem?_set]at hp';have hi:i<es.length:=(Gz.1 hp).1;by_cases hij:i=j
      ·subst hij;simp only[if_true,g1,Pz,Jz]at he;simp only[if_true,hi,Jz]at hp';subst he;subst hp';obtain⟨q1,q2,q3⟩:=h5 i en p g1 hp;exact⟨q1,by rw[g4];exact q2.keeps (hK _),hv.keeps (hK _)⟩
      ·simp only[hij,if_false]at he hp';obtain⟨q1,q2,q3⟩:=h5 j en' p' he hp';exact⟨q1,q2.keeps (hK _),q3.keeps (hK _)⟩
    ·split at h<;>cases h;rename_i hlt;refine⟨_, ?_,fin (.map (bW.push {key:=kv,val:=vv,born:=es.length}) (es.length+1)) _ ?_⟩
     ·have h6:(Instr.findKey kt kv bW.toList).run P w= .ok none w:=h6;simp[Instr.mapUpdate,run_underlying hu,MapKept.run_getObj_map h2,HS,h6,MapKept.run_setObj_map _ h2,Result.andThen]
     ·refine⟨b,cap,bW.push {key:=kv,val:=vv,born:=es.length},ht,by rw[(MapKept.heap_set h2).1];simp,by simp[h3],by simp[aD,maxLen]at hlt⊢;omega,fun j en' p' he hp'=> ?_⟩;rw[Array.getElem?_push,h3]at he;by_cases hj:j=es.length
      ·subst hj;simp only[if_true,Jz]at he;rw[Xz (Nat.le_refl _)]at hp';simp only[Nat.sub_self,List.getElem?_cons_zero,Jz]at hp';subst he;subst hp';exact⟨rfl,hkr.keeps (hK _),hv.keeps (hK _)⟩
      ·rw[if_neg hj]at he;have hjl:j<es.length:=by have:=(Array.getElem?_eq_some_iff.1 he).1;omega
       rw[Yz hjl]at hp';obtain⟨q1,q2,q3⟩:=h5 j en' p' he hp';exact⟨q1,q2.keeps (hK _),q3.keeps (hK _)⟩
  ·cases h
 ·cases h
end
end
section
def kY(Γ:Env)(x k f:Nat)(ds:List D)(J:St):Option St:=
 if(ds.set k .nil).all D.aF=true∧f<1000000 then
  match ds[k]? with
  |some .nil=>(Γ.e k f (ds.set k (.list []))).bind fun r=>match r with
   | .tup [d, .list _]=>if d.aF=true then some (J.set x d)else none
   |_=>none
  |some (.sl t _ off len none)=>match J.m t with
   |some (.row g e es)=>if(off=0∧len=es.length)∧es.all (fun c=>c.all D.aO)=true then
     (Γ.e k f (ds.set k (.list es))).bind fun r=>match r with
     | .tup [d, .list es']=>if d.aF=true then some (((J.aG g 0).put t (some (.row g e es'))).set x d)else none
     |_=>none
    else none
   |_=>none
  |_=>none
 else none
def nQ(Γ:Env)(x e size f:Nat)(ds:List D)(J:St):Option St:=
 if ds.all D.aF=true∧f<1000000 then(Γ.q (1000000*e+f) ds).bind fun r=>match r.1 with
  | .list es=>if es.all (fun c=>c.length==size)=true then some (J.new x (.row (J.tok x) e es) (.sl (J.tok x) size 0 es.length none))else none
  |_=>none
 else none
section
variable {P : Program} {w0 w : World} {pr : aX} {A : iJ} {n : Nat} {tk : ahw} {J : St} {a : Act}
theorem Rel.Kt(R:Rel P w0 pr A n w a.tmps J tk){B:fe}(U:iL B w0 pr A){x:Nat}(hx:x<n){t g:Tok}{e b cap:Nat}{es es':List (List D)}{C':Array Value}(hm:J.m t=some (.row g e es))(ht:tk t=some (b,cap))
  {w':World} (hc:dU (fun k=>k=b) w w') {pr':aX} {v:Value} {d:D} (h1: ∀b o,pr b o→pr' b o) (h2: ∀b o,pr' b o→pr b o∨(w.heap.size≤b∧b<w'.heap.size)) (hv:ao w' pr' tk v d)
  (hb':w'.heap[b]?=some (.cells C' e (0,0))) (hsz: ∀C,w.heap[b]?=some (.cells C e (0,0))→C'.size=C.size) (hlen:es'.length=es.length) (gi:bk P w' pr' tk C' e es'):
  dm P B n w' (a.put (some x) v).tmps (((J.aG g 0).put t (some (.row g e es'))).set x d):=by
 have K:dW w w' pr pr' tk tk:=⟨fun b' o h=>⟨hc.block b' (R.vt b' o h) (fun e=>by subst e;exact R.free hm ht h),h1 b' o h⟩,fun _ _ h=>h⟩
 have lt: ∀t q b c,J.m t=some q→tk t=some (b,c)→b<w.heap.size:=fun t q b c hm ht=>by
  obtain⟨b1,c1,g1,g2⟩:=(R.mem.obj t q hm).place
  grind
 have s1:=R.chg.size;have s2:=U.chg.size;have s3:=hc.size;obtain⟨b0,VF,C0,k1,k2,k3,k4,k5,k6⟩:=R.mem.obj t _ hm;rw[ht]at k1;cases k1
 have hm': ∀t' q,(((J.aG g 0).put t (some (.row g e es'))).set x d).m t'=some q→(t'=t∧q= .row g e es')∨(t'≠t∧J.m t'=some q∧ ∀e1 es1,q= .row g e1 es1→es1.length≤0):=fun t' q h=>by
  simp only[St.lO,St.put]at h;split at h
  ·grind
  ·obtain⟨g1,g2⟩:=cr (show HO.ez g 0 (J.m t')=some q from h)
   grind
 have hin: ∀t' q,(((J.aG g 0).put t (some (.row g e es'))).set x d).m t'=some q→ ∃q',J.m t'=some q'∧q'.gV=q.gV:=fun t' q h=>by
  rcases hm' t' q h with⟨rfl,rfl⟩|⟨_,h,_⟩
  ·exact⟨_,hm,rfl⟩
  ·grind
 refine⟨w',pr',⟨bY tk (((J.aG g 0).put t (some (.row g e es'))).set x d).m,A.z,A.sv⟩,tk,⟨by simp[Act.put,R.size],dU.refl _ _,fun b o h=> ?_,fun b o h hb=> ?_,R.glob.keeps K.cell,⟨fun t' q h=> ?_,fun t1 t2 q1 q2 b1 c1 c2 g1 g2 j1 j2=> ?_⟩,
  fun t q b c hm ht=> .inr ⟨t,q,c,hm,ht⟩,R.fresh,R.zero,R.one,fun i hi=> ?_,fun i hi=>by rw[St.dg _ _ (show i≠x by omega)];exact(R.sav i hi).keeps K⟩,
  ⟨U.chg.trans (R.chg.trans hc fun k hk e=> ?_) fun b hb h=>U.sub b hb h,fun b hb h=> ?_,U.z,U.sv,fun b o h=>h1 b o (U.sup b o h),fun b o h=> ?_⟩⟩
 ·rcases h2 b o h with h|h
  ·have:=R.vt b o h;omega
  ·exact h.2
 ·obtain⟨t1,q,c,hq,ht1⟩:=hb;obtain⟨q',hq',_⟩:=hin t1 q hq;rcases h2 b o h with h|h
  ·exact R.free hq' ht1 h
  ·have:=lt t1 q' b c hq' ht1;omega
 ·rcases hm' t' q h with⟨rfl,rfl⟩|⟨hne,h0,Nw⟩
  ·exact⟨b,cap,C',ht,hb',by omega,k4,(hsz C0 k2).trans k5,gi⟩
  ·have hr:=R.mem.obj t' q h0;obtain⟨b1,c1,g1,g2⟩:=hr.place;by_cases hbb:b1=b
   ·subst hbb;rcases R.mem.inj t' t q _ b1 c1 cap h0 hm g1 ht with h|⟨_,h⟩
    ·grind
    ·obtain⟨eq',esq,rfl⟩: ∃eq' esq,q= .row g eq' esq:=by
      cases q<;>simp only[HO.gV,reduceCtorEq,Jz]at h
      grind
     have:=List.length_eq_zero_iff.1 (Nat.le_zero.1 (Nw eq' esq rfl));subst this;obtain⟨b2,c2,C2,j1,j2,j3,j4,j5,j6⟩:=hr;rw[g1]at j1;cases j1;rw[k2]at j2;cases j2;exact⟨b1,c1,C',g1,hb',j3,j4,(hsz C0 k2).trans j5,fun c hc=>by simp at hc,fun i c hc=>by simp at hc⟩
   ·exact hr.keeps K fun b2 c2 hb2=>by
     rw[g1]at hb2;cases hb2;exact hc.block b1 g2 hbb
 ·obtain⟨q1',l1,l2⟩:=hin t1 q1 g1;obtain⟨q2',l3,l4⟩:=hin t2 q2 g2;have:=R.mem.inj t1 t2 q1' q2' b1 c1 c2 l1 l3 j1 j2
  rwa[l2,l4]at this
 ·simp only[Act.put,kB (show x<a.tmps.size by rw[R.size];exact hx),St.set];split
  ·exact hv
  ·exact(R.slot i hi).keeps K
 ·subst e;rcases R.live t _ _ _ hm ht with h|h
  ·omega
  ·exact h
 ·obtain⟨t1,q,c,hq,ht1⟩:=h;obtain⟨q',hq',_⟩:=hin t1 q hq;rcases R.live t1 q' b c hq' ht1 with h|h
  ·omega
  ·exact U.sub b hb h
 ·rcases h2 b o h with h|h
  ·exact U.inf b o h
  ·exact .inr (.inl (by omega))
theorem C7{r:Option Nat}{B:fe}{Γ:Env}(hΓ:Sound P Γ){o:Oper}{c:Call}{gs:List aL}{x k f:Nat}{J':St}{next:Act→World→Prop}{Q:Exit→Act→World→Prop}
  (R:Rel P w0 pr A n w a.tmps J tk) (U:iL B w0 pr A) (ho:o.op= .call c) (Cj:c.callee= .value (.func f)) (hgs:c.args.toList.mapM (ft n)=some gs) (hx:o.dst=some x) (hxn:x<n) (hk6:k<1000000)
  (ai:kY Γ x k f (gs.map (aL.val J.s)) J=some J') (h: ∀v w',dm P B n w' (a.put (some x) v).tmps J'→next (a.put (some x) v) w'):Oper.vP r P o a w next Q:=by
 have bg:a_ w pr tk (c.args.map a.eval).toList (gs.map (aL.val J.s)):=by simpa using fi R hgs
 generalize hds:gs.map (aL.val J.s)=ds at ai bg;generalize hca:c.args.map a.eval=cargs at bg
 obtain⟨hl,gY⟩:cargs.size=ds.length∧ ∀(i:Nat) (v:Value) (x:D),cargs[i]?=some v→ds[i]?=some x→ao w pr tk v x:=by
  have key: ∀{l:List Value} {m:List D},a_ w pr tk l m→l.length=m.length∧ ∀(i:Nat) (v:Value) (x:D),l[i]?=some v→m[i]?=some x→ao w pr tk v x:=by
   intro l
   induction l with
   |nil=>intro m h;cases m with
    |nil=>exact⟨rfl,fun i v x h=>by simp at h⟩
    |cons y m=>exact absurd h (by simp[a_])
   |cons y l ih=>intro m h;cases m with
    |nil=>exact absurd h (by simp[a_])
    |cons z m=>
     obtain⟨i1,i2⟩:=ih h.2;refine⟨by simp[i1],fun i v x hv hx=> ?_⟩;cases i with
     |zero=>simp at hv hx;subst hv hx;exact h.1
     |succ i=>exact i2 i v x (by simpa using hv) (by simpa using hx)
  obtain⟨q1,q2⟩:=key bg
  grind
 have fin:(execOp a.eval o).run P w=(callFunc f cargs).run P w:=by
  simp[execOp,ho,resolve,Cj,Act.eval,Deferred.ofValue,invoke,hca]
 unfold kY at ai;split at ai
 rotate_left
 ·grind
 rename_i br;obtain⟨hno,hlt⟩:=br
 have others: ∀(es:List (List D)) (i:Nat) (v:Value) (x:D),i≠k→cargs[i]?=some v→(ds.set k (.list es))[i]?=some x→ao w pr aA v x:=fun es i v x hik hv hx=>by
  rw[List.getElem?_set_ne (Ne.symm hik)]at hx;refine iB (gY i v x hv hx) (Tz.1 hno x ?_);exact Lz (show(ds.set k .nil)[i]?=some x by rw[List.getElem?_set_ne (Ne.symm hik)];exact hx)
 split at ai
 ·rename_i hk;obtain⟨q,hq,ai⟩:=Bz.1 ai;obtain⟨es,es',d,e1,e2,hb,e3,mj⟩:=hΓ.e k f _ _ hlt hk6 hq;subst e2;simp only[]at ai;split at ai<;>cases ai;have hkl:=(Gz.1 hk).1;rw[List.getElem?_set_self hkl]at e1;cases e1;obtain⟨g1,_⟩:=mj w pr cargs R.vt R.glob (by simpa using hl) (others [])
  have hck:cargs[k]?=some (.slice none 0 0):=by
   have SB:k<cargs.size:=by omega
   have hv:=Rz SB;have:=gY k _ _ hv hk;rw[hv];generalize cargs[k]=vk at this;cases this;rfl
  refine kQ (by rw[ho];rfl) (by rw[fin];exact bD hb) ((g1 rfl hck).mono ?_);rintro e w' ⟨v,pr',rfl,g2,g3,g4,g5⟩;refine⟨v,rfl, ?_⟩;rw[hx];exact h v w' (R.called U hxn g2 g3 g4 (iB g5 ‹_›))
 ·rename_i t sz off len hk;split at ai
  ·rename_i g e es hm;split at ai
   ·rename_i hcc;obtain⟨⟨rfl,rfl⟩,bN⟩:=hcc;obtain⟨q,hq,ai⟩:=Bz.1 ai;obtain⟨es0,es',d,e1,e2,hb,e3,mj⟩:=hΓ.e k f _ _ hlt hk6 hq;subst e2;simp only[]at ai;split at ai<;>cases ai;rename_i hdn;have hkl:=(Gz.1 hk).1;rw[List.getElem?_set_self hkl]at e1;cases e1;obtain⟨b,cap,C,k1,k2,k3,k4,k5,k6⟩:=R.mem.obj t _ hm;obtain⟨_,g1⟩:=mj w pr cargs R.vt R.glob (by simpa using hl) (others es)
    have hck: ∃o,cargs[k]?=some (.slice (some ⟨b,o,none⟩) es.length cap)∧(o=0∨cap=0∧0<0):=by
     have SB:k<cargs.size:=by omega
     have hv:=Rz SB;have:=gY k _ _ hv hk;rw[hv];generalize cargs[k]=vk at this;cases this with
     |sl ht hc hl ho=>
      rw[k1]at ht;cases ht;simp only[Option.getD_none,Nat.sub_zero]at hc;subst hc;exact⟨_,rfl,by simpa using ho⟩
    obtain⟨o',hck,ho'⟩:=hck;have ho':o'=0:=by omega
    subst ho';have gi:bk P w pr aA C e es:=⟨k6.1,fun i c hc j d hd=>let⟨u,u1,u2,u3⟩:=k6.2 i c hc j d hd;⟨u,u1,u2,bf u3 (Tz.1 (Tz.1 bN c (Lz hc)) d (Lz hd))⟩⟩;refine kQ (by rw[ho];rfl) (by rw[fin];exact bD hb) ((g1 b cap e C (fun o h=>R.free hm k1 h) k2 k3 k4 k5 gi hck).mono ?_);rintro ex w' ⟨v,pr',C',rfl,g2,g3,g4,g5,g6,g7,g8⟩;refine⟨v,rfl, ?_⟩;rw[hx];refine h v w' (R.Kt U hxn hm k1 g2 g3 g4 (iB g5 hdn) g6 (fun C1 h1=> ?_) e3 ⟨g8.1,fun i c hc j d hd=>let⟨u,u1,u2,u3⟩:=g8.2 i c hc j d hd;⟨u,u1,u2,u3.nS⟩⟩);rw[k2]at h1;cases h1;exact g7
   ·cases ai
  ·cases ai
 ·cases ai
theorem C6{r:Option Nat}{B:fe}{Γ:Env}(hΓ:Sound P Γ){o:Oper}{c:Call}{gs:List aL}{x e size f:Nat}{J':St}{next:Act→World→Prop}{Q:Exit→Act→World→Prop}
  (R:Rel P w0 pr A n w a.tmps J tk) (U:iL B w0 pr A) (ho:o.op= .call c) (Cj:c.callee= .value (.func f)) (hgs:c.args.toList.mapM (ft n)=some gs) (hx:o.dst=some x) (hxn:x<n)
  (ai:nQ Γ x e size f (gs.map (aL.val J.s)) J=some J') (h: ∀v w',dm P B n w' (a.put (some x) v).tmps J'→next (a.put (some x) v) w'):Oper.vP r P o a w next Q:=by
 have bg:a_ w pr tk (c.args.map a.eval).toList (gs.map (aL.val J.s)):=by simpa using fi R hgs
 generalize hca:c.args.map a.eval=cargs at bg
 have fin:(execOp a.eval o).run P w=(callFunc f cargs).run P w:=by
  simp[execOp,ho,resolve,Cj,Act.eval,Deferred.ofValue,invoke,hca]
 unfold nQ at ai;split at ai
 rotate_left
 ·grind
 rename_i br;obtain⟨hno,hlt⟩:=br;obtain⟨q,hq,ai⟩:=Bz.1 ai;obtain⟨es,e1,hb,mj⟩:=hΓ.q e f _ _ hlt hq;rw[e1]at ai;simp only at ai;split at ai<;>cases ai
 have acF: ∀{l:List Value} {m:List D},a_ w pr tk l m→m.all D.aF=true→a_ w pr aA l m:=by
  intro l
  induction l with
  |nil=>intro m h hm;cases m with
   |nil=>exact trivial
   |cons y m=>exact absurd h (by simp[a_])
  |cons y l ih=>intro m h hm;cases m with
   |nil=>exact absurd h (by simp[a_])
   |cons z m=>
    simp only[List.all_cons,Az]at hm;exact⟨iB h.1 hm.1,ih h.2 hm.2⟩
 refine kQ (by rw[ho];rfl) (by rw[fin];exact bD hb) ((mj w pr cargs R.vt R.glob (acF bg hno)).mono ?_);rintro ex w' ⟨b,cap,C,rfl,g1,g2,g3,g4,g5,g6,g7⟩;refine⟨_,rfl, ?_⟩;rw[hx]
 obtain⟨tk',R'⟩:=R.DB hxn g1 g2 (cap:=cap) (o:= .row (J.tok x) e es) (d:= .sl (J.tok x) size 0 es.length none) (v:= .slice (some ⟨b,0,none⟩) es.length cap)
  (fun tk' hs he=>⟨b,cap,C,hs,g3,g4,g5,g6,g7.1,fun i c hc j d hd=>let⟨u,u1,u2,u3⟩:=g7.2 i c hc j d hd;⟨u,u1,u2,(u3.keeps (pr':=pr) ⟨fun _ _ h=>h.elim,fun _ _ h=>h⟩).nS⟩⟩)
  (fun tk' hs=> .sl hs (by simp) (by omega) (.inl (by simp)))
 exact h _ w' ⟨_,_,_,tk',R',U⟩
end
end
section
def zP(size:Nat)(zero:List D)(a:D)(J:St):Option St:=
 match a with
 | .list []| .nil| .mt=>some J
 | .sl t kM off len _=>if len=0 then some J else match J.m t with
  |some (.row g e es)=>if(kM=size∧zero.length=size)∧off+len≤es.length∧es.all (fun c=>c.length==size)=true then some ((J.aG g off).put t (some (.row g e (es.take off++List.replicate len zero++es.drop (off+len)))))else none
  |_=>none
 |_=>none
section
variable {P : Program} {w0 w : World} {pr : aX} {A : iJ} {n : Nat} {tk : ahw} {J : St} {a : Act}
theorem L_(R:Rel P w0 pr A n w a.tmps J tk){t e ty:Nat}{i:TypeInfo}{z:Value}{zd:List D}{av:Value}{d:D}{J':St}(ht:P.underlying t=some (.slice e))(hi:P.info? e=some i)(hz:i.zero=some z)
  (hzs:z.cells.size=i.size) (hzd:ct w pr tk z.cells zd) (ha:ao w pr tk av d) (h:zP i.size zd d J=some J'):
  ∃w',(Builtin.clear_ #[t] ty #[av]).run P w= .ok (.tuple #[]) w'∧Rel P w0 pr A n w' a.tmps J' tk:=by
 have hce:P.cellsOf e=i.size:=by simp[Program.cellsOf,hi]
 have wL: ∀q:Option Addr,∀c,(Builtin.clear_ #[t] ty #[.slice q 0 c]).run P w= .ok (.tuple #[]) w:=fun q c=>by cases q<;>simp[Builtin.clear_,run_underlying ht]
 unfold zP at h;split at h
 ·cases h;cases ha with
  |nil'=>exact⟨w,wL _ _,R⟩
  |emp=>exact⟨w,wL _ _,R⟩
  |list us _ _ _ _=>exact⟨w,wL _ _,R⟩
 ·cases h;cases ha;exact⟨w,wL _ _,R⟩
 ·cases h;cases ha;exact⟨w,wL _ _,R⟩
 ·rename_i τ kM off len lim;cases ha with
  |sl htk hc hl ho=>
   rename_i b cap c o;split at h
   ·rename_i h0;subst h0;cases h;exact⟨w,wL _ _,R⟩
   ·rename_i hlen;split at h
    ·rename_i g e' es hm;split at h<;>cases h;rename_i br;obtain⟨⟨rfl,hzl⟩,hle,bN⟩:=br;obtain⟨b',ng,C,k1,k3,k5,k6,k7,k8,k9⟩:=R.mem.obj τ _ hm;rw[htk]at k1;cases k1
     have ho:o=off*i.size:=by
      rcases ho with ho|ho
      ·exact ho
      ·omega
     have hsz:P.cellsOf e'=i.size:=by
      have h0:0<es.length:=by omega
      have hm0:es[0]∈es:=List.getElem_mem h0;rw[←k8 _ hm0];simpa using Tz.1 bN _ hm0
     have hV:Builtin.zeroCells z.cells len=madeCells z.cells (len*P.cellsOf e'):=by simp only[Builtin.zeroCells,madeCells,hzs,hsz]
     have hz0:=BJ (e:=e') (k:=len) (l:=len) hzd (by rw[hsz];exact hzs) (Nat.le_refl _);rw[←hV]at hz0;have hVs:(Builtin.zeroCells z.cells len).size=len*P.cellsOf e':=by rw[hV];simp[madeCells]
     have Fw:(off+len)*P.cellsOf e'≤cap*P.cellsOf e':=Nat.mul_le_mul_right _ (by omega);rw[Nat.add_mul]at Fw;have vl:off*P.cellsOf e'+(Builtin.zeroCells z.cells len).size≤C.size:=by omega
     have rK: ∀u∈(Builtin.zeroCells z.cells len).toList,u.oneCell'=true:=fun u hu=>by
      obtain⟨j,hj,rfl⟩:=List.getElem_of_mem hu;have hj':j<len*P.cellsOf e':=by simpa[hVs]using hj
      have rM:0<P.cellsOf e':=by
       rcases Nat.eq_zero_or_pos (P.cellsOf e')with h|h
       ·rw[h]at hj';simp at hj'
       ·exact h
      have hlt:j%z.cells.size<z.cells.size:=Nat.mod_lt _ (by omega)
      have:(Builtin.zeroCells z.cells len).toList[j]=z.cells[j%z.cells.size]:=by
       simp only[Builtin.zeroCells,Array.getElem_toList,Array.getElem_map,Array.getElem_range];rw[getElem!_pos z.cells _ hlt]
      rw[this];exact hzd.2.1 _ _ (Rz hlt)
     have ai:=run_storeCells_at P b (off*P.cellsOf e') e' (Builtin.zeroCells z.cells len).toList 0 C w k3 (by simpa using vl) rK;simp only[Nat.add_zero]at ai;refine⟨w.setRow b (putCells C (off*P.cellsOf e') (Builtin.zeroCells z.cells len)), ?_, ?_⟩
     ·obtain⟨m,rfl⟩: ∃m,len=m+1:=⟨len-1,by omega⟩;have hzv:(zeroValue e).run P w= .ok z w:=by simp[zeroValue,typeInfo,hi,hz]
      rw[hsz]at ai;simp[Builtin.clear_,run_underlying ht,hzv,ho,ai,putCells,hsz]
     ·have jg:=dU.setRow w b (putCells C (off*P.cellsOf e') (Builtin.zeroCells z.cells len));have K:dW w (w.setRow b (putCells C (off*P.cellsOf e') (Builtin.zeroCells z.cells len))) pr pr tk tk:=⟨fun b' x h=>⟨jg.block b' (R.vt b' x h) (fun e=>by subst e;exact R.free hm htk h),h⟩,fun _ _ h=>h⟩;have Fv:=fun k=>fW (C:=C) (V:=Builtin.zeroCells z.cells len) (off:=off*P.cellsOf e') vl k
      have lj: ∀(k:Nat) (q:List D),es[k]?=some q→(k<off∨off+len≤k)→ ∀(l:Nat) (d:D),q[l]?=some d→ ∃u,(putCells C (off*P.cellsOf e') (Builtin.zeroCells z.cells len))[k*P.cellsOf e'+l]?=some u∧u.oneCell'=true∧ao w pr tk u d:=fun k q hq hk l d hd=>by
       have hll:l<P.cellsOf e':=by rw[←k8 q (Lz hq)];exact(Gz.1 hd).1
       rw[Fv,if_neg]
       ·exact k9 k q hq l d hd
       ·rintro⟨g1,g2⟩;rcases hk with hk|hk
        ·have:(k+1)*P.cellsOf e'≤off*P.cellsOf e':=Nat.mul_le_mul_right _ hk;rw[Nat.add_mul]at this;omega
        ·have:(off+len)*P.cellsOf e'≤k*P.cellsOf e':=Nat.mul_le_mul_right _ hk;rw[Nat.add_mul]at this;omega
      have gi:bk P w pr tk (putCells C (off*P.cellsOf e') (Builtin.zeroCells z.cells len)) e' (es.take off++List.replicate len zd++es.drop (off+len)):=by
       have hl1:(es.take off).length=off:=by simp;omega
       have hl2:(es.take off++List.replicate len zd).length=off+len:=by simp;omega
       refine⟨fun q hq=> ?_,fun k q hq l d hd=> ?_⟩
       ·rcases List.mem_append.1 hq with hq|hq
        ·rcases List.mem_append.1 hq with hq|hq
         ·exact k8 q (List.mem_of_mem_take hq)
         ·exact hz0.1 q hq
        ·exact k8 q (List.mem_of_mem_drop hq)
       ·by_cases hk1:k<off
        ·rw[Yz (by omega),Yz (by omega),List.getElem?_take_of_lt hk1]at hq;exact lj k q hq (.inl hk1) l d hd
        ·by_cases hk2:k<off+len
         ·rw[Yz (by omega),Xz (by omega),hl1]at hq;obtain⟨u,u1,u2,u3⟩:=hz0.2 (k-off) q hq l d hd;have hll:l<P.cellsOf e':=by rw[←hz0.1 q (Lz hq)];exact(Gz.1 hd).1
          have e1:k*P.cellsOf e'=off*P.cellsOf e'+(k-off)*P.cellsOf e':=by rw[←Nat.add_mul];congr 1;omega
          have e2:(k-off+1)*P.cellsOf e'≤len*P.cellsOf e':=Nat.mul_le_mul_right _ (by omega);rw[Nat.add_mul]at e2;refine⟨u, ?_,u2,u3⟩;rw[Fv,if_pos (by omega)];rw[←u1];congr 1;omega
         ·rw[Xz (by omega),hl2,List.getElem?_drop,show off+len+(k-(off+len))=k by omega]at hq;exact lj k q hq (.inr (by omega)) l d hd
      have hln:(es.take off++List.replicate len zd++es.drop (off+len)).length=es.length:=by simp;omega
      refine R.write hm htk jg (o':= .row g e' (es.take off++List.replicate len zd++es.drop (off+len))) rfl (m':=((J.aG g off).put τ (some (.row g e' (es.take off++List.replicate len zd++es.drop (off+len))))).m) (by simp[St.put]) (fun t' q hne hq=> ?_) ?_ (fun t' q c' hne hq SN hr=> ?_)
      ·simp only[St.put,hne,if_false,St.aG]at hq;exact(cr hq).1
      ·exact⟨b,cap,_,htk,setRow_heap w b C _ e' _ k3,by rw[hln];exact k5,k6,by rw[cH vl];exact k7,gi.keeps K⟩
      ·simp only[St.put,hne,if_false,St.aG]at hq;obtain⟨hq1,hq2⟩:=cr hq;rcases R.mem.inj t' τ q _ b c' cap hq1 hm SN htk with h|⟨h1,h2⟩
       ·exact absurd h hne
       ·obtain⟨e2,es2,rfl⟩: ∃e2 es2,q= .row g e2 es2:=by
         cases q<;>simp only[HO.gV,reduceCtorEq,Jz]at h2;subst h2;exact⟨_,_,rfl⟩
        have Cr:=hq2 e2 es2 rfl;obtain⟨b2,te,C2,j1,j3,j5,j6,j7,j8,j9⟩:=hr;rw[SN]at j1;cases j1;rw[k3]at j3;cases j3;refine⟨b,c',_,SN,setRow_heap w b C _ e' _ k3,j5,j6,by rw[cH vl];exact j7,bk.keeps ⟨j8,fun k q hq l d hd=> ?_⟩ K⟩;have hkl:=(Gz.1 hq).1;have hll:l<P.cellsOf e':=by rw[←j8 q (Lz hq)];exact(Gz.1 hd).1
        rw[Fv,if_neg]
        ·exact j9 k q hq l d hd
        ·rintro⟨g1,g2⟩;have:(k+1)*P.cellsOf e'≤off*P.cellsOf e':=Nat.mul_le_mul_right _ (by omega);rw[Nat.add_mul]at this;omega
    ·cases h
 ·cases h
end
end
section
inductive Eff where
 |box (n:Nat) (g:Bool) (x:Nat) (a:aL)
 |store (n:Nat) (g:Bool) (a v:aL)
 |app (x e size:Nat) (a b:aL)
 |mks (x e size:Nat) (zero:List D) (a b:aL)
 |lit (x e size len:Nat) (zero:List D) (places:List (Nat×Nat)) (args:List aL)
 |mkm (x:Nat)
 |copy (x:Option Nat) (a b:aL)
 |mkml (x e size:Nat)
 |ecall (x k f:Nat) (args:List aL)
 |acall (x e size f:Nat) (args:List aL)
 |clr (size:Nat) (zero:List D) (a:aL)
 |mupd (ks:List Nat) (a k v:aL)
 deriving Inhabited
inductive au where
 |op (x:Nat) (k:PK) (args:List aL) (g:Option (Nat×Bool))
 |eff (e:Eff) (g:Option (Nat×Bool))
 |bad
 deriving Inhabited
def Eff.dst:Eff→Option Nat
 | .box _ _ x .. | .app x .. | .mks x .. | .lit x .. | .mkm x| .mkml x .. | .ecall x .. | .acall x .. =>some x
 | .store .. | .mupd .. | .clr .. =>none
 | .copy x _ _=>x
def St.void(J:St):Option Nat→St
 |some x=>J.set x (.tup [])
 |none=>J
def Pa(Γ:Env)(x:Nat)(k:PK)(args:List aL)(J:St):Option St:=(k.run Γ J.m (args.map (aL.val J.s))).map (J.set x)
def bC(J:St):Option (Nat×Bool)→Option Bool
 |none=>some true
 |some (j,want)=>match J.s j with
  | .v (.bool b)=>some (b==want)
  | .tup _=>some false
  |_=>none
def Eff.run(Γ:Env):Eff→St→Option St
 | .box _ _ x a,J=>aid x (a.val J.s) J
 | .store n _ a v,J=>jN n (a.val J.s) (v.val J.s) J
 | .app x e size a b,J=>sU x e size (a.val J.s) (b.val J.s) J
 | .mks x e size zero a b,J=>CJ x e size zero (a.val J.s) (b.val J.s) J
 | .lit x e size len zero places args,J=>CF x e size len zero places (args.map (aL.val J.s)) J
 | .mkm x,J=>TG x J
 | .mkml x _ _,J=>TG x J
 | .clr size zero a,J=>zP size zero (a.val J.s) J
 | .ecall x k f args,J=>kY Γ x k f (args.map (aL.val J.s)) J
 | .acall x e size f args,J=>nQ Γ x e size f (args.map (aL.val J.s)) J
 | .copy x a b,J=>copyV x (a.val J.s) (b.val J.s) J
 | .mupd ks a k v,J=>q9 ks (a.val J.s) (k.val J.s) (v.val J.s) J
def au.run(Γ:Env):au→St→Option St
 | .op x k args g,J=>(bC J g).bind fun b=>bif b then Pa Γ x k args J else some (J.set x (.tup []))
 | .eff e g,J=>(bC J g).bind fun b=>bif b then e.run Γ J else some (J.void e.dst)
 | .bad,_=>none
def runs(Γ:Env):List au→St→Option St
 | [],J=>some J
 |st::r,J=>(st.run Γ J).bind (runs Γ r)
def mg(n:Nat)(ops:Array Oper)(o:Oper):Option (Option (Nat×Bool)):=
 match o.guard with
 |none=>some none
 |some (j,want)=>((ops[j]?).bind (·.dst)).bind fun x=>if x<n then some (some (x,want))else none
def tl(P:Program)(t:Nat):Option (Nat×Nat):=
 match P.underlying t with
 |some (.slice e)=>(P.info? e).bind fun i=>if i.bytes≤8192∧i.size≤40 then(match i.zero with
  |some z=>if z.cells.size=i.size then some (e,i.size)else none
  |none=>none)else none
 |_=>none
def zZ(P:Program)(_:pI)(n:Nat)(o:Oper):Option Eff:=
 match o.op,o.dst with
  | .box t v,some x=>if x<n then(dG P t).bind fun g=>(ft n v).map (.box (P.cellsOf t) g x)else none
  | .alloc t,some x=>if x<n then(v_ P t).map fun z=> .box z.length true x (.c (.agg z))else none
  | .store t a v,none=>(dG P t).bind fun g=>(ft n a).bind fun a=>(ft n v).bind fun v=>if(P.info? t).isSome then some (.store (P.cellsOf t) g a v)else none
  | .makeSlice t a b,some x=>if x<n then(tl P t).bind fun q=>(v_ P q.1).bind fun z=>(ft n a).bind fun a=>(ft n b).map fun b=> .mks x q.1 q.2 z a b else none
  | .buildSlice t len parts,some x=>if x<n then(xD P t len (parts.toList.map (·.1))).bind fun q=>((parts.toList.map (·.2)).mapM (ft n)).map fun gs=> .lit x q.1 q.2.1 len q.2.2.1 q.2.2.2 gs else none
  | .makeMap _ none,some x=>if x<n then some (.mkm x)else none
  | .mapUpdate t m k v,none=>(Fe P t).bind fun q=>(ft n m).bind fun m=>(ft n k).bind fun k=>(ft n v).map fun v=> .mupd q.1 m k v
  | .call c,some x=>if x<n then match c.callee with
   | .builtin .append=>match c.args.toList,c.argTypes.toList with
    | [a,b],[t,t']=>if t=t' then(tl P t).bind fun q=>(ft n a).bind fun a=>(ft n b).map fun b=> .app x q.1 q.2 a b else none
    |_,_=>none
   |_=>none
   else none
  |_,_=>none
def Hh(P:Program)(n:Nat)(o:Oper):Option Eff:=
 match o.op with
 | .call c=>match c.callee,c.args.toList,c.argTypes.toList with
  | .builtin .copy,[a,b],[t,_]=>match P.underlying t with
   |some (.slice e)=>if o.dst.all (fun i=>decide (i<n))=true∧(P.info? e).map (·.size)=some 1 then(ft n a).bind fun a=>(ft n b).map fun b=> .copy o.dst a b else none
   |_=>none
  |_,_,_=>none
 |_=>none
def RV(P:Program)(n:Nat)(o:Oper):Option Eff:=
 match o.op,o.dst with
 | .makeMap t none,some x=>if x<n then(match P.underlying t with
  |some (.map _ s)=>(tl P s).map fun q=> .mkml x q.1 q.2
  |_=>none)else none
 |_,_=>none
def RT(P:Program)(n:Nat)(o:Oper):Option Eff:=
 match o.op,o.dst with
 | .call c,none=>match c.callee,c.args.toList,c.argTypes.toList with
  | .builtin .clear,[a],[t]=>(tl P t).bind fun q=>(v_ P q.1).bind fun z=>(ft n a).map fun a=> .clr q.2 z a
  |_,_,_=>none
 |_,_=>none
def RU(P:Program)(fr:pI)(n:Nat)(o:Oper):Option Eff:=(RV P n o).or ((zZ P fr n o).or ((Hh P n o).or (RT P n o)))
def dFz(P:Program)(fr:pI)(o:Oper):Option (PK×List Operand):=
 match o.op,o.dst with
 | .box t v,some x=>if fr.fz x then(dG P t).map fun _=>(.fbox (P.cellsOf t),[v])else none
 |_,_=>none
def VM(P:Program)(fr:pI)(n:Nat)(ops:Array Oper)(o:Oper):Option au:=
 ((oK P fr o.op).or (dFz P fr o)).bind fun q=>o.dst.bind fun x=>if x<n then(q.2.mapM (ft n)).bind fun gs=>(mg n ops o).map fun g=> .op x q.1 gs g else none
def Hi(P:Program)(fr:pI)(n:Nat)(ops:Array Oper)(o:Oper):Option au:=
 (RU P fr n o).bind fun e=>(mg n ops o).map fun g=> .eff e g
def dEc(P:Program)(fr:pI)(n:Nat)(ops:Array Oper)(o:Oper):Option au:=
 match o.op,o.dst with
 | .call c,some x=>match c.callee with
  | .value (.func f)=>if x<n∧2≤fr.fr f∧fr.fr f<1000000 then(c.args.toList.mapM (ft n)).bind fun gs=>(mg n ops o).map fun g=> .eff (.ecall x (fr.fr f-2) f gs) g else none
  |_=>none
 |_,_=>none
def dAc(P:Program)(fr:pI)(n:Nat)(ops:Array Oper)(o:Oper):Option au:=
 match o.op,o.dst with
 | .call c,some x=>match c.callee with
  | .value (.func f)=>if x<n∧fr.fr f=1000000 then(tl P o.type).bind fun q=>(c.args.toList.mapM (ft n)).bind fun gs=>(mg n ops o).map fun g=> .eff (.acall x q.1 q.2 f gs) g else none
  |_=>none
 |_,_=>none
def B4(P:Program)(fr:pI)(n:Nat)(ops:Array Oper)(o:Oper):au:=((VM P fr n ops o).or ((Hi P fr n ops o).or ((dEc P fr n ops o).or (dAc P fr n ops o)))).getD .bad
section
variable {P : Program} {fr : pI} {w0 w : World} {pr : aX} {A : iJ} {n : Nat} {tk : ahw} {J : St} {a : Act}
def M7(r:Option Nat)(P:Program)(B:fe)(n:Nat)(ops:Array Oper)(o:Oper)(J':St)(a:Act)(w:World):Prop:=
 ∀(next:Act→World→Prop) (Q:Exit→Act→World→Prop),(∀a' w',a'.defers=a.defers→dm P B n w' a'.tmps J'→next a' w')→
  if Region.wanted o (yielded ops a.tmps)then Oper.vP r P o a w next Q else next (a.put o.dst undef) w
theorem xW(R:Rel P w0 pr A n w a.tmps J tk){x:Nat}(hx:x<n):a.tmps[x]?=some (a.tmps.getD x undef):=by
 have:x<a.tmps.size:=by rw[R.size];exact hx
 simp[this]
theorem eR(R:Rel P w0 pr A n w a.tmps J tk){ops:Array Oper}{o:Oper}{g:Option (Nat×Bool)}{b:Bool}(hg:mg n ops o=some g)(hb:bC J g=some b):
  Region.wanted o (yielded ops a.tmps)=b:=by
 unfold mg at hg;cases ho:o.guard with
 |none=>
  simp only[ho]at hg;cases hg;cases hb;simp[Region.wanted,ho]
 |some q=>
  obtain⟨j,want⟩:=q;simp only[ho]at hg;obtain⟨x,hx,hg⟩:=Bz.1 hg;split at hg<;>cases hg;rename_i hxn
  have hy:yielded ops a.tmps j=match a.tmps.getD x undef with| .bool b=>some b|_=>none:=by
   unfold yielded;rw[hx];simp only[Oz,xW R hxn]
   grind
  have hr:=R.slot x hxn;simp only[bC]at hb;cases hs:J.s x<;>simp only[hs]at hb<;>try (cases hb;done)
  ·rename_i xv;cases xv<;>simp only[]at hb<;>try (cases hb;done)
   cases hb;rw[hs]at hr;obtain⟨hv,_⟩:=aU.1 hr;simp only[Region.wanted]
   grind
  ·cases hb;rw[hs]at hr;generalize a.tmps.getD x undef=cc at hr hy;cases hr;simp only[Region.wanted,ho,hy];rfl
theorem ot(P:Program)(w:World)(t:Nat)(v:Value):(newVar t v).run P w= .ok ⟨w.heap.size,0,none⟩ (w.alloc (.cells v.cells t)):=by
 rfl
theorem Mu{r:Option Nat}{B:fe}(U:iL B w0 pr A){Γ:Env}{o:Oper}{k:PK}{xs:List Operand}{gs:List aL}{d:D}{x:Nat}{next:Act→World→Prop}{Q:Exit→Act→World→Prop}
  (R:Rel P w0 pr A n w a.tmps J tk) (hd:dFz P fr o=some (k,xs)) (hgs:xs.mapM (ft n)=some gs) (hx:o.dst=some x) (hxn:x<n)
  (ai:k.run Γ J.m (gs.map (aL.val J.s))=some d) (h: ∀v w',dm P B n w' (a.put (some x) v).tmps (J.set x d)→next (a.put (some x) v) w'):Oper.vP r P o a w next Q:=by
 unfold dFz at hd;split at hd
 ·rename_i t v y ho b_;split at hd
  ·obtain⟨g,_,hd⟩:=Mz.1 hd;cases hd;rw[hx]at b_;cases b_;simp only[List.mapM_cons,List.mapM_nil,Option.bind_eq_bind,Bz,Option.pure_def,Jz]at hgs;obtain⟨gv,hgv,_,rfl,rfl⟩:=hgs;simp only[List.map_cons,List.map_nil,PK.run,Hv]at ai;split at ai<;>cases ai;rename_i hc;obtain⟨_,hok,hno⟩:=hc;have hcs:=fO (cy R hgv) hok;generalize gv.val J.s=dv at hcs hok hno h;refine cL (by rw[ho];rfl) (show(execOp a.eval o).run P w= .ok (.value (.pointer (some ⟨w.heap.size,0,none⟩))) (w.alloc (.cells (a.eval v).cells t)) by simp[execOp,ho,Instr.box,ot]) ?_;rw[hx];refine h _ _ (R.called U hxn (dU.alloc _ w _) (pr':=fun b o=>pr b o∨b=w.heap.size) (fun b o h=> .inl h) (fun b o h=>h.imp id fun h=> ?_) ?_)
   ·rw[h];exact⟨Nat.le_refl _,by simp⟩
   ·have HY:=(Go.MapKept.heap_alloc w (.cells (a.eval v).cells t)).1;have K:dW w (w.alloc (.cells (a.eval v).cells t)) pr (fun b o=>pr b o∨b=w.heap.size) tk tk:=⟨fun b o h=>⟨(dU.alloc (fun _=>False) w _).block b (R.vt b o h) id, .inl h⟩,fun _ _ h=>h⟩;refine .lptr (fun j=>(a.eval v).cells.getD j undef) (fun j hj=> ?_) fun j dd hdd=> ?_
    ·have hjs:j<(a.eval v).cells.size:=by rw[hcs.1];exact hj
     rw[Nat.zero_add,cell_of_row _ _ _ _ _ (0,0) HY];have e:(a.eval v).cells[j]?=some ((a.eval v).cells.getD j undef):=by simp[Array.getD,hjs]
     exact⟨e, .inr rfl,hcs.2.1 _ _ e⟩
    ·have hjs:j<(a.eval v).cells.size:=by rw[hcs.1];exact(Gz.1 hdd).1
     have e:(a.eval v).cells[j]?=some ((a.eval v).cells.getD j undef):=by simp[Array.getD,hjs]
     exact bf ((hcs.2.2 j _ dd e hdd).keeps K) (Tz.1 hno dd (Lz hdd))
  ·cases hd
 ·cases hd
theorem IT{r:Option Nat}{B:fe}(U:iL B w0 pr A){Γ:Env}(hΓ:Sound P Γ){ops:Array Oper}{o:Oper}{x:Nat}{k:PK}{args:List aL}{g:Option (Nat×Bool)}{J':St}(R:Rel P w0 pr A n w a.tmps J tk)
  (hd:VM P fr n ops o=some (.op x k args g)) (ai:(au.op x k args g).run Γ J=some J'):M7 r P B n ops o J' a w:=by
 intro next Q hn
 unfold VM at hd;rw[Bz]at hd;obtain⟨⟨k',xs⟩,hp,hd⟩:=hd;rw[Bz]at hd;obtain⟨x',hx',hd⟩:=hd;split at hd
 ·rename_i hxn;rw[Bz]at hd;obtain⟨gs,hgs,hd⟩:=hd;obtain⟨g',hg',hd⟩:=Mz.1 hd;cases hd;simp only[au.run]at ai;rw[Bz]at ai;obtain⟨b,hb,ai⟩:=ai;rw[eR R hg' hb];cases b
  ·simp only[cond_false,Jz]at ai;subst ai;rw[hx'];exact hn _ _ rfl ⟨_,_,_,_,R.drop hxn,U⟩
  ·simp only[cond_true]at ai;obtain⟨d,hd,rfl⟩:=Mz.1 ai;rcases Option.or_eq_some_iff.1 hp with hp|⟨_,hp⟩
   ·cases hk:k'.simple
    ·exact Gf hΓ R U hp hk hgs hx' hxn hd fun v w' R'=>hn _ _ rfl R'
    ·exact Gg R hp hk hgs hx' hxn hd fun v w' R'=>hn _ _ rfl ⟨_,_,_,_,R',U⟩
   ·exact Mu U R hp hgs hx' hxn hd fun v w' R'=>hn _ _ rfl R'
 ·cases hd
theorem nX{t:Nat}{q:Nat×Nat}(h:tl P t=some q): ∃i z,P.underlying t=some (.slice q.1)∧P.info? q.1=some i∧i.zero=some z∧z.cells.size=i.size∧i.bytes≤8192∧i.size≤40∧q.2=i.size:=by
 unfold tl at h;split at h
 ·rename_i e hu;rw[Bz]at h
  grind
 ·cases h
theorem B7{r:Option Nat}{Γ:Env}{o:Oper}{st:Eff}{J':St}(R:Rel P w0 pr A n w a.tmps J tk)
  (hd:zZ P fr n o=some st) (ai:st.run Γ J=some J') (next:Act→World→Prop) (Q:Exit→Act→World→Prop) (hn: ∀a' w' tk',a'.defers=a.defers→Rel P w0 pr A n w' a'.tmps J' tk'→next a' w'):Oper.vP r P o a w next Q:=by
 unfold zZ at hd;split at hd
 ·rename_i t v x ho b_;split at hd
  ·rename_i hxn;rw[Bz]at hd;obtain⟨_,_,hd⟩:=hd;obtain⟨av,hav,rfl⟩:=Mz.1 hd;obtain⟨tk',R'⟩:=EH (t:=t) R (cy R hav) hxn ai;refine cL (by rw[ho];rfl) (show(execOp a.eval o).run P w= .ok (.value (.pointer (some ⟨w.heap.size,0,none⟩))) (w.alloc (.cells (a.eval v).cells t)) by simp[execOp,ho,Instr.box,ot]) ?_;rw[b_];exact hn _ _ _ rfl R'
  ·cases hd
 ·rename_i t x ho b_;split at hd
  ·rename_i hxn;obtain⟨z,hz,rfl⟩:=Mz.1 hd;obtain⟨i,zv,hi,hzi,bg⟩:=iP (w:=w) (pr:=pr) (tk:=tk) hz;have W7:ao w pr tk (.agg zv.cells) (.agg z):=ahy.2 ⟨_,rfl,bg⟩;obtain⟨tk',R'⟩:=EH (t:=t) R W7 hxn ai;refine cL (by rw[ho];rfl) (show(execOp a.eval o).run P w= .ok (.value (.pointer (some ⟨w.heap.size,0,none⟩))) (w.alloc (.cells zv.cells t)) by simp[execOp,ho,Instr.alloc,zeroValue,typeInfo,hi,hzi,ot]) ?_;rw[b_];exact hn _ _ _ rfl R'
  ·cases hd
 ·rename_i t av v ho b_;rw[Bz]at hd;obtain⟨_,_,hd⟩:=hd;rw[Bz]at hd;obtain⟨ga,hga,hd⟩:=hd;rw[Bz]at hd;obtain⟨gv,hgv,hd⟩:=hd;split at hd<;>cases hd;have hi:(P.info? t).isSome=true:=by assumption
  obtain⟨w',h1,R'⟩:=F7 R (cy R hga) (cy R hgv) hi ai;refine BH (by rw[ho];rfl) (show(execOp a.eval o).run P w= .ok .skip w' by simp[execOp,ho,h1]) ?_;rw[b_];exact hn _ _ _ rfl R'
 ·rename_i t av bv x ho b_;split at hd
  ·rename_i hxn;rw[Bz]at hd;obtain⟨q,hq,hd⟩:=hd;rw[Bz]at hd;obtain⟨z,hz,hd⟩:=hd;rw[Bz]at hd;obtain⟨ga,hga,hd⟩:=hd;obtain⟨gb,hgb,rfl⟩:=Mz.1 hd;obtain⟨i,zv,hu,hi,hzi,hzs,hby,hsz,hq2⟩:=nX hq;obtain⟨i',zv',hi',H5,bg⟩:=iP (w:=w) (pr:=pr) (tk:=tk) hz;obtain rfl:i=i':=by rw[hi]at hi';exact Option.some.inj hi'
   obtain rfl:zv=zv':=by rw[hzi]at H5;exact Option.some.inj H5
   simp only[Eff.run,hq2]at ai;obtain⟨v',w',tk',h1,R'⟩:=Md R hu hi hzi hzs bg hsz hby hxn (cy R hga) (cy R hgb) ai;refine cL (by rw[ho];rfl) (show(execOp a.eval o).run P w= .ok (.value v') w' by simp[execOp,ho,h1]) ?_;rw[b_];exact hn _ _ _ rfl R'
  ·cases hd
 ·rename_i t len parts x ho b_;split at hd
  ·rename_i hxn;rw[Bz]at hd;obtain⟨⟨e,size,zero,places⟩,hq,hd⟩:=hd;obtain⟨gs,hgs,rfl⟩:=Mz.1 hd;obtain⟨v',w',tk',h1,R'⟩:=Ma R hq hxn (fi R hgs) ai;refine cL (by rw[ho];rfl) (show(execOp a.eval o).run P w= .ok (.value v') w' by simp[execOp,ho,h1]) ?_;rw[b_];exact hn _ _ _ rfl R'
  ·cases hd
 ·rename_i t x ho b_;split at hd<;>cases hd;rename_i hxn;obtain⟨v',w',tk',h1,R'⟩:=EI (t:=t) R hxn ai;refine cL (by rw[ho];rfl) (show(execOp a.eval o).run P w= .ok (.value v') w' by simp[execOp,ho,h1]) ?_;rw[b_];exact hn _ _ _ rfl R'
 ·rename_i t mv kv vv ho b_;rw[Bz]at hd;obtain⟨⟨ks,e⟩,hq,hd⟩:=hd;rw[Bz]at hd;obtain⟨gm,hgm,hd⟩:=hd;rw[Bz]at hd;obtain⟨gk,hgk,hd⟩:=hd;obtain⟨gv,hgv,rfl⟩:=Mz.1 hd;obtain⟨w',h1,R'⟩:=I3 R hq (cy R hgm) (cy R hgk) (cy R hgv) ai;refine BH (by rw[ho];rfl) (show(execOp a.eval o).run P w= .ok .skip w' by simp[execOp,ho,h1]) ?_;rw[b_];exact hn _ _ _ rfl R'
 ·rename_i c x ho b_;split at hd
  ·rename_i hxn;split at hd
   ·rename_i hc;split at hd
    ·rename_i a0 b0 t t' jq hts;split at hd
     ·rename_i htt;subst htt;rw[Bz]at hd;obtain⟨q,hq,hd⟩:=hd;rw[Bz]at hd;obtain⟨ga,hga,hd⟩:=hd;obtain⟨gb,hgb,rfl⟩:=Mz.1 hd;obtain⟨i,zv,hu,hi,hzi,hzs,hby,hsz,hq2⟩:=nX hq;simp only[Eff.run,hq2]at ai;obtain⟨v',w',tk',h1,R'⟩:=L9 (ty:=o.type) R hu hi hzi hzs hby hxn (cy R hga) (cy R hgb) ai;obtain⟨callee,⟨args⟩,⟨ts⟩⟩:=c;simp only[]at jq hts hc;subst jq hts hc;refine cL (by rw[ho];rfl) (show(execOp a.eval o).run P w= .ok (.value v') w' by simp[execOp,ho,resolve,invoke,builtin,h1]) ?_;rw[b_];exact hn _ _ _ rfl R'
     ·cases hd
    ·cases hd
   ·cases hd
  ·cases hd
 ·cases hd
theorem Fk{r:Option Nat}{Γ:Env}{o:Oper}{st:Eff}{J':St}(R:Rel P w0 pr A n w a.tmps J tk)
  (hd:RU P fr n o=some st) (ai:st.run Γ J=some J') (next:Act→World→Prop) (Q:Exit→Act→World→Prop) (hn: ∀a' w' tk',a'.defers=a.defers→Rel P w0 pr A n w' a'.tmps J' tk'→next a' w'):Oper.vP r P o a w next Q:=by
 rcases Option.or_eq_some_iff.1 hd with hd|⟨_,hd⟩
 ·unfold RV at hd;split at hd
  ·rename_i t x ho b_;split at hd
   ·rename_i hxn
    (split at hd<;>try (cases hd;done))
    obtain⟨q,_,rfl⟩:=Mz.1 hd;obtain⟨v',w',tk',h1,R'⟩:=EI (t:=t) R hxn ai;refine cL (by rw[ho];rfl) (show(execOp a.eval o).run P w= .ok (.value v') w' by simp[execOp,ho,h1]) ?_;rw[b_];exact hn _ _ _ rfl R'
   ·cases hd
  ·cases hd
 rcases Option.or_eq_some_iff.1 hd with hd|⟨_,hd⟩
 ·exact B7 R hd ai next Q hn
 rcases Option.or_eq_some_iff.1 hd with hd|⟨_,hd⟩
 rotate_left
 ·unfold RT at hd;split at hd
  ·rename_i c ho b_;split at hd
   ·rename_i a0 t hc jq hts;obtain⟨q,hq,hd⟩:=Bz.1 hd;obtain⟨z,hz,hd⟩:=Bz.1 hd;obtain⟨ga,hga,rfl⟩:=Mz.1 hd;obtain⟨i,zv,hu,hi,hzi,hzs,hby,hsz,hq2⟩:=nX hq;obtain⟨i',zv',hi',H5,hzd⟩:=iP (w:=w) (pr:=pr) (tk:=tk) hz;rw[hi]at hi';cases hi';rw[hzi]at H5;cases H5;simp only[Eff.run,hq2]at ai;obtain⟨w',h1,R'⟩:=L_ (ty:=o.type) R hu hi hzi hzs hzd (cy R hga) ai;obtain⟨callee,⟨args⟩,⟨ts⟩⟩:=c;simp only[]at jq hts hc;subst jq hts hc;refine cL (by rw[ho];rfl) (show(execOp a.eval o).run P w= .ok (.value (.tuple #[])) w' by simp[execOp,ho,resolve,invoke,builtin,h1]) ?_;rw[b_];exact hn _ _ _ rfl R'
   ·cases hd
  ·cases hd
 ·unfold Hh at hd;split at hd
  ·rename_i c ho;split at hd
   ·rename_i a0 b0 t t' hc jq hts;split at hd
    ·rename_i e hu;split at hd
     ·rename_i br;rw[Bz]at hd;obtain⟨ga,hga,hd⟩:=hd;obtain⟨gb,hgb,rfl⟩:=Mz.1 hd;obtain⟨v',w',h1,R'⟩:=I1 (ty:=o.type) (sT:=t') R hu br.2 (cy R hga) (cy R hgb) (fun i hi=>by have:=br.1;rw[hi]at this;simpa using this) ai;obtain⟨callee,⟨args⟩,⟨ts⟩⟩:=c;subst jq hts hc;refine cL (by rw[ho];rfl) (show(execOp a.eval o).run P w= .ok (.value v') w' by simp[execOp,ho,resolve,invoke,builtin,h1]) ?_;exact hn _ _ _ (by cases o.dst<;>rfl) R'
     ·cases hd
    ·cases hd
   ·cases hd
  ·cases hd
theorem Fc{o:Oper}{e:Eff}(h:zZ P fr n o=some e):e.dst=o.dst∧ ∀x,o.dst=some x→x<n:=by
 have fin: ∀{x:Nat} {e:Eff},e.dst=some x→x<n→o.dst=some x→e.dst=o.dst∧ ∀x,o.dst=some x→x<n:=fun{x e} h1 h2 h3=>⟨h1.trans h3.symm,fun y hy=>by rw[h3]at hy;cases hy;exact h2⟩;unfold zZ at h;split at h
 ·rename_i b_;split at h
  ·rw[Bz]at h;obtain⟨_,_,h⟩:=h;obtain⟨_,_,rfl⟩:=Mz.1 h;exact fin rfl (by assumption) b_
  ·cases h
 ·rename_i b_;split at h
  ·obtain⟨_,_,rfl⟩:=Mz.1 h;exact fin rfl (by assumption) b_
  ·cases h
 ·rename_i b_;rw[Bz]at h;obtain⟨_,_,h⟩:=h;rw[Bz]at h;obtain⟨_,_,h⟩:=h;rw[Bz]at h;obtain⟨_,_,h⟩:=h;split at h<;>cases h;exact⟨b_.symm,fun x hx=>by rw[b_]at hx;cases hx⟩
 ·rename_i b_;split at h
  ·rw[Bz]at h;obtain⟨_,_,h⟩:=h;rw[Bz]at h;obtain⟨_,_,h⟩:=h;rw[Bz]at h;obtain⟨_,_,h⟩:=h;obtain⟨_,_,rfl⟩:=Mz.1 h;exact fin rfl (by assumption) b_
  ·cases h
 ·rename_i b_;split at h
  ·rw[Bz]at h;obtain⟨_,_,h⟩:=h;obtain⟨_,_,rfl⟩:=Mz.1 h;exact fin rfl (by assumption) b_
  ·cases h
 ·rename_i b_;split at h<;>cases h;exact fin rfl (by assumption) b_
 ·rename_i b_;rw[Bz]at h;obtain⟨_,_,h⟩:=h;rw[Bz]at h;obtain⟨_,_,h⟩:=h;rw[Bz]at h;obtain⟨_,_,h⟩:=h;obtain⟨_,_,rfl⟩:=Mz.1 h;exact⟨b_.symm,fun x hx=>by rw[b_]at hx;cases hx⟩
 ·rename_i b_;split at h
  ·split at h
   ·split at h
    ·split at h
     ·rw[Bz]at h;obtain⟨_,_,h⟩:=h;rw[Bz]at h;obtain⟨_,_,h⟩:=h;obtain⟨_,_,rfl⟩:=Mz.1 h;exact fin rfl (by assumption) b_
     ·cases h
    ·cases h
   ·cases h
  ·cases h
 ·cases h
theorem Hj{o:Oper}{e:Eff}(h:RU P fr n o=some e):e.dst=o.dst∧ ∀x,o.dst=some x→x<n:=by
 rcases Option.or_eq_some_iff.1 h with h|⟨_,h⟩
 ·unfold RV at h;split at h
  ·rename_i t x ho b_;split at h
   ·(split at h<;>try (cases h;done))
    obtain⟨q,_,rfl⟩:=Mz.1 h;exact⟨b_.symm,fun y hy=>by rw[b_]at hy;cases hy;assumption⟩
   ·cases h
  ·cases h
 rcases Option.or_eq_some_iff.1 h with h|⟨_,h⟩
 ·exact Fc h
 rcases Option.or_eq_some_iff.1 h with h|⟨_,h⟩
 rotate_left
 ·unfold RT at h;split at h
  ·rename_i b_;split at h
   ·obtain⟨q,_,h⟩:=Bz.1 h;obtain⟨z,_,h⟩:=Bz.1 h;obtain⟨_,_,rfl⟩:=Mz.1 h;exact⟨b_.symm,fun x hx=>by rw[b_]at hx;cases hx⟩
   ·cases h
  ·cases h
 ·unfold Hh at h;split at h
  ·split at h
   ·split at h
    ·split at h
     ·rename_i hc;rw[Bz]at h;obtain⟨_,_,h⟩:=h;obtain⟨_,_,rfl⟩:=Mz.1 h;exact⟨rfl,fun x hx=>by have:=hc.1;rw[hx]at this;simpa using this⟩
     ·cases h
    ·cases h
   ·cases h
  ·cases h
theorem Rel.void(R:Rel P w0 pr A n w a.tmps J tk){dst:Option Nat}(h: ∀x,dst=some x→x<n):Rel P w0 pr A n w (a.put dst undef).tmps (J.void dst) tk:=by
 cases dst with
 |none=>exact R
 |some x=>exact R.drop (h x rfl)
theorem qy{r:Option Nat}{B:fe}{Γ:Env}(hΓ:Sound P Γ){ops:Array Oper}{o:Oper}{J':St}(RE:dm P B n w a.tmps J)(ai:(B4 P fr n ops o).run Γ J=some J'):M7 r P B n ops o J' a w:=by
 obtain⟨w1,pr,A,tk,R,U⟩:=RE;unfold B4 at ai;cases h:VM P fr n ops o with
 |none=>
  cases h2:Hi P fr n ops o with
  |none=>
   cases h3:dEc P fr n ops o with
   |none=>
    cases h4:dAc P fr n ops o with
    |none=>rw[h,h2,h3,h4]at ai;cases ai
    |some st=>
     rw[h,h2,h3,h4]at ai;unfold dAc at h4;split at h4
     ·rename_i c x ho b_;split at h4
      ·rename_i f Cj;split at h4
       ·rename_i hc;obtain⟨q,hq,h4⟩:=Bz.1 h4;obtain⟨gs,hgs,h4⟩:=Bz.1 h4;obtain⟨g,hg,rfl⟩:=Mz.1 h4;simp only[Option.none_or,Option.some_or,Option.getD_some,au.run]at ai;rw[Bz]at ai;obtain⟨b,hb,ai⟩:=ai;intro next Q hn
        rw[eR R hg hb];cases b
        ·simp only[cond_false,Jz]at ai;subst ai;simp only[Bool.false_eq_true,if_false];rw[b_];exact hn _ _ rfl ⟨_,_,_,_,R.void (dst:=some x) (fun y hy=>by cases hy;exact hc.1),U⟩
        ·simp only[cond_true]at ai;simp only[if_true];exact C6 hΓ R U ho Cj hgs b_ hc.1 ai fun v w' R'=>hn _ _ rfl R'
       ·cases h4
      ·cases h4
     ·cases h4
   |some st=>
    rw[h,h2,h3]at ai;unfold dEc at h3;split at h3
    ·rename_i c x ho b_;split at h3
     ·rename_i f Cj;split at h3
      ·rename_i hc;obtain⟨gs,hgs,h3⟩:=Bz.1 h3;obtain⟨g,hg,rfl⟩:=Mz.1 h3;simp only[Option.none_or,Option.some_or,Option.getD_some,au.run]at ai;rw[Bz]at ai;obtain⟨b,hb,ai⟩:=ai;intro next Q hn
       rw[eR R hg hb];cases b
       ·simp only[cond_false,Jz]at ai;subst ai;simp only[Bool.false_eq_true,if_false];rw[b_];exact hn _ _ rfl ⟨_,_,_,_,R.void (dst:=some x) (fun y hy=>by cases hy;exact hc.1),U⟩
       ·simp only[cond_true]at ai;simp only[if_true];exact C7 hΓ R U ho Cj hgs b_ hc.1 (by have:=hc.2.2;omega) ai fun v w' R'=>hn _ _ rfl R'
      ·cases h3
     ·cases h3
    ·cases h3
  |some st=>
   rw[h,h2]at ai;unfold Hi at h2;rw[Bz]at h2;obtain⟨e,he,h2⟩:=h2;obtain⟨g,hg,rfl⟩:=Mz.1 h2;simp only[Option.none_or,Option.some_or,Option.getD_some,au.run]at ai;rw[Bz]at ai;obtain⟨b,hb,ai⟩:=ai;obtain⟨hds,hlt⟩:=Hj he;intro next Q hn
   rw[eR R hg hb];cases b
   ·simp only[cond_false,Jz]at ai;subst ai;simp only[Bool.false_eq_true,if_false];rw[hds]at*;exact hn _ _ (by cases o.dst<;>rfl) ⟨_,_,_,_,R.void hlt,U⟩
   ·simp only[cond_true]at ai;simp only[if_true];exact Fk R he ai next Q fun a' w' tk' hd R'=>hn a' w' hd ⟨_,_,_,_,R',U⟩
 |some st=>
  rw[h]at ai
  have hst: ∃x k args g,st= .op x k args g:=by
   unfold VM at h;rw[Bz]at h;obtain⟨q,_,h⟩:=h;rw[Bz]at h;obtain⟨x,_,h⟩:=h;split at h
   ·rw[Bz]at h;obtain⟨gs,_,h⟩:=h;obtain⟨g,_,h⟩:=Mz.1 h;exact⟨_,_,_,_,h.symm⟩
   ·cases h
  obtain⟨x,k,args,g,rfl⟩:=hst;exact IT U hΓ R h ai
def B3(P:Program)(fr:pI)(n:Nat)(ops:Array Oper):List au:=ops.toList.map (B4 P fr n ops)
abbrev jT(r:Option Nat)(P:Program)(ops:Array Oper)(Q:Exit→Act→World→Prop):=wpOpsIn (wF r) 0 P ops Q
theorem wpOps_cons{r:Option Nat}{ops:Array Oper}{Q:Exit→Act→World→Prop}{k:Nat}{o:Oper}{tail:List Nat}{w:World}{a:Act}(ho:ops[k]?=some o)
  (h:if Region.wanted o (yielded ops a.tmps)then Oper.vP r P o a w (jT r P ops Q tail) Q else jT r P ops Q tail (a.put o.dst undef) w):jT r P ops Q (k::tail) a w:=by
 simp only[wpOpsIn,ho];split
 ·rename_i hw;rw[if_pos hw]at h;exact h
 ·rename_i hw;rw[if_neg hw]at h;exact⟨fun _ _=>trivial,h⟩
theorem rh{r:Option Nat}{B:fe}{Γ:Env}(hΓ:Sound P Γ){ops:Array Oper}{Q:Exit→Act→World→Prop}{tail:List Nat}: ∀(l:List Oper) (k:Nat),(∀j,j<l.length→l[j]?=ops[k+j]?)→
  ∀{w:World} {a:Act} {J J':St},dm P B n w a.tmps J→runs Γ (l.map (B4 P fr n ops)) J=some J'→
  (∀a' w',a'.defers=a.defers→dm P B n w' a'.tmps J'→jT r P ops Q tail a' w')→jT r P ops Q (List.range' k l.length++tail) a w
 | [],k,_,w,a,J,J',R,hr,hQ=>by
  cases hr
  grind
 |o::l,k,hl,w,a,J,J',R,hr,hQ=>by
  simp only[List.map_cons,runs]at hr;rw[Bz]at hr;obtain⟨J1,h1,h2⟩:=hr;have ho:ops[k]?=some o:=by have:=hl 0 (by simp);simpa using this.symm
  have:=qy (r:=r) hΓ R h1 (jT r P ops Q (List.range' (k+1) l.length++tail)) Q fun a' w' hdf R'=>
   rh hΓ l (k+1) (fun j hj=>by have:=hl (j+1) (by simpa using hj);simpa[Nat.add_assoc,Nat.add_comm 1 j]using this) R' h2 fun a2 w2 acv R2=>hQ a2 w2 (acv.trans hdf) R2
  exact wpOps_cons ho this
abbrev Code.vP(r:Option Nat)(P:Program)(c:Code)(Q:Exit→Act→World→Prop)(a:Act)(w:World):Prop:=c.wpIn (wF r) 0 P Q a w
theorem yu{r:Option Nat}{B:fe}{Γ:Env}(hΓ:Sound P Γ){ops:Array Oper}{id:Nat}{Q:Exit→Act→World→Prop}{J':St}(R:dm P B n w a.tmps J)
  (hr:runs Γ (B3 P fr n ops) J=some J') (hQ: ∀a' w',a'.defers=a.defers→dm P B n w' a'.tmps J'→Q .normal a' w'):
  Code.vP r P (Code.region id ops false) Q a w:=by
 apply wpIn_region;have:=rh (r:=r) (Q:=Q) (tail:= []) hΓ ops.toList 0 (by simp) R hr hQ;rw[List.range_eq_range']
 grind
end
end
end Go.Proofs.YtkcfpgaepmllhaaGreatDoor
