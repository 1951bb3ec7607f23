/- Part of the proof: symbolic execution of the program, its soundness, and the closing lemmas. No condition. -/
import Derived.Test.YtdepmampjnlgiaaGreatDoorEab
import Derived.OrdersIn
import Derived.Orders
namespace Go.Proofs.YtdepmampjnlgiaaGreatDoor
open Go.RowKit
set_option maxRecDepth 100000
set_option linter.all false
section
def aM.reads:aM→List Nat
 | .t i=> [i]
 | .c _=> []
def iS:Option (Nat×Bool)→List Nat
 |some (j,_)=> [j]
 |none=> []
def bZ.reads:bZ→List Nat
 | .box _ _ _ a=>a.reads
 | .store _ _ a v=>a.reads++v.reads
 | .app _ _ _ a b=>a.reads++b.reads
 | .mks _ _ _ _ a b=>a.reads++b.reads
 | .lit _ _ _ _ _ _ args=>args.flatMap aM.reads
 | .mkm _| .mkml .. => []
 | .ecall _ _ _ args=>args.flatMap aM.reads
 | .acall _ _ _ _ args=>args.flatMap aM.reads
 | .clr _ _ a=>a.reads
 | .copy _ a b=>a.reads++b.reads
 | .mupd _ a k v=>a.reads++k.reads++v.reads
 | .ment _ _ _ a k=>a.reads++k.reads
 | .mest a s v=>a.reads++s.reads++v.reads
def aw.reads:aw→List Nat
 | .op _ _ args g=>args.flatMap aM.reads++iS g
 | .eff e g=>e.reads++iS g
 | .bad=> []
def aw.dst:aw→Option Nat
 | .op x .. =>some x
 | .eff e _=>e.dst
 | .bad=>none
def PK.oS:PK→Bool
 | .load .. | .call _| .ccall| .slc .. | .lkp .. | .ent=>true
 |_=>false
def bZ.news:bZ→Bool
 | .box .. | .mks .. | .lit .. | .mkm _| .mkml .. | .acall .. =>true
 |_=>false
def aw.news:aw→Bool
 | .eff e _=>e.news
 |_=>false
def apart(a b:aw):Bool:=
 (match a.dst with|some x=> !b.reads.contains x|none=>true)&&(match b.dst with|some y=> !a.reads.contains y|none=>true)&&(match a.dst,b.dst with|some x,some y=>x !=y|_,_=>true)
def indep(a b:aw):Bool:=
 apart a b&&match a with
 | .op _ k _ _=>(match b with| .op .. =>true|_=>false)||b.news|| !k.oS
 |_=>false
def WF(J:St):Prop:= ∀x k r,J.c x≤k→J.m ((x+1)::k::r)=none
def lN(m m':Mem):Prop:= ∀t o,m t=some o→m' t=some o
section
variable {Γ : Env}
theorem val_congr{s s':Nat→D}{g:aM}(h: ∀j∈g.reads,s' j=s j):g.val s'=g.val s:=by
 cases g with
 |t i=>exact h i (by simp[aM.reads])
 |c d=>rfl
theorem uC{s s':Nat→D}{gs:List aM}(h: ∀j∈gs.flatMap aM.reads,s' j=s j):gs.map (aM.val s')=gs.map (aM.val s):=
 List.map_congr_left fun g hg=>val_congr fun j hj=>h j (List.mem_flatMap.2 ⟨g,hg,hj⟩)
theorem Ba{m m':Mem}(h:lN m m'){d:D}{es:List (List D)}(he:d.elems m=some es):d.elems m'=some es:=by
 cases d<;>simp only[D.elems]at he⊢ <;>try exact he
 split at he
 ·rename_i g e es0 hm;rw[h _ _ hm];exact he
 ·rename_i xs hm;rw[h _ _ hm];exact he
 ·cases he
theorem mapM_mono{f g:D→Option D}(h: ∀d d',f d=some d'→g d=some d'): ∀{l l':List D},l.mapM f=some l'→l.mapM g=some l'
 | [],l',e=>by simpa using e
 |a::l,l',e=>by
  simp only[List.mapM_cons,Option.bind_eq_bind,Bz,Option.pure_def,Jz]at e⊢;obtain⟨b,hb,r,hr,rfl⟩:=e;exact⟨b,h _ _ hb,r,mapM_mono h hr,rfl⟩
theorem fK{f g:D→Option D}(h: ∀d d',f d=some d'→g d=some d'){c c':List D}(e:aS f c=some c'):aS g c=some c':=by
 unfold aS at e⊢;split at e
 ·grind
 ·rename_i hc;rw[if_neg hc];exact mapM_mono h e
theorem vh{f g:D→Option D}(h: ∀d d',f d=some d'→g d=some d'){c c':List (List D)}(e:cR f c=some c'):cR g c=some c':=by
 unfold cR at e⊢;split at e
 ·grind
 ·rename_i hc
  have: ∀{l l':List (List D)},l.mapM (aS f)=some l'→l.mapM (aS g)=some l':=by
   intro l
   induction l with
   |nil=>intro l' e;simpa using e
   |cons a l ih=>
    intro l' e;simp only[List.mapM_cons,Option.bind_eq_bind,Bz,Option.pure_def,Jz]at e⊢;obtain⟨b,hb,r,hr,rfl⟩:=e;exact⟨b,fK h hb,r,ih hr,rfl⟩
  grind
theorem nY{m m':Mem}(h:lN m m'): ∀(n:Nat) (d d':D),az m n d=some d'→az m' n d=some d'
 |0,_,_,e=>by simp[az]at e
 |n+1,d,d',e=>by
  have ih:=nY h n;cases d<;>simp only[az]at e⊢ <;>try exact e
  case sl t size off len lim=>
   rw[Bz]at e⊢;obtain⟨es,he,e⟩:=e;obtain⟨es',hv,rfl⟩:=Mz.1 e;exact⟨es,Ba h he,by rw[vh ih hv];rfl⟩
  case ptr t off=>
   split at e
   ·rename_i xs hm;rw[h _ _ hm];split at e
    ·rename_i hc;obtain⟨c',hv,rfl⟩:=Mz.1 e;simp only[if_pos hc,fK ih hv,Pz]
    ·cases e
   ·cases e
  case mp t=>
   split at e
   ·rename_i es hm;rw[h _ _ hm];exact e
   ·cases e
  case rptr t size i j=>
   split at e
   ·rename_i g e0 es hm;rw[h _ _ hm];rw[Bz]at e;obtain⟨c,hc,e⟩:=e;split at e
    ·rename_i bc;obtain⟨c',hv,rfl⟩:=Mz.1 e;simp only[hc,Oz,if_pos bc,fK ih hv,Pz]
    ·cases e
   ·cases e
  case clo f xs=>
   obtain⟨c',hv,rfl⟩:=Mz.1 e;rw[fK ih hv];rfl
theorem Cq{m m':Mem}(h:lN m m'){d d':D}(e:bD m d=some d'):bD m' d=some d':=by
 cases d
 case agg xs=>
  obtain⟨c',hv,rfl⟩:=Mz.1 e;simp only[bD,fK (nY h 6) hv,Pz]
 all_goals (simp only[bD]at e⊢;exact nY h 6 _ d' e)
theorem sj{m m':Mem}(h:lN m m'){f:Nat}{ds:List D}{d:D}(e:lQ Γ m f ds=some d):lQ Γ m' f ds=some d:=by
 unfold lQ at e⊢;rw[Bz]at e⊢;obtain⟨as,ha,e⟩:=e;exact⟨as,mapM_mono (fun _ _=>Cq h) ha,e⟩
theorem oU{m m':Mem}(h:lN m m'){k:PK}{ds:List D}{d:D}(e:k.run Γ m ds=some d):k.run Γ m' ds=some d:=by
 cases k<;>try exact e
 case load n agg=>
  simp only[PK.run]at e⊢;unfold gC at e⊢;split at e
  ·exact e
  ·split at e
   ·rename_i xs hm;simp only[h _ _ hm];exact e
   ·cases e
  ·split at e
   ·rename_i g e0 es hm;simp only[h _ _ hm];exact e
   ·rename_i xs hm;simp only[h _ _ hm];exact e
   ·cases e
  ·cases e
 case slc size lo hi mx=>
  simp only[PK.run]at e⊢;unfold qe at e⊢;split at e
  ·rename_i t kB off len lim r;rw[Bz]at e⊢;obtain⟨l,hl,e⟩:=e;refine⟨l,hl, ?_⟩;rw[Bz]at e⊢;obtain⟨q,hq,e⟩:=e;refine⟨q,hq, ?_⟩;split at e
   ·rename_i hc;obtain⟨h1,h2,h3,h4⟩:=hc
    rw[if_pos ⟨h1,h2,h3.imp id (fun hr=>by
     unfold DL at hr⊢;split at hr
     ·rename_i hm;rw[h _ _ hm];exact hr
     ·cases hr),h4⟩]
    exact e
   ·cases e
  ·exact e
  ·cases e
 case lkp ks z ok=>
  simp only[PK.run]at e⊢;unfold oI at e⊢;split at e
  ·split at e
   ·rename_i hm;simp only[h _ _ hm];exact e
   ·cases e
  ·exact e
  ·cases e
 case ent=>
  simp only[PK.run]at e⊢;unfold Ef at e⊢;split at e
  ·split at e
   ·rename_i hm;split at e
    ·rename_i hm2;simp only[h _ _ hm,h _ _ hm2];exact e
    ·cases e
   ·cases e
  ·cases e
 case call f=>exact sj h e
 case ccall=>
  simp only[PK.run,sq]at e⊢;split at e
  ·split at e
   ·rename_i hc;rw[if_pos hc];exact sj h e
   ·cases e
  ·cases e
theorem Ak{m m':Mem}{k:PK}(hk:k.oS=false)(ds:List D):k.run Γ m ds=k.run Γ m' ds:=by
 cases k<;>first|rfl|(simp[PK.oS]at hk;done)
theorem St.ext'{J τ:St}(h1:J.s=τ.s)(h2:J.m=τ.m)(h3:J.c=τ.c):J=τ:=by
 cases J;cases τ;simp only at h1 h2 h3;subst h1;subst h2;subst h3;rfl
theorem set_set{J:St}{x y:Nat}{d e:D}(h:x≠y):(J.set x d).set y e=(J.set y e).set x d:=by
 simp only[St.set]
 grind
theorem St.cU{J:St}{x:Nat}{d:D}{g:aM}(h:x∉g.reads):g.val (J.set x d).s=g.val J.s:=
 val_congr fun _ hj=>St.cQ _ _ fun e=>h (e▸hj)
theorem St.oY{J:St}{x:Nat}{d:D}{gs:List aM}(h:x∉gs.flatMap aM.reads):gs.map (aM.val (J.set x d).s)=gs.map (aM.val J.s):=
 uC fun _ hj=>St.cQ _ _ fun e=>h (e▸hj)
theorem guard_congr{J τ:St}{g:Option (Nat×Bool)}(h: ∀j want,g=some (j,want)→τ.s j=J.s j):bG τ g=bG J g:=by
 cases g with
 |none=>rfl
 |some q=>obtain⟨j,want⟩:=q;simp only[bG,h j want rfl]
theorem St.gj{J:St}{x y:Nat}{o:HO}{d e:D}(h:x≠y):(J.set x d).new y o e=(J.new y o e).set x d:=by
 refine St.ext' ?_ rfl rfl;simp only[St.new,St.G',St.set,St.Xe]
 grind
theorem St.ef{J:St}{y j:Nat}{o:HO}{e:D}(h:j≠y):(J.new y o e).s j=J.s j:=by simp[St.new,St.set,h]
@[simp] theorem St.rS{J:St}{x y:Nat}{d:D}:(J.set x d).tok y=J.tok y:=rfl
theorem Ed{x y k f:Nat}{ds:List D}{J J2:St}{d:D}(hy:x≠y)(h:kP Γ y k f ds (J.set x d)=some J2): ∃J3,kP Γ y k f ds J=some J3∧J2=J3.set x d∧ ∀j,j≠y→J3.s j=J.s j:=by
 unfold kP at h⊢;split at h
 ·rename_i hc;rw[if_pos hc];split at h
  ·obtain⟨q,hq,h⟩:=Bz.1 h;simp only[hq,Oz];split at h
   ·split at h<;>cases h;rename_i hd;exact⟨_,if_pos hd,set_set hy,fun j hj=>St.cQ _ _ hj⟩
   ·cases h
  ·simp only[St.jw]at h;split at h
   ·split at h
    ·rename_i hcc;obtain⟨q,hq,h⟩:=Bz.1 h;simp only[hcc,and_self,if_true,hq,Oz];split at h
     ·split at h<;>cases h;rename_i hd;refine⟨_,if_pos hd, ?_,fun j hj=>St.cQ _ _ hj⟩;exact set_set (J:=(J.aL _ 0).put _ _) hy
     ·cases h
    ·cases h
   ·cases h
  ·cases h
 ·cases h
theorem nN{ks:List Nat}{av kv vv:D}{J J2:St}{x:Nat}{d:D}(h:gW ks av kv vv (J.set x d)=some J2):
  ∃J3,gW ks av kv vv J=some J3∧J2=J3.set x d∧ ∀j,J3.s j=J.s j:=by
 unfold gW at h⊢;split at h
 ·simp only[St.jw]at h;split at h
  ·split at h
   ·rename_i hm hok;rw[if_pos hok];rw[Bz]at h;obtain⟨r,hr,h⟩:=h;simp only[hr,Oz];split at h
    ·obtain⟨p,hp,rfl⟩:=Mz.1 h;simp only[hp,Pz];exact⟨_,rfl,rfl,fun _=>rfl⟩
    ·split at h<;>cases h;rename_i hlt;exact⟨_,if_pos hlt,rfl,fun _=>rfl⟩
   ·cases h
  ·cases h
 ·cases h
theorem Ej{b:bZ}{J J2:St}{x:Nat}{d:D}(h:b.run Γ (J.set x d)=some J2)(h1:x∉b.reads)(h2:b.dst≠some x):
  ∃J3,b.run Γ J=some J3∧J2=J3.set x d∧ ∀j,b.dst≠some j→J3.s j=J.s j:=by
 cases b with
 |box _ _ y a=>
  have hy:x≠y:=fun e=>h2 (by simp[bZ.dst,e]);simp only[bZ.run,St.cU (show x∉a.reads from h1)]at h⊢;unfold A0 at h⊢;simp only[St.rS]at h;split at h<;>cases h;rename_i hc;exact⟨_,by rw[if_pos hc],St.gj hy,fun j hj=>St.ef fun e=>hj (by simp[bZ.dst,e])⟩
 |store k _ a v=>
  simp only[bZ.reads,List.mem_append,not_or]at h1;simp only[bZ.run,St.cU h1.1,St.cU h1.2]at h⊢;generalize a.val J.s=av at h⊢;generalize v.val J.s=vv at h⊢;unfold gT at h⊢;split at h
  ·simp only[St.jw]at h;split at h
   ·split at h<;>cases h;rename_i hc;exact⟨_,if_pos hc,rfl,fun _ _=>rfl⟩
   ·cases h
  ·simp only[St.jw]at h;split at h
   ·rw[Bz]at h;obtain⟨c,hc,h⟩:=h;split at h<;>cases h;rename_i hcc;rw[hc];exact⟨_,if_pos hcc,rfl,fun _ _=>rfl⟩
   ·split at h<;>cases h;rename_i hc;exact⟨_,if_pos hc,rfl,fun _ _=>rfl⟩
   ·cases h
  ·cases h
 |app y e size a b=>
  simp only[bZ.reads,List.mem_append,not_or]at h1;have hy:x≠y:=fun e=>h2 (by simp[bZ.dst,e]);simp only[bZ.run,St.cU h1.1,St.cU h1.2]at h⊢;generalize a.val J.s=av at h⊢;generalize b.val J.s=bv at h⊢;unfold rY at h⊢;simp only[St.jw,St.rS]at h;rw[Bz]at h;obtain⟨es,hes,h⟩:=h;simp only[hes,Oz];split at h
  ·cases h
  rename_i bS;rw[if_neg bS];have fin: ∀{J3:St},J2=J3.set x d→(∀j,j≠y→J3.s j=J.s j)→ ∃J4,some J3=some J4∧J2=J4.set x d∧ ∀j,(bZ.app y e size a b).dst≠some j→J4.s j=J.s j:=fun{J3} e1 e2=>⟨J3,rfl,e1,fun j hj=>e2 j fun e=>hj (by simp[bZ.dst,e])⟩;split at h
  ·split at h
   ·rename_i h0;cases h;simp only[h0,if_true];exact fin (set_set hy) fun j hj=>St.cQ _ _ hj
   ·rename_i h0;split at h<;>cases h;rename_i hc;simp only[h0,hc,if_true,Bool.false_eq_true,if_false];exact fin (St.gj hy) fun j hj=>St.ef hj
  ·split at h
   ·rename_i h0;cases h;simp only[h0,if_true];exact fin (set_set hy) fun j hj=>St.cQ _ _ hj
   ·rename_i h0;split at h
    ·simp only[h0,Bool.false_eq_true,if_false];split at h
     ·rename_i bc;rw[if_pos bc];split at h
      ·split at h<;>cases h;rename_i qW;simp only[qW,if_true];exact fin (by rw[show(J.set x d).aL _ _=(J.aL _ _).set x d from rfl];exact St.gj hy) fun j hj=>by rw[St.ef hj];rfl
      ·split at h<;>cases h;rename_i hlt;simp only[hlt,if_true];exact fin (St.gj hy) fun j hj=>St.ef hj
     ·cases h
    ·cases h
  ·cases h
 |mks y e size zero a b=>
  simp only[bZ.reads,List.mem_append,not_or]at h1;have hy:x≠y:=fun e=>h2 (by simp[bZ.dst,e]);simp only[bZ.run,St.cU h1.1,St.cU h1.2]at h⊢;generalize a.val J.s=av at h⊢;generalize b.val J.s=bv at h⊢;unfold BO at h⊢;simp only[St.rS]at h;split at h
  ·split at h<;>cases h;rename_i hc;exact⟨_,by rw[if_pos hc],St.gj hy,fun j hj=>St.ef fun e=>hj (by simp[bZ.dst,e])⟩
  ·cases h
 |lit y e size len zero places args=>
  have hy:x≠y:=fun e=>h2 (by simp[bZ.dst,e]);simp only[bZ.run,St.oY (show x∉args.flatMap aM.reads from h1)]at h⊢;unfold BK at h⊢;simp only[St.rS]at h;split at h
  ·rename_i bS;rw[if_pos bS];rw[Bz]at h;obtain⟨cs,hcs,h⟩:=h;simp only[hcs,Oz];split at h<;>cases h;rename_i hc;exact⟨_,by rw[if_pos hc],St.gj hy,fun j hj=>St.ef fun e=>hj (by simp[bZ.dst,e])⟩
  ·cases h
 |mkm y=>
  have hy:x≠y:=fun e=>h2 (by simp[bZ.dst,e]);cases h;exact⟨_,rfl,St.gj hy,fun j hj=>St.ef fun e=>hj (by simp[bZ.dst,e])⟩
 |mkml y e s=>
  have hy:x≠y:=fun e=>h2 (by simp[bZ.dst,e]);cases h;exact⟨_,rfl,St.gj hy,fun j hj=>St.ef fun e=>hj (by simp[bZ.dst,e])⟩
 |clr s z a=>
  simp only[bZ.reads]at h1;simp only[bZ.run,St.cU h1]at h⊢;generalize a.val J.s=av at h⊢;unfold yT at h⊢;split at h
  ·cases h;exact⟨_,rfl,rfl,fun _ _=>rfl⟩
  ·cases h;exact⟨_,rfl,rfl,fun _ _=>rfl⟩
  ·cases h;exact⟨_,rfl,rfl,fun _ _=>rfl⟩
  ·split at h
   ·rename_i h0;cases h;exact⟨_,if_pos h0,rfl,fun _ _=>rfl⟩
   ·rename_i h0;simp only[St.jw]at h;split at h
    ·split at h<;>cases h;rename_i hm hc;simp only[if_neg h0,hm];exact⟨_,if_pos hc,rfl,fun _ _=>rfl⟩
    ·cases h
  ·cases h
 |ecall y k f args=>
  have hy:x≠y:=fun e=>h2 (by simp[bZ.dst,e]);simp only[bZ.run,St.oY (show x∉args.flatMap aM.reads from h1)]at h⊢;obtain⟨J3,g1,g2,g3⟩:=Ed hy h;exact⟨J3,g1,g2,fun j hj=>g3 j fun e=>hj (by simp[bZ.dst,e])⟩
 |acall y e sz f args=>
  have hy:x≠y:=fun e=>h2 (by simp[bZ.dst,e]);simp only[bZ.run,St.oY (show x∉args.flatMap aM.reads from h1)]at h⊢;generalize args.map (aM.val J.s)=as at h⊢;unfold nC at h⊢;split at h
  ·rename_i hc0;rw[if_pos hc0];obtain⟨q,hq,h⟩:=Bz.1 h;rw[hq,Oz];split at h
   ·rename_i hq1;split at h<;>cases h;rename_i hc
    first
     |exact⟨_,if_pos hc,St.gj hy,fun j hj=>St.ef fun e=>hj (by simp[bZ.dst,e])⟩
     |(simp only[hq1];exact⟨_,if_pos hc,St.gj hy,fun j hj=>St.ef fun e=>hj (by simp[bZ.dst,e])⟩)
   ·cases h
  ·cases h
 |copy y a b=>
  simp only[bZ.reads,List.mem_append,not_or]at h1;simp only[bZ.run,St.cU h1.1,St.cU h1.2]at h⊢;generalize a.val J.s=av at h⊢;generalize b.val J.s=bv at h⊢;unfold copyV at h⊢;split at h
  ·simp only[St.jw]at h;split at h
   ·split at h
    ·rename_i hc;rw[if_pos hc];cases y with
     |none=>cases h;exact⟨_,rfl,rfl,fun _ _=>rfl⟩
     |some y=>
      cases h;have hy:x≠y:=fun e=>h2 (by simp[bZ.dst,e]);exact⟨_,rfl,(show((J.put _ _).set x d).set y _=((J.put _ _).set y _).set x d from set_set hy),fun j hj=>St.cQ _ _ fun e=>hj (by simp[bZ.dst,e])⟩
    ·cases h
   ·cases h
  ·cases h
 |mupd ks a k v=>
  simp only[bZ.reads,List.mem_append,not_or]at h1;simp only[bZ.run,St.cU h1.1.1,St.cU h1.1.2,St.cU h1.2]at h⊢;generalize a.val J.s=av at h⊢;generalize k.val J.s=kv at h⊢;generalize v.val J.s=vv at h⊢;obtain⟨J3,h3,h4,h5⟩:=nN h;exact⟨J3,h3,h4,fun j _=>h5 j⟩
 |ment ks z y a k=>
  have hy:x≠y:=fun e=>h2 (by simp[bZ.dst,e]);simp only[bZ.reads,List.mem_append,not_or]at h1;simp only[bZ.run,St.cU h1.1,St.cU h1.2]at h⊢;generalize a.val J.s=av at h⊢;generalize k.val J.s=kv at h⊢;unfold vX at h⊢;split at h
  ·simp only[St.jw]at h;split at h
   ·split at h
    ·rename_i hok;rw[if_pos hok];obtain⟨r,hr,h⟩:=Bz.1 h;simp only[hr,Oz];split at h
     ·obtain⟨p,hp,h⟩:=Bz.1 h;obtain⟨J1,hu,rfl⟩:=Mz.1 h;obtain⟨J3,h3,rfl,h5⟩:=nN hu;exact⟨_,by simp only[hp,Oz,h3,Pz],set_set hy,fun j hj=>(St.cQ _ _ fun e=>hj (by simp[bZ.dst,e])).trans (h5 j)⟩
     ·obtain⟨J1,hu,rfl⟩:=Mz.1 h;obtain⟨J3,h3,rfl,h5⟩:=nN hu;exact⟨_,by simp only[h3,Pz],set_set hy,fun j hj=>(St.cQ _ _ fun e=>hj (by simp[bZ.dst,e])).trans (h5 j)⟩
    ·cases h
   ·cases h
  ·cases h
 |mest a k v=>
  simp only[bZ.reads,List.mem_append,not_or]at h1;simp only[bZ.run,St.cU h1.1.1,St.cU h1.1.2,St.cU h1.2]at h⊢;generalize a.val J.s=av at h⊢;generalize k.val J.s=kv at h⊢;generalize v.val J.s=vv at h⊢;unfold tw at h⊢;split at h
  ·simp only[St.jw]at h;split at h
   ·split at h
    ·rename_i hok;rw[if_pos hok];obtain⟨p,hp,rfl⟩:=Mz.1 h;simp only[hp,Pz];exact⟨_,rfl,rfl,fun _ _=>rfl⟩
    ·cases h
   ·cases h
  ·cases h
theorem Ek{b:aw}{J J2:St}{x:Nat}{d:D}(h:b.run Γ (J.set x d)=some J2)(h1:x∉b.reads)(h2:b.dst≠some x):
  ∃J3,b.run Γ J=some J3∧J2=J3.set x d∧ ∀j,b.dst≠some j→J3.s j=J.s j:=by
 cases b with
 |op y k args g=>
  simp only[aw.reads,List.mem_append,not_or]at h1;have hy:x≠y:=fun e=>h2 (by simp[aw.dst,e]);have hg:bG (J.set x d) g=bG J g:=guard_congr fun j want e=>St.cQ _ _ fun e2=>h1.2 (by simp[iS,e,e2]);simp only[aw.run,hg,MP,St.jw,St.oY h1.1]at h⊢;rw[Bz]at h;obtain⟨c,hc,h⟩:=h;rw[hc];cases c
  ·simp only[cond_false,Jz]at h;exact⟨J.set y (.tup []),by simp,by rw[←h];exact set_set hy,fun j hj=>St.cQ _ _ fun e=>hj (by simp[aw.dst,e])⟩
  ·simp only[cond_true]at h;obtain⟨v,hv,rfl⟩:=Mz.1 h;exact⟨_,by simp[hv],set_set hy,fun j hj=>St.cQ _ _ fun e=>hj (by simp[aw.dst,e])⟩
 |eff e g=>
  simp only[aw.reads,List.mem_append,not_or]at h1;have hg:bG (J.set x d) g=bG J g:=guard_congr fun j want e=>St.cQ _ _ fun e2=>h1.2 (by simp[iS,e,e2]);simp only[aw.run,hg]at h⊢;rw[Bz]at h;obtain⟨c,hc,h⟩:=h;rw[hc];cases c
  ·simp only[cond_false,Jz]at h;subst h;refine⟨J.void e.dst,rfl, ?_,fun j hj=> ?_⟩
   ·cases hd:e.dst with
    |none=>rfl
    |some y=>exact set_set fun e2=>h2 (by simp[aw.dst,hd,e2])
   ·cases hd:e.dst with
    |none=>rfl
    |some y=>exact St.cQ _ _ fun e2=>hj (by simp[aw.dst,hd,e2])
  ·exact Ej (Γ:=Γ) h h1.1 h2
 |bad=>cases h
theorem iu{x:Nat}{k:PK}{args:List aM}{g:Option (Nat×Bool)}{J J':St}(h:(aw.op x k args g).run Γ J=some J'):
  ∃d,J'=J.set x d∧ ∀τ:St,(∀j∈(aw.op x k args g).reads,τ.s j=J.s j)→(lN J.m τ.m∨k.oS=false)→(aw.op x k args g).run Γ τ=some (τ.set x d):=by
 have key: ∀τ:St,(∀j∈(aw.op x k args g).reads,τ.s j=J.s j)→args.map (aM.val τ.s)=args.map (aM.val J.s)∧bG τ g=bG J g:=fun τ heq=>
  ⟨uC fun j hj=>heq j (by simp only[aw.reads,List.mem_append];exact .inl hj),guard_congr fun j want e=>heq j (by simp[aw.reads,iS,e])⟩
 simp only[aw.run]at h;rw[Bz]at h;obtain⟨b,hb,h⟩:=h;cases b
 ·simp only[cond_false,Jz]at h;refine⟨_,h.symm,fun τ heq _=> ?_⟩;simp only[aw.run,(key τ heq).2,hb,Oz,cond_false]
 ·simp only[cond_true,MP]at h;obtain⟨d,hd,rfl⟩:=Mz.1 h;refine⟨d,rfl,fun τ heq hm=> ?_⟩
  have af:k.run Γ τ.m (args.map (aM.val J.s))=some d:=by
   rcases hm with hm|hm
   ·exact oU hm hd
   ·rw[Ak hm (m':=J.m)];exact hd
  simp only[aw.run,(key τ heq).2,hb,Oz,cond_true,MP,(key τ heq).1,af,Pz]
theorem WF.tok{J:St}(W:WF J)(x:Nat):J.m (J.tok x)=none:=W x (J.c x) [] (Nat.le_refl _)
theorem WF.sub{J:St}(W:WF J){m:Mem}(h:lN m J.m):WF ⟨J.s,m,J.c⟩:=fun x k r hk=>by
 show m ((x+1)::k::r)=none;cases hm:m ((x+1)::k::r)with
 |none=>rfl
 |some o=>have:=h _ _ hm;rw[W x k r hk]at this;cases this
theorem WF.put{J:St}(W:WF J){t:Tok}{o:Option HO}(h:J.m t≠none):WF (J.put t o):=fun x k r hk=>by
 simp only[St.put];split
 ·rename_i e;rw[←e,W x k r hk]at h;exact absurd rfl h
 ·exact W x k r hk
theorem WF.new{J:St}(W:WF J)(x:Nat)(o:HO)(d:D):WF (J.new x o d):=fun y k r hk=>by
 simp only[St.new,St.inc,St.set,St.put]at hk⊢
 have hne:(y+1)::k::r≠J.tok x:=fun e=>by
  simp only[St.tok,List.cons.injEq]at e;obtain⟨e1,e2,_⟩:=e;have:y=x:=by omega
  subst this;rw[if_pos rfl]at hk;omega
 rw[if_neg hne];refine W y k r ?_;split at hk<;>omega
theorem WF.aL{J:St}(W:WF J)(g:Tok)(k:Nat):WF (J.aL g k):=W.sub fun _ _ h=>(ck h).1
theorem lN.aL(J:St)(g:Tok)(k:Nat):lN (J.aL g k).m J.m:=fun _ _ h=>(ck h).1
theorem lN.new{J:St}(W:WF J)(x:Nat)(o:HO)(d:D):lN J.m (J.new x o d).m:=fun t q h=>by
 have:t≠J.tok x:=fun e=>by rw[e,W.tok]at h;cases h
 simp[St.new,St.put,this,h]
theorem yx{ks:List Nat}{av kv vv:D}{J J':St}(W:WF J)(h:gW ks av kv vv J=some J'):WF J':=by
 unfold gW at h;split at h
 ·split at h
  ·rename_i hm;split at h
   ·rw[Bz]at h;obtain⟨r,_,h⟩:=h;split at h
    ·obtain⟨p,_,rfl⟩:=Mz.1 h;exact W.put (by rw[hm];simp)
    ·split at h<;>cases h;exact W.put (by rw[hm];simp)
   ·cases h
  ·cases h
 ·cases h
theorem JD{st:bZ}{J J':St}(W:WF J)(h:st.run Γ J=some J'):WF J'∧(st.news=true→lN J.m J'.m):=by
 have fresh: ∀x o d,J.new x o d=J'→WF J'∧lN J.m J'.m:=fun x o d e=>by subst e;exact⟨W.new x o d,lN.new W x o d⟩
 cases st with
 |box _ _ x a=>
  simp only[bZ.run,A0]at h;split at h
  ·have:=fresh _ _ _ (Option.some.inj h);exact⟨this.1,fun _=>this.2⟩
  ·cases h
 |store k _ a v=>
  refine⟨?_,fun e=>by simp[bZ.news]at e⟩;simp only[bZ.run,gT]at h;split at h
  ·split at h
   ·rename_i hm;split at h<;>cases h;exact W.put (by rw[hm];simp)
   ·cases h
  ·split at h
   ·rename_i hm;rw[Bz]at h;obtain⟨c,_,h⟩:=h;split at h<;>cases h;rename_i g0 e0 es0 _ _;intro x k r hk;simp only[St.put];split
    ·rename_i e;rw[←e,W x k r hk]at hm;cases hm
    ·exact W.aL _ _ x k r hk
   ·rename_i hm;split at h<;>cases h;exact W.put (by rw[hm];simp)
   ·cases h
  ·cases h
 |app x e size a b=>
  refine⟨?_,fun e=>by simp[bZ.news]at e⟩;simp only[bZ.run,rY]at h;rw[Bz]at h;obtain⟨es,_,h⟩:=h;split at h
  ·cases h
  split at h
  ·split at h
   ·cases h;exact W
   ·split at h<;>cases h;exact W.new _ _ _
  ·split at h
   ·cases h;exact W
   ·split at h
    ·split at h
     ·split at h
      ·split at h<;>cases h;exact(W.aL _ _).new _ _ _
      ·split at h<;>cases h;exact W.new _ _ _
     ·cases h
    ·cases h
  ·cases h
 |mks x e size zero a b=>
  simp only[bZ.run,BO]at h;split at h
  ·split at h
   ·have:=fresh _ _ _ (Option.some.inj h);exact⟨this.1,fun _=>this.2⟩
   ·cases h
  ·cases h
 |lit x e size len zero places args=>
  simp only[bZ.run,BK]at h;split at h
  ·rw[Bz]at h;obtain⟨cs,_,h⟩:=h;split at h
   ·have:=fresh _ _ _ (Option.some.inj h);exact⟨this.1,fun _=>this.2⟩
   ·cases h
  ·cases h
 |mkm x=>exact⟨(fresh _ _ _ (Option.some.inj h)).1,fun _=>(fresh _ _ _ (Option.some.inj h)).2⟩
 |mkml x e s=>exact⟨(fresh _ _ _ (Option.some.inj h)).1,fun _=>(fresh _ _ _ (Option.some.inj h)).2⟩
 |clr s z a=>
  refine⟨?_,fun e=>by simp[bZ.news]at e⟩;simp only[bZ.run,yT]at h;split at h
  ·cases h;exact W
  ·cases h;exact W
  ·cases h;exact W
  ·split at h
   ·cases h;exact W
   ·split at h
    ·rename_i hm;split at h<;>cases h;intro x k r hk;simp only[St.put];split
     ·rename_i e;rw[←e,W x k r hk]at hm;cases hm
     ·exact W.aL _ _ x k r hk
    ·cases h
  ·cases h
 |ecall x k f args=>
  refine⟨?_,fun e=>by simp[bZ.news]at e⟩;simp only[bZ.run,kP]at h;split at h
  ·split at h
   ·obtain⟨q,_,h⟩:=Bz.1 h;split at h
    ·split at h<;>cases h;exact W
    ·cases h
   ·split at h
    ·rename_i hm;split at h
     ·obtain⟨q,_,h⟩:=Bz.1 h;split at h
      ·split at h<;>cases h;intro x k r hk;simp only[St.jw,St.put];split
       ·rename_i e;rw[←e,W x k r hk]at hm;cases hm
       ·exact W.aL _ _ x k r hk
      ·cases h
     ·cases h
    ·cases h
   ·cases h
  ·cases h
 |acall x e sz f args=>
  simp only[bZ.run,nC]at h;split at h
  ·obtain⟨q,_,h⟩:=Bz.1 h;split at h
   ·split at h<;>cases h;have:=fresh _ _ _ rfl;exact⟨this.1,fun _=>this.2⟩
   ·cases h
  ·cases h
 |copy x a b=>
  refine⟨?_,fun e=>by simp[bZ.news]at e⟩;simp only[bZ.run,copyV]at h;split at h
  ·split at h
   ·rename_i hm _;split at h
    ·cases x with
     |none=>cases h;exact W.put (by rw[hm];simp)
     |some x=>cases h;exact WF.put W (by rw[hm];simp)
    ·cases h
   ·cases h
  ·cases h
 |mupd ks a k v=>exact⟨yx W h,fun e=>by simp[bZ.news]at e⟩
 |ment ks z y a k=>
  refine⟨?_,fun e=>by simp[bZ.news]at e⟩;simp only[bZ.run,vX]at h;split at h
  ·split at h
   ·split at h
    ·obtain⟨r,_,h⟩:=Bz.1 h;split at h
     ·obtain⟨p,_,h⟩:=Bz.1 h;obtain⟨J1,hu,rfl⟩:=Mz.1 h;exact(yx W hu:WF J1)
     ·obtain⟨J1,hu,rfl⟩:=Mz.1 h;exact(yx W hu:WF J1)
    ·cases h
   ·cases h
  ·cases h
 |mest a k v=>
  refine⟨?_,fun e=>by simp[bZ.news]at e⟩;simp only[bZ.run,tw]at h;split at h
  ·split at h
   ·rename_i hm;split at h
    ·obtain⟨p,_,rfl⟩:=Mz.1 h;exact W.put (by rw[hm];simp)
    ·cases h
   ·cases h
  ·cases h
theorem rP{st:aw}{J J':St}(W:WF J)(h:st.run Γ J=some J'):WF J'∧(st.news=true→lN J.m J'.m)∧((match st with| .op .. =>True|_=>False)→J'.m=J.m):=by
 cases st with
 |op x k args g=>
  obtain⟨d,rfl,_⟩:=iu h;exact⟨W,fun e=>by simp[aw.news]at e,fun _=>rfl⟩
 |eff e g=>
  simp only[aw.run]at h;rw[Bz]at h;obtain⟨c,hc,h⟩:=h;cases c
  ·simp only[cond_false,Jz]at h;subst h;refine⟨?_,fun _=> ?_,fun e=>e.elim⟩
   ·cases e.dst<;>exact W
   ·cases e.dst<;>exact fun _ _ h=>h
  ·obtain⟨h1,h2⟩:=JD (Γ:=Γ) W h;exact⟨h1,h2,fun e=>e.elim⟩
 |bad=>cases h
theorem Ju{a b:aw}{J J1 J2:St}(W:WF J)(hi:indep a b=true)(h1:a.run Γ J=some J1)(h2:b.run Γ J1=some J2): ∃J3,b.run Γ J=some J3∧a.run Γ J3=some J2:=by
 simp only[indep,Az]at hi;obtain⟨hap,hk⟩:=hi;cases a with
 |op x k args g=>
  simp only[apart,show(aw.op x k args g).dst=some x from rfl,Az]at hap;obtain⟨⟨g1,g2⟩,g3⟩:=hap;have hx1:x∉b.reads:=by simpa using g1
  have hx2:b.dst≠some x:=fun e=>by rw[e]at g3;simp at g3
  obtain⟨d,rfl,PY⟩:=iu h1;obtain⟨J3,k1,rfl,k3⟩:=Ek h2 hx1 hx2;refine⟨J3,k1,PY J3 (fun j hj=>k3 j fun e=> ?_) ?_⟩
  ·grind
  ·simp only[Bool.or_eq_true]at hk;obtain⟨_,m1,m2⟩:=rP W k1;rcases hk with(hk|hk)|hk
   ·left;cases b<;>try (cases hk;done)
    rw[m2 trivial];exact fun _ _ h=>h
   ·grind
   ·grind
 |_=>cases hk
end
end
section
def kD(sts:List aw)(k:Nat):aw:=sts.getD k default
def eA(e:Edge):Bool:=Region.binds .any e
def cF(ops:Array Oper)(M:Nat→Nat):Bool:=
 (List.range ops.size).all fun i=>
  match ops[i]? with
  |none=>false
  |some o=>o.after.toList.all (fun e=> !eA e||decide (e.on<i))&&
   (List.range ops.size).all fun k=> !(M i).testBit k||o.after.toList.any fun e=>eA e&&(e.on==k||(M e.on).testBit k)
def ah(L:Array Bool)(i:Nat):Bool:=L.getD i false
def aD(ops:Array Oper)(L:Array Bool):List Nat:=(List.range ops.size).filter fun i=> !ah L i
def jV(ops:Array Oper)(sts:List aw)(M:Nat→Nat)(L:Array Bool)(i:Nat):Bool:=
 (List.range ops.size).all fun j=>ah L j||j==i||(M j).testBit i||indep (kD sts i) (kD sts j)
def pick(ops:Array Oper)(sts:List aw)(M:Nat→Nat)(L:Array Bool):Option Nat:=(Region.ready .any ops L).find? (jV ops sts M L)
def oW(ops:Array Oper)(sts:List aw)(M:Nat→Nat):Nat→Array Bool→List (List Nat)
 |0,_=> [[]]
 |n+1,L=>match pick ops sts M L with
  |some i=>(oW ops sts M n (L.setIfInBounds i true)).map (i:: ·)
  |none=>(Region.ready .any ops L).flatMap fun i=>(oW ops sts M n (L.setIfInBounds i true)).map (i:: ·)
section
variable {P : Program} {fr : mZ} {w0 : World} {pr : aT} {A : gZ} {n : Nat} {Γ : Env} {ops : Array Oper}
theorem cP{L:Array Bool}{i:Nat}(hi:i<L.size)(k:Nat):ah (L.setIfInBounds i true) k=(ah L k||k==i):=by
 simp only[ah,Array.getD_eq_getD_getElem?]
 grind
theorem a8{L:Array Bool}(hL:L.size=ops.size){i:Nat}(h:i∈Region.ready .any ops L):
  i<ops.size∧ah L i=false∧ ∃o,ops[i]?=some o∧ ∀e∈o.after,eA e=true→ah L e.on=true:=by
 simp only[Region.ready,List.mem_filter,List.mem_range,Az]at h;obtain⟨h1,h2,h3⟩:=h
 have hl:ah L i=false:=by
  simp only[ah]at*
  grind
 refine⟨h1,hl,ops[i],Rz h1,fun e he hb=> ?_⟩;rw[Rz h1]at h3;simp only[Pz,Option.getD_some,Array.all_eq_true_iff_forall_mem]at h3;have:=h3 e he;have hb':Region.binds .any e=true:=hb;rw[hb']at this;simpa[ah]using this
theorem fI{L:Array Bool}{M:Nat→Nat}(hL:L.size=ops.size)(hB:cF ops M=true){i:Nat}(hi:i<ops.size)(hu:ah L i=false)(hlt: ∀k,k<i→ah L k=true):i∈Region.ready .any ops L:=by
 simp only[Region.ready,List.mem_filter,List.mem_range,Az];refine⟨hi, ?_, ?_⟩
 ·simp only[ah]at*
  grind
 ·rw[Rz hi];simp only[Pz,Option.getD_some,Array.all_eq_true_iff_forall_mem];intro e he;simp only[cF,Tz,List.mem_range]at hB;have:=hB i hi;rw[Rz hi]at this;simp only[Az,Tz]at this;have h1:=this.1 e (by simpa using he);cases hb:Region.binds .any e
  ·simp
  ·simp only[eA,hb,Bool.not_true,Bool.false_or,decide_eq_true_eq]at h1;have:=hlt _ h1;simpa[ah]using this
def gK(ops:Array Oper)(L:Array Bool):Prop:= ∀i o,ops[i]?=some o→ah L i=true→ ∀e∈o.after,eA e=true→ah L e.on=true
theorem hU{L:Array Bool}{M:Nat→Nat}(hB:cF ops M=true)(hC:gK ops L): ∀(i:Nat),i<ops.size→(ah L i=true∨ ∃o,ops[i]?=some o∧ ∀e∈o.after,eA e=true→ah L e.on=true)→
  ∀k,k<ops.size→(M i).testBit k=true→ah L k=true:=by
 intro i
 induction i using Nat.strongRecOn with
 |_ i ih=>
  intro hi hl k hk hm;have hB':=hB;simp only[cF,Tz,List.mem_range]at hB';have:=hB' i hi;rw[Rz hi]at this;simp only[Az,Tz,List.mem_range]at this
  have hed: ∀e∈ops[i].after,eA e=true→ah L e.on=true:=by
   rcases hl with hl|⟨o,ho,hl⟩
   ·exact hC i _ (Rz hi) hl
   ·grind
  have h2:=this.2 k hk;rw[hm]at h2
  grind
def Full(Γ:Env)(ops:Array Oper)(sts:List aw)(K:St→Prop):Nat→Array Bool→St→Prop
 |0,_,J=>K J
 |n+1,L,J=> ∀i∈Region.ready .any ops L,∃J1,(kD sts i).run Γ J=some J1∧Full Γ ops sts K n (L.setIfInBounds i true) J1
theorem tL{L:Array Bool}(hL:L.size=ops.size){i j:Nat}(hi:i∈Region.ready .any ops L)(hj:j∈Region.ready .any ops L)(hne:j≠i):j∈Region.ready .any ops (L.setIfInBounds i true):=by
 obtain⟨i1,i2,_⟩:=a8 hL hi;obtain⟨j1,j2,o,ho,hed⟩:=a8 hL hj;have Ew:=fun k=>cP (L:=L) (i:=i) (by omega) k;simp only[Region.ready,List.mem_filter,List.mem_range,Az,Bool.not_eq_true'];have hsz:(L.setIfInBounds i true).size=ops.size:=by simpa using hL
 refine⟨j1, ?_, ?_⟩
 ·have:ah (L.setIfInBounds i true) j=false:=by rw[Ew,j2];simpa using hne
  have hlt:j<(L.setIfInBounds i true).size:=by omega
  simp only[ah,Array.getD_eq_getD_getElem?,Rz hlt]at this⊢;exact this
 ·rw[ho];simp only[Pz,Option.getD_some,Array.all_eq_true_iff_forall_mem];intro e he;cases hb:Region.binds .any e
  ·simp
  ·have:=hed e he hb;have h2:ah (L.setIfInBounds i true) e.on=true:=by rw[Ew,this];rfl
   simpa[ah]using h2
theorem cG{L:Array Bool}(hL:L.size=ops.size){i:Nat}(hi:i<ops.size)(hu:ah L i=false){k:Nat}(hk:(aD ops L).length=k+1):(aD ops (L.setIfInBounds i true)).length=k:=by
 have Ew:=fun k=>cP (L:=L) (i:=i) (by omega) k;have oC:i∈aD ops L:=by simp[aD,hi,hu]
 have e:aD ops (L.setIfInBounds i true)=(aD ops L).filter (· !=i):=by
  simp only[aD,List.filter_filter]
  grind
 have hnd:(aD ops L).Nodup:=List.Nodup.sublist List.filter_sublist List.nodup_range;rw[e,←List.Nodup.erase_eq_filter hnd,List.length_erase_of_mem oC,hk];rfl
theorem fR{L:Array Bool}(hL:L.size=ops.size){i:Nat}(hi:i∈Region.ready .any ops L)(hC:gK ops L):gK ops (L.setIfInBounds i true):=fun k ok hok hk e he hb=>by
 obtain⟨i1,i2,o,ho,hed⟩:=a8 hL hi;rw[cP (by omega)]at hk⊢;rw[Bool.or_eq_true]at hk⊢;rcases hk with hk|hk
 ·exact .inl (hC k ok hok hk e he hb)
 ·have:k=i:=by simpa using hk
  subst this;rw[ho]at hok;cases hok;exact .inl (hed e he hb)
theorem xR(L:Array Bool)(i j:Nat):(L.setIfInBounds i true).setIfInBounds j true=(L.setIfInBounds j true).setIfInBounds i true:=by
 grind
theorem uP{sts:List aw}{K:St→Prop}{M:Nat→Nat}(hB:cF ops M=true): ∀(k:Nat) (L:Array Bool) (i:Nat) (J J1:St),L.size=ops.size→gK ops L→(aD ops L).length=k+1→WF J→i∈Region.ready .any ops L→
  jV ops sts M L i=true→(kD sts i).run Γ J=some J1→Full Γ ops sts K k (L.setIfInBounds i true) J1→Full Γ ops sts K (k+1) L J:=by
 intro k
 induction k with
 |zero=>
  intro L i J J1 hL hC hu W hi hf h1 hF j hj;obtain⟨i1,i2,_⟩:=a8 hL hi;obtain⟨j1,j2,_⟩:=a8 hL hj
  have qX: ∀q,q∈aD ops L→ ∀q',q'∈aD ops L→q=q':=by
   cases hl:aD ops L with
   |nil=>simp[hl]at hu
   |cons a r=>
    rw[hl]at hu;have:r= []:=List.eq_nil_of_length_eq_zero (by simpa using hu);subst this;intro q hq q' hq';simp at hq hq';rw[hq,hq']
  have:j=i:=qX j (by simp[aD,j1,j2]) i (by simp[aD,i1,i2]);subst this;exact⟨J1,h1,hF⟩
 |succ k ih=>
  intro L i J J1 hL hC hu W hi hf h1 hF j hj;obtain⟨i1,i2,_⟩:=a8 hL hi;obtain⟨j1,j2,oj,hoj,Ϟ⟩:=a8 hL hj;by_cases hji:j=i
  ·subst hji;exact⟨J1,h1,hF⟩
  ·obtain⟨J2,h2,hF2⟩:=hF j (tL hL hi hj hji)
   have hnd:(M j).testBit i=false:=by
    cases hb:(M j).testBit i
    ·rfl
    ·have:=hU hB hC j j1 (.inr ⟨oj,hoj,Ϟ⟩) i i1 hb;rw[i2]at this;cases this
   have Ϡ:indep (kD sts i) (kD sts j)=true:=by
    simp only[jV,Tz,List.mem_range,Bool.or_eq_true,beq_iff_eq]at hf;rcases hf j j1 with((h|h)|h)|h
    ·rw[j2]at h;cases h
    ·exact absurd h hji
    ·rw[hnd]at h;cases h
    ·exact h
   obtain⟨J3,h3,h4⟩:=Ju W Ϡ h1 h2;refine⟨J3,h3,ih (L.setIfInBounds j true) i J3 J2 (by simpa using hL) (fR hL hj hC) (cG hL j1 j2 hu) (rP W h3).1 (tL hL hj hi (fun e=>hji e.symm)) ?_ h4 ?_⟩
   ·simp only[jV,Tz,List.mem_range,Bool.or_eq_true,beq_iff_eq]at hf⊢;intro q hq;rcases hf q hq with((h|h)|h)|h
    ·left;left;left;rw[cP (by omega),h];rfl
    ·exact .inl (.inl (.inr h))
    ·exact .inl (.inr h)
    ·exact .inr h
   ·rw[←xR];exact hF2
theorem ov{sts:List aw}{K:St→Prop}{M:Nat→Nat}(hB:cF ops M=true): ∀(k:Nat) (L:Array Bool) (J:St),L.size=ops.size→gK ops L→(aD ops L).length=k→WF J→
  (∀s∈oW ops sts M k L,∃J',runs Γ (s.map (kD sts)) J=some J'∧K J')→Full Γ ops sts K k L J:=by
 intro k
 induction k with
 |zero=>
  intro L J hL hC hu W h;obtain⟨J',h1,h2⟩:=h [] (by simp[oW]);simp only[List.map_nil,runs,Jz]at h1;subst h1;exact h2
 |succ k ih=>
  intro L J hL hC hu W h
  have step: ∀i,i∈Region.ready .any ops L→(oW ops sts M k (L.setIfInBounds i true))≠ []→(∀s∈oW ops sts M k (L.setIfInBounds i true),∃J',runs Γ ((i::s).map (kD sts)) J=some J'∧K J')→
    ∃J1,(kD sts i).run Γ J=some J1∧Full Γ ops sts K k (L.setIfInBounds i true) J1:=by
   intro i hi hne hs;obtain⟨i1,i2,_⟩:=a8 hL hi;cases hr:(kD sts i).run Γ J with
   |none=>
    cases hq:oW ops sts M k (L.setIfInBounds i true)with
    |nil=>exact absurd hq hne
    |cons s r=>
     obtain⟨J',h1,_⟩:=hs s (by rw[hq];simp);simp[runs,hr]at h1
   |some J1=>
    refine⟨J1,rfl,ih _ J1 (by simpa using hL) (fR hL hi hC) (cG hL i1 i2 hu) (rP W hr).1 fun s hss=> ?_⟩;obtain⟨J',h1,h2⟩:=hs s hss;exact⟨J',by simpa[runs,hr]using h1,h2⟩
  have nonempty: ∀(k:Nat) (L:Array Bool),L.size=ops.size→(aD ops L).length=k→oW ops sts M k L≠ []:=by
   intro k
   induction k with
   |zero=>intro L _ _;simp[oW]
   |succ k ih2=>
    intro L hL hu
    have hrd:Region.ready .any ops L≠ []:=fun hr=>by
     have all: ∀q,q<ops.size→ah L q=true:=by
      intro q
      induction q using Nat.strongRecOn with
      |_ q ihq=>
       intro hq;cases hl:ah L q
       ·have:=fI hL hB hq hl fun j hj=>ihq j hj (by omega)
        grind
       ·rfl
     have:aD ops L= []:=by
      simp only[aD,List.filter_eq_nil_iff,List.mem_range]
      grind
     grind
    simp only[oW];split
    ·rename_i i hp;have hi:=List.mem_of_find?_eq_some hp;obtain⟨i1,i2,_⟩:=a8 hL hi;have:=ih2 (L.setIfInBounds i true) (by simpa using hL) (cG hL i1 i2 hu);simpa using this
    ·cases hq:Region.ready .any ops L with
     |nil=>exact absurd hq hrd
     |cons i r=>
      have hi:i∈Region.ready .any ops L:=by rw[hq];simp
      obtain⟨i1,i2,_⟩:=a8 hL hi;have:=ih2 (L.setIfInBounds i true) (by simpa using hL) (cG hL i1 i2 hu);simp[this]
  simp only[oW]at h;split at h
  ·rename_i i hp;have hi:=List.mem_of_find?_eq_some hp;obtain⟨i1,i2,_⟩:=a8 hL hi;obtain⟨J1,h1,h2⟩:=step i hi (nonempty k _ (by simpa using hL) (cG hL i1 i2 hu)) fun s hs=>h (i::s) (by simpa using hs);exact uP hB k L i J J1 hL hC hu W hi (List.find?_some hp) h1 h2
  ·intro i hi;obtain⟨i1,i2,_⟩:=a8 hL hi;exact step i hi (nonempty k _ (by simpa using hL) (cG hL i1 i2 hu)) fun s hs=>h (i::s) (by simp only[List.mem_flatMap,List.mem_map];exact⟨i,hi,s,hs,rfl⟩)
theorem Rel.wf{w:World}{cs:Array Value}{J:St}{tk:ag}(R:Rel P w0 pr A n w cs J tk):WF J:=fun x k r hk=>by
 cases h:J.m ((x+1)::k::r)with
 |none=>rfl
 |some o=>
  obtain⟨b,c,h1,_⟩:=(R.mem.obj _ o h).place;rw[R.fresh x k r hk]at h1;cases h1
theorem D4{r:Option Nat}{B:eo}(hΓ:Sound P Γ){M:Nat→Nat}(hB:cF ops M=true){Q:Exit→Act→World→Prop}{df:List Deferred}{K:St→Prop}(hQ: ∀a' w' J',a'.defers=df→bW P B n w' a'.tmps J'→K J'→Q .normal a' w'):
  ∀(k:Nat) (L:Array Bool) (a:Act) (w:World) (J:St),L.size=ops.size→gK ops L→(aD ops L).length=k→a.defers=df→bW P B n w a.tmps J→
   Full Γ ops (pB P fr n ops) K k L J→wpAnyIn (wF r) 0 P .any ops Q k L a w:=by
 have fp: ∀i o,ops[i]?=some o→kD (pB P fr n ops) i=pC P fr n ops o:=fun i o h=>by
  simp[kD,pB,h]
 have Xu: ∀{L:Array Bool},L.size=ops.size→Region.ready .any ops L= []→ ∀k,k<ops.size→ah L k=true:=by
  intro L hL hr k
  induction k using Nat.strongRecOn with
  |_ k ih=>
   intro hk;cases hl:ah L k
   ·have:=fI hL hB hk hl fun j hj=>ih j hj (by omega)
    grind
   ·rfl
 intro k
 induction k with
 |zero=>
  intro L a w J hL hC hu hdf R hF;refine⟨?_,hQ a w J hdf R hF⟩;cases hr:Region.ready .any ops L with
  |nil=>rfl
  |cons i r=>
   obtain⟨h1,h2,_⟩:=a8 hL (i:=i) (by rw[hr];simp);have:i∈aD ops L:=by simp[aD,h1,h2]
   grind
 |succ k ih=>
  intro L a w J hL hC hu hdf R hF;refine⟨fun hr=> ?_,fun i hi=> ?_⟩
  ·exfalso
   have:aD ops L= []:=by
    simp only[aD,List.filter_eq_nil_iff]
    grind
   grind
  ·obtain⟨i1,i2,o,ho,_⟩:=a8 hL hi;obtain⟨J1,h1,h2⟩:=hF i hi;rw[fp i o ho]at h1
   have:=kF (r:=r) hΓ R h1 (wpAnyIn (wF r) 0 P .any ops Q k (L.setIfInBounds i true)) Q fun a' w' PZ R'=>
    ih (L.setIfInBounds i true) a' w' J1 (by simpa using hL) (fR hL hi hC) (cG hL i1 i2 hu) (PZ.trans hdf) R' h2
   unfold wpOpIn;simp only[ho];split
   ·rename_i hw;rw[if_pos hw]at this;exact this
   ·rename_i hw;rw[if_neg hw]at this;exact⟨fun _ _=>trivial,this⟩
def Xd(ops:Array Oper)(i:Nat):List Nat:=match ops[i]? with
 |some o=>(o.after.toList.filter eA).map Edge.on
 |none=> []
def Pr(ops:Array Oper)(sts:List aw)(M:Nat→Nat)(i:Nat):List Nat:=(List.range ops.size).filter fun j=> !(j==i||(M j).testBit i||indep (kD sts i) (kD sts j))
def KH(ops:Array Oper)(m:Nat):List Nat:=(List.range ops.size).filter fun i=> !m.testBit i&&(Xd ops i).all fun k=>m.testBit k
def t_(ops:Array Oper)(sts:List aw)(M:Nat→Nat):Nat→Nat→List (List Nat)
 |0,_=> [[]]
 |n+1,m=>match(KH ops m).find? fun i=>(Pr ops sts M i).all fun j=>m.testBit j with
  |some i=>(t_ ops sts M n (m|||2^i)).map (i:: ·)
  |none=>(KH ops m).flatMap fun i=>(t_ ops sts M n (m|||2^i)).map (i:: ·)
theorem ua{ops:Array Oper}{sts:List aw}{M:Nat→Nat}: ∀{n:Nat} {L:Array Bool} {m:Nat},L.size=ops.size→(∀i,ah L i=m.testBit i)→t_ ops sts M n m=oW ops sts M n L
 |0,_,_,_,_=>rfl
 |n+1,L,m,hL,h=>by
  have hr:KH ops m=Region.ready .any ops L:=by
   unfold KH Region.ready;refine List.filter_congr fun i hi=> ?_;have hi:=List.mem_range.1 hi
   have e1:L.getD i true=m.testBit i:=by
    rw[←h];simp only[ah,Array.getD_eq_getD_getElem?];rw[Rz (by omega)];rfl
   rw[e1];congr 1;unfold Xd;rw[Rz hi];simp only[Pz,Option.getD_some];rw[←Array.all_toList,List.all_map,List.all_filter];refine List.all_congr rfl fun e=> ?_;show(!eA e||m.testBit e.on)=(!Region.binds .any e||L.getD e.on false);rw[←h];rfl
  have hc: ∀i,((Pr ops sts M i).all fun j=>m.testBit j)=jV ops sts M L i:=fun i=>by
   unfold Pr jV;rw[List.all_filter];refine List.all_congr rfl fun j=> ?_;rw[h];cases m.testBit j<;>cases(j==i)<;>cases(M j).testBit i<;>cases indep (kD sts i) (kD sts j)<;>rfl
  have hs: ∀i,i<ops.size→t_ ops sts M n (m|||2^i)=oW ops sts M n (L.setIfInBounds i true):=fun i hi=>ua (by simpa using hL) fun k=>by
   rw[cP (by omega),h,Nat.testBit_or,Nat.testBit_two_pow];congr 1;rw[Bool.eq_iff_iff,decide_eq_true_eq,beq_iff_eq];exact eq_comm
  unfold t_ oW pick;rw[hr,funext hc];split
  ·rename_i i hf;rw[hs i (List.mem_range.1 (List.mem_filter.1 (List.mem_of_find?_eq_some hf)).1)]
  ·rw[List.flatMap_def,List.flatMap_def];congr 1;exact List.map_congr_left fun i hi=>by rw[hs i (List.mem_range.1 (List.mem_filter.1 hi).1)]
def BU(P:Program)(fr:mZ)(n:Nat)(ops:Array Oper):Option (List (List aw)):=
 let b:=Region.before ops
 if cF ops (fun i=>b.getD i 0)then some ((t_ ops (pB P fr n ops) (fun i=>b.getD i 0) ops.size 0).map fun s=>s.map (kD (pB P fr n ops)))else none
def Pt(ops:Array Oper)(M:Nat→Nat)(c:Nat):Bool:=(List.range ops.size).all fun i=>decide (i<c)||(List.range c).all fun j=>(M i).testBit j
def DS(ops:Array Oper)(M:Nat→Nat)(c:Nat):Bool:=(List.range ops.size).all fun i=>decide (i<c)||(List.range i).all fun j=>(M i).testBit j
def ql(r:Option Nat)(P:Program)(ops:Array Oper)(Q:Exit→Act→World→Prop)(c:Nat)(a:Act)(w:World):Prop:=
 ∀L:Array Bool,L.size=ops.size→(∀i,i<c→ah L i=true)→(∀i,c≤i→ah L i=false)→gK ops L→wpAnyIn (wF r) 0 P .any ops Q (ops.size-c) L a w
theorem JC{M:Nat→Nat}(hB:cF ops M=true){i:Nat}{o:Oper}(ho:ops[i]?=some o): ∀e∈o.after,eA e=true→e.on<i:=fun e he hb=>by
 have hi:=(Array.getElem?_eq_some_iff.1 ho).1;simp only[cF,Tz,List.mem_range]at hB;have:=hB i hi;rw[ho]at this;simp only[Az,Tz,List.mem_range]at this;have:=this.1 e (by simpa using he);rw[hb]at this;simpa using this
theorem zP{c m:Nat}(h:c≤m){p:Nat→Bool}(h1: ∀i,i<c→p i=false)(h2: ∀i,c≤i→p i=true):((List.range m).filter p).length=m-c:=by
 have e:List.range m=List.range c++List.range' c (m-c):=by
  rw[List.range_eq_range',List.range_eq_range',show m=c+(m-c) by omega,Nat.add_sub_cancel_left];simpa using(List.range'_append (s:=0) (m:=c) (n:=m-c) (step:=1)).symm
 rw[e,List.filter_append,List.length_append,List.filter_eq_self (l:=List.range' c (m-c))|>.2 (fun i hi=>h2 i (List.mem_range'_1.1 hi).1),List.filter_eq_nil_iff.2 (fun i hi=>by simp[h1 i (List.mem_range.1 hi)])];simp
theorem GI{sts:List aw}{K:St→Prop}{M:Nat→Nat}{c:Nat}(hB:cF ops M=true)(hc:c≤ops.size)(hT: ∀i,c≤i→i<ops.size→ ∀j,j<c→(M i).testBit j=true):
  ∀(k:Nat) (L L0:Array Bool) (J:St),L.size=ops.size→L0.size=c→(∀i,i<c→ah L i=ah L0 i)→(∀i,c≤i→ah L i=false)→gK ops L→(aD (ops.extract 0 c) L0).length=k→
   Full Γ (ops.extract 0 c) sts K k L0 J→Full Γ ops sts K k L J:=by
 intro k
 induction k with
 |zero=>intro L L0 J _ _ _ _ _ _ h;exact h
 |succ k ih=>
  intro L L0 J hL hL0 hag hhi hC hu h i hi;have hps:(ops.extract 0 c).size=c:=by simp;omega
  obtain⟨i1,i2,o,ho,hed⟩:=a8 hL hi
  have hic:i<c:=by
   refine Nat.lt_of_not_le fun hle=> ?_
   have bS: ∀j,j<c→ah L0 j=true:=fun j hj=>by
    rw[←hag j hj];exact hU hB hC i i1 (.inr ⟨o,ho,hed⟩) j (by omega) (hT i hle i1 j hj)
   have:aD (ops.extract 0 c) L0= []:=by
    simp only[aD,List.filter_eq_nil_iff,List.mem_range,hps];intro j hj;simp[bS j hj]
   rw[this]at hu;cases hu
  have hon: ∀e∈o.after,eA e=true→e.on<i:=fun e he hb=>by
   have hB':=hB;simp only[cF,Tz,List.mem_range]at hB';have:=hB' i i1;rw[ho]at this;simp only[Az,Tz,List.mem_range]at this;have:=this.1 e (by simpa using he);rw[hb]at this;simpa using this
  have hpo:(ops.extract 0 c)[i]?=some o:=by
   rw[Array.getElem?_extract_of_lt (by omega)];simp only[Nat.zero_add];rw[←Rz];exact ho
  have hi0:i∈Region.ready .any (ops.extract 0 c) L0:=by
   simp only[Region.ready,List.mem_filter,List.mem_range,Az,hps];refine⟨hic, ?_, ?_⟩
   ·have h2:=hag i hic;rw[i2]at h2;simp only[ah]at*
    grind
   ·rw[hpo];simp only[Pz,Option.getD_some,Array.all_eq_true_iff_forall_mem];intro e he;cases hb:Region.binds .any e with
    |false=>rfl
    |true=>
     have h3:=hon e he hb;have h4:=hed e he hb;rw[hag _ (by omega)]at h4;simpa[ah]using h4
  obtain⟨J1,h1,h2⟩:=h i hi0;refine⟨J1,h1,ih (L.setIfInBounds i true) (L0.setIfInBounds i true) J1 (by simpa using hL) (by simpa using hL0) (fun j hj=> ?_) (fun j hj=> ?_) (fR hL hi hC) (cG (by rw[hps];exact hL0) (by rw[hps];exact hic) (by rw[←hag i hic];exact i2) hu) h2⟩
  ·rw[cP (by omega),cP (by omega),hag j hj]
  ·rw[cP (by omega),hhi j hj];have:j≠i:=by omega
   simpa using this
theorem FM{r:Option Nat}{M:Nat→Nat}(hB:cF ops M=true){c:Nat}(hT: ∀i,c≤i→i<ops.size→ ∀j,j<i→(M i).testBit j=true){Q:Exit→Act→World→Prop}:
  ∀(m k:Nat) (L:Array Bool) (a:Act) (w:World),c≤k→k+m=ops.size→L.size=ops.size→(∀i,i<k→ah L i=true)→(∀i,k≤i→ah L i=false)→gK ops L→
   e9 r P ops Q (List.range' k m) a w→wpAnyIn (wF r) 0 P .any ops Q m L a w:=by
 intro m
 induction m with
 |zero=>
  intro k L a w _ hk hL hlo hhi hC h;refine⟨?_,h⟩;cases hr:Region.ready .any ops L with
  |nil=>rfl
  |cons i s=>
   obtain⟨h1,h2,_⟩:=a8 hL (i:=i) (by rw[hr];simp);rw[hlo i (by omega)]at h2;cases h2
 |succ m ih=>
  intro k L a w hck hk hL hlo hhi hC h;have hrk:=fI hL hB (i:=k) (by omega) (hhi k (Nat.le_refl _)) hlo;refine⟨fun hr=>(by rw[hr]at hrk;cases hrk),fun i hi=> ?_⟩;obtain⟨i1,i2,o,ho,hed⟩:=a8 hL hi
  have hik:i=k:=by
   have h1:k≤i:=Nat.le_of_not_lt fun hlt=>by rw[hlo i hlt]at i2;cases i2
   rcases Nat.lt_or_ge k i with h2|h2
   ·have:=hU hB hC i i1 (.inr ⟨o,ho,hed⟩) k (by omega) (hT i (by omega) i1 k h2);rw[hhi k (Nat.le_refl _)]at this;cases this
   ·omega
  subst hik;rw[List.range'_succ,e9,wpOpsIn_cons]at h;refine wpOpIn_mono (fun a' w' h'=>ih (i+1) _ a' w' (by omega) (by omega) (by simpa using hL) (fun j hj=> ?_) (fun j hj=> ?_) (fR hL hi hC) h') h
  ·rw[cP (by omega)];rcases Nat.lt_or_ge j i with h2|h2
   ·rw[hlo j h2];rfl
   ·have:j=i:=by omega
    simp[this]
  ·rw[cP (by omega),hhi j (by omega)];have:j≠i:=by omega
   simpa using this
theorem Jm{r:Option Nat}{B:eo}(hΓ:Sound P Γ){M:Nat→Nat}(hB:cF ops M=true){c:Nat}(hc:c≤ops.size)(hT: ∀i,c≤i→i<ops.size→ ∀j,j<c→(M i).testBit j=true){Q:Exit→Act→World→Prop}{df:List Deferred}{K:St→Prop}
  (hQ: ∀a' w' J',a'.defers=df→bW P B n w' a'.tmps J'→K J'→ql r P ops Q c a' w'):
  ∀(k:Nat) (L:Array Bool) (a:Act) (w:World) (J:St),L.size=ops.size→gK ops L→(∀i,c≤i→ah L i=false)→(aD ops L).length=k+(ops.size-c)→a.defers=df→bW P B n w a.tmps J→
   Full Γ ops (pB P fr n ops) K k L J→wpAnyIn (wF r) 0 P .any ops Q (k+(ops.size-c)) L a w:=by
 have fp: ∀i o,ops[i]?=some o→kD (pB P fr n ops) i=pC P fr n ops o:=fun i o h=>by
  simp[kD,pB,h]
 have low: ∀{L:Array Bool} {k:Nat},L.size=ops.size→(∀i,c≤i→ah L i=false)→(aD ops L).length=k+(ops.size-c)→((List.range c).filter fun i=> !ah L i).length=k:=fun{L k} hL hhi hu=>by
  have e:List.range ops.size=List.range c++List.range' c (ops.size-c):=by
   rw[List.range_eq_range',List.range_eq_range',show ops.size=c+(ops.size-c) by omega,Nat.add_sub_cancel_left];simpa using(List.range'_append (s:=0) (m:=c) (n:=ops.size-c) (step:=1)).symm
  unfold aD at hu
  rw[e,List.filter_append,List.length_append,List.filter_eq_self (l:=List.range' c (ops.size-c))|>.2 (fun i hi=>by
   have:=List.mem_range'_1.1 hi
   simp[hhi i this.1])]at hu
  simp only[List.length_range']at hu;omega
 intro k
 induction k with
 |zero=>
  intro L a w J hL hC hhi hu hdf R hF;rw[Nat.zero_add];have hz:=low (k:=0) hL hhi hu;refine hQ a w J hdf R hF L hL (fun i hi=> ?_) hhi hC;cases hl:ah L i with
  |true=>rfl
  |false=>
   have:i∈(List.range c).filter fun i=> !ah L i:=by simp[hi,hl]
   rw[List.eq_nil_of_length_eq_zero hz]at this;cases this
 |succ k ih=>
  intro L a w J hL hC hhi hu hdf R hF;have hz:=low hL hhi hu
  have Bx: ∃i,i∈Region.ready .any ops L:=by
   have: ∃i,i<c∧ah L i=false:=by
    cases hq:(List.range c).filter fun i=> !ah L i with
    |nil=>rw[hq]at hz;cases hz
    |cons i s=>
     have:i∈(List.range c).filter fun i=> !ah L i:=by rw[hq];simp
     exact⟨i,by simpa using this⟩
   obtain⟨i,h1,h2⟩:=this
   induction i using Nat.strongRecOn with
   |_ i ihi=>
    by_cases hlt: ∀j,j<i→ah L j=true
    ·exact⟨i,fI hL hB (by omega) h2 hlt⟩
    ·simp only[Classical.not_forall]at hlt;obtain⟨j,hj,hj2⟩:=hlt;exact ihi j hj (by omega) (by simpa using hj2)
  have hsz:k+1+(ops.size-c)=(k+(ops.size-c))+1:=by omega
  rw[hsz]at hu⊢;refine⟨fun hr=>(by obtain⟨i,hi⟩:=Bx;rw[hr]at hi;cases hi),fun i hi=> ?_⟩;obtain⟨i1,i2,o,ho,hed⟩:=a8 hL hi
  have hic:i<c:=by
   refine Nat.lt_of_not_le fun hle=> ?_;have bS: ∀j,j<c→ah L j=true:=fun j hj=>hU hB hC i i1 (.inr ⟨o,ho,hed⟩) j (by omega) (hT i hle i1 j hj)
   have:(List.range c).filter (fun i=> !ah L i)= []:=by
    simp only[List.filter_eq_nil_iff,List.mem_range];intro j hj;simp[bS j hj]
   rw[this]at hz;cases hz
  obtain⟨J1,h1,h2⟩:=hF i hi;rw[fp i o ho]at h1
  have:=kF (r:=r) hΓ R h1 (wpAnyIn (wF r) 0 P .any ops Q (k+(ops.size-c)) (L.setIfInBounds i true)) Q fun a' w' PZ R'=>
   ih (L.setIfInBounds i true) a' w' J1 (by simpa using hL) (fR hL hi hC) (fun j hj=>by
    rw[cP (by omega),hhi j hj];have:j≠i:=by omega
    simpa using this) (cG hL i1 i2 hu) (PZ.trans hdf) R' h2
  unfold wpOpIn;simp only[ho];split
  ·rename_i hw;rw[if_pos hw]at this;exact this
  ·rename_i hw;rw[if_neg hw]at this;exact⟨fun _ _=>trivial,this⟩
theorem tail_at{r:Option Nat}{M:Nat→Nat}(hB:cF ops M=true){c:Nat}(hc:c≤ops.size)(hT:DS ops M c=true){Q:Exit→Act→World→Prop}{a:Act}{w:World}(h:e9 r P ops Q (List.range' c (ops.size-c)) a w):ql r P ops Q c a w:=fun L hL hlo hhi hC=>by
 simp only[DS,Tz,List.mem_range,Bool.or_eq_true,decide_eq_true_eq]at hT;refine FM hB (c:=c) (fun i h1 h2 j hj=> ?_) (ops.size-c) c L a w (Nat.le_refl _) (by omega) hL hlo hhi hC h;rcases hT i h2 with h|h
 ·omega
 ·exact h j hj
def xI(P:Program)(fr:mZ)(n:Nat)(ops:Array Oper)(c c':Nat):Option (List (List aw)):=
 let b:=Region.before ops;let q:=Region.before (ops.extract 0 c')
 if(cF ops (fun i=>b.getD i 0)=true∧Pt ops (fun i=>b.getD i 0) c'=true)∧(c≤c'∧c'≤ops.size)∧cF (ops.extract 0 c') (fun i=>q.getD i 0)=true then some ((t_ (ops.extract 0 c') (pB P fr n ops) (fun i=>q.getD i 0) (c'-c) (2^c-1)).map fun s=>s.map (kD (pB P fr n ops)))else none
theorem bW.wf{B:eo}{w:World}{cs:Array Value}{J:St}(R:bW P B n w cs J):WF J:=let⟨_,_,_,_,R,_⟩:=R;R.wf
theorem ze{r:Option Nat}{B:eo}(hΓ:Sound P Γ)(hm:P.follows .mixedOrders=true){id:Nat}{Q:Exit→Act→World→Prop}{w:World}{J:St}{K:St→Prop}{a:Act}{ss:List (List aw)}
  (R:bW P B n w a.tmps J) (hd:BU P fr n ops=some ss) (hr: ∀s∈ss,∃J',runs Γ s J=some J'∧K J')
  (hQ: ∀a' w' J',a'.defers=a.defers→bW P B n w' a'.tmps J'→K J'→Q .normal a' w'):Code.rj r P (Code.region id ops true) Q a w:=by
 apply wpIn_region_any hm;simp only[BU]at hd;split at hd<;>cases hd;rename_i hB;rw[ua (L:=Array.replicate ops.size false) (by simp) fun k=>by simp only[ah,Array.getD_eq_getD_getElem?,Nat.zero_testBit];grind]at hr
 have hun: ∀k,ah (Array.replicate ops.size false) k=false:=fun k=>by
  simp only[ah,Array.getD_eq_getD_getElem?]
  grind
 have hC:gK ops (Array.replicate ops.size false):=fun i o ho hl=>by rw[hun i]at hl;cases hl
 have hu:(aD ops (Array.replicate ops.size false)).length=ops.size:=by
  have:aD ops (Array.replicate ops.size false)=List.range ops.size:=List.filter_eq_self.2 fun k _=>by rw[hun k];rfl
  grind
 have hg:cW (fun _=>False) w {w with drawn:=w.drawn+1}:=⟨rfl,rfl,rfl,Nat.le_refl _,fun _ _ _=>rfl,Nat.le_succ _⟩
 have R':bW P B n {w with drawn:=w.drawn+1} a.tmps J:=by
  obtain⟨w1,pr,A,tk,R,U⟩:=R;have K:=R.fU hg (fun _ _ h=>h);exact⟨w1,pr,A,tk,⟨R.size,R.chg.trans hg (fun _ _ h=>h.elim),R.prlt,R.prA,R.glob.keeps K.cell,R.mem.keeps K fun _ _ _ _ _ _=>rfl,R.live,R.fresh,R.zero,R.one,fun i hi=>(R.slot i hi).keeps K,fun i hi=>(R.sav i hi).keeps K⟩,U⟩
 exact D4 hΓ hB hQ ops.size _ a _ J (by simp) hC hu rfl R' (ov hB _ _ _ (by simp) hC hu R.wf fun s hs=>hr _ (List.mem_map.2 ⟨s,hs,rfl⟩))
theorem Fc{r:Option Nat}{B:eo}(hΓ:Sound P Γ){c c':Nat}{Q:Exit→Act→World→Prop}{w:World}{J:St}{K:St→Prop}{a:Act}{ss:List (List aw)}
  (R:bW P B n w a.tmps J) (hd:xI P fr n ops c c'=some ss) (hr: ∀s∈ss,∃J',runs Γ s J=some J'∧K J')
  (hQ: ∀a' w' J',a'.defers=a.defers→bW P B n w' a'.tmps J'→K J'→ql r P ops Q c' a' w'):ql r P ops Q c a w:=fun L hL hlo hhi hC=>by
 simp only[xI]at hd;split at hd<;>cases hd;rename_i GW;obtain⟨⟨hB,hT0⟩,⟨hcc,hc⟩,hB0⟩:=GW;simp only[Pt,Tz,List.mem_range,Bool.or_eq_true,decide_eq_true_eq]at hT0;generalize hM:(fun i=>(Region.before ops).getD i 0)=M at*
 have hT: ∀i,c'≤i→i<ops.size→ ∀j,j<c'→(M i).testBit j=true:=fun i h1 h2 j hj=>by
  rcases hT0 i h2 with h|h
  ·omega
  ·rw[←hM];exact h j hj
 have hps:(ops.extract 0 c').size=c':=by simp;omega
 generalize hL0:(Array.range c').map (fun i=>decide (i<c))=L0
 have hl0: ∀i,ah L0 i=decide (i<c):=fun i=>by
  subst hL0;simp only[ah,Array.getD_eq_getD_getElem?];by_cases h:i<c'
  ·simp[h]
  ·have: ¬i<c:=by omega
   simp[h,this]
 have hs0:L0.size=c':=by subst hL0;simp
 rw[ua (L:=L0) (by rw[hs0,hps]) fun k=>by rw[hl0,Nat.testBit_two_pow_sub_one]]at hr
 have hC0:gK (ops.extract 0 c') L0:=fun i o ho hl e he hb=>by
  have:=JC hB0 ho e he hb;rw[hl0]at hl⊢;simp only[decide_eq_true_eq]at hl⊢;omega
 have hu0:(aD (ops.extract 0 c') L0).length=c'-c:=by
  unfold aD;rw[hps];exact zP hcc (fun i hi=>by simp[hl0,hi]) fun i hi=>by simp[hl0];omega
 have hu:(aD ops L).length=(c'-c)+(ops.size-c'):=by
  unfold aD;rw[zP (c:=c) (by omega) (fun i hi=>by simp[hlo i hi]) fun i hi=>by simp[hhi i hi]];omega
 have hF0:=ov (Γ:=Γ) (K:=K) (sts:=pB P fr n ops) hB0 (c'-c) L0 J (by rw[hs0,hps]) hC0 hu0 R.wf fun s hs=>hr _ (List.mem_map.2 ⟨s,hs,rfl⟩)
 have hF:=GI hB hc hT (c'-c) L L0 J hL hs0 (fun i _=>by
  rw[hl0];by_cases h:i<c
  ·simp[h,hlo i h]
  ·simp[h,hhi i (by omega)]) (fun i hi=>hhi i (by omega)) hC hu0 hF0
 have:=Jm (r:=r) (Q:=Q) hΓ hB hc hT hQ (c'-c) L a w J hL hC (fun i hi=>hhi i (by omega)) hu rfl R hF
 rwa[show c'-c+(ops.size-c')=ops.size-c by omega]at this
theorem AY{r:Option Nat}{B:eo}(hm:P.follows .mixedOrders=true){id:Nat}{Q:Exit→Act→World→Prop}{w:World}{J:St}{a:Act}(R:bW P B n w a.tmps J)
  (h: ∀w',bW P B n w' a.tmps J→ql r P ops Q 0 a w'):Code.rj r P (Code.region id ops true) Q a w:=by
 apply wpIn_region_any hm;have hg:cW (fun _=>False) w {w with drawn:=w.drawn+1}:=⟨rfl,rfl,rfl,Nat.le_refl _,fun _ _ _=>rfl,Nat.le_succ _⟩
 have R':bW P B n {w with drawn:=w.drawn+1} a.tmps J:=by
  obtain⟨w1,pr,A,tk,R,U⟩:=R;have K:=R.fU hg (fun _ _ h=>h);exact⟨w1,pr,A,tk,⟨R.size,R.chg.trans hg (fun _ _ h=>h.elim),R.prlt,R.prA,R.glob.keeps K.cell,R.mem.keeps K fun _ _ _ _ _ _=>rfl,R.live,R.fresh,R.zero,R.one,fun i hi=>(R.slot i hi).keeps K,fun i hi=>(R.sav i hi).keeps K⟩,U⟩
 have hun: ∀k,ah (Array.replicate ops.size false) k=false:=fun k=>by
  simp only[ah,Array.getD_eq_getD_getElem?]
  grind
 exact h _ R' (Array.replicate ops.size false) (by simp) (fun i hi=>absurd hi (Nat.not_lt_zero i)) (fun i _=>hun i) fun i o ho hl=>by rw[hun i]at hl;cases hl
end
end
section
abbrev FP:=Nat→List D→Option D
def bg(G:FP):Env:=⟨G,fun f ds=>(G (1000001000000+f) ds).map fun d=>(d.bare,eh),fun _ _ _=>none,fun k f ds=>G (1000000+(1000000*k+f)) ds⟩
def Vq:FP:=fun _ _=>none
inductive XK where
 |pk (k:PK)
 |call (fl:Bool) (f:Nat)
 |ccall (fl:Bool)
 |agg
 |tup
 |clo (f:Nat)
 |lptr
 |cell (j n:Nat)
 |eV
 |gv (w:Bool)
 |aj
 |aO
 |app (size:Nat)
 |lit (size len:Nat) (zero:List D) (places:List (Nat×Nat))
 |mks (size:Nat) (zero:List D)
 |setl (size j n:Nat)
 |take
 |mget (ks:List Nat) (z:D) (ok:Bool)
 |mset (ks:List Nat)
 |rngi (n:Nat)
 |geta (n s j m:Nat) (g:Bool)
 |seta (n s j m:Nat)
 |ecall (k f sz:Nat)
 |mkl
 |isc (f n:Nat)
 |capc (f i n:Nat)
 |mapp (ks:List Nat) (sz:Nat)
 |fmk
 |drp
 |clr (zero:List D)
 |adn
 |mix (ks:List Nat)
 |pm (q:Nat) (ks:List Nat) (a b:Nat)
 |own
 deriving Inhabited
def oM(ks:List Nat)(z:D)(ok:Bool)(es:List (D×D))(k:D):Option D:=
 if k.rJ=true∧cj ks k k=some true then(bq ks k es 0).bind fun r=>match r with
  |none=>some (if ok then .tup [z,bv false]else z)
  |some i=>(es[i]?).map fun p=>if ok then .tup [p.2,bv true]else p.2
 else none
def lC(ks:List Nat)(es:List (D×D))(k v:D):Option (List (D×D)):=
 if v.rJ=true∧k.rJ=true∧cj ks k k=some true then(bq ks k es 0).bind fun r=>match r with
  |some i=>(es[i]?).map fun p=>es.set i (p.1,v)
  |none=>if es.length<bx then some (es++ [(k,v)])else none
 else none
def D.SY:D→Bool
 | .v _| .list _| .lptr _=>true
 |_=>false
def D.rG:D→Bool
 | .clo _ xs=>xs.all D.SY
 |d=>d.SY
def Dq(ks:List Nat)(sz:Nat)(es:List (D×D))(k:D)(b:List (List D)):Option (List (D×D)):=
 if(k.rJ=true∧cj ks k k=some true)∧(b.all fun c=>c.length==sz&&c.all D.rG)=true∧b.isEmpty=false then(bq ks k es 0).bind fun r=>match r with
  |some i=>match es[i]? with
   |some (k0, .list rows)=>if rows.length+b.length≤bx then some (es.set i (k0, .list (rows++b)))else none
   |_=>none
  |none=>if es.length<bx∧b.length≤bx then some (es++ [(k, .list b)])else none
 else none
def lb(rows:List (List D))(z:Int):Option (List D):=if z<0 then none else rows[z.toNat]?
def EZ(q:Nat)(ks:List Nat)(a b:Nat)(ds:List D):Option D:=match q with
 |0=>match ds with
  | [.list rows]=>some (.list ([iv (-1)]::(List.range rows.length).map fun(i:Nat)=> [iv (i:Int)]))
  |_=>none
 |1=>match ds with
  | [.list rows, .v (.int _ z)]=>(lb rows z).bind fun c=>match c with
   | [k,_]=>if k.aK then some k else none
   |_=>none
  |_=>none
 |2=>match ds with
  | [.list rows, .v (.int _ z)]=>(lb rows z).bind fun c=>match c with
   | [_,v]=>if v.aK then some v else none
   |_=>none
  |_=>none
 |3=>match ds with
  | [.list rows,k]=>(aB rows).bind fun es=>if k.rJ=true∧cj ks k k=some true then(bq ks k es 0).map fun r=>match r with
   |some (i:Nat)=>iv (i:Int)
   |none=>iv (-1)
   else none
  |_=>none
 |4=>match ds with
  | [.list rows, .v (.int _ z)]=>(lb rows z).bind fun c=>match c with
   | [_, .list [cs]]=>if a+b≤cs.length∧((cs.drop a).take b).all D.aN=true then some (.agg ((cs.drop a).take b))else none
   |_=>none
  |_=>none
 |5=>match ds with
  | [.list rows, .v (.int _ z)]=>(lb rows z).bind fun c=>match c with
   | [_, .list [cs]]=>(cs[a]?).bind fun d=>if d.aK then some d else none
   |_=>none
  |_=>none
 |6=>match ds with
  | [.list rows, .v (.int _ z),v]=>(lb rows z).bind fun c=>match c with
   | [k, .list [cs]]=>if v.cells.length=b∧a+b≤cs.length∧v.cells.all D.gE=true then some (.list (rows.set z.toNat [k, .list [putAt cs a v.cells]]))else none
   |_=>none
  |_=>none
 |8=>match ds with
  | [.list ([.v (.int q z)]::_)]=>some (.v (.int q z))
  |_=>none
 |_=>match ds with
  | [.list rows,k, .agg cs]=>(aB rows).bind fun es=>if k.rJ=true∧cj ks k k=some true∧es.length<bx∧cs.all D.gE=true then(bq ks k es 0).bind fun r=>match r with
   |none=>some (.list (aG (es++ [(k, .list [cs])])))
   |some _=>none
   else none
  |_=>none
def gU(G:FP)(fl:Bool)(f:Nat)(ds:List D):Option D:=(G f ds).bind fun r=>if(if fl then r.bare.flat||r.eD&&r.bare.aK else r.bare.aK)then some r.bare else none
def bj(size:Nat)(es:List (List D)):Bool:=es.all fun c=>c.length==size&&c.all D.rG
def l8:D→Option (List (List D))
 | .list es=>some es
 | .nil| .mt=>some []
 |_=>none
def XK.run(G:FP):XK→List D→Option D
 | .pk k,ds=>(k.run (bg Vq) eh ds).bind fun d=>if d.aK then some d else none
 | .call fl f,ds=>gU G fl f ds
 | .ccall fl,ds=>match ds with
  | .clo f eT::r=>if f<1000000 then(eT.mapM (bD eh)).bind fun cs=>gU G fl f (r++cs)else none
  |_=>none
 | .agg,ds=>if ds.all D.aN then some (.agg ds)else none
 | .tup,ds=>some (.tup ds)
 | .clo f,ds=>if ds.all D.aN then some (.clo f ds)else none
 | .lptr,ds=>some (.lptr ds)
 | .cell j n,ds=>match ds with
  | [d]=>if d.cells.length=n∧d.cells.all D.gE=true∧d.cells.all D.aN=true then d.cells[j]? else none
  |_=>none
 | .eV,ds=>match ds with
  | [d]=>if d.gE=true∧d.aK=true then some d else none
  |_=>none
 | .gv w,ds=>match ds with
  | [.v (.bool b)]=>some (bv (b==w))
  | [.tup _]=>some (bv false)
  |_=>none
 | .aj,ds=>match ds with
  | [d]=>if d.aK then bD eh d else none
  |_=>none
 | .aO,ds=>match ds with
  | [d]=>if d.aN then az eh 6 d else none
  |_=>none
 | .app size,ds=>match ds with
  | [a,b]=>(l8 a).bind fun a=>(l8 b).bind fun b=>if bj size b=true∧a.length+b.length≤bx then some (.list (a++b))else none
  |_=>none
 | .lit size len zero places,ds=>if ds.all (fun d=>d.cells.all D.gE)then(nb zero places ds).bind fun cs=>if cs.length=len*size∧bj size (kL size len (cs.map D.nz))=true then some (.list (kL size len (cs.map D.nz)))else none else none
 | .mks size zero,ds=>match ds with
  | [.v (.int _ l), .v (.int _ c)]=>if 0≤l∧l≤c∧c≤bx∧c.toNat*size≤16777216∧zero.length=size∧zero.all D.rG=true then some (.list (List.replicate l.toNat zero))else none
  |_=>none
 | .setl size j n,ds=>match ds with
  | [.list es, .v (.int _ i),v]=>if i<0 then none else(es[i.toNat]?).bind fun c=>if v.cells.length=n∧j+n≤size∧c.length=size∧v.cells.all D.gE=true∧v.cells.all D.rG=true then some (.list (es.set i.toNat (putAt c j v.cells)))else none
  |_=>none
 | .take,ds=>match ds with
  | [.list es, .v (.int _ k)]=>if 0≤k∧k≤es.length then some (.list (es.take k.toNat))else none
  |_=>none
 | .mget ks z ok,ds=>match ds with
  | [.list rows,k]=>(aB rows).bind fun es=>(oM ks z ok es k).bind fun d=>if d.aK then some d else none
  |_=>none
 | .mset ks,ds=>match ds with
  | [.list rows,k,v]=>(aB rows).bind fun es=>(lC ks es k v).map fun es=> .list (aG es)
  |_=>none
 | .rngi n,ds=>match ds with
  | [.v (.int _ i)]=>if 0≤i∧i<n then some (.tup [])else none
  |_=>none
 | .geta n s j m g,ds=>match ds with
  | [.agg xs, .v (.int _ i)]=>if 0≤i∧i<n∧j+m≤s∧n*s≤xs.length then(if g then(if((xs.drop (i.toNat*s+j)).take m).all D.aN then some (.agg ((xs.drop (i.toNat*s+j)).take m))else none)else(xs[i.toNat*s+j]?).bind fun d=>if d.aK then some d else none)else none
  |_=>none
 | .seta n s j m,ds=>match ds with
  | [.agg xs, .v (.int _ i),v]=>if 0≤i∧i<n∧j+m≤s∧n*s≤xs.length∧v.cells.length=m∧v.cells.all D.gE=true∧v.cells.all D.aN=true∧xs.all D.aN=true then some (.agg (putAt xs (i.toNat*s+j) v.cells))else none
  |_=>none
 | .ecall k f sz,ds=>if(ds.set k .nil).all D.aK=true∧f<1000000 then(match ds[k]? with
  |some (.list es)=>(G (1000000+(1000000*k+f)) ds).bind fun r=>match r with
   | .tup [d, .list es']=>if d.aK=true∧es'.length=es.length∧bj sz es'=true then some (.tup [d, .list es'])else none
   |_=>none
  |_=>none)else none
 | .drp,ds=>match ds with
  | [.list es, .v (.int _ k)]=>if 0≤k∧k≤es.length then some (.list (es.drop k.toNat))else none
  |_=>none
 | .clr zero,ds=>match ds with
  | [.list es, .v (.int _ k)]=>if 0≤k∧k≤es.length then some (.list (es.take k.toNat++List.replicate (es.length-k.toNat) zero))else none
  |_=>none
 | .adn,ds=>match ds with
  | [.v (.int _ a), .v (.int q b)]=>if 0≤a∧0≤b then some (.v (.int q (a+b)))else none
  |_=>none
 | .mix ks,ds=>match ds with
  | [.list rows,k]=>(aB rows).bind fun es=>(bq ks k es 0).bind fun r=>r.map fun(i:Nat)=>iv (i:Int)
  |_=>none
 | .pm q ks a b,ds=>EZ q ks a b ds
 | .fmk,ds=>match ds with
  | [.list rows]=>(aB rows).bind fun es=>if es.all (fun p=>p.1.aK&&p.2.aK)then some (.fm rows)else none
  |_=>none
 | .mapp ks sz,ds=>match ds with
  | [.list rows,k,b]=>(aB rows).bind fun es=>(l8 b).bind fun b=>(Dq ks sz es k b).map fun es=> .list (aG es)
  |_=>none
 | .own,ds=>match ds with
  | [d]=>some d
  |_=>none
 | .mkl,ds=>some (.list (ds.map fun d=> [d]))
 | .isc f n,ds=>match ds with
  | [.clo g xs]=>if g=f∧xs.length=n then some (.tup [])else none
  |_=>none
 | .capc f i n,ds=>match ds with
  | [.clo g xs]=>if g=f∧xs.length=n then(xs[i]?).bind fun d=>if d.aK then some d else none else none
  |_=>none
inductive X where
 |t (i:Nat)
 |q (d:D)
 |mk (k:XK) (xs:List X)
 |ite (c a b:X)
 deriving Inhabited
mutual
def X.ev(G:FP)(E:List D):X→Option D
 | .t i=>E[i]?
 | .q d=>some d
 | .mk k xs=>(X.bh G E xs).bind (k.run G)
 | .ite c a b=>(X.ev G E c).bind fun v=>v.asBool.bind fun x=>bif x then X.ev G E a else X.ev G E b
def X.bh(G:FP)(E:List D):List X→Option (List D)
 | []=>some []
 |x::r=>(X.ev G E x).bind fun d=>(X.bh G E r).map fun ds=>d::ds
end
theorem dg{G:FP}{E:List D}: ∀{xs:List X} {ds:List D},X.bh G E xs=some ds→ds.length=xs.length
 | [],ds,h=>by simp[X.bh]at h;subst h;rfl
 |x::r,ds,h=>by
  simp only[X.bh,Bz,Mz]at h;obtain⟨d,_,ds',h2,rfl⟩:=h;simp[dg h2]
theorem eZ{G:FP}{E:List D}: ∀{xs:List X} {ds:List D},X.bh G E xs=some ds→ ∀(i:Nat) (x:X) (d:D),xs[i]?=some x→ds[i]?=some d→X.ev G E x=some d
 | [],ds,_,i,x,d,hx,_=>by simp at hx
 |x::r,ds,h,i,y,d,hx,hd=>by
  simp only[X.bh,Bz,Mz]at h;obtain⟨d0,h1,ds',h2,rfl⟩:=h;cases i with
  |zero=>simp at hx hd;subst hx;subst hd;exact h1
  |succ i=>exact eZ h2 i y d (by simpa using hx) (by simpa using hd)
theorem sG{G:FP}{E:List D}: ∀{xs:List X} {ds:List D},xs.length=ds.length→(∀(i:Nat) (x:X) (d:D),xs[i]?=some x→ds[i]?=some d→X.ev G E x=some d)→X.bh G E xs=some ds
 | [],[],_,_=>rfl
 |x::r,d::ds,hl,h=>by
  simp only[X.bh,h 0 x d rfl rfl,Oz,sG (xs:=r) (ds:=ds) (by simpa using hl) fun i y e hy he=>h (i+1) y e (by simpa using hy) (by simpa using he),Pz]
 | [],_::_,hl,_=>by simp at hl
 |_::_,[],hl,_=>by simp at hl
mutual
def X.lt(k:Nat):X→Bool
 | .t i=>decide (i<k)
 | .q _=>true
 | .mk _ xs=>X.Zj k xs
 | .ite c a b=>X.lt k c&&X.lt k a&&X.lt k b
def X.Zj(k:Nat):List X→Bool
 | []=>true
 |x::r=>X.lt k x&&X.Zj k r
end
mutual
theorem vH{G:FP}{E E':List D}{k:Nat}(h: ∀i,i<k→E[i]?=E'[i]?): ∀(x:X),X.lt k x=true→X.ev G E x=X.ev G E' x
 | .t i,hx=>by simp only[X.lt,decide_eq_true_eq]at hx;exact h i hx
 | .q _,_=>rfl
 | .mk kk xs,hx=>by simp only[X.lt]at hx;simp only[X.ev,Gp h xs hx]
 | .ite c a b,hx=>by
  simp only[X.lt,Az]at hx;simp only[X.ev,vH h c hx.1.1,vH h a hx.1.2,vH h b hx.2]
theorem Gp{G:FP}{E E':List D}{k:Nat}(h: ∀i,i<k→E[i]?=E'[i]?): ∀(xs:List X),X.Zj k xs=true→X.bh G E xs=X.bh G E' xs
 | [],_=>rfl
 |x::r,hx=>by
  simp only[X.Zj,Az]at hx;simp only[X.bh,vH h x hx.1,Gp h r hx.2]
end
mutual
theorem bn{G:FP}{E s:List D}: ∀(x:X) (d:D),X.ev G E x=some d→X.ev G (E++s) x=some d
 | .t i,d,h=>by simp only[X.ev]at h⊢;rw[Yz (Gz.1 h).1];exact h
 | .q _,_,h=>h
 | .mk k xs,d,h=>by
  simp only[X.ev,Bz]at h⊢;obtain⟨ds,h1,h2⟩:=h;exact⟨ds,zj xs ds h1,h2⟩
 | .ite c a b,d,h=>by
  simp only[X.ev,Bz]at h⊢;obtain⟨v,h1,x,h2,h3⟩:=h;refine⟨v,bn c v h1,x,h2, ?_⟩;cases x
  ·exact bn b d h3
  ·exact bn a d h3
theorem zj{G:FP}{E s:List D}: ∀(xs:List X) (ds:List D),X.bh G E xs=some ds→X.bh G (E++s) xs=some ds
 | [],_,h=>h
 |x::r,ds,h=>by
  simp only[X.bh,Bz,Mz]at h⊢;obtain⟨d,h1,ds',h2,rfl⟩:=h;exact⟨d,bn x d h1,ds',zj r ds' h2,rfl⟩
end
def py:Value→Value→Bool
 | .int k a, .int k' b=>decide (k=k'∧a=b)
 | .bool a, .bool b=>a==b
 | .nilFunc, .nilFunc=>true
 | .nilIface, .nilIface=>true
 | .pointer none, .pointer none=>true
 |_,_=>false
theorem vz{a b:Value}(h:py a b=true):a=b:=by
 unfold py at h
 grind
mutual
def gN:D→D→Bool
 | .v x, .v y=>py x y
 | .nil, .nil=>true
 | .nilmap, .nilmap=>true
 | .mt, .mt=>true
 | .tup xs, .tup ys=>gq xs ys
 | .agg xs, .agg ys=>gq xs ys
 | .lptr xs, .lptr ys=>gq xs ys
 | .list xs, .list ys=>px xs ys
 | .clo f xs, .clo g ys=>f==g&&gq xs ys
 |_,_=>false
def gq:List D→List D→Bool
 | [],[]=>true
 |a::r,b::s=>gN a b&&gq r s
 |_,_=>false
def px:List (List D)→List (List D)→Bool
 | [],[]=>true
 |a::r,b::s=>gq a b&&px r s
 |_,_=>false
end
mutual
theorem wR: ∀{a b:D},gN a b=true→a=b
 | .v x,b,h=>by
  cases b<;>first|(rename_i y;rw[vz (a:=x) (b:=y) (by simpa only[gN]using h)];done)|(simp[gN]at h;done)
 | .nil,b,h=>by cases b<;>first|rfl|(simp[gN]at h;done)
 | .nilmap,b,h=>by cases b<;>first|rfl|(simp[gN]at h;done)
 | .mt,b,h=>by cases b<;>first|rfl|(simp[gN]at h;done)
 | .tup xs,b,h=>by
  cases b<;>first|(rename_i ys;rw[dB (a:=xs) (b:=ys) (by simpa only[gN]using h)];done)|(simp[gN]at h;done)
 | .agg xs,b,h=>by
  cases b<;>first|(rename_i ys;rw[dB (a:=xs) (b:=ys) (by simpa only[gN]using h)];done)|(simp[gN]at h;done)
 | .lptr xs,b,h=>by
  cases b<;>first|(rename_i ys;rw[dB (a:=xs) (b:=ys) (by simpa only[gN]using h)];done)|(simp[gN]at h;done)
 | .list xs,b,h=>by
  cases b<;>first|(rename_i ys;rw[vw (a:=xs) (b:=ys) (by simpa only[gN]using h)];done)|(simp[gN]at h;done)
 | .clo f xs,b,h=>by
  cases b<;>try (simp[gN]at h;done)
  simp only[gN,Az,beq_iff_eq]at h;rw[h.1,dB h.2]
 | .undef,b,h=>by cases b<;>(simp[gN]at h;done)
 | .sl ..,b,h=>by cases b<;>(simp[gN]at h;done)
 | .ptr ..,b,h=>by cases b<;>(simp[gN]at h;done)
 | .rptr ..,b,h=>by cases b<;>(simp[gN]at h;done)
 | .mp _,b,h=>by cases b<;>(simp[gN]at h;done)
 | .fm _,b,h=>by cases b<;>(simp[gN]at h;done)
theorem dB: ∀{a b:List D},gq a b=true→a=b
 | [],[],_=>rfl
 |a::r,b::s,h=>by simp only[gq,Az]at h;rw[wR h.1,dB h.2]
 | [],_::_,h=>by simp[gq]at h
 |_::_,[],h=>by simp[gq]at h
theorem vw: ∀{a b:List (List D)},px a b=true→a=b
 | [],[],_=>rfl
 |a::r,b::s,h=>by simp only[px,Az]at h;rw[dB h.1,vw h.2]
 | [],_::_,h=>by simp[px]at h
 |_::_,[],h=>by simp[px]at h
end
def yL:List (Nat×Nat)→List (Nat×Nat)→Bool
 | [],[]=>true
 |(a,c)::r,(b,d)::s=>a==b&&c==d&&yL r s
 |_,_=>false
theorem sf: ∀{a b:List (Nat×Nat)},yL a b=true→a=b
 | [],[],_=>rfl
 |(a,c)::r,(b,d)::s,h=>by simp only[yL,Az,beq_iff_eq]at h;rw[h.1.1,h.1.2,sf h.2]
 | [],_::_,h=>by cases h
 |_::_,[],h=>by cases h
def FW:PK→PK→Bool
 | .mv, .mv| .inot, .inot| .ineg, .ineg| .llen, .llen| .slen, .slen| .bm, .bm=>true
 | .ibin a, .ibin b=>decide (a=b)
 | .ishift a, .ishift b=>decide (a=b)
 | .beq a, .beq b=>a==b
 | .seq a, .seq b=>a==b
 | .load n g, .load n' g'=>n==n'&&g==g'
 | .fld a, .fld b=>a==b
 | .idx a b, .idx a' b'=>a==a'&&b==b'
 | .aidx a b, .aidx a' b'=>a==a'&&b==b'
 | .ext a, .ext b=>a==b
 | .conv a, .conv b=>decide (a=b)
 | .afld a b c, .afld a' b' c'=>a==a'&&b==b'&&c==c'
 | .mx2 a, .mx2 b=>a==b
 | .aix a b c, .aix a' b' c'=>a==a'&&b==b'&&c==c'
 | .aeq a l, .aeq b l'=>a==b&&l==l'
 | .snil a, .snil b=>a==b
 | .pnil a, .pnil b=>a==b
 | .slc a b c d, .slc a' b' c' d'=>a==a'&&b==b'&&c==c'&&d==d'
 | .sla a b c d, .sla a' b' c' d'=>a==a'&&b==b'&&c==c'&&d==d'
 | .sop a, .sop b=>decide (a=b)
 | .clo a, .clo b=>a==b
 | .fbox a, .fbox b=>a==b
 | .mx3 a, .mx3 b=>a==b
 | .build z p, .build z' p'=>gq z z'&&yL p p'
 | .lkp ks z o, .lkp ks' z' o'=>(ks==ks'&&o==o')&&gq [z] [z']
 |_,_=>false
theorem FX{a b:PK}(h:FW a b=true):a=b:=by
 unfold FW at h;split at h<;>first|rfl|(rw[Az]at h;rw[dB h.1,sf h.2];done)|(simp only[Az,beq_iff_eq]at h;have h2:=dB h.2;simp only[List.cons.injEq,and_true]at h2;rw[h.1.1,h.1.2,h2];done)|(simp at h;simp[h];done)|(cases h;done)
def FZ:XK→XK→Bool
 | .pk a, .pk b=>FW a b
 | .call a f, .call b g=>a==b&&f==g
 | .ccall a, .ccall b=>a==b
 | .agg, .agg| .tup, .tup| .lptr, .lptr| .eV, .eV| .aj, .aj| .aO, .aO=>true
 | .clo f, .clo g=>f==g
 | .cell a b, .cell a' b'=>a==a'&&b==b'
 | .app a, .app b=>a==b
 | .gv a, .gv b=>a==b
 | .setl a b c, .setl a' b' c'=>a==a'&&b==b'&&c==c'
 | .lit a b z p, .lit a' b' z' p'=>(a==a'&&b==b')&&(gq z z'&&yL p p')
 | .mks a z, .mks a' z'=>a==a'&&gq z z'
 | .take, .take=>true
 | .mget ks z ok, .mget ks' z' ok'=>(ks==ks'&&ok==ok')&&gq [z] [z']
 | .mset ks, .mset ks'=>ks==ks'
 | .rngi n, .rngi n'=>n==n'
 | .geta a b c d e, .geta a' b' c' d' e'=>a==a'&&b==b'&&c==c'&&d==d'&&e==e'
 | .seta a b c d, .seta a' b' c' d'=>a==a'&&b==b'&&c==c'&&d==d'
 | .ecall a b c, .ecall a' b' c'=>a==a'&&b==b'&&c==c'
 | .mkl, .mkl=>true
 | .isc a b, .isc a' b'=>a==a'&&b==b'
 | .capc a b c, .capc a' b' c'=>a==a'&&b==b'&&c==c'
 | .mapp a b, .mapp a' b'=>a==a'&&b==b'
 | .clr z, .clr z'=>gq z z'
 | .mix ks, .mix ks'=>ks==ks'
 | .pm q ks a b, .pm q' ks' a' b'=>q==q'&&ks==ks'&&a==a'&&b==b'
 | .fmk, .fmk| .drp, .drp| .adn, .adn| .own, .own=>true
 |_,_=>false
theorem F0{a b:XK}(h:FZ a b=true):a=b:=by
 unfold FZ at h;split at h<;>first|rfl|(rw[FX h];done)|(rw[dB h];done)|(simp only[Az,beq_iff_eq]at h;rw[h.1.1,h.1.2,dB h.2.1,sf h.2.2];done)|(simp only[Az,beq_iff_eq]at h;rw[h.1,dB h.2];done)|(simp only[Az,beq_iff_eq]at h;have h2:=dB h.2;simp only[List.cons.injEq,and_true]at h2;rw[h.1.1,h.1.2,h2];done)|(simp at h;simp[h];done)|(cases h;done)
mutual
def cZ:X→X→Bool
 | .t i, .t j=>i==j
 | .q d, .q e=>gN d e
 | .mk k xs, .mk k' ys=>FZ k k'&&oa xs ys
 | .ite c a b, .ite c' a' b'=>cZ c c'&&cZ a a'&&cZ b b'
 |_,_=>false
def oa:List X→List X→Bool
 | [],[]=>true
 |x::r,y::s=>cZ x y&&oa r s
 |_,_=>false
end
mutual
theorem aF: ∀(a b:X),cZ a b=true→a=b
 | .t i,b,h=>by cases b<;>simp[cZ]at h;rw[h]
 | .q d,b,h=>by cases b<;>simp[cZ]at h;rw[wR h]
 | .mk k xs,b,h=>by
  cases b<;>simp[cZ]at h;rw[F0 h.1,jU xs _ h.2]
 | .ite c a b,y,h=>by
  cases y<;>simp[cZ]at h;rw[aF c _ h.1.1,aF a _ h.1.2,aF b _ h.2]
theorem jU: ∀(a b:List X),oa a b=true→a=b
 | [],b,h=>by cases b<;>simp[oa]at h;rfl
 |x::r,b,h=>by
  cases b<;>simp[oa]at h;rw[aF x _ h.1,jU r _ h.2]
end
def iter{α β:Type}(F:(α→Option β)→α→Option β):Nat→α→Option β
 |0=>fun _=>none
 |n+1=>F (iter F n)
end
section
inductive VE where
 |normal
 |exit (id:Nat)
 |ret
 deriving Inhabited,DecidableEq
def VE.ex:VE→Exit
 | .normal=> .normal
 | .exit id=> .exit id
 | .ret=> .ret
structure Im where
 t:Nat→Tok
 e:Nat→Nat→Tok
instance:CoeFun Im fun _=>Nat→Tok:=⟨Im.t⟩
def Im.set(ι:Im)(nm:Nat)(u:Tok):Im:=⟨fun n=>if n=nm then u else ι n,ι.e⟩
@[simp] theorem Im.gF(ι:Im)(nm:Nat)(u:Tok)(n:Nat):(ι.set nm u) n=if n=nm then u else ι n:=rfl
@[simp] theorem Im.adj(ι:Im)(nm:Nat)(u:Tok):(ι.set nm u).e=ι.e:=rfl
inductive RS where
 |ready
 |busy
 |done (e:VE)
 |over
 deriving Inhabited,DecidableEq
structure bz where
 t:Nat→Tok
 f:Nat→RS→Obj
 c:Tok→Prop
inductive SV where
 |un
 |x (e:X)
 |agg (vs:List SV)
 |tup (vs:List SV)
 |clo (f:Nat) (vs:List SV)
 |ptr (n o:Nat)
 |dp (n o cnt s:Nat) (i:X) (j:Nat)
 |gl (n sz:Nat)
 |gs (n sz:Nat) (k:X)
 |gc (n sz:Nat) (k:X)
 |gt (n sz:Nat) (k:X)
 |ep (n sz:Nat) (i:X) (j:Nat)
 |sb (n o len:Nat)
 |rb (n o:Nat)
 |mp (n:Nat)
 |yl (n:Nat)
 |bp (n:Nat) (i:X) (o:Nat)
 |it (n:Nat)
 |gd (g:X) (v:SV)
 deriving Inhabited
inductive SO where
 |box (vs:List SV)
 |aA (e sz:Nat) (c:X)
 |map (c:X)
 |bL (e sz:Nat) (c:X)
 |raw (k:RS)
 |itr (m:Option Nat) (c:X)
 deriving Inhabited
def SO.uU:SO→Bool
 | .map _| .bL .. =>true
 |_=>false
def SO.Ql:SO→Bool
 | .itr .. =>true
 |_=>false
structure Sy where
 s:List (Nat×SV)
 h:List (Nat×SO)
 nv:Nat
 d:Nat
 nx:Nat
 pd:Option VE
def find{α:Type}:List (Nat×α)→Nat→Option α
 | [],_=>none
 |(i,a)::r,n=>bif i==n then some a else find r n
def qw{α:Type}(n:Nat):List (Nat×α)→List (Nat×α)
 | []=> []
 |(i,a)::r=>bif i==n then qw n r else(i,a)::qw n r
theorem iD{α:Type}(n k:Nat): ∀(l:List (Nat×α)),find (qw n l) k=if k=n then none else find l k
 | []=>by simp[find,qw]
 |(i,a)::r=>by
  simp only[qw];by_cases h:i=n
  ·simp only[h,beq_self_eq_true,cond_true,iD n k r,find]
   grind
  ·have h1:(i==n)=false:=by simpa using h
   simp only[h1,cond_false,find,iD n k r]
   grind
def bF{α:Type}(n:Nat)(a:α)(l:List (Nat×α)):List (Nat×α):=(n,a)::qw n l
theorem ba{α:Type}(n k:Nat)(a:α)(l:List (Nat×α)):find (bF n a l) k=if k=n then some a else find l k:=by
 simp only[bF,find,iD]
 grind
def mapA{α β:Type}(f:α→β):List (Nat×α)→List (Nat×β)
 | []=> []
 |(i,a)::r=>(i,f a)::mapA f r
theorem dh{α β:Type}(f:α→β)(k:Nat): ∀(l:List (Nat×α)),find (mapA f l) k=(find l k).map f
 | []=>rfl
 |(i,a)::r=>by
  simp only[mapA,find,dh f k r]
  grind
theorem jZ {α : Type} : ∀ {l : List (Nat × α)} {n : Nat} {v : α}, find l n = some v → (n, v) ∈ l
  | [], _, _, h => by cases h
  | (i, a) :: r, n, v, h => by
    simp only [find] at h
    cases hi : i == n with
    | true => rw [hi] at h; cases h; have : i = n := by simpa using hi
              grind
    | false => rw [hi] at h; exact Cz _ (jZ h)
mutual
def SV.im(n:Nat):SV→Bool
 | .un| .x _=>false
 | .agg vs| .tup vs=>SV.oL n vs
 | .clo _ vs=>SV.oL n vs
 | .ptr k _| .dp k _ _ _ _ _| .gl k _| .gs k _ _| .gc k _ _| .gt k _ _| .ep k _ _ _| .sb k _ _| .rb k _| .mp k| .yl k| .bp k _ _| .it k=>k==n
 | .gd _ v=>SV.im n v
def SV.oL(n:Nat):List SV→Bool
 | []=>false
 |v::r=>SV.im n v||SV.oL n r
end
theorem tv{n:Nat}: ∀{vs:List SV},SV.oL n vs=false→ ∀(i:Nat) (v:SV),vs[i]?=some v→v.im n=false
 | [],_,i,v,h=>by simp at h
 |a::r,h,i,v,hv=>by
  simp only[SV.oL,Bool.or_eq_false_iff]at h;cases i with
  |zero=>simp at hv;subst hv;exact h.1
  |succ i=>exact tv h.2 i v (by simpa using hv)
section
variable (G : FP) (E : List D) (ι : Im) (h : List (Nat × SO))
inductive VR:SV→D→Prop
 |un {d:D}:VR .un d
 |x {e:X} {d:D} (h1:X.ev G E e=some d) (h2:d.aK=true):VR (.x e) d
 |agg {vs:List SV} {ds:List D} (hl:vs.length=ds.length) (hh: ∀(i:Nat) (v:SV) (d:D),vs[i]?=some v→ds[i]?=some d→VR v d):VR (.agg vs) (.agg ds)
 |tup {vs:List SV} {ds:List D} (hl:vs.length=ds.length) (hh: ∀(i:Nat) (v:SV) (d:D),vs[i]?=some v→ds[i]?=some d→VR v d):VR (.tup vs) (.tup ds)
 |clo {f:Nat} {vs:List SV} {ds:List D} (hl:vs.length=ds.length) (hh: ∀(i:Nat) (v:SV) (d:D),vs[i]?=some v→ds[i]?=some d→VR v d):VR (.clo f vs) (.clo f ds)
 |ptr {n o:Nat} {vs:List SV} (hf:find h n=some (.box vs)):VR (.ptr n o) (.ptr (ι n) o)
 |dp {n o cnt s j:Nat} {i:X} {vs:List SV} {k:IntKind} {z:Int} (hf:find h n=some (.box vs)) (hv:X.ev G E i=some (.v (.int k z))) (h0:0≤z) (hz:z<cnt) (hl:o+cnt*s≤vs.length):
   VR (.dp n o cnt s i j) (.ptr (ι n) (o+z.toNat*s+j))
 |gln {n sz e:Nat} {c:X} (hf:find h n=some (.aA e sz c)) (hi:ι n= []):VR (.gl n sz) .nil
 |gl {n sz e:Nat} {c:X} {es:List (List D)} (hf:find h n=some (.aA e sz c)) (hc:X.ev G E c=some (.list es)) (hi:ι n≠ []):VR (.gl n sz) (.sl (ι n) sz 0 es.length none)
 |gsn {n sz e:Nat} {c k:X} {q:IntKind} (hf:find h n=some (.aA e sz c)) (hi:ι n= []) (hk:X.ev G E k=some (.v (.int q 0))):VR (.gs n sz k) (.list [])
 |gs {n sz e:Nat} {c k:X} {es:List (List D)} {q:IntKind} {z:Int} (hf:find h n=some (.aA e sz c)) (hc:X.ev G E c=some (.list es)) (hi:ι n≠ []) (hk:X.ev G E k=some (.v (.int q z))) (h0:0≤z) (hz:z≤es.length):
   VR (.gs n sz k) (.sl (ι n) sz 0 z.toNat none)
 |gcn {n sz e:Nat} {c k:X} {q:IntKind} (hf:find h n=some (.aA e sz c)) (hi:ι n= []) (hk:X.ev G E k=some (.v (.int q 0))):VR (.gc n sz k) (.list [])
 |gc {n sz e:Nat} {c k:X} {es:List (List D)} {q:IntKind} {z:Int} {m:Nat} (hf:find h n=some (.aA e sz c)) (hc:X.ev G E c=some (.list es)) (hi:ι n≠ []) (hk:X.ev G E k=some (.v (.int q z))) (h0:0≤z) (hz:z≤es.length):
   VR (.gc n sz k) (.sl (ι n) sz 0 z.toNat (some m))
 |gtn {n sz e:Nat} {c k:X} {q:IntKind} (hf:find h n=some (.aA e sz c)) (hi:ι n= []) (hk:X.ev G E k=some (.v (.int q 0))):VR (.gt n sz k) (.list [])
 |gt {n sz e:Nat} {c k:X} {es:List (List D)} {q:IntKind} {z:Int} (hf:find h n=some (.aA e sz c)) (hc:X.ev G E c=some (.list es)) (hi:ι n≠ []) (hk:X.ev G E k=some (.v (.int q z))) (h0:0≤z) (hz:z≤es.length):
   VR (.gt n sz k) (.sl (ι n) sz z.toNat (es.length-z.toNat) none)
 |ep {n sz e j:Nat} {c i:X} {k:IntKind} {z:Int} {es:List (List D)} (hf:find h n=some (.aA e sz c)) (hc:X.ev G E c=some (.list es)) (hi:ι n≠ []) (hv:X.ev G E i=some (.v (.int k z))) (h0:0≤z) (hz:z.toNat<es.length):
   VR (.ep n sz i j) (.rptr (ι n) sz z.toNat j)
 |sb {n o len:Nat} {lim:Option Nat} {vs:List SV} (hf:find h n=some (.box vs)) (hl:o+len≤vs.length):VR (.sb n o len) (.sl (ι n) 1 o len lim)
 |rb {n o:Nat} {vs:List SV} (hf:find h n=some (.box vs)) (hl:o<vs.length):VR (.rb n o) (.rptr (ι n) 1 o 0)
 |mp {n:Nat} {o:SO} (hf:find h n=some o) (ho:o.uU=true):VR (.mp n) (.mp (ι n))
 |yl {n:Nat} {k:RS} (hf:find h n=some (.raw k)):VR (.yl n) (.v (.func (.yield ((ι n).headD 0-1)) #[] #[]))
 |bp {n o:Nat} {i c:X} {rows:List (List D)} {k:IntKind} {z:Int} {e:Nat} (hf:find h n=some (.bL e 0 c)) (hc:X.ev G E c=some (.list rows)) (hv:X.ev G E i=some (.v (.int k z))) (h0:0≤z) (hz:z.toNat<rows.length):VR (.bp n i o) (.ptr (ι.e n z.toNat) o)
 |bpn {n:Nat} {i c:X} {k:IntKind} {z:Int} {e:Nat} (hf:find h n=some (.bL e 0 c)) (hv:X.ev G E i=some (.v (.int k z))) (h0:z<0):VR (.bp n i 0) (.v (.pointer none))
 |it {n:Nat} {o:SO} (hf:find h n=some o) (ho:o.Ql=true):VR (.it n) (.ptr (ι n) 0)
 |gd {g:X} {b:Bool} {v:SV} {d:D} (hg:X.ev G E g=some (bv b)) (h1:b=true→VR v d) (h2:b=false→d= .tup []):VR (.gd g v) d
end
def bA(G:FP)(E:List D)(ι:Im)(h:List (Nat×SO))(vs:List SV)(ds:List D):Prop:=
 vs.length=ds.length∧ ∀(i:Nat) (v:SV) (d:D),vs[i]?=some v→ds[i]?=some d→VR G E ι h v d
structure OE where
 k:D
 u:Tok
 g:Tok
 es:List (List D)
def OE.pr(q:OE):D×D:=(q.k, .list q.es)
def OE.en(sz:Nat)(q:OE):D×D:=(q.k,if sz=0 then .ptr q.u 0 else .sl q.u sz 0 q.es.length none)
def OE.ob(e sz:Nat)(q:OE):HO:=if sz=0 then .box (q.es.headD [])else .row q.g e q.es
abbrev Jg(h:List (Nat×SO))(ι:Im)(γ:Nat→Tok)(J:St)(e sz:Nat)(q:OE):Prop:=
 q.u≠ []∧(sz≠0→bj sz q.es=true)∧J.m q.u=some (q.ob e sz)∧(∀k o,find h k=some o→ι k≠q.u)∧(sz≠0→ ∀k e sz c,find h k=some (.aA e sz c)→ι k≠ []→γ k≠q.g)∧(∀y k r,q.g=(y+1)::k::r→k<J.c y)∧(sz=0→q.g=q.u∧q.es.length=1)
abbrev D0(h:List (Nat×SO))(ι:Im)(γ:Nat→Tok)(J:St)(e sz:Nat)(f:Nat→Tok)(L:List OE):Prop:=(∀q∈L,Jg h ι γ J e sz q)∧(L.map OE.g).Nodup∧(sz=0→ ∀i q,L[i]?=some q→q.u=f i)
theorem Jg.eP{h h':List (Nat×SO)}{ι ι':Im}{γ γ':Nat→Tok}{J J':St}{e sz:Nat}{q:OE}(H:Jg h ι γ J e sz q)(hm:J'.m q.u=J.m q.u)(hi: ∀k o,find h' k=some o→ι' k≠q.u)
  (hg:sz≠0→ ∀k e sz c,find h' k=some (.aA e sz c)→ι' k≠ []→γ' k≠q.g) (hc: ∀y,J.c y≤J'.c y):Jg h' ι' γ' J' e sz q:=
 ⟨H.1,H.2.1,hm.trans H.2.2.1,hi,hg,fun y k r h=>Nat.lt_of_lt_of_le (H.2.2.2.2.2.1 y k r h) (hc y),H.2.2.2.2.2.2⟩
abbrev fw(h:List (Nat×SO))(ι:Im)(γ:Nat→Tok)(J:St)(q:OE):Prop:= ∃n e sz c L,find h n=some (.bL e sz c)∧J.m (ι n)=some (.map (L.map (OE.en sz)))∧D0 h ι γ J e sz (ι.e n) L∧q∈L
abbrev rowAt(J:St)(u:Tok):Prop:= ∃g e es,J.m u=some (.row g e es)
def vT(seen:List Nat):D:=match seen.getLast? with
 |some i=>iv (i:Int)
 |none=>iv (-1)
def lB(k:Nat)(seen:List Nat):List (List D):= [vT seen]::((List.range k).filter fun i=> !seen.contains i).map fun(i:Nat)=> [iv (i:Int)]
def qn(G:FP)(E:List D)(ι:Im)(h:List (Nat×SO))(J:St)(n:Nat)(m:Option Nat)(c:X):Prop:=
 ι n≠ []∧ ∃t k seen,J.m (ι n)=some (.iter t k seen)∧ ∀m',m=some m'→t=ι m'∧(∃o,find h m'=some o∧o.uU=true)∧X.ev G E c=some (.list (lB k seen))∧ ∃es,J.m (ι m')=some (.map es)∧es.length=k
theorem qn.eP{G:FP}{E E':List D}{ι ι':Im}{h h':List (Nat×SO)}{J J':St}{n:Nat}{m:Option Nat}{c:X}(H:qn G E ι h J n m c)(hn:ι' n=ι n)(hm:J'.m (ι n)=J.m (ι n))(hE: ∀e d,X.ev G E e=some d→X.ev G E' e=some d)
  (hk: ∀m' o,m=some m'→find h m'=some o→o.uU=true→ι' m'=ι m'∧(∃o,find h' m'=some o∧o.uU=true)∧ ∀es,J.m (ι m')=some (.map es)→ ∃es',J'.m (ι m')=some (.map es')∧es'.length=es.length):qn G E' ι' h' J' n m c:=by
 obtain⟨h1,t,k,seen,h2,h3⟩:=H;refine⟨by rw[hn];exact h1,t,k,seen,by rw[hn,hm];exact h2,fun m' e=> ?_⟩;obtain⟨k1,⟨o,k2,k3⟩,k4,es,k5,k6⟩:=h3 m' e;obtain⟨g1,g2,g3⟩:=hk m' o e k2 k3;obtain⟨es',g4,g5⟩:=g3 es k5;exact⟨by rw[g1];exact k1,g2,hE _ _ k4,es',by rw[g1];exact g4,g5.trans k6⟩
structure Mt(Ω:bz)(G:FP)(E:List D)(ι:Im)(γ:Nat→Tok)(Y:Sy)(J:St):Prop where
 slot: ∀i v,find Y.s i=some v→VR G E ι Y.h v (J.s i)
 box: ∀n vs,find Y.h n=some (.box vs)→ ∃ds,ι n≠ []∧J.m (ι n)=some (.box ds)∧bA G E ι Y.h vs ds
 aA: ∀n e sz c,find Y.h n=some (.aA e sz c)→ ∃es,X.ev G E c=some (.list es)∧bj sz es=true∧(ι n= []∧es= []∨ι n≠ []∧J.m (ι n)=some (.row (γ n) e es))
 mpo: ∀n c,find Y.h n=some (.map c)→ ∃es,X.ev G E c=some (.list (aG es))∧ι n≠ []∧J.m (ι n)=some (.map es)
 own: ∀n e sz c,find Y.h n=some (.bL e sz c)→ ∃L:List OE,X.ev G E c=some (.list (aG (L.map OE.pr)))∧ι n≠ []∧J.m (ι n)=some (.map (L.map (OE.en sz)))∧D0 Y.h ι γ J e sz (ι.e n) L
 one: ∀n n' e e' sz sz' c c',find Y.h n=some (.bL e sz c)→find Y.h n'=some (.bL e' sz' c')→n=n'
 rwo: ∀n k,find Y.h n=some (.raw k)→ι n=Ω.t n∧ι n≠ []∧J.m (ι n)=some (.raw (Ω.f n k))∧ ¬Ω.c (ι n)
 inj: ∀n n' o o',find Y.h n=some o→find Y.h n'=some o'→ι n=ι n'→ι n≠ []→n=n'
 gJ: ∀n n' e e' sz sz' c c',find Y.h n=some (.aA e sz c)→find Y.h n'=some (.aA e' sz' c')→ι n≠ []→ι n'≠ []→γ n=γ n'→n=n'
 wf:WF J
 old: ∀n e sz c,find Y.h n=some (.aA e sz c)→ι n≠ []→ ∀y k r,γ n=(y+1)::k::r→k<J.c y
 nv:E.length=Y.nv
 con: ∀t,Ω.c t→J.m t=some (.raw (.deferred (some [])))
 itr: ∀n m c,find Y.h n=some (.itr m c)→qn G E ι Y.h J n m c
def SO.cC(G:FP)(E E':List D)(a a':Nat→Tok):SO→SO→Prop
 | .box vs, .box vs'=>vs'.length=vs.length
 | .aA e sz c, .aA e' sz' c'=>e'=e∧sz'=sz∧ ∀es,X.ev G E c=some (.list es)→ ∃es',X.ev G E' c'=some (.list es')∧es'.length=es.length
 | .map _, .map _=>True
 | .bL _ sz c, .bL _ sz' c'=>sz=0→sz'=0∧ ∀es,X.ev G E c=some (.list es)→(∃es',X.ev G E' c'=some (.list es')∧es.length≤es'.length)∧ ∀z,z<es.length→a' z=a z
 | .bL _ sz _, .map _=>sz≠0
 | .raw _, .raw _=>True
 | .itr .., .itr .. =>True
 |_,_=>False
def Lk(G:FP)(E E':List D)(a a':Nat→Tok)(h h':List (Nat×SO))(n:Nat):Prop:= ∀o,find h n=some o→ ∃o',find h' n=some o'∧SO.cC G E E' a a' o o'
theorem Lk.box{G:FP}{E E':List D}{h h':List (Nat×SO)}{n:Nat}{a a':Nat→Tok}(L:Lk G E E' a a' h h' n){vs:List SV}(hf:find h n=some (.box vs)): ∃vs',find h' n=some (.box vs')∧vs'.length=vs.length:=by
 obtain⟨o',h1,h2⟩:=L _ hf;cases o'<;>simp only[SO.cC]at h2
 grind
theorem Lk.aA{G:FP}{E E':List D}{h h':List (Nat×SO)}{n:Nat}{a a':Nat→Tok}(L:Lk G E E' a a' h h' n){e sz:Nat}{c:X}(hf:find h n=some (.aA e sz c)):
  ∃c',find h' n=some (.aA e sz c')∧ ∀es,X.ev G E c=some (.list es)→ ∃es',X.ev G E' c'=some (.list es')∧es'.length=es.length:=by
 obtain⟨o',h1,h2⟩:=L _ hf;cases o'<;>simp only[SO.cC]at h2
 grind
theorem Lk.map{G:FP}{E E':List D}{h h':List (Nat×SO)}{n:Nat}{a a':Nat→Tok}(L:Lk G E E' a a' h h' n){o:SO}(hf:find h n=some o)(ho:o.uU=true): ∃o',find h' n=some o'∧o'.uU=true:=by
 obtain⟨o',h1,h2⟩:=L _ hf;refine⟨o',h1, ?_⟩;cases o<;>cases o'<;>simp only[SO.cC]at h2<;>first|rfl|cases ho
theorem Lk.it{G:FP}{E E':List D}{h h':List (Nat×SO)}{n:Nat}{a a':Nat→Tok}(L:Lk G E E' a a' h h' n){o:SO}(hf:find h n=some o)(ho:o.Ql=true): ∃o',find h' n=some o'∧o'.Ql=true:=by
 obtain⟨o',h1,h2⟩:=L _ hf;refine⟨o',h1, ?_⟩;cases o<;>cases o'<;>simp only[SO.cC]at h2<;>first|rfl|cases ho
theorem Lk.bL{G:FP}{E E':List D}{h h':List (Nat×SO)}{n:Nat}{a a':Nat→Tok}(L:Lk G E E' a a' h h' n){e:Nat}{c:X}(hf:find h n=some (.bL e 0 c)):
  ∃e' c',find h' n=some (.bL e' 0 c')∧ ∀es,X.ev G E c=some (.list es)→(∃es',X.ev G E' c'=some (.list es')∧es.length≤es'.length)∧ ∀z,z<es.length→a' z=a z:=by
 obtain⟨o',h1,h2⟩:=L _ hf;cases o'<;>simp only[SO.cC]at h2
 ·exact absurd rfl h2
 ·obtain⟨rfl,h3⟩:=h2 trivial;exact⟨_,_,h1,h3⟩
theorem Lk.raw{G:FP}{E E':List D}{h h':List (Nat×SO)}{n:Nat}{a a':Nat→Tok}(L:Lk G E E' a a' h h' n){k:RS}(hf:find h n=some (.raw k)): ∃k',find h' n=some (.raw k'):=by
 obtain⟨o',h1,h2⟩:=L _ hf;cases o'<;>simp only[SO.cC]at h2
 grind
theorem ki{G:FP}{E E':List D}{a:Nat→Tok}(hE: ∀e d,X.ev G E e=some d→X.ev G E' e=some d)(o:SO):SO.cC G E E' a a o o:=by
 cases o<;>simp only[SO.cC]
 ·exact⟨trivial,trivial,fun es he=>⟨es,hE _ _ he,rfl⟩⟩
 ·exact fun h=>⟨h,fun es he=>⟨⟨es,hE _ _ he,Nat.le_refl _⟩,fun _ _=>trivial⟩⟩
theorem Lk.same{G:FP}{E E':List D}{h h':List (Nat×SO)}{n:Nat}(hE: ∀e d,X.ev G E e=some d→X.ev G E' e=some d)(hf:find h' n=find h n){a:Nat→Tok}:Lk G E E' a a h h' n:=fun o ho=>
 ⟨o,hf.trans ho,ki hE o⟩
theorem VR.mono{G:FP}{E E':List D}{ι ι':Im}{h h':List (Nat×SO)}(hE: ∀e d,X.ev G E e=some d→X.ev G E' e=some d){v:SV}{d:D}(H:VR G E ι h v d)
  (hm: ∀n,v.im n=true→ι' n=ι n∧Lk G E E' (ι.e n) (ι'.e n) h h' n):VR G E' ι' h' v d:=by
 have oL: ∀{n:Nat} {vs:List SV} {i:Nat} {v:SV},vs[i]?=some v→v.im n=true→SV.oL n vs=true:=fun{n vs i v} hv hm=>by
  cases hh:SV.oL n vs with
  |true=>rfl
  |false=>rw[tv hh i v hv]at hm;cases hm
 induction H with
 |un=>exact .un
 |x h1 h2=>exact .x (hE _ _ h1) h2
 |agg hl hh ih=>exact .agg hl fun i v d hv hd=>ih i v d hv hd fun n hn=>hm n (by simpa[SV.im]using oL hv hn)
 |tup hl hh ih=>exact .tup hl fun i v d hv hd=>ih i v d hv hd fun n hn=>hm n (by simpa[SV.im]using oL hv hn)
 |clo hl hh ih=>exact .clo hl fun i v d hv hd=>ih i v d hv hd fun n hn=>hm n (by simpa[SV.im]using oL hv hn)
 | @ptr n o vs hf=>
  obtain⟨h1,L⟩:=hm n (by simp[SV.im]);obtain⟨vs',h3,_⟩:=L.box hf;rw[←h1];exact .ptr h3
 | @dp n o cnt s j i vs k z hf hv h0 hz hl=>
  obtain⟨h1,L⟩:=hm n (by simp[SV.im]);obtain⟨vs',h3,h4⟩:=L.box hf;rw[←h1];exact .dp h3 (hE _ _ hv) h0 hz (by rw[h4];exact hl)
 | @gln n sz e c hf hi=>
  obtain⟨h1,L⟩:=hm n (by simp[SV.im]);obtain⟨c',h3,_⟩:=L.aA hf;exact .gln h3 (h1.trans hi)
 | @gl n sz e c es hf hc hi=>
  obtain⟨h1,L⟩:=hm n (by simp[SV.im]);obtain⟨c',h3,h4⟩:=L.aA hf;obtain⟨es',h5,h6⟩:=h4 _ hc;rw[←h1,←h6];exact .gl h3 h5 (by rw[h1];exact hi)
 | @gsn n sz e c k q hf hi hk=>
  obtain⟨h1,L⟩:=hm n (by simp[SV.im]);obtain⟨c',h3,_⟩:=L.aA hf;exact .gsn h3 (h1.trans hi) (hE _ _ hk)
 | @gs n sz e c k es q z hf hc hi hk h0 hz=>
  obtain⟨h1,L⟩:=hm n (by simp[SV.im]);obtain⟨c',h3,h4⟩:=L.aA hf;obtain⟨es',h5,h6⟩:=h4 _ hc;rw[←h1];exact .gs h3 h5 (by rw[h1];exact hi) (hE _ _ hk) h0 (by rw[h6];exact hz)
 | @gcn n sz e c k q hf hi hk=>
  obtain⟨h1,L⟩:=hm n (by simp[SV.im]);obtain⟨c',h3,_⟩:=L.aA hf;exact .gcn h3 (h1.trans hi) (hE _ _ hk)
 | @gc n sz e c k es q z m hf hc hi hk h0 hz=>
  obtain⟨h1,L⟩:=hm n (by simp[SV.im]);obtain⟨c',h3,h4⟩:=L.aA hf;obtain⟨es',h5,h6⟩:=h4 _ hc;rw[←h1];exact .gc h3 h5 (by rw[h1];exact hi) (hE _ _ hk) h0 (by rw[h6];exact hz)
 | @gtn n sz e c k q hf hi hk=>
  obtain⟨h1,L⟩:=hm n (by simp[SV.im]);obtain⟨c',h3,_⟩:=L.aA hf;exact .gtn h3 (h1.trans hi) (hE _ _ hk)
 | @gt n sz e c k es q z hf hc hi hk h0 hz=>
  obtain⟨h1,L⟩:=hm n (by simp[SV.im]);obtain⟨c',h3,h4⟩:=L.aA hf;obtain⟨es',h5,h6⟩:=h4 _ hc;rw[←h1,←h6];exact .gt h3 h5 (by rw[h1];exact hi) (hE _ _ hk) h0 (by rw[h6];exact hz)
 | @ep n sz e j c i k z es hf hc hi hv h0 hz=>
  obtain⟨h1,L⟩:=hm n (by simp[SV.im]);obtain⟨c',h3,h4⟩:=L.aA hf;obtain⟨es',h5,h6⟩:=h4 _ hc;rw[←h1];exact .ep h3 h5 (by rw[h1];exact hi) (hE _ _ hv) h0 (by rw[h6];exact hz)
 | @sb n o len lim vs hf hl=>
  obtain⟨h1,L⟩:=hm n (by simp[SV.im]);obtain⟨vs',h3,h4⟩:=L.box hf;rw[←h1];exact .sb h3 (by rw[h4];exact hl)
 | @rb n o vs hf hl=>
  obtain⟨h1,L⟩:=hm n (by simp[SV.im]);obtain⟨vs',h3,h4⟩:=L.box hf;rw[←h1];exact .rb h3 (by rw[h4];exact hl)
 | @mp n o hf ho=>
  obtain⟨h1,L⟩:=hm n (by simp[SV.im]);obtain⟨o',h3,h4⟩:=L.map hf ho;rw[←h1];exact .mp h3 h4
 | @yl n k hf=>
  obtain⟨h1,L⟩:=hm n (by simp[SV.im]);obtain⟨k',h3⟩:=L.raw hf;rw[←h1];exact .yl h3
 | @bp n o i c rows k z e hf hc hv h0 hz=>
  obtain⟨_,L⟩:=hm n (by simp[SV.im]);obtain⟨e',c',h3,h4⟩:=L.bL hf;obtain⟨⟨es',h5,h6⟩,h7⟩:=h4 _ hc;rw[←h7 _ hz];exact .bp h3 h5 (hE _ _ hv) h0 (Nat.lt_of_lt_of_le hz h6)
 | @bpn n i c k z e hf hv h0=>
  obtain⟨_,L⟩:=hm n (by simp[SV.im]);obtain⟨e',c',h3,_⟩:=L.bL hf;exact .bpn h3 (hE _ _ hv) h0
 | @it n o hf ho=>
  obtain⟨h1,L⟩:=hm n (by simp[SV.im]);obtain⟨o',h3,h4⟩:=L.it hf ho;rw[←h1];exact .it h3 h4
 |gd hg h1 h2 ih=>exact .gd (hE _ _ hg) (fun e=>ih e fun n hn=>hm n (by simpa[SV.im]using hn)) h2
theorem VR.more{G:FP}{E s:List D}{ι:Im}{h:List (Nat×SO)}{v:SV}{d:D}(H:VR G E ι h v d):VR G (E++s) ι h v d:=
 H.mono (fun _ _ h=>bn _ _ h) fun n _=>⟨rfl,Lk.same (fun _ _ h=>bn _ _ h) rfl⟩
theorem Mt.more{Ω:bz}{G:FP}{E s:List D}{ι:Im}{γ:Nat→Tok}{Y:Sy}{J:St}(M:Mt Ω G E ι γ Y J):Mt Ω G (E++s) ι γ {Y with nv:=Y.nv+s.length} J:=
 ⟨fun i v hv=>(M.slot i v hv).more,fun n vs hn=>let⟨ds,h0,h1,h2,h3⟩:=M.box n vs hn;⟨ds,h0,h1,h2,fun i v d hv hd=>(h3 i v d hv hd).more⟩,
  fun n e sz c hn=>let⟨es,h1,h2⟩:=M.aA n e sz c hn;⟨es,bn _ _ h1,h2⟩,fun n c hn=>let⟨es,h1,h2⟩:=M.mpo n c hn;⟨es,bn _ _ h1,h2⟩,fun n e sz c hn=>let⟨L,h1,h2⟩:=M.own n e sz c hn;⟨L,bn _ _ h1,h2⟩,M.one,M.rwo,M.inj,M.gJ,M.wf,M.old,by simp[M.nv],M.con,
  fun n m c hn=>let⟨h1,t,k,seen,h2,h3⟩:=M.itr n m c hn;⟨h1,t,k,seen,h2,fun m' hm=>let⟨k1,k2,k3,k4⟩:=h3 m' hm;⟨k1,k2,bn _ _ k3,k4⟩⟩⟩
def Sy.set(Y:Sy)(i:Nat)(v:SV):Sy:={Y with s:=bF i v Y.s}
theorem WF.set{J:St}(W:WF J)(i:Nat)(d:D):WF (J.set i d):=W
theorem Mt.set{Ω:bz}{G:FP}{E:List D}{ι:Im}{γ:Nat→Tok}{Y:Sy}{J:St}(M:Mt Ω G E ι γ Y J){i:Nat}{v:SV}{d:D}(hv:VR G E ι Y.h v d):Mt Ω G E ι γ (Y.set i v) (J.set i d):=
 ⟨fun j u hu=>by
  simp only[Sy.set,ba]at hu;by_cases hj:j=i
  ·rw[if_pos hj]at hu;cases hu;subst hj;rw[St.ub];exact hv
  ·rw[if_neg hj]at hu;rw[St.cQ _ _ hj];exact M.slot j u hu,M.box,M.aA,M.mpo,M.own,M.one,M.rwo,M.inj,M.gJ,M.wf,M.old,M.nv,M.con,M.itr⟩
def qG(n:Nat)(v:SV):SV:=bif v.im n then .un else v
def fE(n:Nat):SO→SO
 | .box vs=> .box (vs.map (qG n))
 | .itr m c=> .itr (if m=some n then none else m) c
 |o=>o
def Sy.kill(Y:Sy)(n:Nat):Sy:={Y with s:=mapA (qG n) Y.s,h:=mapA (fE n) (qw n Y.h)}
def Sy.free(Y:Sy)(n:Nat):Prop:=
 find Y.h n=none∧(∀i v,find Y.s i=some v→v.im n=false)∧ ∀k vs,find Y.h k=some (.box vs)→ ∀v∈vs,v.im n=false
theorem iF(Y:Sy)(n k:Nat):find (Y.kill n).h k=if k=n then none else(find Y.h k).map (fE n):=by
 simp only[Sy.kill,dh,iD]
 grind
theorem aU{Y:Sy}{n k:Nat}{o:SO}(h:find (Y.kill n).h k=some o):k≠n∧ ∃o0,find Y.h k=some o0∧o=fE n o0:=by
 rw[iF]at h;split at h
 ·cases h
 ·rename_i hk;obtain⟨o0,ho,h⟩:=Mz.1 h
  grind
theorem EN{G:FP}{E:List D}{a:Nat→Tok}(n:Nat)(o:SO):SO.cC G E E a a o (fE n o):=by
 cases o with
 |box vs=>simp[fE,SO.cC]
 |aA e sz c=>exact⟨rfl,rfl,fun es he=>⟨es,he,rfl⟩⟩
 |map c=>trivial
 |bL e sz c=>exact ki (fun _ _ h=>h) (.bL e sz c)
 |raw=>trivial
 |itr m c=>trivial
theorem VR.Hw{G:FP}{E:List D}{ι:Im}{Y:Sy}(n:Nat){v:SV}{d:D}(H:VR G E ι Y.h v d):VR G E ι (Y.kill n).h (qG n v) d:=by
 unfold qG;cases hm:v.im n with
 |true=>exact .un
 |false=>
  refine H.mono (fun _ _ h=>h) fun k hk=>⟨rfl,fun o ho=>⟨fE n o, ?_,EN n o⟩⟩;rw[iF,if_neg (fun e=>by rw[e,hm]at hk;cases hk),ho];rfl
theorem Mt.kill{Ω:bz}{G:FP}{E:List D}{ι:Im}{γ:Nat→Tok}{Y:Sy}{J:St}(M:Mt Ω G E ι γ Y J)(n:Nat):Mt Ω G E ι γ (Y.kill n) J∧(Y.kill n).free n:=by
 have hl: ∀k e sz c,find (Y.kill n).h k=some (.aA e sz c)→find Y.h k=some (.aA e sz c):=fun k e sz c h=>by
  obtain⟨_,o,ho,h⟩:=aU h;cases o<;>simp only[fE,reduceCtorEq]at h;rw[ho,h]
 have hp: ∀k e sz c,find (Y.kill n).h k=some (.bL e sz c)→find Y.h k=some (.bL e sz c):=fun k e sz c h=>by
  obtain⟨_,o,ho,h⟩:=aU h;cases o<;>simp only[fE,reduceCtorEq]at h;rw[ho,h]
 refine⟨⟨fun i v hv=> ?_,fun k vs hk=> ?_,fun k e sz c hk=>M.aA k e sz c (hl k e sz c hk),fun k c hk=> ?_,fun k e sz c hk=> ?_,fun a b e e' sz sz' c c' h1 h2=>M.one a b e e' sz sz' c c' (hp _ _ _ _ h1) (hp _ _ _ _ h2),fun k q hk=> ?_,fun a b o o' h1 h2=> ?_,fun a b e e' sz sz' c c' h1 h2=>M.gJ a b e e' sz sz' c c' (hl _ _ _ _ h1) (hl _ _ _ _ h2),M.wf,fun k e sz c hk=>M.old k e sz c (hl k e sz c hk),M.nv,M.con,fun k m c hk=> ?_⟩, ?_,fun i v hv=> ?_,fun k vs hk v hv=> ?_⟩
 ·simp only[Sy.kill,dh]at hv;obtain⟨u,hu,rfl⟩:=Mz.1 hv;exact(M.slot i u hu).Hw n
 ·obtain⟨_,o,ho,h⟩:=aU hk;cases o<;>simp only[fE,reduceCtorEq,SO.box.injEq]at h;rename_i us;subst h;obtain⟨ds,h0,h1,h2,h3⟩:=M.box k us ho;refine⟨ds,h0,h1,by simpa using h2,fun i v d hv hd=> ?_⟩;rw[Dz,Mz]at hv;obtain⟨u,hu,rfl⟩:=hv;exact(h3 i u d hu hd).Hw n
 ·obtain⟨_,o,ho,h⟩:=aU hk;cases o<;>simp only[fE,reduceCtorEq]at h;cases h;exact M.mpo k c ho
 ·obtain⟨L,h1,h2,h3,h4⟩:=M.own k e sz c (hp _ _ _ _ hk);exact⟨L,h1,h2,h3,fun q hq=>(h4.1 q hq).eP rfl (fun j o hj=>let⟨_,o0,h0,_⟩:=aU hj;(h4.1 q hq).2.2.2.1 j o0 h0) (fun hz j e sz c hj=>(h4.1 q hq).2.2.2.2.1 hz j e sz c (hl _ _ _ _ hj)) fun _=>Nat.le_refl _,h4.2⟩
 ·obtain⟨_,o,ho,h⟩:=aU hk;cases o<;>simp only[fE,reduceCtorEq,SO.raw.injEq]at h;subst h;exact M.rwo k _ ho
 ·obtain⟨_,o1,g1,_⟩:=aU h1;obtain⟨_,o2,g2,_⟩:=aU h2;exact M.inj a b o1 o2 g1 g2
 ·obtain⟨_,o,ho,h⟩:=aU hk;cases o<;>simp only[fE,reduceCtorEq,SO.itr.injEq]at h;rename_i m0 c0;obtain⟨rfl,rfl⟩:=h;have H:=M.itr k m0 _ ho;split
  ·exact⟨H.1,let⟨t,j,seen,h,_⟩:=H.2;⟨t,j,seen,h,fun _ e=>by cases e⟩⟩
  ·rename_i hne;refine H.eP rfl rfl (fun _ _ h=>h) fun m' o' e hf hmp=>⟨rfl,⟨fE n o', ?_,by cases o'<;>first|rfl|cases hmp⟩,fun es h=>⟨es,h,rfl⟩⟩;rw[iF,if_neg (fun h=>hne (by rw[e,h])),hf];rfl
 ·rw[iF,if_pos rfl]
 ·simp only[Sy.kill,dh]at hv;obtain⟨u,hu,rfl⟩:=Mz.1 hv;cases hm:u.im n<;>simp[qG,hm,SV.im]
 ·obtain⟨_,o,ho,h⟩:=aU hk;cases o<;>simp only[fE,reduceCtorEq,SO.box.injEq]at h;subst h;obtain⟨u,_,rfl⟩:=List.mem_map.1 hv;cases hm:u.im n<;>simp[qG,hm,SV.im]
end
section
def oF(e:X)(n:Nat):Nat→List SV→Bool
 |i,[]=>i==n
 |i, .x (.mk (.cell j m) [e'])::r=>j==i&&m==n&&cZ e e'&&oF e n (i+1) r
 |_,_::_=>false
def eta(vs:List SV):Option X:=
 match vs with
 | .x (.mk (.cell _ n) [e])::_=>if 2≤n∧oF e n 0 vs=true then some e else none
 |_=>none
mutual
def SV.ly:SV→Option X
 | .x e=>some e
 | .agg vs=>(eta vs).or ((SV.nF vs).map (.mk .agg))
 | .clo f vs=>(SV.nF vs).map (.mk (.clo f))
 |_=>none
def SV.nF:List SV→Option (List X)
 | []=>some []
 |v::r=>(SV.ly v).bind fun x=>(SV.nF r).map fun xs=>x::xs
end
def cw(h:List (Nat×SO)):Nat→SV→Option X
 |0,_=>none
 |k+1,v=>match v with
  | .x e=>if k=0 then none else some (.mk .aO [e])
  | .gl n _=>if k<2 then none else match find h n with
   |some (.aA _ _ c)=>some c
   |_=>none
  | .gs n _ q=>if k<2 then none else match find h n with
   |some (.aA _ _ c)=>some (.mk .take [c,q])
   |_=>none
  | .gc n _ q=>if k<2 then none else match find h n with
   |some (.aA _ _ c)=>some (.mk .take [c,q])
   |_=>none
  | .sb n o len=>if k=0 then none else match find h n with
   |some (.box vs)=>if o+len≤vs.length then(((vs.drop o).take len).mapM (cw h k)).map (.mk .mkl)else none
   |_=>none
  | .ptr n o=>if k=0 then none else match find h n with
   |some (.box vs)=>if o≤vs.length then((vs.drop o).mapM (cw h k)).map (.mk .lptr)else none
   |_=>none
  | .clo f vs=>if k=0 then none else(vs.mapM (cw h k)).map (.mk (.clo f))
  | .mp n=>if k=0 then none else match find h n with
   |some (.map c)=>some (.mk .fmk [c])
   |_=>none
  |_=>none
def bC(h:List (Nat×SO))(v:SV):Option X:=
 match v with
 | .x e=>some (.mk .aj [e])
 | .agg vs=>match eta vs with
  |some e=>some (.mk .aj [e])
  |none=>(vs.mapM (cw h 6)).map (.mk .agg)
 |v=>cw h 6 v
def SV.Zc:SV→Bool
 | .x _=>true
 |_=>false
def SV.Qp:SV→Bool
 | .un| .gd .. =>true
 |_=>false
def SV.pl:SV→Bool
 | .x _=>true
 | .agg vs=>vs.all SV.Zc
 | .clo _ vs=>vs.all SV.Zc
 |_=>false
def cont(h:List (Nat×SO))(n:Nat):Option X:=
 match find h n with
 |some (.aA _ _ c)=>some c
 |_=>none
def rK:PK→Bool
 | .call _| .ccall| .mv| .pick| .clo _| .ent=>false
 |_=>true
def x7(h:List (Nat×SO))(f:Nat)(vs:List SV):Option (SV×List X):=
 (vs.mapM (bC h)).map fun es=>(.x (.mk (.call (!vs.all SV.pl) f) es),[.mk (.call (!vs.all SV.pl) f) es])
def Xf:List X→Option (List D)
 | []=>some []
 | .q d::r=>(Xf r).map (d:: ·)
 |_=>none
def PQ:PK→Bool
 | .ibin _| .inot| .beq _| .conv _| .llen=>true
 |_=>false
def qC(k:PK)(xs:List X):X:=
 if PQ k then match(Xf xs).bind (k.run (bg Vq) eh)with
  |some d=>if d.aK then .q d else .mk (.pk k) xs
  |none=> .mk (.pk k) xs
 else .mk (.pk k) xs
theorem Ia{G:FP}{E:List D}: ∀{xs:List X} {ds:List D},Xf xs=some ds→X.bh G E xs=some ds
 | [],ds,h=>by simp[Xf]at h;subst h;rfl
 |x::r,ds,h=>by
  cases x<;>simp only[Xf]at h<;>try (cases h;done)
  obtain⟨ds',h1,rfl⟩:=Mz.1 h;simp only[X.bh,X.ev,Oz,Ia h1,Pz]
theorem GA{G:FP}{E:List D}{k:PK}{xs:List X}:X.ev G E (qC k xs)=X.ev G E (.mk (.pk k) xs):=by
 unfold qC;split
 ·split
  ·rename_i d hd;split
   ·rename_i hn;obtain⟨ds,h1,h2⟩:=Bz.1 hd;simp only[X.ev,Ia h1,Oz,XK.run,h2,if_pos hn]
   ·rfl
  ·rfl
 ·rfl
def isQ:X→Bool
 | .q _=>true
 |_=>false
def bK(k:PK)(vs:List SV):Option (SV×List X):=
 if rK k then(SV.nF vs).map fun xs=>(.x (qC k xs),if isQ (qC k xs)then []else [qC k xs])else none
def Zu(w:Bool)(c:X):X→X
 | .ite (.mk (.gv w') [c']) e u=>if w'=w∧cZ c' c=true then e else .ite (.mk (.gv w') [c']) e u
 |a=>a
def DC(c a b:X):X:=match c with
 | .q (.v (.bool true))=>a
 | .q (.v (.bool false))=>b
 |c=> .ite c (Zu true c a) (Zu false c b)
theorem IX{G:FP}{E:List D}{w:Bool}{c a:X}{vc d:D}(hc:X.ev G E c=some vc)(hw:vc.asBool=some w)(h:X.ev G E (Zu w c a)=some d):X.ev G E a=some d:=by
 unfold Zu at h;split at h
 ·split at h
  ·rename_i w' c' e u hh;obtain⟨rfl,hb⟩:=hh;obtain rfl:=aF _ _ hb
   have hv:vc= .v (.bool w'):=by
    cases vc<;>simp only[D.asBool]at hw<;>try (cases hw;done)
    grind
   subst hv;simp only[X.ev,X.bh,hc,Oz,Pz,XK.run,beq_self_eq_true];exact h
  ·exact h
 ·exact h
theorem H7{G:FP}{E:List D}{c a b:X}{d:D}(h:X.ev G E (DC c a b)=some d):X.ev G E (.ite c a b)=some d:=by
 unfold DC at h;split at h
 ·simpa[X.ev,D.asBool]using h
 ·simpa[X.ev,D.asBool]using h
 simp only[X.ev,Bz]at h⊢;obtain⟨vc,h1,w,h2,h3⟩:=h;refine⟨vc,h1,w,h2, ?_⟩;cases w
 ·exact IX h1 h2 h3
 ·exact IX h1 h2 h3
def yN(h:List (Nat×SO))(n:Nat):Option X:=match find h n with
 |some (.bL _ 0 c)=>some c
 |_=>none
def IC(h:List (Nat×SO))(vs:List SV):Option (SV×List X):=
 match vs with
 | [v]=>some (v,[])
 |vs=>bK (.mv) vs
def Cj(h:List (Nat×SO))(q:Nat)(vs:List SV):Option (SV×List X):=
 match vs with
 | [.tup vs]=>(vs[q]?).map fun v=>(v,[])
 |vs=>bK (.ext q) vs
def Cg(h:List (Nat×SO))(vs:List SV):Option (SV×List X):=
 match vs with
 | [.ptr n o]=>some (.ptr n o,[])
 | [.dp n o c s i j]=>some (.dp n o c s i j,[])
 | [.ep n s i j]=>some (.ep n s i j,[])
 | [.clo f us]=>some (.clo f us,[])
 | [.bp n i o]=>(yN h n).map fun c=>(.bp n i o,[.mk (.pm 1 [] 0 0) [c,i]])
 |vs=>bK (.bm) vs
def Ck(h:List (Nat×SO))(q:Nat)(vs:List SV):Option (SV×List X):=
 match vs with
 | [.ptr n o]=>some (.ptr n (o+q),[])
 | [.dp n o c s i j]=>some (.dp n o c s i (j+q),[])
 | [.ep n s i j]=>some (.ep n s i (j+q),[])
 | [.bp n i o]=>(yN h n).map fun c=>(.bp n i (o+q),[.mk (.pm 1 [] 0 0) [c,i]])
 |vs=>bK (.fld q) vs
def yg(h:List (Nat×SO))(m:Nat)(g:Bool)(vs:List SV):Option (SV×List X):=
 match m,g,vs with
 |m,g,[.ptr n o]=>match find h n with
  |some (.box us)=>if o+m≤us.length then(if g then some (.agg ((us.drop o).take m),[])else(us[o]?).map fun v=>(v,[]))else none
  |_=>none
 |1,false,[.rb n o]=>match find h n with
  |some (.box us)=>(us[o]?).map fun v=>(v,[])
  |_=>none
 |m,g,[.dp n o c s i j]=>match find h n with
  |some (.box us)=>if j+m≤s then(SV.nF ((us.drop o).take (c*s))).map fun xs=>(.x (.mk (.geta c s j m g) [.mk .agg xs,i]),[.mk (.geta c s j m g) [.mk .agg xs,i]])else none
  |_=>none
 |m,g,[.ep n s i j]=>if s<j+m then none else(cont h n).map fun c=>(.x (.mk (.pk (.load m g)) [.mk (.pk (.fld j)) [.mk (.pk (.idx 0 s)) [c,i]]]),[.mk (.pk (.load m g)) [.mk (.pk (.fld j)) [.mk (.pk (.idx 0 s)) [c,i]]]])
 |m,g,[.bp n i o]=>if g||m==1 then(yN h n).map fun c=>(.x (.mk (.pm (if g then 4 else 5) [] o m) [c,i]),[.mk (.pm (if g then 4 else 5) [] o m) [c,i]])else none
 |_,_,vs=>bK (.load m g) vs
def Cl(h:List (Nat×SO))(e s:Nat)(vs:List SV):Option (SV×List X):=
 match s,vs with
 |s,[.gl n s', .x i]=>if s=s' then(cont h n).map fun c=>(.ep n s i 0,[.mk (.pk (.idx 0 s)) [c,i]])else none
 |s,[.gs n s' k, .x i]=>if s=s' then(cont h n).map fun c=>(.ep n s i 0,[.mk (.pk (.idx 0 s)) [.mk .take [c,k],i]])else none
 |s,[.gt n s' k, .x i]=>if s=s' then(cont h n).map fun c=>(.ep n s (.mk .adn [k,i]) 0,[.mk (.pk (.idx 0 s)) [.mk .drp [c,k],i]])else none
 |1,[.sb n o len, .x (.q (.v (.int _ z)))]=>if 0≤z∧z<len then some (.rb n (o+z.toNat),[])else none
 |_,vs=>bK (.idx e s) vs
def xX(h:List (Nat×SO))(cnt s:Nat)(vs:List SV):Option (SV×List X):=
 match vs with
 | [.ptr n o, .x (.q (.v (.int _ z)))]=>if 0≤z∧z<cnt then some (.ptr n (o+z.toNat*s),[])else none
 | [.ptr n o, .x i]=>match find h n with
  |some (.box us)=>if o+cnt*s≤us.length then some (.dp n o cnt s i 0,[.mk (.rngi cnt) [i]])else none
  |_=>none
 | [.ep n sz i j, .x (.q (.v (.int _ z)))]=>if 0≤z∧z<cnt then some (.ep n sz i (j+z.toNat*s),[])else none
 |vs=>bK (.aidx cnt s) vs
def yf(h:List (Nat×SO))(vs:List SV):Option (SV×List X):=
 match vs with
 | [.gl n _]=>(cont h n).map fun c=>(.x (.mk (.pk .llen) [c]),[.mk (.pk .llen) [c]])
 | [.gs n _ k]=>(cont h n).map fun c=>(.x (.mk (.pk .llen) [.mk .take [c,k]]),[.mk (.pk .llen) [.mk .take [c,k]]])
 | [.gt n _ k]=>(cont h n).map fun c=>(.x (.mk (.pk .llen) [.mk .drp [c,k]]),[.mk (.pk .llen) [.mk .drp [c,k]]])
 | [.sb _ _ len]=>some (.x (.q (iv len)),[])
 |vs=>bK (.llen) vs
def Co(h:List (Nat×SO))(s:Nat)(lo hi mx:Bool)(vs:List SV):Option (SV×List X):=
 match s,lo,hi,mx,vs with
 |s,false,true,false,[.gl n s', .x k]=>if s=s' then(cont h n).map fun c=>(.gs n s k,[.mk .take [c,k]])else none
 |s,false,true,false,[.gs n s' _, .x k]=>if s=s' then(cont h n).map fun c=>(.gs n s k,[.mk .take [c,k]])else none
 |s,false,true,true,[.gl n s', .x k, .x m]=>if s=s' then(cont h n).map fun c=>(.gc n s k,[.mk .take [.mk .take [c,m],k], .mk .take [c,m], .mk .take [c,k]])else none
 |s,false,true,true,[.gs n s' k0, .x k, .x m]=>if s=s' then(cont h n).map fun c=>(.gc n s k,[.mk .take [.mk .take [c,m],k], .mk .take [.mk .take [c,k0],m], .mk .take [c,k0], .mk .take [c,m], .mk .take [c,k]])else none
 |s,true,false,false,[.gl n s', .x k]=>if s=s' then(cont h n).map fun c=>(.gt n s k,[.mk .drp [c,k]])else none
 |_,_,_,_,vs=>bK (.slc s lo hi mx) vs
def Cn(h:List (Nat×SO))(cnt s:Nat)(lo hi:Bool)(vs:List SV):Option (SV×List X):=
 match cnt,s,lo,hi,vs with
 |cnt,1,false,false,[.ptr n o]=>match find h n with
  |some (.box us)=>if o+cnt≤us.length then some (.sb n o cnt,[])else none
  |_=>none
 |cnt,1,true,false,[.ptr n o, .x (.q (.v (.int _ z)))]=>match find h n with
  |some (.box us)=>if o+cnt≤us.length∧0≤z∧z≤cnt then some (.sb n (o+z.toNat) (cnt-z.toNat),[])else none
  |_=>none
 |_,_,_,_,vs=>bK (.sla cnt s lo hi) vs
def Gy(ks:List Nat)(z:D)(c k:X):X:=
 match c with
 | .mk (.mset ks1) [c0,k1, .mk (.mget ks2 z2 false) [c1,k2]]=>if(((ks1==ks)&&(ks2==ks))&&(gq [z2] [z]&&(cZ k1 k&&(cZ k2 k&&cZ c0 c1))))=true then .mk (.mget ks z false) [c0,k]else .mk (.mget ks z false) [c,k]
 |c=> .mk (.mget ks z false) [c,k]
def QM(ks:List Nat)(z:D)(ok:Bool)(c k:X):X:=if ok then .mk (.mget ks z true) [c,k]else Gy ks z c k
def Cm(h:List (Nat×SO))(ks:List Nat)(z:D)(ok:Bool)(vs:List SV):Option (SV×List X):=
 match vs with
 | [.mp n,k]=>match find h n with
  |some (.map c)=>k.ly.map fun k=>(.x (QM ks z ok c k),[QM ks z ok c k])
  |some (.bL _ 0 c)=>if ok=false∧gN z (.v (.pointer none))=true then k.ly.map fun k=>(.bp n (.mk (.pm 3 ks 0 0) [c,k]) 0,[.mk (.pm 3 ks 0 0) [c,k]])else none
  |_=>none
 |vs=>bK (.lkp ks z ok) vs
def yi(_:List (Nat×SO))(neg:Bool)(vs:List SV):Option (SV×List X):=
 match vs with
 | [.bp _ i 0, .x (.q (.v (.pointer none)))]=>some (.x (.mk (.pk (.ibin (if neg then .geq else .lss))) [i, .q (iv 0)]),[.mk (.pk (.ibin (if neg then .geq else .lss))) [i, .q (iv 0)]])
 |vs=>bK (.pnil neg) vs
def Ci(h:List (Nat×SO))(vs:List SV):Option (SV×List X):=
 match vs with
 | [.it n]=>match find h n with
  |some (.itr (some m) c)=>match find h m with
   |some (.map cm)=>some (.tup [.x (.mk (.pm 1 [] 0 0) [cm, .mk (.pm 8 [] 0 0) [c]]), .x (.mk (.pm 2 [] 0 0) [cm, .mk (.pm 8 [] 0 0) [c]])],[.mk (.pm 1 [] 0 0) [cm, .mk (.pm 8 [] 0 0) [c]], .mk (.pm 2 [] 0 0) [cm, .mk (.pm 8 [] 0 0) [c]]])
   |some (.bL _ 0 cm)=>some (.tup [.x (.mk (.pm 1 [] 0 0) [cm, .mk (.pm 8 [] 0 0) [c]]), .bp m (.mk (.pm 8 [] 0 0) [c]) 0],[.mk (.pm 1 [] 0 0) [cm, .mk (.pm 8 [] 0 0) [c]]])
   |_=>none
  |_=>none
 |_=>none
def xW(h:List (Nat×SO))(off n:Nat)(g:Bool)(vs:List SV):Option (SV×List X):=
 match vs with
 | [.agg us]=>if off+n≤us.length then(if g then some (.agg ((us.drop off).take n),[])else(us[off]?).map fun v=>(v,[]))else none
 |vs=>bK (.afld off n g) vs
def Ch(_:List (Nat×SO))(f:Nat)(vs:List SV):Option (SV×List X):=
 if vs.all (fun v=> !v.Qp)then some (.clo f vs,[])else none
def yh(h:List (Nat×SO))(vs:List SV):Option (SV×List X):=
 match vs with
 | [c,a,b]=>c.ly.bind fun c=>a.ly.bind fun a=>b.ly.map fun b=>(.x (DC c a b),[DC c a b])
 |vs=>bK (.pick) vs
def uh(h:List (Nat×SO))(vs:List SV):Option (SV×List X):=
 match vs with
 | .clo f eT::vs=>if f<1000000 then x7 h f (vs++eT)else none
 | .x e::vs=>(vs.mapM (bC h)).map fun es=>(.x (.mk (.ccall (!vs.all SV.pl)) (e::es)),[.mk (.ccall (!vs.all SV.pl)) (e::es)])
 |vs=>bK (.ccall) vs
def AD(d:D):SV:=if d.aK then .x (.q d)else .un
def H3:SV→Option (List X)
 | .x (.q d)=>if d.gE then some []else none
 | .x (.mk (.cell _ _) _)=>some []
 | .x e=>some [.mk .eV [e]]
 | .ptr .. | .gl .. | .ep .. | .clo .. | .dp .. | .gs .. | .gc .. | .sb .. | .rb .. | .mp .. | .bp .. =>some []
 |_=>none
def xG:List SV→Option (List X)
 | []=>some []
 |v::r=>(H3 v).bind fun a=>(xG r).map fun b=>a++b
def lT(n:Nat)(g:Bool):SV→Option (List SV×List X)
 | .agg vs=>if vs.length=n then(xG vs).map fun O=>(vs,O)else none
 | .x e=>if g then(if 0<n then some ((List.range n).map fun j=> .x (.mk (.cell j n) [e]),[.mk (.cell 0 n) [e]])else none)else if n=1 then some ([.x e],[.mk .eV [e]])else none
 | .ptr m o=>if n=1 then some ([.ptr m o],[])else none
 | .gl m s=>if n=1 then some ([.gl m s],[])else none
 | .ep m s i j=>if n=1 then some ([.ep m s i j],[])else none
 | .clo f vs=>if n=1 then some ([.clo f vs],[])else none
 | .dp m o c s i j=>if n=1 then some ([.dp m o c s i j],[])else none
 | .gs m s k=>if n=1 then some ([.gs m s k],[])else none
 | .mp m=>if n=1 then some ([.mp m],[])else none
 |_=>none
def J7:X→Bool
 | .q d=>d.gE
 | .mk (.cell _ _) _=>true
 | .mk (.pk k) _=>match k with
  | .ibin .. | .ishift .. | .beq .. | .seq .. | .sop .. | .inot| .ineg| .llen| .slen| .conv _| .aeq .. | .snil _| .pnil _=>true
  |_=>false
 |_=>false
def gOf:SV→Bool
 | .x e=> !J7 e
 |_=>false
def zl:List SV→List (Nat×Nat)→List SV→Option (List SV×List X)
 |cells,[],[]=>some (cells,[])
 |cells,(off,n)::ps,v::vs=>(lT n (gOf v) v).bind fun q=>if off+n≤cells.length then(zl (cells.take off++q.1++cells.drop (off+n)) ps vs).map fun r=>(r.1,q.2++r.2)else none
 |_,_,_=>none
def uf(h:List (Nat×SO))(zero:List D)(places:List (Nat×Nat))(vs:List SV):Option (SV×List X):=
 match zl (zero.map AD) places vs with
 |some q=>some (.agg q.1,q.2)
 |none=>bK (.build zero places) vs
def Cf(h:List (Nat×SO))(n size:Nat)(g:Bool)(vs:List SV):Option (SV×List X):=
 match vs with
 | [.agg us, .x (.q (.v (.int k i)))]=>if 0≤i∧i<n∧i.toNat*size+size≤us.length then(if g then some (.agg ((us.drop (i.toNat*size)).take size),[])else(us[i.toNat*size]?).map fun v=>(v,[]))else none
 |vs=>bK (.aix n size g) vs
def uk(h:List (Nat×SO))(k:PK)(vs:List SV):Option (SV×List X):=
 match k with
 | .mv=>IC h vs
 | .ext q=>Cj h q vs
 | .bm=>Cg h vs
 | .fld q=>Ck h q vs
 | .load m g=>yg h m g vs
 | .idx e s=>Cl h e s vs
 | .aidx cnt s=>xX h cnt s vs
 | .llen=>yf h vs
 | .slc s lo hi mx=>Co h s lo hi mx vs
 | .sla cnt s lo hi=>Cn h cnt s lo hi vs
 | .lkp ks z ok=>Cm h ks z ok vs
 | .pnil neg=>yi h neg vs
 | .ent=>Ci h vs
 | .afld off n g=>xW h off n g vs
 | .clo f=>Ch h f vs
 | .pick=>yh h vs
 | .call f=>x7 h f vs
 | .ccall=>uh h vs
 | .build z p=>uf h z p vs
 | .aix n s g=>Cf h n s g vs
 |k=>bK k vs
section
variable {Ω : bz} {G : FP} {E : List D} {ι : Im} {γ : Nat → Tok} {Y : Sy} {J : St}
theorem qF{e:X}{n:Nat}: ∀{i:Nat} {vs:List SV},oF e n i vs=true→i+vs.length=n∧ ∀j,j<vs.length→vs[j]?=some (.x (.mk (.cell (i+j) n) [e]))
 |i,[],h=>by simp[oF]at h;exact⟨by simpa using h,fun j hj=>by simp at hj⟩
 |i,v::r,h=>by
  unfold oF at h;split at h
  ·grind
  ·rename_i j m e' r' hh;cases hh;simp only[Az,beq_iff_eq]at h;obtain⟨⟨⟨rfl,rfl⟩,he⟩,hr⟩:=h;obtain rfl:=aF _ _ he;obtain⟨h1,h2⟩:=qF hr
   grind
  ·cases h
theorem mF{vs:List SV}{ds:List D}{e:X}(he:eta vs=some e)(hv:bA G E ι Y.h vs ds):X.ev G E e=some (.agg ds)∧ds.all D.aN=true:=by
 unfold eta at he;split at he
 ·rename_i j n e' r;split at he
  ·rename_i hc;cases he;obtain⟨h2,hc⟩:=hc;obtain⟨h3,h4⟩:=qF hc
   have at': ∀i,i<n→ ∃d d0,ds[i]?=some d∧X.ev G E e=some d0∧d0.cells.length=n∧d0.cells[i]?=some d∧d.aN=true:=fun i hi=>by
    have hi':i<(SV.x (.mk (.cell j n) [e])::r).length:=by omega
    have hdl:i<ds.length:=by rw[←hv.1];exact hi'
    have hd:ds[i]?=some ds[i]:=Ez hdl;have:=hv.2 i _ _ (h4 i hi') hd;cases this with
    |x h5 _=>
     simp only[X.ev,X.bh,Bz,Mz]at h5;obtain⟨dd,⟨d0,h6,ds',h7,rfl⟩,h8⟩:=h5;cases h7;simp only[XK.run]at h8
     grind
   obtain⟨_,d0,_,h6,h7,_⟩:=at' 0 (by omega);have hl:ds.length=n:=by rw[←hv.1];omega
   have ff:d0.cells=ds:=List.ext_getElem? fun i=>by
    grind
   refine⟨?_,Tz.2 fun d hd=> ?_⟩
   ·rw[h6];cases d0<;>simp only[D.cells]at ff h7<;>first|(rw[ff];done)|(simp at h7;omega)
   ·obtain⟨i,hi⟩:=List.getElem?_of_mem hd;obtain⟨d',_,g1,_,_,_,g5⟩:=at' i (by have:=(Gz.1 hi).1;omega);rw[hi]at g1;cases g1;exact g5
  ·cases he
 ·cases he
theorem rZ: ∀{vs:List SV} {xs:List X},SV.nF vs=some xs→xs.length=vs.length∧ ∀(i:Nat) (v:SV) (x:X),vs[i]?=some v→xs[i]?=some x→v.ly=some x
 | [],xs,h=>by simp[SV.nF]at h;subst h;exact⟨rfl,fun i v x h=>by simp at h⟩
 |v::r,xs,h=>by
  simp only[SV.nF,Bz,Mz]at h;obtain⟨x,h1,xs',h2,rfl⟩:=h;obtain⟨h3,h4⟩:=rZ h2
  grind
theorem aZ{v:SV}{d:D}(H:VR G E ι Y.h v d): ∀{e:X} {d':D},v.ly=some e→X.ev G E e=some d'→d'=d:=by
 have uB: ∀{vs:List SV} {xs:List X} {ds ds':List D},vs.length=ds.length→(∀(i:Nat) (v:SV) (d:D),vs[i]?=some v→ds[i]?=some d→ ∀{e:X} {d':D},v.ly=some e→X.ev G E e=some d'→d'=d)→
   SV.nF vs=some xs→X.bh G E xs=some ds'→ds'=ds:=fun{vs xs ds ds'} hl ih ha he=>by
  obtain⟨h1,h2⟩:=rZ ha;have h3:=dg he;refine List.ext_getElem? fun i=> ?_;by_cases hi:i<vs.length
  ·have e1:=Ez hi;have e2:=Ez (show i<xs.length by omega);have e3:=Ez (show i<ds.length by omega);have e4:=Ez (show i<ds'.length by omega);rw[e3,e4,ih i _ _ e1 e3 (h2 i _ _ e1 e2) (eZ he i _ _ e2 e4)]
  ·rw[List.getElem?_eq_none (by omega),List.getElem?_eq_none (by omega)]
 induction H with
 |x h1 _=>intro e d' ha he;cases ha;rw[h1]at he;cases he;rfl
 |agg hl hh ih=>
  intro e d' ha he;simp only[SV.ly,Option.or_eq_some_iff]at ha;rcases ha with ha|⟨_,ha⟩
  ·have:=(mF (Y:=Y) ha ⟨hl,hh⟩).1;rw[this]at he;cases he;rfl
  ·obtain⟨xs,hx,rfl⟩:=Mz.1 ha;simp only[X.ev,Bz]at he;obtain⟨ds',h1,h2⟩:=he;simp only[XK.run]at h2;split at h2<;>cases h2;rw[uB hl ih hx h1]
 |clo hl hh ih=>
  intro e d' ha he;simp only[SV.ly]at ha;obtain⟨xs,hx,rfl⟩:=Mz.1 ha;simp only[X.ev,Bz]at he;obtain⟨ds',h1,h2⟩:=he;simp only[XK.run]at h2;split at h2<;>cases h2;rw[uB hl ih hx h1]
 |_=>intro e d' ha;simp[SV.ly]at ha
theorem wQ{v:SV}{d:D}(H:VR G E ι Y.h v d){e:X}{d':D}(ha:v.ly=some e)(he:X.ev G E e=some d'):d'.aK=true:=by
 cases H with
 |x h1 h2=>cases ha;rw[h1]at he;cases he;exact h2
 |agg hl hh=>
  simp only[SV.ly,Option.or_eq_some_iff]at ha;rcases ha with ha|⟨_,ha⟩
  ·have:=mF (Y:=Y) ha ⟨hl,hh⟩;rw[this.1]at he;cases he;exact this.2
  ·obtain⟨xs,hx,rfl⟩:=Mz.1 ha;simp only[X.ev,Bz]at he;obtain⟨ds',h1,h2⟩:=he;simp only[XK.run]at h2;split at h2<;>cases h2
   assumption
 |clo hl hh=>
  obtain⟨xs,hx,rfl⟩:=Mz.1 ha;simp only[X.ev,Bz]at he;obtain⟨ds',h1,h2⟩:=he;simp only[XK.run]at h2;split at h2<;>cases h2
  assumption
 |_=>simp[SV.ly]at ha
theorem fP{vs:List SV}{ds ds':List D}{xs:List X}(hv:bA G E ι Y.h vs ds)(ha:SV.nF vs=some xs)(he:X.bh G E xs=some ds'):ds'=ds:=by
 obtain⟨h1,h2⟩:=rZ ha;have h3:=dg he;have hl:=hv.1;refine List.ext_getElem? fun i=> ?_;by_cases hi:i<vs.length
 ·have e1:=Ez hi;have e2:=Ez (show i<xs.length by omega);have e3:=Ez (show i<ds.length by omega);have e4:=Ez (show i<ds'.length by omega);rw[e3,e4,aZ (hv.2 i _ _ e1 e3) (h2 i _ _ e1 e2) (eZ he i _ _ e2 e4)]
 ·grind
end
end
section
theorem lp{m:Mem}{k:Nat}{d:D}(h:d.eF=true):az m (k+1) d=az eh 6 d:=by
 cases d<;>simp only[D.eF]at h<;>first|rfl|cases h
theorem l9{f g:D→Option D}: ∀{l:List D},(∀d∈l,f d=g d)→l.mapM f=l.mapM g
 | [],_=>rfl
 |a::l,h=>by
  have h1:=l9 (f:=f) (g:=g) (l:=l) fun d hd=>h d (Cz _ hd)
  grind
theorem jL{f g:D→Option D}{l:List D}(h: ∀d∈l,f d=g d):aS f l=aS g l:=by unfold aS;rw[l9 h]
theorem gH{m:Mem}{k:Nat}{d:D}(h:d.aN=true):az m (k+2) d=az eh 6 d:=by
 cases d
 case clo f xs=>
  simp only[D.aN,Tz]at h;show(aS (az m (k+1)) xs).map (D.clo f)=(aS (az eh 5) xs).map (D.clo f);rw[jL fun d hd=>(lp (m:=m) (k:=k) (h d hd)).trans (lp (m:=eh) (k:=4) (h d hd)).symm]
 all_goals exact lp h
theorem fi{f:D→Option D}{l:List D}(hf: ∀x,f (.v x)=some (.v x)):aS f l=l.mapM f:=by
 unfold aS;split
 ·rename_i h;symm
  induction l with
  |nil=>rfl
  |cons a l ih=>
   simp only[List.all_cons,Az]at h;have ha:f a=some a:=by cases a<;>first|exact hf _|(simp[D.bB]at h;done)
   simp[ha,ih h.2]
 ·rfl
theorem qS{m:Mem}{d:D}(h:d.aK=true):bD m d=bD eh d:=by
 cases d
 case agg xs=>
  simp only[D.aK,Tz]at h;simp only[bD];rw[jL fun d hd=>gH (m:=m) (k:=4) (h d hd)]
 case clo f xs=>
  simp only[D.aK,Tz]at h;show(aS (az m 5) xs).map (D.clo f)=(aS (az eh 5) xs).map (D.clo f);rw[jL fun d hd=>(gH (m:=m) (k:=3) (h d hd)).trans (gH (m:=eh) (k:=3) (h d hd)).symm]
 case tup xs=>rfl
 all_goals exact gH (m:=m) (k:=4) (by simpa only[D.aK]using h)
theorem kj{f:SV→Option X}{g:D→Option D}{G:FP}{E:List D}: ∀{vs:List SV} {es:List X} {ds ds':List D},vs.length=ds.length→vs.mapM f=some es→X.bh G E es=some ds'→
  (∀(i:Nat) (v:SV) (d:D),vs[i]?=some v→ds[i]?=some d→ ∀{e:X} {d':D},f v=some e→X.ev G E e=some d'→g d=some d')→ds.mapM g=some ds'
 | [],es,[],ds',_,h,he,_=>by simp at h;subst h;simp[X.bh]at he;subst he;rfl
 |v::vs,es,d::ds,ds',hl,h,he,H=>by
  simp only[List.mapM_cons,Option.bind_eq_bind,Bz,Option.pure_def,Jz]at h;obtain⟨e,h1,es',h2,rfl⟩:=h;simp only[X.bh,Bz,Mz]at he;obtain⟨d',h3,adr,h4,rfl⟩:=he;have r:=kj (ds:=ds) (by simpa using hl) h2 h4 fun i u dd hu hd=>H (i+1) u dd (by simpa using hu) (by simpa using hd);simp only[List.mapM_cons,H 0 v d rfl rfl h1 h3,r,Option.bind_eq_bind,Oz,Option.pure_def]
 | [],_,_::_,_,hl,_,_,_=>by simp at hl
 |_::_,_,[],_,hl,_,_,_=>by simp at hl
section
variable {Ω : bz} {G : FP} {E : List D} {ι : Im} {γ : Nat → Tok} {Y : Sy} {J : St}
theorem p_{m:Mem}{sz k:Nat}{es:List (List D)}(h:bj sz es=true):cR (az m (k+2)) es=some es:=by
 have Tx: ∀c:D,c.SY=true→az m (k+1) c=some c:=fun c hc=>by
  cases c<;>simp only[D.SY]at hc<;>first|rfl|cases hc
 have all: ∀(f:D→Option D) (l:List D),(∀c∈l,f c=some c)→l.mapM f=some l:=by
  intro f l
  induction l with
  |nil=>intro _;rfl
  |cons a l ih=>intro hl;simp[hl a (by simp),ih fun c hc=>hl c (by simp[hc])]
 have cell: ∀c:D,c.rG=true→az m (k+2) c=some c:=fun c hc=>by
  cases c
  case clo f xs=>
   simp only[D.rG,Tz]at hc;show(aS (az m (k+1)) xs).map (D.clo f)=_;rw[fi (f:=az m (k+1)) fun _=>rfl,all _ xs fun c h=>Tx c (hc c h)];rfl
  all_goals simp only[D.rG]at hc<;>first|rfl|cases hc
 have row: ∀q∈es,aS (az m (k+2)) q=some q:=fun q hq=>by
  have h1:=Tz.1 h q hq;rw[fi (f:=az m (k+2)) fun _=>rfl]
  grind
 unfold cR;split
 ·rfl
 ·have: ∀l:List (List D),(∀q∈l,aS (az m (k+2)) q=some q)→l.mapM (aS (az m (k+2)))=some l:=by
   intro l
   induction l with
   |nil=>intro _;rfl
   |cons a l ih=>intro hl;simp[hl a (by simp),ih fun c hc=>hl c (by simp[hc])]
  grind
theorem bP{sz:Nat}{es:List (List D)}(h:bj sz es=true):es.all (fun c=>c.length==sz)=true:=
 Tz.2 fun q hq=>by have:=Tz.1 h q hq;simp only[Az]at this;exact this.1
theorem bE(M:Mt Ω G E ι γ Y J): ∀(k:Nat) {v:SV} {d:D},VR G E ι Y.h v d→ ∀{e:X} {d':D},cw Y.h k v=some e→X.ev G E e=some d'→az J.m k d=some d'
 |0,_,_,_,_,_,h,_=>by simp[cw]at h
 |k+1,v,d,H,e,d',h,he=>by
  cases H with
  |x h1 _=>
   simp only[cw]at h;split at h
   ·cases h
   ·rename_i hk;cases h;obtain⟨k',rfl⟩: ∃k',k=k'+1:=⟨k-1,by omega⟩;simp only[X.ev,X.bh,h1,Oz,Pz,XK.run]at he;split at he
    ·rename_i hc;rw[gH hc];exact he
    ·cases he
  | @ptr n o vs hf=>
   simp only[cw,hf]at h;split at h
   ·cases h
   ·rename_i hk;split at h
    ·rename_i ho;obtain⟨es,hes,rfl⟩:=Mz.1 h;simp only[X.ev,Bz]at he;obtain⟨ds',h1,h2⟩:=he;cases h2;obtain⟨ds,_,h3,h4⟩:=M.box n vs hf;have hl:=h4.1;simp only[az,h3];rw[if_pos (by omega)];obtain⟨k',rfl⟩: ∃k',k=k'+1:=⟨k-1,by omega⟩;rw[fi (f:=az J.m (k'+1)) fun _=>rfl]
     rw[kj (ds:=ds.drop o) (by simp[hl]) hes h1 fun i u dd hu hd=>by
      rw[List.getElem?_drop]at hu hd
      exact fun{e d'}=>bE M (k'+1) (h4.2 _ u dd hu hd)]
     rfl
    ·cases h
  | @gln n sz e0 c hf hi=>
   simp only[cw,hf]at h;split at h<;>cases h;obtain⟨es,h1,_,h2⟩:=M.aA n e0 sz _ hf;rcases h2 with⟨_,rfl⟩|⟨h2,_⟩
   ·rw[h1]at he;cases he;rfl
   ·exact absurd hi h2
  | @gl n sz e0 c es hf hc hi=>
   simp only[cw,hf]at h;split at h
   ·cases h
   ·rename_i hk;cases h;rw[hc]at he;cases he;obtain⟨es',h1,h3,h2⟩:=M.aA n e0 sz _ hf;rw[hc]at h1;cases h1;rcases h2 with⟨h2,_⟩|⟨_,h2⟩
    ·exact absurd h2 hi
    ·obtain⟨k',rfl⟩: ∃k',k=k'+2:=⟨k-2,by omega⟩
     have hel:(D.sl (ι n) sz 0 es.length none).elems J.m=some es:=by
      simp only[D.elems,h2];rw[if_pos ⟨by omega,bP h3⟩];simp
     show(((D.sl (ι n) sz 0 es.length none).elems J.m).bind fun es=>(cR (az J.m (k'+2)) es).map D.list)=some (.list es);rw[hel];simp only[Oz,p_ h3,Pz]
  | @gsn n sz e0 c q kd hf hi hq=>
   simp only[cw,hf]at h;split at h<;>cases h;obtain⟨es,h1,_,h2⟩:=M.aA n e0 sz _ hf;rcases h2 with⟨_,rfl⟩|⟨h2,_⟩
   ·simp only[X.ev,X.bh,h1,hq,Oz,Pz,XK.run,List.length_nil]at he;cases he;rfl
   ·exact absurd hi h2
  | @gs n sz e0 c q es kd z hf hc hi hq h0 hz=>
   simp only[cw,hf]at h;split at h
   ·cases h
   ·rename_i hk;cases h;simp only[X.ev,X.bh,hc,hq,Oz,Pz,XK.run]at he;rw[if_pos ⟨h0,hz⟩]at he;cases he;obtain⟨es',h1,h3,h2⟩:=M.aA n e0 sz _ hf;rw[hc]at h1;cases h1;rcases h2 with⟨h2,_⟩|⟨_,h2⟩
    ·exact absurd h2 hi
    ·obtain⟨k',rfl⟩: ∃k',k=k'+2:=⟨k-2,by omega⟩
     have hel:(D.sl (ι n) sz 0 z.toNat none).elems J.m=some (es.take z.toNat):=by
      simp only[D.elems,h2];rw[if_pos ⟨by omega,bP h3⟩];simp
     have hrt:bj sz (es.take z.toNat)=true:=Tz.2 fun q hq=>Tz.1 h3 q (List.mem_of_mem_take hq);show(((D.sl (ι n) sz 0 z.toNat none).elems J.m).bind fun es=>(cR (az J.m (k'+2)) es).map D.list)=some (.list (es.take z.toNat));rw[hel];simp only[Oz,p_ hrt,Pz]
  | @gcn n sz e0 c q kd hf hi hq=>
   simp only[cw,hf]at h;split at h<;>cases h;obtain⟨es,h1,_,h2⟩:=M.aA n e0 sz _ hf;rcases h2 with⟨_,rfl⟩|⟨h2,_⟩
   ·simp only[X.ev,X.bh,h1,hq,Oz,Pz,XK.run,List.length_nil]at he;cases he;rfl
   ·exact absurd hi h2
  | @gc n sz e0 c q es kd z m0 hf hc hi hq h0 hz=>
   simp only[cw,hf]at h;split at h
   ·cases h
   ·rename_i hk;cases h;simp only[X.ev,X.bh,hc,hq,Oz,Pz,XK.run]at he;rw[if_pos ⟨h0,hz⟩]at he;cases he;obtain⟨es',h1,h3,h2⟩:=M.aA n e0 sz _ hf;rw[hc]at h1;cases h1;rcases h2 with⟨h2,_⟩|⟨_,h2⟩
    ·exact absurd h2 hi
    ·obtain⟨k',rfl⟩: ∃k',k=k'+2:=⟨k-2,by omega⟩
     have hel:(D.sl (ι n) sz 0 z.toNat (some m0)).elems J.m=some (es.take z.toNat):=by
      simp only[D.elems,h2];rw[if_pos ⟨by omega,bP h3⟩];simp
     have hrt:bj sz (es.take z.toNat)=true:=Tz.2 fun q hq=>Tz.1 h3 q (List.mem_of_mem_take hq);show(((D.sl (ι n) sz 0 z.toNat (some m0)).elems J.m).bind fun es=>(cR (az J.m (k'+2)) es).map D.list)=some (.list (es.take z.toNat));rw[hel];simp only[Oz,p_ hrt,Pz]
  | @sb n o len lim vs hf hlen=>
   simp only[cw,hf]at h;split at h
   ·cases h
   ·rename_i hk;obtain⟨es,hes,rfl⟩:=Mz.1 h;simp only[X.ev,Bz]at he;obtain⟨ds',h1,h2⟩:=he;cases h2;obtain⟨ds,_,h3,h4⟩:=M.box n vs hf;have hl:=h4.1;obtain⟨k',rfl⟩: ∃k',k=k'+1:=⟨k-1,by omega⟩
    have hm:((ds.drop o).take len).mapM (az J.m (k'+1))=some ds':=kj (ds:=(ds.drop o).take len) (by simp[hl]) hes h1 fun i u dd hu hd {e d'}=>by
     have hi:i<len:=by have:=(Gz.1 hu).1;simp at this;omega
     rw[List.getElem?_take_of_lt hi,List.getElem?_drop]at hu hd;exact bE M (k'+1) (h4.2 _ u dd hu hd)
    have hel:(D.sl (ι n) 1 o len lim).elems J.m=some (((ds.drop o).take len).map fun d=> [d]):=by
     simp only[D.elems,h3];rw[if_pos ⟨trivial,by omega⟩]
    show(((D.sl (ι n) 1 o len lim).elems J.m).bind fun es=>(cR (az J.m (k'+1)) es).map D.list)=some (.list (ds'.map fun d=> [d]));rw[hel]
    have gO: ∀d:D,aS (az J.m (k'+1)) [d]=(az J.m (k'+1) d).map fun d=> [d]:=fun d=>by
     rw[fi (f:=az J.m (k'+1)) fun _=>rfl];simp only[List.mapM_cons,List.mapM_nil,Option.bind_eq_bind,Option.pure_def];cases az J.m (k'+1) d<;>rfl
    have G4:cR (az J.m (k'+1)) (((ds.drop o).take len).map fun d=> [d])=some (ds'.map fun d=> [d]):=by
     generalize(ds.drop o).take len=l at hm
     have key: ∀(l ds':List D),l.mapM (az J.m (k'+1))=some ds'→(l.map fun d=> [d]).mapM (aS (az J.m (k'+1)))=some (ds'.map fun d=> [d]):=by
      intro l
      induction l with
      |nil=>intro ds' h;simp at h;subst h;rfl
      |cons a l ih=>
       intro ds' h;simp only[List.mapM_cons,Option.bind_eq_bind,Bz,Option.pure_def,Jz]at h;obtain⟨b,hb,r,hr,rfl⟩:=h;simp only[List.map_cons,List.mapM_cons,gO,hb,Pz,ih r hr,Option.bind_eq_bind,Oz,Option.pure_def]
     unfold cR;split
     ·rename_i bS
      have:ds'=l:=by
       have e:l.mapM (az J.m (k'+1))=some l:=by
        clear hm key
        induction l with
        |nil=>rfl
        |cons a l ih=>
         simp only[List.map_cons,List.all_cons,Az,List.all_nil,and_true]at bS;have ha:az J.m (k'+1) a=some a:=by cases a<;>first|rfl|(simp[D.bB]at bS;done)
         simp[List.mapM_cons,ha,ih bS.2]
       rw[hm]at e;exact Option.some.inj e
      rw[this]
     ·exact key l ds' hm
    rw[Oz,G4];rfl
  | @clo f vs ds hl hh=>
   simp only[cw]at h;split at h
   ·cases h
   ·rename_i hk;obtain⟨es,hes,rfl⟩:=Mz.1 h;simp only[X.ev,Bz]at he;obtain⟨ds',h1,h2⟩:=he;simp only[XK.run]at h2;split at h2<;>cases h2;obtain⟨k',rfl⟩: ∃k',k=k'+1:=⟨k-1,by omega⟩;show(aS (az J.m (k'+1)) ds).map (D.clo f)=_;rw[fi (f:=az J.m (k'+1)) fun _=>rfl,kj hl hes h1 fun i u dd hu hd {e d'}=>bE M (k'+1) (hh i u dd hu hd)];rfl
  | @mp n o hf ho=>
   simp only[cw]at h;split at h
   ·cases h
   ·split at h
    ·rename_i c hfc;cases h;obtain⟨es,k1,k2,k3⟩:=M.mpo n c hfc;simp only[X.ev,X.bh,k1,Oz,Pz,XK.run,aQ]at he;split at he<;>cases he;rename_i bS;simp only[az,k3];rw[if_pos bS]
    ·cases h
  |_=>simp[cw]at h
theorem lu(M:Mt Ω G E ι γ Y J){v:SV}{d:D}(H:VR G E ι Y.h v d){e:X}{d':D}(h:bC Y.h v=some e)(he:X.ev G E e=some d'):bD J.m d=some d':=by
 have aj: ∀{e0:X} {d0:D},X.ev G E e0=some d0→X.ev G E (.mk .aj [e0])=some d'→bD J.m d0=some d':=fun{e0 d0} h1 he=>by
  simp only[X.ev,X.bh,h1,Oz,Pz,XK.run]at he;split at he
  ·rename_i hc;rw[qS hc];exact he
  ·cases he
 cases H with
 |x h1 _=>simp only[bC,Jz]at h;subst h;exact aj h1 he
 | @agg vs ds hl hh=>
  simp only[bC]at h;split at h
  ·rename_i e0 h0;cases h;exact aj (mF (Y:=Y) h0 ⟨hl,hh⟩).1 he
  ·obtain⟨es,hes,rfl⟩:=Mz.1 h;simp only[X.ev,Bz]at he;obtain⟨ds',h1,h2⟩:=he;simp only[XK.run]at h2;split at h2<;>cases h2;show(aS (az J.m 6) ds).map D.agg=_;rw[fi (f:=az J.m 6) fun _=>rfl,kj hl hes h1 fun i u dd hu hd {e d'}=>bE M 6 (hh i u dd hu hd)];rfl
 |un=>simp[bC,cw]at h
 |ptr hf=>exact bE M 6 (.ptr hf) (by simpa only[bC]using h) he
 |gln hf hi=>exact bE M 6 (.gln hf hi) (by simpa only[bC]using h) he
 |gl hf hc hi=>exact bE M 6 (.gl hf hc hi) (by simpa only[bC]using h) he
 |gsn hf hi hk=>exact bE M 6 (.gsn hf hi hk) (by simpa only[bC]using h) he
 |gs hf hc hi hk h0 hz=>exact bE M 6 (.gs hf hc hi hk h0 hz) (by simpa only[bC]using h) he
 |gcn hf hi hk=>exact bE M 6 (.gcn hf hi hk) (by simpa only[bC]using h) he
 |gc hf hc hi hk h0 hz=>exact bE M 6 (.gc hf hc hi hk h0 hz) (by simpa only[bC]using h) he
 |ep=>simp[bC,cw]at h
 |gt=>simp[bC,cw]at h
 |gtn=>simp[bC,cw]at h
 |tup=>simp[bC,cw]at h
 |dp=>simp[bC,cw]at h
 |sb hf hl=>exact bE M 6 (.sb hf hl) (by simpa only[bC]using h) he
 |rb=>simp[bC,cw]at h
 |mp hf ho=>exact bE M 6 (.mp hf ho) (by simpa only[bC]using h) he
 |yl=>simp[bC,cw]at h
 |bp=>simp[bC,cw]at h
 |bpn=>simp[bC,cw]at h
 |it=>simp[bC,cw]at h
 |clo hl hh=>exact bE M 6 (.clo hl hh) (by simpa only[bC]using h) he
 |gd=>simp[bC,cw]at h
theorem EV{d:D}(h:d.eF=true):d.aN=true:=by cases d<;>simp only[D.eF]at h<;>first|rfl|cases h
theorem me{d:D}(h:d.aN=true):d.aK=true:=by
 cases d
 case clo f xs=>
  simp only[D.aN,D.aK,Tz]at h⊢;exact fun x hx=>EV (h x hx)
 all_goals simp only[D.aN]at h<;>first|rfl|cases h
theorem kT{d:D}(h:d.bB=true):d.aN=true:=by cases d<;>simp only[D.bB]at h<;>first|rfl|cases h
theorem Gv{d:D}(h:d.flat=true):d.aK=true:=by
 cases d
 case agg xs=>simp only[D.flat,D.aK,Tz]at h⊢;exact fun x hx=>kT (h x hx)
 case tup xs=>
  simp only[D.flat,D.aK,Tz]at h⊢;intro x hx;have:=h x hx;cases x
  case agg ys=>simp only[Tz]at this⊢;exact fun y hy=>kT (this y hy)
  all_goals exact kT this
 all_goals exact me (kT (by simpa only[D.flat]using h))
theorem Q_{v:SV}{d:D}(H:VR G E ι Y.h v d)(hp:v.pl=true){e:X}{d':D}(h:bC Y.h v=some e)(he:X.ev G E e=some d'):d.aK=true:=by
 have cells: ∀{vs:List SV} {ds ds':List D} {es:List X} {k:Nat},vs.length=ds.length→(∀(i:Nat) (v:SV) (d:D),vs[i]?=some v→ds[i]?=some d→VR G E ι Y.h v d)→vs.all SV.Zc=true→
   vs.mapM (cw Y.h (k+1))=some es→X.bh G E es=some ds'→ds.all D.aN=true:=fun{vs ds ds' es k} hl hh hx hes hev=>by
  refine Tz.2 fun d hd=> ?_;obtain⟨i,hi⟩:=List.getElem?_of_mem hd;have hil:i<vs.length:=by rw[hl];exact(Gz.1 hi).1
  have hv:=Ez hil;have P4:=Tz.1 hx _ (Lz hv);have hr:=hh i _ d hv hi;obtain⟨hlen,fp⟩:=gD hes;have he1:=Ez (show i<es.length by omega);obtain⟨v',hv',he2⟩:=fp i _ he1;rw[hv]at hv';cases hv';have hd':=Ez (show i<ds'.length by rw[dg hev];omega);have he3:=eZ hev i _ _ he1 hd';cases hvv:vs[i]<;>rw[hvv]at P4 hr he2<;>simp only[SV.Zc]at P4<;>try (cases P4;done)
  cases hr with
  |x h1 _=>
   simp only[cw]at he2;split at he2
   ·grind
   ·rw[←Option.some.inj he2]at he3;simp only[X.ev,X.bh,h1,Oz,Pz,XK.run]at he3
    grind
 cases H with
 |x _ h2=>exact h2
 | @agg vs ds hl hh=>
  simp only[bC]at h;split at h
  ·rename_i e0 h0;exact(mF (Y:=Y) h0 ⟨hl,hh⟩).2
  ·obtain⟨es,hes,rfl⟩:=Mz.1 h;simp only[X.ev,Bz]at he;obtain⟨ds',h1,_⟩:=he;exact cells hl hh (by simpa[SV.pl]using hp) hes h1
 | @clo f vs ds hl hh=>
  simp only[bC,cw]at h;rw[if_neg (by omega)]at h;obtain⟨es,hes,rfl⟩:=Mz.1 h;simp only[X.ev,Bz]at he;obtain⟨ds',h1,_⟩:=he;exact cells hl hh (by simpa[SV.pl]using hp) hes h1
 |_=>simp[SV.pl]at hp
theorem qT(M:Mt Ω G E ι γ Y J){vs:List SV}{ds as:List D}{es:List X}(hv:bA G E ι Y.h vs ds)(h:vs.mapM (bC Y.h)=some es)(he:X.bh G E es=some as):
  ds.mapM (bD J.m)=some as∧(vs.all SV.pl=true→ds.all D.aK=true):=by
 refine⟨kj hv.1 h he fun i u dd hu hd {e d'}=>lu M (hv.2 i u dd hu hd),fun hp=>Tz.2 fun d hd=> ?_⟩;obtain⟨i,hi⟩:=List.getElem?_of_mem hd;have hil:i<vs.length:=by rw[hv.1];exact(Gz.1 hi).1
 have hv1:=Ez hil;obtain⟨hlen,fp⟩:=gD h;have he1:=Ez (show i<es.length by omega);obtain⟨v',hv',he2⟩:=fp i _ he1;rw[hv1]at hv';cases hv';have hd':=Ez (show i<as.length by rw[dg he];omega);exact Q_ (hv.2 i _ d hv1 hi) (Tz.1 hp _ (Lz hv1)) he2 (eZ he i _ _ he1 hd')
theorem qq{m:Mem}{fl:Bool}{f:Nat}{ds as:List D}{d:D}(h:ds.mapM (bD m)=some as)(hp:fl=false→ds.all D.aK=true)(hc:gU G fl f as=some d):
  lQ (bg G) m f ds=some d∧d.aK=true:=by
 unfold gU at hc;rw[Bz]at hc;obtain⟨d0,h1,h2⟩:=hc;cases fl
 ·simp only[Bool.false_eq_true,if_false]at h2;split at h2<;>cases h2;rename_i bc;exact⟨by simp[lQ,h,bg,h1,hp rfl,bc],bc⟩
 ·simp only[if_true]at h2;split at h2<;>cases h2;rename_i bc
  refine⟨by
   unfold lQ;rw[h];show(G f as).bind _=_;rw[h1]
   exact if_pos (by rw[bc];rfl), ?_⟩
  rw[Bool.or_eq_true,Az]at bc;exact bc.elim Gv fun h=>h.2
end
end
end Go.Proofs.YtdepmampjnlgiaaGreatDoor
