/- Part of the proof: symbolic execution of the program, its soundness, and the closing lemmas. No condition. -/
import Derived.Test.YtkcfpgaepmllhaaGreatDoorFab
import Derived.OrdersIn
import Derived.Orders
namespace Go.Proofs.YtkcfpgaepmllhaaGreatDoor
open Go.RowKit
set_option maxRecDepth 100000
set_option linter.all false
section
def aJ.reads:aJ→List Nat
 | .t i=> [i]
 | .c _=> []
def iQ:Option (Nat×Bool)→List Nat
 |some (j,_)=> [j]
 |none=> []
def cg.reads:cg→List Nat
 | .box _ _ _ a=>a.reads
 | .store _ _ a v=>a.reads++v.reads
 | .app _ _ _ a b=>a.reads++b.reads
 | .mks _ _ _ _ a b=>a.reads++b.reads
 | .lit _ _ _ _ _ _ args=>args.flatMap aJ.reads
 | .mkm _| .mkml .. => []
 | .ecall _ _ _ args=>args.flatMap aJ.reads
 | .acall _ _ _ _ args=>args.flatMap aJ.reads
 | .clr _ _ a=>a.reads
 | .copy _ a b=>a.reads++b.reads
 | .mupd _ a k v=>a.reads++k.reads++v.reads
 | .ment _ _ _ a k=>a.reads++k.reads
 | .mest a s v=>a.reads++s.reads++v.reads
def an.reads:an→List Nat
 | .op _ _ args g=>args.flatMap aJ.reads++iQ g
 | .eff e g=>e.reads++iQ g
 | .bad=> []
def an.dst:an→Option Nat
 | .op x .. =>some x
 | .eff e _=>e.dst
 | .bad=>none
def PK.pG:PK→Bool
 | .load .. | .call _| .ccall| .slc .. | .lkp .. | .ent=>true
 |_=>false
def cg.news:cg→Bool
 | .box .. | .mks .. | .lit .. | .mkm _| .mkml .. | .acall .. =>true
 |_=>false
def an.news:an→Bool
 | .eff e _=>e.news
 |_=>false
def apart(a b:an):Bool:=
 (match a.dst with|some x=> !b.reads.contains x|none=>true)&&(match b.dst with|some y=> !a.reads.contains y|none=>true)&&(match a.dst,b.dst with|some x,some y=>x !=y|_,_=>true)
def indep(a b:an):Bool:=
 apart a b&&match a with
 | .op _ k _ _=>(match b with| .op .. =>true|_=>false)||b.news|| !k.pG
 |_=>false
def WF(J:St):Prop:= ∀x k r,J.c x≤k→J.m ((x+1)::k::r)=none
def l_(m m':Mem):Prop:= ∀t o,m t=some o→m' t=some o
section
variable {Γ : Env}
theorem val_congr{s s':Nat→D}{g:aJ}(h: ∀j∈g.reads,s' j=s j):g.val s'=g.val s:=by
 cases g with
 |t i=>exact h i (by simp[aJ.reads])
 |c d=>rfl
theorem vH{s s':Nat→D}{gs:List aJ}(h: ∀j∈gs.flatMap aJ.reads,s' j=s j):gs.map (aJ.val s')=gs.map (aJ.val s):=
 List.map_congr_left fun g hg=>val_congr fun j hj=>h j (List.mem_flatMap.2 ⟨g,hg,hj⟩)
theorem CK{m m':Mem}(h:l_ m m'){d:D}{es:List (List D)}(he:d.elems m=some es):d.elems m'=some es:=by
 cases d<;>simp only[D.elems]at he⊢ <;>try exact he
 split at he
 ·rename_i g e es0 hm;rw[h _ _ hm];exact he
 ·rename_i xs hm;rw[h _ _ hm];exact he
 ·cases he
theorem mapM_mono{f g:D→Option D}(h: ∀d d',f d=some d'→g d=some d'): ∀{l l':List D},l.mapM f=some l'→l.mapM g=some l'
 | [],l',e=>by simpa using e
 |a::l,l',e=>by
  simp only[List.mapM_cons,Option.bind_eq_bind,Bz,Option.pure_def,Jz]at e⊢;obtain⟨b,hb,r,hr,rfl⟩:=e;exact⟨b,h _ _ hb,r,mapM_mono h hr,rfl⟩
theorem f_{f g:D→Option D}(h: ∀d d',f d=some d'→g d=some d'){c c':List D}(e:aU f c=some c'):aU g c=some c':=by
 unfold aU at e⊢;split at e
 ·grind
 ·rename_i hc;rw[if_neg hc];exact mapM_mono h e
theorem wD{f g:D→Option D}(h: ∀d d',f d=some d'→g d=some d'){c c':List (List D)}(e:cQ f c=some c'):cQ g c=some c':=by
 unfold cQ at e⊢;split at e
 ·grind
 ·rename_i hc
  have: ∀{l l':List (List D)},l.mapM (aU f)=some l'→l.mapM (aU g)=some l':=by
   intro l
   induction l with
   |nil=>intro l' e;simpa using e
   |cons a l ih=>
    intro l' e;simp only[List.mapM_cons,Option.bind_eq_bind,Bz,Option.pure_def,Jz]at e⊢;obtain⟨b,hb,r,hr,rfl⟩:=e;exact⟨b,f_ h hb,r,ih hr,rfl⟩
  grind
theorem oQ{m m':Mem}(h:l_ m m'): ∀(n:Nat) (d d':D),aq m n d=some d'→aq m' n d=some d'
 |0,_,_,e=>by simp[aq]at e
 |n+1,d,d',e=>by
  have ih:=oQ h n;cases d<;>simp only[aq]at e⊢ <;>try exact e
  case sl t size off len lim=>
   rw[Bz]at e⊢;obtain⟨es,he,e⟩:=e;obtain⟨es',hv,rfl⟩:=Mz.1 e;exact⟨es,CK h he,by rw[wD ih hv];rfl⟩
  case ptr t off=>
   split at e
   ·rename_i xs hm;rw[h _ _ hm];split at e
    ·rename_i hc;obtain⟨c',hv,rfl⟩:=Mz.1 e;simp only[if_pos hc,f_ ih hv,Pz]
    ·cases e
   ·cases e
  case mp t=>
   split at e
   ·rename_i es hm;rw[h _ _ hm];exact e
   ·cases e
  case rptr t size i j=>
   split at e
   ·rename_i g e0 es hm;rw[h _ _ hm];rw[Bz]at e;obtain⟨c,hc,e⟩:=e;split at e
    ·rename_i bc;obtain⟨c',hv,rfl⟩:=Mz.1 e;simp only[hc,Oz,if_pos bc,f_ ih hv,Pz]
    ·cases e
   ·cases e
  case clo f xs=>
   obtain⟨c',hv,rfl⟩:=Mz.1 e;rw[f_ ih hv];rfl
theorem D0{m m':Mem}(h:l_ m m'){d d':D}(e:bo m d=some d'):bo m' d=some d':=by
 cases d
 case agg xs=>
  obtain⟨c',hv,rfl⟩:=Mz.1 e;simp only[bo,f_ (oQ h 6) hv,Pz]
 all_goals (simp only[bo]at e⊢;exact oQ h 6 _ d' e)
theorem tG{m m':Mem}(h:l_ m m'){f:Nat}{ds:List D}{d:D}(e:me Γ m f ds=some d):me Γ m' f ds=some d:=by
 unfold me at e⊢;rw[Bz]at e⊢;obtain⟨as,ha,e⟩:=e;exact⟨as,mapM_mono (fun _ _=>D0 h) ha,e⟩
theorem pJ{m m':Mem}(h:l_ m m'){k:PK}{ds:List D}{d:D}(e:k.run Γ m ds=some d):k.run Γ m' ds=some d:=by
 cases k<;>try exact e
 case load n agg=>
  simp only[PK.run]at e⊢;unfold iU at e⊢;split at e
  ·exact e
  ·split at e
   ·rename_i xs hm;simp only[h _ _ hm];exact e
   ·cases e
  ·split at e
   ·rename_i g e0 es hm;simp only[h _ _ hm];exact e
   ·rename_i xs hm;simp only[h _ _ hm];exact e
   ·cases e
  ·cases e
 case slc size lo hi mx=>
  simp only[PK.run]at e⊢;unfold oN at e⊢;split at e
  ·rename_i t kY off len lim r;rw[Bz]at e⊢;obtain⟨l,hl,e⟩:=e;refine⟨l,hl, ?_⟩;rw[Bz]at e⊢;obtain⟨q,hq,e⟩:=e;refine⟨q,hq, ?_⟩;split at e
   ·rename_i hc;obtain⟨h1,h2,h3,h4⟩:=hc
    rw[if_pos ⟨h1,h2,h3.imp id (fun hr=>by
     unfold Fu at hr⊢;split at hr
     ·rename_i hm;rw[h _ _ hm];exact hr
     ·cases hr),h4⟩]
    exact e
   ·cases e
  ·exact e
  ·cases e
 case lkp ks z ok=>
  simp only[PK.run]at e⊢;unfold oF at e⊢;split at e
  ·split at e
   ·rename_i hm;simp only[h _ _ hm];exact e
   ·cases e
  ·exact e
  ·cases e
 case ent=>
  simp only[PK.run]at e⊢;unfold Ll at e⊢;split at e
  ·split at e
   ·rename_i hm;split at e
    ·rename_i hm2;simp only[h _ _ hm,h _ _ hm2];exact e
    ·cases e
   ·cases e
  ·cases e
 case call f=>exact tG h e
 case ccall=>
  simp only[PK.run,tJ]at e⊢;split at e
  ·split at e
   ·rename_i hc;rw[if_pos hc];exact tG h e
   ·cases e
  ·cases e
theorem BZ{m m':Mem}{k:PK}(hk:k.pG=false)(ds:List D):k.run Γ m ds=k.run Γ m' ds:=by
 cases k<;>first|rfl|(simp[PK.pG]at hk;done)
theorem St.ext'{J τ:St}(h1:J.s=τ.s)(h2:J.m=τ.m)(h3:J.c=τ.c):J=τ:=by
 cases J;cases τ;simp only at h1 h2 h3;subst h1;subst h2;subst h3;rfl
theorem set_set{J:St}{x y:Nat}{d e:D}(h:x≠y):(J.set x d).set y e=(J.set y e).set x d:=by
 simp only[St.set]
 grind
theorem St.cU{J:St}{x:Nat}{d:D}{g:aJ}(h:x∉g.reads):g.val (J.set x d).s=g.val J.s:=
 val_congr fun _ hj=>St.cN _ _ fun e=>h (e▸hj)
theorem St.pO{J:St}{x:Nat}{d:D}{gs:List aJ}(h:x∉gs.flatMap aJ.reads):gs.map (aJ.val (J.set x d).s)=gs.map (aJ.val J.s):=
 vH fun _ hj=>St.cN _ _ fun e=>h (e▸hj)
theorem guard_congr{J τ:St}{g:Option (Nat×Bool)}(h: ∀j want,g=some (j,want)→τ.s j=J.s j):bE τ g=bE J g:=by
 cases g with
 |none=>rfl
 |some q=>obtain⟨j,want⟩:=q;simp only[bE,h j want rfl]
theorem St.gJ{J:St}{x y:Nat}{o:HO}{d e:D}(h:x≠y):(J.set x d).new y o e=(J.new y o e).set x d:=by
 refine St.ext' ?_ rfl rfl;simp only[St.new,St.IQ,St.set,St.Z5]
 grind
theorem St.fc{J:St}{y j:Nat}{o:HO}{e:D}(h:j≠y):(J.new y o e).s j=J.s j:=by simp[St.new,St.set,h]
@[simp] theorem St.tl{J:St}{x y:Nat}{d:D}:(J.set x d).tok y=J.tok y:=rfl
theorem FZ{x y k f:Nat}{ds:List D}{J J2:St}{d:D}(hy:x≠y)(h:lr Γ y k f ds (J.set x d)=some J2): ∃J3,lr Γ y k f ds J=some J3∧J2=J3.set x d∧ ∀j,j≠y→J3.s j=J.s j:=by
 unfold lr at h⊢;split at h
 ·rename_i hc;rw[if_pos hc];split at h
  ·obtain⟨q,hq,h⟩:=Bz.1 h;simp only[hq,Oz];split at h
   ·split at h<;>cases h;rename_i hd;exact⟨_,if_pos hd,set_set hy,fun j hj=>St.cN _ _ hj⟩
   ·cases h
  ·simp only[St.jD]at h;split at h
   ·split at h
    ·rename_i hcc;obtain⟨q,hq,h⟩:=Bz.1 h;simp only[hcc,and_self,if_true,hq,Oz];split at h
     ·split at h<;>cases h;rename_i hd;refine⟨_,if_pos hd, ?_,fun j hj=>St.cN _ _ hj⟩;exact set_set (J:=(J.aG _ 0).put _ _) hy
     ·cases h
    ·cases h
   ·cases h
  ·cases h
 ·cases h
theorem oC{ks:List Nat}{av kv vv:D}{J J2:St}{x:Nat}{d:D}(h:jx ks av kv vv (J.set x d)=some J2):
  ∃J3,jx ks av kv vv J=some J3∧J2=J3.set x d∧ ∀j,J3.s j=J.s j:=by
 unfold jx at h⊢;split at h
 ·simp only[St.jD]at h;split at h
  ·split at h
   ·rename_i hm hok;rw[if_pos hok];rw[Bz]at h;obtain⟨r,hr,h⟩:=h;simp only[hr,Oz];split at h
    ·obtain⟨p,hp,rfl⟩:=Mz.1 h;simp only[hp,Pz];exact⟨_,rfl,rfl,fun _=>rfl⟩
    ·split at h<;>cases h;rename_i hlt;exact⟨_,if_pos hlt,rfl,fun _=>rfl⟩
   ·cases h
  ·cases h
 ·cases h
theorem F7{b:cg}{J J2:St}{x:Nat}{d:D}(h:b.run Γ (J.set x d)=some J2)(h1:x∉b.reads)(h2:b.dst≠some x):
  ∃J3,b.run Γ J=some J3∧J2=J3.set x d∧ ∀j,b.dst≠some j→J3.s j=J.s j:=by
 cases b with
 |box _ _ y a=>
  have hy:x≠y:=fun e=>h2 (by simp[cg.dst,e]);simp only[cg.run,St.cU (show x∉a.reads from h1)]at h⊢;unfold CD at h⊢;simp only[St.tl]at h;split at h<;>cases h;rename_i hc;exact⟨_,by rw[if_pos hc],St.gJ hy,fun j hj=>St.fc fun e=>hj (by simp[cg.dst,e])⟩
 |store k _ a v=>
  simp only[cg.reads,List.mem_append,not_or]at h1;simp only[cg.run,St.cU h1.1,St.cU h1.2]at h⊢;generalize a.val J.s=av at h⊢;generalize v.val J.s=vv at h⊢;unfold jV at h⊢;split at h
  ·simp only[St.jD]at h;split at h
   ·split at h<;>cases h;rename_i hc;exact⟨_,if_pos hc,rfl,fun _ _=>rfl⟩
   ·cases h
  ·simp only[St.jD]at h;split at h
   ·rw[Bz]at h;obtain⟨c,hc,h⟩:=h;split at h<;>cases h;rename_i hcc;rw[hc];exact⟨_,if_pos hcc,rfl,fun _ _=>rfl⟩
   ·split at h<;>cases h;rename_i hc;exact⟨_,if_pos hc,rfl,fun _ _=>rfl⟩
   ·cases h
  ·cases h
 |app y e size a b=>
  simp only[cg.reads,List.mem_append,not_or]at h1;have hy:x≠y:=fun e=>h2 (by simp[cg.dst,e]);simp only[cg.run,St.cU h1.1,St.cU h1.2]at h⊢;generalize a.val J.s=av at h⊢;generalize b.val J.s=bv at h⊢;unfold tx at h⊢;simp only[St.jD,St.tl]at h;rw[Bz]at h;obtain⟨es,hes,h⟩:=h;simp only[hes,Oz];split at h
  ·cases h
  rename_i bQ;rw[if_neg bQ];have fin: ∀{J3:St},J2=J3.set x d→(∀j,j≠y→J3.s j=J.s j)→ ∃J4,some J3=some J4∧J2=J4.set x d∧ ∀j,(cg.app y e size a b).dst≠some j→J4.s j=J.s j:=fun{J3} e1 e2=>⟨J3,rfl,e1,fun j hj=>e2 j fun e=>hj (by simp[cg.dst,e])⟩;split at h
  ·split at h
   ·rename_i h0;cases h;simp only[h0,if_true];exact fin (set_set hy) fun j hj=>St.cN _ _ hj
   ·rename_i h0;split at h<;>cases h;rename_i hc;simp only[h0,hc,if_true,Bool.false_eq_true,if_false];exact fin (St.gJ hy) fun j hj=>St.fc hj
  ·split at h
   ·rename_i h0;cases h;simp only[h0,if_true];exact fin (set_set hy) fun j hj=>St.cN _ _ hj
   ·rename_i h0;split at h
    ·simp only[h0,Bool.false_eq_true,if_false];split at h
     ·rename_i bc;rw[if_pos bc];split at h
      ·split at h<;>cases h;rename_i sq;simp only[sq,if_true];exact fin (by rw[show(J.set x d).aG _ _=(J.aG _ _).set x d from rfl];exact St.gJ hy) fun j hj=>by rw[St.fc hj];rfl
      ·split at h<;>cases h;rename_i hlt;simp only[hlt,if_true];exact fin (St.gJ hy) fun j hj=>St.fc hj
     ·cases h
    ·cases h
  ·cases h
 |mks y e size zero a b=>
  simp only[cg.reads,List.mem_append,not_or]at h1;have hy:x≠y:=fun e=>h2 (by simp[cg.dst,e]);simp only[cg.run,St.cU h1.1,St.cU h1.2]at h⊢;generalize a.val J.s=av at h⊢;generalize b.val J.s=bv at h⊢;unfold Dm at h⊢;simp only[St.tl]at h;split at h
  ·split at h<;>cases h;rename_i hc;exact⟨_,by rw[if_pos hc],St.gJ hy,fun j hj=>St.fc fun e=>hj (by simp[cg.dst,e])⟩
  ·cases h
 |lit y e size len zero places args=>
  have hy:x≠y:=fun e=>h2 (by simp[cg.dst,e]);simp only[cg.run,St.pO (show x∉args.flatMap aJ.reads from h1)]at h⊢;unfold Di at h⊢;simp only[St.tl]at h;split at h
  ·rename_i bQ;rw[if_pos bQ];rw[Bz]at h;obtain⟨cs,hcs,h⟩:=h;simp only[hcs,Oz];split at h<;>cases h;rename_i hc;exact⟨_,by rw[if_pos hc],St.gJ hy,fun j hj=>St.fc fun e=>hj (by simp[cg.dst,e])⟩
  ·cases h
 |mkm y=>
  have hy:x≠y:=fun e=>h2 (by simp[cg.dst,e]);cases h;exact⟨_,rfl,St.gJ hy,fun j hj=>St.fc fun e=>hj (by simp[cg.dst,e])⟩
 |mkml y e s=>
  have hy:x≠y:=fun e=>h2 (by simp[cg.dst,e]);cases h;exact⟨_,rfl,St.gJ hy,fun j hj=>St.fc fun e=>hj (by simp[cg.dst,e])⟩
 |clr s z a=>
  simp only[cg.reads]at h1;simp only[cg.run,St.cU h1]at h⊢;generalize a.val J.s=av at h⊢;unfold Ax at h⊢;split at h
  ·cases h;exact⟨_,rfl,rfl,fun _ _=>rfl⟩
  ·cases h;exact⟨_,rfl,rfl,fun _ _=>rfl⟩
  ·cases h;exact⟨_,rfl,rfl,fun _ _=>rfl⟩
  ·split at h
   ·rename_i h0;cases h;exact⟨_,if_pos h0,rfl,fun _ _=>rfl⟩
   ·rename_i h0;simp only[St.jD]at h;split at h
    ·split at h<;>cases h;rename_i hm hc;simp only[if_neg h0,hm];exact⟨_,if_pos hc,rfl,fun _ _=>rfl⟩
    ·cases h
  ·cases h
 |ecall y k f args=>
  have hy:x≠y:=fun e=>h2 (by simp[cg.dst,e]);simp only[cg.run,St.pO (show x∉args.flatMap aJ.reads from h1)]at h⊢;obtain⟨J3,g1,g2,g3⟩:=FZ hy h;exact⟨J3,g1,g2,fun j hj=>g3 j fun e=>hj (by simp[cg.dst,e])⟩
 |acall y e sz f args=>
  have hy:x≠y:=fun e=>h2 (by simp[cg.dst,e]);simp only[cg.run,St.pO (show x∉args.flatMap aJ.reads from h1)]at h⊢;generalize args.map (aJ.val J.s)=as at h⊢;unfold og at h⊢;split at h
  ·rename_i hc0;rw[if_pos hc0];obtain⟨q,hq,h⟩:=Bz.1 h;rw[hq,Oz];split at h
   ·rename_i hq1;split at h<;>cases h;rename_i hc
    first
     |exact⟨_,if_pos hc,St.gJ hy,fun j hj=>St.fc fun e=>hj (by simp[cg.dst,e])⟩
     |(simp only[hq1];exact⟨_,if_pos hc,St.gJ hy,fun j hj=>St.fc fun e=>hj (by simp[cg.dst,e])⟩)
   ·cases h
  ·cases h
 |copy y a b=>
  simp only[cg.reads,List.mem_append,not_or]at h1;simp only[cg.run,St.cU h1.1,St.cU h1.2]at h⊢;generalize a.val J.s=av at h⊢;generalize b.val J.s=bv at h⊢;unfold copyV at h⊢;split at h
  ·simp only[St.jD]at h;split at h
   ·split at h
    ·rename_i hc;rw[if_pos hc];cases y with
     |none=>cases h;exact⟨_,rfl,rfl,fun _ _=>rfl⟩
     |some y=>
      cases h;have hy:x≠y:=fun e=>h2 (by simp[cg.dst,e]);exact⟨_,rfl,(show((J.put _ _).set x d).set y _=((J.put _ _).set y _).set x d from set_set hy),fun j hj=>St.cN _ _ fun e=>hj (by simp[cg.dst,e])⟩
    ·cases h
   ·cases h
  ·cases h
 |mupd ks a k v=>
  simp only[cg.reads,List.mem_append,not_or]at h1;simp only[cg.run,St.cU h1.1.1,St.cU h1.1.2,St.cU h1.2]at h⊢;generalize a.val J.s=av at h⊢;generalize k.val J.s=kv at h⊢;generalize v.val J.s=vv at h⊢;obtain⟨J3,h3,h4,h5⟩:=oC h;exact⟨J3,h3,h4,fun j _=>h5 j⟩
 |ment ks z y a k=>
  have hy:x≠y:=fun e=>h2 (by simp[cg.dst,e]);simp only[cg.reads,List.mem_append,not_or]at h1;simp only[cg.run,St.cU h1.1,St.cU h1.2]at h⊢;generalize a.val J.s=av at h⊢;generalize k.val J.s=kv at h⊢;unfold xn at h⊢;split at h
  ·simp only[St.jD]at h;split at h
   ·split at h
    ·rename_i hok;rw[if_pos hok];obtain⟨r,hr,h⟩:=Bz.1 h;simp only[hr,Oz];split at h
     ·obtain⟨p,hp,h⟩:=Bz.1 h;obtain⟨J1,hu,rfl⟩:=Mz.1 h;obtain⟨J3,h3,rfl,h5⟩:=oC hu;exact⟨_,by simp only[hp,Oz,h3,Pz],set_set hy,fun j hj=>(St.cN _ _ fun e=>hj (by simp[cg.dst,e])).trans (h5 j)⟩
     ·obtain⟨J1,hu,rfl⟩:=Mz.1 h;obtain⟨J3,h3,rfl,h5⟩:=oC hu;exact⟨_,by simp only[h3,Pz],set_set hy,fun j hj=>(St.cN _ _ fun e=>hj (by simp[cg.dst,e])).trans (h5 j)⟩
    ·cases h
   ·cases h
  ·cases h
 |mest a k v=>
  simp only[cg.reads,List.mem_append,not_or]at h1;simp only[cg.run,St.cU h1.1.1,St.cU h1.1.2,St.cU h1.2]at h⊢;generalize a.val J.s=av at h⊢;generalize k.val J.s=kv at h⊢;generalize v.val J.s=vv at h⊢;unfold uD at h⊢;split at h
  ·simp only[St.jD]at h;split at h
   ·split at h
    ·rename_i hok;rw[if_pos hok];obtain⟨p,hp,rfl⟩:=Mz.1 h;simp only[hp,Pz];exact⟨_,rfl,rfl,fun _ _=>rfl⟩
    ·cases h
   ·cases h
  ·cases h
theorem F8{b:an}{J J2:St}{x:Nat}{d:D}(h:b.run Γ (J.set x d)=some J2)(h1:x∉b.reads)(h2:b.dst≠some x):
  ∃J3,b.run Γ J=some J3∧J2=J3.set x d∧ ∀j,b.dst≠some j→J3.s j=J.s j:=by
 cases b with
 |op y k args g=>
  simp only[an.reads,List.mem_append,not_or]at h1;have hy:x≠y:=fun e=>h2 (by simp[an.dst,e]);have hg:bE (J.set x d) g=bE J g:=guard_congr fun j want e=>St.cN _ _ fun e2=>h1.2 (by simp[iQ,e,e2]);simp only[an.run,hg,PE,St.jD,St.pO h1.1]at h⊢;rw[Bz]at h;obtain⟨c,hc,h⟩:=h;rw[hc];cases c
  ·simp only[cond_false,Jz]at h;exact⟨J.set y (.tup []),by simp,by rw[←h];exact set_set hy,fun j hj=>St.cN _ _ fun e=>hj (by simp[an.dst,e])⟩
  ·simp only[cond_true]at h;obtain⟨v,hv,rfl⟩:=Mz.1 h;exact⟨_,by simp[hv],set_set hy,fun j hj=>St.cN _ _ fun e=>hj (by simp[an.dst,e])⟩
 |eff e g=>
  simp only[an.reads,List.mem_append,not_or]at h1;have hg:bE (J.set x d) g=bE J g:=guard_congr fun j want e=>St.cN _ _ fun e2=>h1.2 (by simp[iQ,e,e2]);simp only[an.run,hg]at h⊢;rw[Bz]at h;obtain⟨c,hc,h⟩:=h;rw[hc];cases c
  ·simp only[cond_false,Jz]at h;subst h;refine⟨J.void e.dst,rfl, ?_,fun j hj=> ?_⟩
   ·cases hd:e.dst with
    |none=>rfl
    |some y=>exact set_set fun e2=>h2 (by simp[an.dst,hd,e2])
   ·cases hd:e.dst with
    |none=>rfl
    |some y=>exact St.cN _ _ fun e2=>hj (by simp[an.dst,hd,e2])
  ·exact F7 (Γ:=Γ) h h1.1 h2
 |bad=>cases h
theorem iA{x:Nat}{k:PK}{args:List aJ}{g:Option (Nat×Bool)}{J J':St}(h:(an.op x k args g).run Γ J=some J'):
  ∃d,J'=J.set x d∧ ∀τ:St,(∀j∈(an.op x k args g).reads,τ.s j=J.s j)→(l_ J.m τ.m∨k.pG=false)→(an.op x k args g).run Γ τ=some (τ.set x d):=by
 have key: ∀τ:St,(∀j∈(an.op x k args g).reads,τ.s j=J.s j)→args.map (aJ.val τ.s)=args.map (aJ.val J.s)∧bE τ g=bE J g:=fun τ heq=>
  ⟨vH fun j hj=>heq j (by simp only[an.reads,List.mem_append];exact .inl hj),guard_congr fun j want e=>heq j (by simp[an.reads,iQ,e])⟩
 simp only[an.run]at h;rw[Bz]at h;obtain⟨b,hb,h⟩:=h;cases b
 ·simp only[cond_false,Jz]at h;refine⟨_,h.symm,fun τ heq _=> ?_⟩;simp only[an.run,(key τ heq).2,hb,Oz,cond_false]
 ·simp only[cond_true,PE]at h;obtain⟨d,hd,rfl⟩:=Mz.1 h;refine⟨d,rfl,fun τ heq hm=> ?_⟩
  have ah:k.run Γ τ.m (args.map (aJ.val J.s))=some d:=by
   rcases hm with hm|hm
   ·exact pJ hm hd
   ·rw[BZ hm (m':=J.m)];exact hd
  simp only[an.run,(key τ heq).2,hb,Oz,cond_true,PE,(key τ heq).1,ah,Pz]
theorem WF.tok{J:St}(W:WF J)(x:Nat):J.m (J.tok x)=none:=W x (J.c x) [] (Nat.le_refl _)
theorem WF.sub{J:St}(W:WF J){m:Mem}(h:l_ m J.m):WF ⟨J.s,m,J.c⟩:=fun x k r hk=>by
 show m ((x+1)::k::r)=none;cases hm:m ((x+1)::k::r)with
 |none=>rfl
 |some o=>have:=h _ _ hm;rw[W x k r hk]at this;cases this
theorem WF.put{J:St}(W:WF J){t:Tok}{o:Option HO}(h:J.m t≠none):WF (J.put t o):=fun x k r hk=>by
 simp only[St.put];split
 ·rename_i e;rw[←e,W x k r hk]at h;exact absurd rfl h
 ·exact W x k r hk
theorem WF.new{J:St}(W:WF J)(x:Nat)(o:HO)(d:D):WF (J.new x o d):=fun y k r hk=>by
 simp only[St.new,St.inc,St.set,St.put]at hk⊢
 have hne:(y+1)::k::r≠J.tok x:=fun e=>by
  simp only[St.tok,List.cons.injEq]at e;obtain⟨e1,e2,_⟩:=e;have:y=x:=by omega
  subst this;rw[if_pos rfl]at hk;omega
 rw[if_neg hne];refine W y k r ?_;split at hk<;>omega
theorem WF.aG{J:St}(W:WF J)(g:Tok)(k:Nat):WF (J.aG g k):=W.sub fun _ _ h=>(cu h).1
theorem l_.aG(J:St)(g:Tok)(k:Nat):l_ (J.aG g k).m J.m:=fun _ _ h=>(cu h).1
theorem l_.new{J:St}(W:WF J)(x:Nat)(o:HO)(d:D):l_ J.m (J.new x o d).m:=fun t q h=>by
 have:t≠J.tok x:=fun e=>by rw[e,W.tok]at h;cases h
 simp[St.new,St.put,this,h]
theorem zY{ks:List Nat}{av kv vv:D}{J J':St}(W:WF J)(h:jx ks av kv vv J=some J'):WF J':=by
 unfold jx at h;split at h
 ·split at h
  ·rename_i hm;split at h
   ·rw[Bz]at h;obtain⟨r,_,h⟩:=h;split at h
    ·obtain⟨p,_,rfl⟩:=Mz.1 h;exact W.put (by rw[hm];simp)
    ·split at h<;>cases h;exact W.put (by rw[hm];simp)
   ·cases h
  ·cases h
 ·cases h
theorem Lh{st:cg}{J J':St}(W:WF J)(h:st.run Γ J=some J'):WF J'∧(st.news=true→l_ J.m J'.m):=by
 have fresh: ∀x o d,J.new x o d=J'→WF J'∧l_ J.m J'.m:=fun x o d e=>by subst e;exact⟨W.new x o d,l_.new W x o d⟩
 cases st with
 |box _ _ x a=>
  simp only[cg.run,CD]at h;split at h
  ·have:=fresh _ _ _ (Option.some.inj h);exact⟨this.1,fun _=>this.2⟩
  ·cases h
 |store k _ a v=>
  refine⟨?_,fun e=>by simp[cg.news]at e⟩;simp only[cg.run,jV]at h;split at h
  ·split at h
   ·rename_i hm;split at h<;>cases h;exact W.put (by rw[hm];simp)
   ·cases h
  ·split at h
   ·rename_i hm;rw[Bz]at h;obtain⟨c,_,h⟩:=h;split at h<;>cases h;rename_i g0 e0 es0 _ _;intro x k r hk;simp only[St.put];split
    ·rename_i e;rw[←e,W x k r hk]at hm;cases hm
    ·exact W.aG _ _ x k r hk
   ·rename_i hm;split at h<;>cases h;exact W.put (by rw[hm];simp)
   ·cases h
  ·cases h
 |app x e size a b=>
  refine⟨?_,fun e=>by simp[cg.news]at e⟩;simp only[cg.run,tx]at h;rw[Bz]at h;obtain⟨es,_,h⟩:=h;split at h
  ·cases h
  split at h
  ·split at h
   ·cases h;exact W
   ·split at h<;>cases h;exact W.new _ _ _
  ·split at h
   ·cases h;exact W
   ·split at h
    ·split at h
     ·split at h
      ·split at h<;>cases h;exact(W.aG _ _).new _ _ _
      ·split at h<;>cases h;exact W.new _ _ _
     ·cases h
    ·cases h
  ·cases h
 |mks x e size zero a b=>
  simp only[cg.run,Dm]at h;split at h
  ·split at h
   ·have:=fresh _ _ _ (Option.some.inj h);exact⟨this.1,fun _=>this.2⟩
   ·cases h
  ·cases h
 |lit x e size len zero places args=>
  simp only[cg.run,Di]at h;split at h
  ·rw[Bz]at h;obtain⟨cs,_,h⟩:=h;split at h
   ·have:=fresh _ _ _ (Option.some.inj h);exact⟨this.1,fun _=>this.2⟩
   ·cases h
  ·cases h
 |mkm x=>exact⟨(fresh _ _ _ (Option.some.inj h)).1,fun _=>(fresh _ _ _ (Option.some.inj h)).2⟩
 |mkml x e s=>exact⟨(fresh _ _ _ (Option.some.inj h)).1,fun _=>(fresh _ _ _ (Option.some.inj h)).2⟩
 |clr s z a=>
  refine⟨?_,fun e=>by simp[cg.news]at e⟩;simp only[cg.run,Ax]at h;split at h
  ·cases h;exact W
  ·cases h;exact W
  ·cases h;exact W
  ·split at h
   ·cases h;exact W
   ·split at h
    ·rename_i hm;split at h<;>cases h;intro x k r hk;simp only[St.put];split
     ·rename_i e;rw[←e,W x k r hk]at hm;cases hm
     ·exact W.aG _ _ x k r hk
    ·cases h
  ·cases h
 |ecall x k f args=>
  refine⟨?_,fun e=>by simp[cg.news]at e⟩;simp only[cg.run,lr]at h;split at h
  ·split at h
   ·obtain⟨q,_,h⟩:=Bz.1 h;split at h
    ·split at h<;>cases h;exact W
    ·cases h
   ·split at h
    ·rename_i hm;split at h
     ·obtain⟨q,_,h⟩:=Bz.1 h;split at h
      ·split at h<;>cases h;intro x k r hk;simp only[St.jD,St.put];split
       ·rename_i e;rw[←e,W x k r hk]at hm;cases hm
       ·exact W.aG _ _ x k r hk
      ·cases h
     ·cases h
    ·cases h
   ·cases h
  ·cases h
 |acall x e sz f args=>
  simp only[cg.run,og]at h;split at h
  ·obtain⟨q,_,h⟩:=Bz.1 h;split at h
   ·split at h<;>cases h;have:=fresh _ _ _ rfl;exact⟨this.1,fun _=>this.2⟩
   ·cases h
  ·cases h
 |copy x a b=>
  refine⟨?_,fun e=>by simp[cg.news]at e⟩;simp only[cg.run,copyV]at h;split at h
  ·split at h
   ·rename_i hm _;split at h
    ·cases x with
     |none=>cases h;exact W.put (by rw[hm];simp)
     |some x=>cases h;exact WF.put W (by rw[hm];simp)
    ·cases h
   ·cases h
  ·cases h
 |mupd ks a k v=>exact⟨zY W h,fun e=>by simp[cg.news]at e⟩
 |ment ks z y a k=>
  refine⟨?_,fun e=>by simp[cg.news]at e⟩;simp only[cg.run,xn]at h;split at h
  ·split at h
   ·split at h
    ·obtain⟨r,_,h⟩:=Bz.1 h;split at h
     ·obtain⟨p,_,h⟩:=Bz.1 h;obtain⟨J1,hu,rfl⟩:=Mz.1 h;exact(zY W hu:WF J1)
     ·obtain⟨J1,hu,rfl⟩:=Mz.1 h;exact(zY W hu:WF J1)
    ·cases h
   ·cases h
  ·cases h
 |mest a k v=>
  refine⟨?_,fun e=>by simp[cg.news]at e⟩;simp only[cg.run,uD]at h;split at h
  ·split at h
   ·rename_i hm;split at h
    ·obtain⟨p,_,rfl⟩:=Mz.1 h;exact W.put (by rw[hm];simp)
    ·cases h
   ·cases h
  ·cases h
theorem th{st:an}{J J':St}(W:WF J)(h:st.run Γ J=some J'):WF J'∧(st.news=true→l_ J.m J'.m)∧((match st with| .op .. =>True|_=>False)→J'.m=J.m):=by
 cases st with
 |op x k args g=>
  obtain⟨d,rfl,_⟩:=iA h;exact⟨W,fun e=>by simp[an.news]at e,fun _=>rfl⟩
 |eff e g=>
  simp only[an.run]at h;rw[Bz]at h;obtain⟨c,hc,h⟩:=h;cases c
  ·simp only[cond_false,Jz]at h;subst h;refine⟨?_,fun _=> ?_,fun e=>e.elim⟩
   ·cases e.dst<;>exact W
   ·cases e.dst<;>exact fun _ _ h=>h
  ·obtain⟨h1,h2⟩:=Lh (Γ:=Γ) W h;exact⟨h1,h2,fun e=>e.elim⟩
 |bad=>cases h
theorem K'{a b:an}{J J1 J2:St}(W:WF J)(hi:indep a b=true)(h1:a.run Γ J=some J1)(h2:b.run Γ J1=some J2): ∃J3,b.run Γ J=some J3∧a.run Γ J3=some J2:=by
 simp only[indep,Az]at hi;obtain⟨hap,hk⟩:=hi;cases a with
 |op x k args g=>
  simp only[apart,show(an.op x k args g).dst=some x from rfl,Az]at hap;obtain⟨⟨g1,g2⟩,g3⟩:=hap;have hx1:x∉b.reads:=by simpa using g1
  have hx2:b.dst≠some x:=fun e=>by rw[e]at g3;simp at g3
  obtain⟨d,rfl,SZ⟩:=iA h1;obtain⟨J3,k1,rfl,k3⟩:=F8 h2 hx1 hx2;refine⟨J3,k1,SZ J3 (fun j hj=>k3 j fun e=> ?_) ?_⟩
  ·grind
  ·simp only[Bool.or_eq_true]at hk;obtain⟨_,m1,m2⟩:=th W k1;rcases hk with(hk|hk)|hk
   ·left;cases b<;>try (cases hk;done)
    rw[m2 trivial];exact fun _ _ h=>h
   ·grind
   ·grind
 |_=>cases hk
end
end
section
def mP(sts:List an)(k:Nat):an:=sts.getD k default
def fQ(e:Edge):Bool:=Region.binds .any e
def jF(ops:Array Oper)(M:Nat→Nat):Bool:=
 (List.range ops.size).all fun i=>
  match ops[i]? with
  |none=>false
  |some o=>o.after.toList.all (fun e=> !fQ e||decide (e.on<i))&&
   (List.range ops.size).all fun k=> !(M i).testBit k||o.after.toList.any fun e=>fQ e&&(e.on==k||(M e.on).testBit k)
def aD(L:Array Bool)(i:Nat):Bool:=L.getD i false
def a_(ops:Array Oper)(L:Array Bool):List Nat:=(List.range ops.size).filter fun i=> !aD L i
def kC(ops:Array Oper)(sts:List an)(M:Nat→Nat)(L:Array Bool)(i:Nat):Bool:=
 (List.range ops.size).all fun j=>aD L j||j==i||(M j).testBit i||indep (mP sts i) (mP sts j)
def pick(ops:Array Oper)(sts:List an)(M:Nat→Nat)(L:Array Bool):Option Nat:=(Region.ready .any ops L).find? (kC ops sts M L)
def pL(ops:Array Oper)(sts:List an)(M:Nat→Nat):Nat→Array Bool→List (List Nat)
 |0,_=> [[]]
 |n+1,L=>match pick ops sts M L with
  |some i=>(pL ops sts M n (L.setIfInBounds i true)).map (i:: ·)
  |none=>(Region.ready .any ops L).flatMap fun i=>(pL ops sts M n (L.setIfInBounds i true)).map (i:: ·)
section
variable {P : Program} {fr : p8} {w0 : World} {pr : aV} {A : iI} {n : Nat} {Γ : Env} {ops : Array Oper}
theorem iT{L:Array Bool}{i:Nat}(hi:i<L.size)(k:Nat):aD (L.setIfInBounds i true) k=(aD L k||k==i):=by
 simp only[aD,Array.getD_eq_getD_getElem?]
 grind
theorem bS{L:Array Bool}(hL:L.size=ops.size){i:Nat}(h:i∈Region.ready .any ops L):
  i<ops.size∧aD L i=false∧ ∃o,ops[i]?=some o∧ ∀e∈o.after,fQ e=true→aD L e.on=true:=by
 simp only[Region.ready,List.mem_filter,List.mem_range,Az]at h;obtain⟨h1,h2,h3⟩:=h
 have hl:aD L i=false:=by
  simp only[aD]at*
  grind
 refine⟨h1,hl,ops[i],Rz h1,fun e he hb=> ?_⟩;rw[Rz h1]at h3;simp only[Pz,Option.getD_some,Array.all_eq_true_iff_forall_mem]at h3;have:=h3 e he;have hb':Region.binds .any e=true:=hb;rw[hb']at this;simpa[aD]using this
theorem mL{L:Array Bool}{M:Nat→Nat}(hL:L.size=ops.size)(hB:jF ops M=true){i:Nat}(hi:i<ops.size)(hu:aD L i=false)(hlt: ∀k,k<i→aD L k=true):i∈Region.ready .any ops L:=by
 simp only[Region.ready,List.mem_filter,List.mem_range,Az];refine⟨hi, ?_, ?_⟩
 ·simp only[aD]at*
  grind
 ·rw[Rz hi];simp only[Pz,Option.getD_some,Array.all_eq_true_iff_forall_mem];intro e he;simp only[jF,Tz,List.mem_range]at hB;have:=hB i hi;rw[Rz hi]at this;simp only[Az,Tz]at this;have h1:=this.1 e (by simpa using he);cases hb:Region.binds .any e
  ·simp
  ·simp only[fQ,hb,Bool.not_true,Bool.false_or,decide_eq_true_eq]at h1;have:=hlt _ h1;simpa[aD]using this
def oa(ops:Array Oper)(L:Array Bool):Prop:= ∀i o,ops[i]?=some o→aD L i=true→ ∀e∈o.after,fQ e=true→aD L e.on=true
theorem ye{L:Array Bool}{M:Nat→Nat}(hB:jF ops M=true)(hC:oa ops L): ∀(i:Nat),i<ops.size→(aD L i=true∨ ∃o,ops[i]?=some o∧ ∀e∈o.after,fQ e=true→aD L e.on=true)→
  ∀k,k<ops.size→(M i).testBit k=true→aD L k=true:=by
 intro i
 induction i using Nat.strongRecOn with
 |_ i ih=>
  intro hi hl k hk hm;have hB':=hB;simp only[jF,Tz,List.mem_range]at hB';have:=hB' i hi;rw[Rz hi]at this;simp only[Az,Tz,List.mem_range]at this
  have hed: ∀e∈ops[i].after,fQ e=true→aD L e.on=true:=by
   rcases hl with hl|⟨o,ho,hl⟩
   ·exact hC i _ (Rz hi) hl
   ·grind
  have h2:=this.2 k hk;rw[hm]at h2
  grind
def Full(Γ:Env)(ops:Array Oper)(sts:List an)(K:St→Prop):Nat→Array Bool→St→Prop
 |0,_,J=>K J
 |n+1,L,J=> ∀i∈Region.ready .any ops L,∃J1,(mP sts i).run Γ J=some J1∧Full Γ ops sts K n (L.setIfInBounds i true) J1
theorem uT{L:Array Bool}(hL:L.size=ops.size){i j:Nat}(hi:i∈Region.ready .any ops L)(hj:j∈Region.ready .any ops L)(hne:j≠i):j∈Region.ready .any ops (L.setIfInBounds i true):=by
 obtain⟨i1,i2,_⟩:=bS hL hi;obtain⟨j1,j2,o,ho,hed⟩:=bS hL hj;have jN:=fun k=>iT (L:=L) (i:=i) (by omega) k;simp only[Region.ready,List.mem_filter,List.mem_range,Az,Bool.not_eq_true'];have hsz:(L.setIfInBounds i true).size=ops.size:=by simpa using hL
 refine⟨j1, ?_, ?_⟩
 ·have:aD (L.setIfInBounds i true) j=false:=by rw[jN,j2];simpa using hne
  have hlt:j<(L.setIfInBounds i true).size:=by omega
  simp only[aD,Array.getD_eq_getD_getElem?,Rz hlt]at this⊢;exact this
 ·rw[ho];simp only[Pz,Option.getD_some,Array.all_eq_true_iff_forall_mem];intro e he;cases hb:Region.binds .any e
  ·simp
  ·have:=hed e he hb;have h2:aD (L.setIfInBounds i true) e.on=true:=by rw[jN,this];rfl
   simpa[aD]using h2
theorem dZ{L:Array Bool}(hL:L.size=ops.size){i:Nat}(hi:i<ops.size)(hu:aD L i=false){k:Nat}(hk:(a_ ops L).length=k+1):(a_ ops (L.setIfInBounds i true)).length=k:=by
 have jN:=fun k=>iT (L:=L) (i:=i) (by omega) k;have vY:i∈a_ ops L:=by simp[a_,hi,hu]
 have e:a_ ops (L.setIfInBounds i true)=(a_ ops L).filter (· !=i):=by
  simp only[a_,List.filter_filter]
  grind
 have hnd:(a_ ops L).Nodup:=List.Nodup.sublist List.filter_sublist List.nodup_range;rw[e,←List.Nodup.erase_eq_filter hnd,List.length_erase_of_mem vY,hk];rfl
theorem ou{L:Array Bool}(hL:L.size=ops.size){i:Nat}(hi:i∈Region.ready .any ops L)(hC:oa ops L):oa ops (L.setIfInBounds i true):=fun k ok hok hk e he hb=>by
 obtain⟨i1,i2,o,ho,hed⟩:=bS hL hi;rw[iT (by omega)]at hk⊢;rw[Bool.or_eq_true]at hk⊢;rcases hk with hk|hk
 ·exact .inl (hC k ok hok hk e he hb)
 ·have:k=i:=by simpa using hk
  subst this;rw[ho]at hok;cases hok;exact .inl (hed e he hb)
theorem zj(L:Array Bool)(i j:Nat):(L.setIfInBounds i true).setIfInBounds j true=(L.setIfInBounds j true).setIfInBounds i true:=by
 grind
theorem vV{sts:List an}{K:St→Prop}{M:Nat→Nat}(hB:jF ops M=true): ∀(k:Nat) (L:Array Bool) (i:Nat) (J J1:St),L.size=ops.size→oa ops L→(a_ ops L).length=k+1→WF J→i∈Region.ready .any ops L→
  kC ops sts M L i=true→(mP sts i).run Γ J=some J1→Full Γ ops sts K k (L.setIfInBounds i true) J1→Full Γ ops sts K (k+1) L J:=by
 intro k
 induction k with
 |zero=>
  intro L i J J1 hL hC hu W hi hf h1 hF j hj;obtain⟨i1,i2,_⟩:=bS hL hi;obtain⟨j1,j2,_⟩:=bS hL hj
  have sr: ∀q,q∈a_ ops L→ ∀q',q'∈a_ ops L→q=q':=by
   cases hl:a_ ops L with
   |nil=>simp[hl]at hu
   |cons a r=>
    rw[hl]at hu;have:r= []:=List.eq_nil_of_length_eq_zero (by simpa using hu);subst this;intro q hq q' hq';simp at hq hq';rw[hq,hq']
  have:j=i:=sr j (by simp[a_,j1,j2]) i (by simp[a_,i1,i2]);subst this;exact⟨J1,h1,hF⟩
 |succ k ih=>
  intro L i J J1 hL hC hu W hi hf h1 hF j hj;obtain⟨i1,i2,_⟩:=bS hL hi;obtain⟨j1,j2,oj,hoj,acY⟩:=bS hL hj;by_cases hji:j=i
  ·subst hji;exact⟨J1,h1,hF⟩
  ·obtain⟨J2,h2,hF2⟩:=hF j (uT hL hi hj hji)
   have hnd:(M j).testBit i=false:=by
    cases hb:(M j).testBit i
    ·rfl
    ·have:=ye hB hC j j1 (.inr ⟨oj,hoj,acY⟩) i i1 hb;rw[i2]at this;cases this
   have ac1:indep (mP sts i) (mP sts j)=true:=by
    simp only[kC,Tz,List.mem_range,Bool.or_eq_true,beq_iff_eq]at hf;rcases hf j j1 with((h|h)|h)|h
    ·rw[j2]at h;cases h
    ·exact absurd h hji
    ·rw[hnd]at h;cases h
    ·exact h
   obtain⟨J3,h3,h4⟩:=K' W ac1 h1 h2;refine⟨J3,h3,ih (L.setIfInBounds j true) i J3 J2 (by simpa using hL) (ou hL hj hC) (dZ hL j1 j2 hu) (th W h3).1 (uT hL hj hi (fun e=>hji e.symm)) ?_ h4 ?_⟩
   ·simp only[kC,Tz,List.mem_range,Bool.or_eq_true,beq_iff_eq]at hf⊢;intro q hq;rcases hf q hq with((h|h)|h)|h
    ·left;left;left;rw[iT (by omega),h];rfl
    ·exact .inl (.inl (.inr h))
    ·exact .inl (.inr h)
    ·exact .inr h
   ·rw[←zj];exact hF2
theorem yA{sts:List an}{K:St→Prop}{M:Nat→Nat}(hB:jF ops M=true): ∀(k:Nat) (L:Array Bool) (J:St),L.size=ops.size→oa ops L→(a_ ops L).length=k→WF J→
  (∀s∈pL ops sts M k L,∃J',runs Γ (s.map (mP sts)) J=some J'∧K J')→Full Γ ops sts K k L J:=by
 intro k
 induction k with
 |zero=>
  intro L J hL hC hu W h;obtain⟨J',h1,h2⟩:=h [] (by simp[pL]);simp only[List.map_nil,runs,Jz]at h1;subst h1;exact h2
 |succ k ih=>
  intro L J hL hC hu W h
  have step: ∀i,i∈Region.ready .any ops L→(pL ops sts M k (L.setIfInBounds i true))≠ []→(∀s∈pL ops sts M k (L.setIfInBounds i true),∃J',runs Γ ((i::s).map (mP sts)) J=some J'∧K J')→
    ∃J1,(mP sts i).run Γ J=some J1∧Full Γ ops sts K k (L.setIfInBounds i true) J1:=by
   intro i hi hne hs;obtain⟨i1,i2,_⟩:=bS hL hi;cases hr:(mP sts i).run Γ J with
   |none=>
    cases hq:pL ops sts M k (L.setIfInBounds i true)with
    |nil=>exact absurd hq hne
    |cons s r=>
     obtain⟨J',h1,_⟩:=hs s (by rw[hq];simp);simp[runs,hr]at h1
   |some J1=>
    refine⟨J1,rfl,ih _ J1 (by simpa using hL) (ou hL hi hC) (dZ hL i1 i2 hu) (th W hr).1 fun s hss=> ?_⟩;obtain⟨J',h1,h2⟩:=hs s hss;exact⟨J',by simpa[runs,hr]using h1,h2⟩
  have nonempty: ∀(k:Nat) (L:Array Bool),L.size=ops.size→(a_ ops L).length=k→pL ops sts M k L≠ []:=by
   intro k
   induction k with
   |zero=>intro L _ _;simp[pL]
   |succ k ih2=>
    intro L hL hu
    have hrd:Region.ready .any ops L≠ []:=fun hr=>by
     have all: ∀q,q<ops.size→aD L q=true:=by
      intro q
      induction q using Nat.strongRecOn with
      |_ q ihq=>
       intro hq;cases hl:aD L q
       ·have:=mL hL hB hq hl fun j hj=>ihq j hj (by omega)
        grind
       ·rfl
     have:a_ ops L= []:=by
      simp only[a_,List.filter_eq_nil_iff,List.mem_range]
      grind
     grind
    simp only[pL];split
    ·rename_i i hp;have hi:=List.mem_of_find?_eq_some hp;obtain⟨i1,i2,_⟩:=bS hL hi;have:=ih2 (L.setIfInBounds i true) (by simpa using hL) (dZ hL i1 i2 hu);simpa using this
    ·cases hq:Region.ready .any ops L with
     |nil=>exact absurd hq hrd
     |cons i r=>
      have hi:i∈Region.ready .any ops L:=by rw[hq];simp
      obtain⟨i1,i2,_⟩:=bS hL hi;have:=ih2 (L.setIfInBounds i true) (by simpa using hL) (dZ hL i1 i2 hu);simp[this]
  simp only[pL]at h;split at h
  ·rename_i i hp;have hi:=List.mem_of_find?_eq_some hp;obtain⟨i1,i2,_⟩:=bS hL hi;obtain⟨J1,h1,h2⟩:=step i hi (nonempty k _ (by simpa using hL) (dZ hL i1 i2 hu)) fun s hs=>h (i::s) (by simpa using hs);exact vV hB k L i J J1 hL hC hu W hi (List.find?_some hp) h1 h2
  ·intro i hi;obtain⟨i1,i2,_⟩:=bS hL hi;exact step i hi (nonempty k _ (by simpa using hL) (dZ hL i1 i2 hu)) fun s hs=>h (i::s) (by simp only[List.mem_flatMap,List.mem_map];exact⟨i,hi,s,hs,rfl⟩)
theorem Rel.wf{w:World}{cs:Array Value}{J:St}{tk:ai}(R:Rel P w0 pr A n w cs J tk):WF J:=fun x k r hk=>by
 cases h:J.m ((x+1)::k::r)with
 |none=>rfl
 |some o=>
  obtain⟨b,c,h1,_⟩:=(R.mem.obj _ o h).place;rw[R.fresh x k r hk]at h1;cases h1
theorem FL{r:Option Nat}{B:fe}(hΓ:Sound P Γ){M:Nat→Nat}(hB:jF ops M=true){Q:Exit→Act→World→Prop}{df:List Deferred}{K:St→Prop}(hQ: ∀a' w' J',a'.defers=df→dB P B n w' a'.tmps J'→K J'→Q .normal a' w'):
  ∀(k:Nat) (L:Array Bool) (a:Act) (w:World) (J:St),L.size=ops.size→oa ops L→(a_ ops L).length=k→a.defers=df→dB P B n w a.tmps J→
   Full Γ ops (CF P fr n ops) K k L J→wpAnyIn (wF r) 0 P .any ops Q k L a w:=by
 have gC: ∀i o,ops[i]?=some o→mP (CF P fr n ops) i=CG P fr n ops o:=fun i o h=>by
  simp[mP,CF,h]
 have υ: ∀{L:Array Bool},L.size=ops.size→Region.ready .any ops L= []→ ∀k,k<ops.size→aD L k=true:=by
  intro L hL hr k
  induction k using Nat.strongRecOn with
  |_ k ih=>
   intro hk;cases hl:aD L k
   ·have:=mL hL hB hk hl fun j hj=>ih j hj (by omega)
    grind
   ·rfl
 intro k
 induction k with
 |zero=>
  intro L a w J hL hC hu hdf R hF;refine⟨?_,hQ a w J hdf R hF⟩;cases hr:Region.ready .any ops L with
  |nil=>rfl
  |cons i r=>
   obtain⟨h1,h2,_⟩:=bS hL (i:=i) (by rw[hr];simp);have:i∈a_ ops L:=by simp[a_,h1,h2]
   grind
 |succ k ih=>
  intro L a w J hL hC hu hdf R hF;refine⟨fun hr=> ?_,fun i hi=> ?_⟩
  ·exfalso
   have:a_ ops L= []:=by
    simp only[a_,List.filter_eq_nil_iff]
    grind
   grind
  ·obtain⟨i1,i2,o,ho,_⟩:=bS hL hi;obtain⟨J1,h1,h2⟩:=hF i hi;rw[gC i o ho]at h1
   have:=qX (r:=r) hΓ R h1 (wpAnyIn (wF r) 0 P .any ops Q k (L.setIfInBounds i true)) Q fun a' w' acV R'=>
    ih (L.setIfInBounds i true) a' w' J1 (by simpa using hL) (ou hL hi hC) (dZ hL i1 i2 hu) (acV.trans hdf) R' h2
   unfold wpOpIn;simp only[ho];split
   ·rename_i hw;rw[if_pos hw]at this;exact this
   ·rename_i hw;rw[if_neg hw]at this;exact⟨fun _ _=>trivial,this⟩
def Z4(ops:Array Oper)(i:Nat):List Nat:=match ops[i]? with
 |some o=>(o.after.toList.filter fQ).map Edge.on
 |none=> []
def Si(ops:Array Oper)(sts:List an)(M:Nat→Nat)(i:Nat):List Nat:=(List.range ops.size).filter fun j=> !(j==i||(M j).testBit i||indep (mP sts i) (mP sts j))
def MD(ops:Array Oper)(m:Nat):List Nat:=(List.range ops.size).filter fun i=> !m.testBit i&&(Z4 ops i).all fun k=>m.testBit k
def xE(ops:Array Oper)(sts:List an)(M:Nat→Nat):Nat→Nat→List (List Nat)
 |0,_=> [[]]
 |n+1,m=>match(MD ops m).find? fun i=>(Si ops sts M i).all fun j=>m.testBit j with
  |some i=>(xE ops sts M n (m|||2^i)).map (i:: ·)
  |none=>(MD ops m).flatMap fun i=>(xE ops sts M n (m|||2^i)).map (i:: ·)
theorem B4{ops:Array Oper}{sts:List an}{M:Nat→Nat}: ∀{n:Nat} {L:Array Bool} {m:Nat},L.size=ops.size→(∀i,aD L i=m.testBit i)→xE ops sts M n m=pL ops sts M n L
 |0,_,_,_,_=>rfl
 |n+1,L,m,hL,h=>by
  have hr:MD ops m=Region.ready .any ops L:=by
   unfold MD Region.ready;refine List.filter_congr fun i hi=> ?_;have hi:=List.mem_range.1 hi
   have e1:L.getD i true=m.testBit i:=by
    rw[←h];simp only[aD,Array.getD_eq_getD_getElem?];rw[Rz (by omega)];rfl
   rw[e1];congr 1;unfold Z4;rw[Rz hi];simp only[Pz,Option.getD_some];rw[←Array.all_toList,List.all_map,List.all_filter];refine List.all_congr rfl fun e=> ?_;show(!fQ e||m.testBit e.on)=(!Region.binds .any e||L.getD e.on false);rw[←h];rfl
  have hc: ∀i,((Si ops sts M i).all fun j=>m.testBit j)=kC ops sts M L i:=fun i=>by
   unfold Si kC;rw[List.all_filter];refine List.all_congr rfl fun j=> ?_;rw[h];cases m.testBit j<;>cases(j==i)<;>cases(M j).testBit i<;>cases indep (mP sts i) (mP sts j)<;>rfl
  have hs: ∀i,i<ops.size→xE ops sts M n (m|||2^i)=pL ops sts M n (L.setIfInBounds i true):=fun i hi=>B4 (by simpa using hL) fun k=>by
   rw[iT (by omega),h,Nat.testBit_or,Nat.testBit_two_pow];congr 1;rw[Bool.eq_iff_iff,decide_eq_true_eq,beq_iff_eq];exact eq_comm
  unfold xE pL pick;rw[hr,funext hc];split
  ·rename_i i hf;rw[hs i (List.mem_range.1 (List.mem_filter.1 (List.mem_of_find?_eq_some hf)).1)]
  ·rw[List.flatMap_def,List.flatMap_def];congr 1;exact List.map_congr_left fun i hi=>by rw[hs i (List.mem_range.1 (List.mem_filter.1 hi).1)]
def Dv(P:Program)(fr:p8)(n:Nat)(ops:Array Oper):Option (List (List an)):=
 let b:=Region.before ops
 if jF ops (fun i=>b.getD i 0)then some ((xE ops (CF P fr n ops) (fun i=>b.getD i 0) ops.size 0).map fun s=>s.map (mP (CF P fr n ops)))else none
theorem dB.wf{B:fe}{w:World}{cs:Array Value}{J:St}(R:dB P B n w cs J):WF J:=let⟨_,_,_,_,R,_⟩:=R;R.wf
theorem AQ{r:Option Nat}{B:fe}(hΓ:Sound P Γ)(hm:P.follows .mixedOrders=true){id:Nat}{Q:Exit→Act→World→Prop}{w:World}{J:St}{K:St→Prop}{a:Act}{ss:List (List an)}
  (R:dB P B n w a.tmps J) (hd:Dv P fr n ops=some ss) (hr: ∀s∈ss,∃J',runs Γ s J=some J'∧K J')
  (hQ: ∀a' w' J',a'.defers=a.defers→dB P B n w' a'.tmps J'→K J'→Q .normal a' w'):Code.wK r P (Code.region id ops true) Q a w:=by
 apply wpIn_region_any hm;simp only[Dv]at hd;split at hd<;>cases hd;rename_i hB;rw[B4 (L:=Array.replicate ops.size false) (by simp) fun k=>by simp only[aD,Array.getD_eq_getD_getElem?,Nat.zero_testBit];grind]at hr
 have hun: ∀k,aD (Array.replicate ops.size false) k=false:=fun k=>by
  simp only[aD,Array.getD_eq_getD_getElem?]
  grind
 have hC:oa ops (Array.replicate ops.size false):=fun i o ho hl=>by rw[hun i]at hl;cases hl
 have hu:(a_ ops (Array.replicate ops.size false)).length=ops.size:=by
  have:a_ ops (Array.replicate ops.size false)=List.range ops.size:=List.filter_eq_self.2 fun k _=>by rw[hun k];rfl
  grind
 have hg:dP (fun _=>False) w {w with drawn:=w.drawn+1}:=⟨rfl,rfl,rfl,Nat.le_refl _,fun _ _ _=>rfl,Nat.le_succ _⟩
 have R':dB P B n {w with drawn:=w.drawn+1} a.tmps J:=by
  obtain⟨w1,pr,A,tk,R,U⟩:=R;have K:=R.jP hg (fun _ _ h=>h);exact⟨w1,pr,A,tk,⟨R.size,R.chg.trans hg (fun _ _ h=>h.elim),R.prlt,R.prA,R.glob.keeps K.cell,R.mem.keeps K fun _ _ _ _ _ _=>rfl,R.live,R.fresh,R.zero,R.one,fun i hi=>(R.slot i hi).keeps K,fun i hi=>(R.sav i hi).keeps K⟩,U⟩
 exact FL hΓ hB hQ ops.size _ a _ J (by simp) hC hu rfl R' (yA hB _ _ _ (by simp) hC hu R.wf fun s hs=>hr _ (List.mem_map.2 ⟨s,hs,rfl⟩))
end
end
section
abbrev FP:=Nat→List D→Option D
def br(G:FP):Env:=⟨G,fun f ds=>(G (1000001000000+f) ds).map fun d=>(d.bare,dO),fun _ _ _=>none,fun k f ds=>G (1000000+(1000000*k+f)) ds⟩
def Yq:FP:=fun _ _=>none
inductive XK where
 |pk (k:PK)
 |call (fl:Bool) (f:Nat)
 |ccall (fl:Bool)
 |agg
 |tup
 |clo (f:Nat)
 |lptr
 |cell (j n:Nat)
 |qa
 |gv (w:Bool)
 |bq
 |eA
 |app (size:Nat)
 |lit (size len:Nat) (zero:List D) (places:List (Nat×Nat))
 |mks (size:Nat) (zero:List D)
 |setl (size j n:Nat)
 |take
 |mget (ks:List Nat) (z:D) (ok:Bool)
 |mset (ks:List Nat)
 |rngi (n:Nat)
 |geta (n s j m:Nat) (g:Bool)
 |seta (n s j m:Nat)
 |ecall (k f sz:Nat)
 |mkl
 |isc (f n:Nat)
 |capc (f i n:Nat)
 |mapp (ks:List Nat) (sz:Nat)
 |fmk
 |drp
 |clr (zero:List D)
 |adn
 |mix (ks:List Nat)
 |own
 deriving Inhabited
def jv(ks:List Nat)(z:D)(ok:Bool)(es:List (D×D))(k:D):Option D:=
 if k.uL=true∧bR ks k k=some true then(bu ks k es 0).bind fun r=>match r with
  |none=>some (if ok then .tup [z,bv false]else z)
  |some i=>(es[i]?).map fun p=>if ok then .tup [p.2,bv true]else p.2
 else none
def jw(ks:List Nat)(es:List (D×D))(k v:D):Option (List (D×D)):=
 if v.uL=true∧k.uL=true∧bR ks k k=some true then(bu ks k es 0).bind fun r=>match r with
  |some i=>(es[i]?).map fun p=>es.set i (p.1,v)
  |none=>if es.length<aC then some (es++ [(k,v)])else none
 else none
def D.VC:D→Bool
 | .v _| .list _| .lptr _=>true
 |_=>false
def D.nV:D→Bool
 | .clo _ xs=>xs.all D.VC
 |d=>d.VC
def uA(ks:List Nat)(sz:Nat)(es:List (D×D))(k:D)(b:List (List D)):Option (List (D×D)):=
 if(k.uL=true∧bR ks k k=some true)∧(b.all fun c=>c.length==sz&&c.all D.nV)=true∧b.isEmpty=false then(bu ks k es 0).bind fun r=>match r with
  |some i=>match es[i]? with
   |some (k0, .list rows)=>if rows.length+b.length≤aC then some (es.set i (k0, .list (rows++b)))else none
   |_=>none
  |none=>if es.length<aC∧b.length≤aC then some (es++ [(k, .list b)])else none
 else none
def gn(G:FP)(fl:Bool)(f:Nat)(ds:List D):Option D:=(G f ds).bind fun r=>if(if fl then r.bare.flat||r.eD&&r.bare.aF else r.bare.aF)then some r.bare else none
def aO(size:Nat)(es:List (List D)):Bool:=es.all fun c=>c.length==size&&c.all D.nV
def lW:D→Option (List (List D))
 | .list es=>some es
 | .nil| .mt=>some []
 |_=>none
def XK.run(G:FP):XK→List D→Option D
 | .pk k,ds=>(k.run (br Yq) dO ds).bind fun d=>if d.aF then some d else none
 | .call fl f,ds=>gn G fl f ds
 | .ccall fl,ds=>match ds with
  | .clo f eM::r=>if f<1000000 then(eM.mapM (bo dO)).bind fun cs=>gn G fl f (r++cs)else none
  |_=>none
 | .agg,ds=>if ds.all D.aM then some (.agg ds)else none
 | .tup,ds=>some (.tup ds)
 | .clo f,ds=>if ds.all D.aM then some (.clo f ds)else none
 | .lptr,ds=>some (.lptr ds)
 | .cell j n,ds=>match ds with
  | [d]=>if d.cells.length=n∧d.cells.all D.gK=true∧d.cells.all D.aM=true then d.cells[j]? else none
  |_=>none
 | .qa,ds=>match ds with
  | [d]=>if d.gK=true∧d.aF=true then some d else none
  |_=>none
 | .gv w,ds=>match ds with
  | [.v (.bool b)]=>some (bv (b==w))
  | [.tup _]=>some (bv false)
  |_=>none
 | .bq,ds=>match ds with
  | [d]=>if d.aF then bo dO d else none
  |_=>none
 | .eA,ds=>match ds with
  | [d]=>if d.aM then aq dO 6 d else none
  |_=>none
 | .app size,ds=>match ds with
  | [a,b]=>(lW a).bind fun a=>(lW b).bind fun b=>if aO size b=true∧a.length+b.length≤aC then some (.list (a++b))else none
  |_=>none
 | .lit size len zero places,ds=>if ds.all (fun d=>d.cells.all D.gK)then(nP zero places ds).bind fun cs=>if cs.length=len*size∧aO size (lj size len (cs.map D.nz))=true then some (.list (lj size len (cs.map D.nz)))else none else none
 | .mks size zero,ds=>match ds with
  | [.v (.int _ l), .v (.int _ c)]=>if 0≤l∧l≤c∧c≤aC∧c.toNat*size≤16777216∧zero.length=size∧zero.all D.nV=true then some (.list (List.replicate l.toNat zero))else none
  |_=>none
 | .setl size j n,ds=>match ds with
  | [.list es, .v (.int _ i),v]=>if i<0 then none else(es[i.toNat]?).bind fun c=>if v.cells.length=n∧j+n≤size∧c.length=size∧v.cells.all D.gK=true∧v.cells.all D.nV=true then some (.list (es.set i.toNat (putAt c j v.cells)))else none
  |_=>none
 | .take,ds=>match ds with
  | [.list es, .v (.int _ k)]=>if 0≤k∧k≤es.length then some (.list (es.take k.toNat))else none
  |_=>none
 | .mget ks z ok,ds=>match ds with
  | [.list rows,k]=>(ax rows).bind fun es=>(jv ks z ok es k).bind fun d=>if d.aF then some d else none
  |_=>none
 | .mset ks,ds=>match ds with
  | [.list rows,k,v]=>(ax rows).bind fun es=>(jw ks es k v).map fun es=> .list (ao es)
  |_=>none
 | .rngi n,ds=>match ds with
  | [.v (.int _ i)]=>if 0≤i∧i<n then some (.tup [])else none
  |_=>none
 | .geta n s j m g,ds=>match ds with
  | [.agg xs, .v (.int _ i)]=>if 0≤i∧i<n∧j+m≤s∧n*s≤xs.length then(if g then(if((xs.drop (i.toNat*s+j)).take m).all D.aM then some (.agg ((xs.drop (i.toNat*s+j)).take m))else none)else(xs[i.toNat*s+j]?).bind fun d=>if d.aF then some d else none)else none
  |_=>none
 | .seta n s j m,ds=>match ds with
  | [.agg xs, .v (.int _ i),v]=>if 0≤i∧i<n∧j+m≤s∧n*s≤xs.length∧v.cells.length=m∧v.cells.all D.gK=true∧v.cells.all D.aM=true∧xs.all D.aM=true then some (.agg (putAt xs (i.toNat*s+j) v.cells))else none
  |_=>none
 | .ecall k f sz,ds=>if(ds.set k .nil).all D.aF=true∧f<1000000 then(match ds[k]? with
  |some (.list es)=>(G (1000000+(1000000*k+f)) ds).bind fun r=>match r with
   | .tup [d, .list es']=>if d.aF=true∧es'.length=es.length∧aO sz es'=true then some (.tup [d, .list es'])else none
   |_=>none
  |_=>none)else none
 | .drp,ds=>match ds with
  | [.list es, .v (.int _ k)]=>if 0≤k∧k≤es.length then some (.list (es.drop k.toNat))else none
  |_=>none
 | .clr zero,ds=>match ds with
  | [.list es, .v (.int _ k)]=>if 0≤k∧k≤es.length then some (.list (es.take k.toNat++List.replicate (es.length-k.toNat) zero))else none
  |_=>none
 | .adn,ds=>match ds with
  | [.v (.int _ a), .v (.int q b)]=>if 0≤a∧0≤b then some (.v (.int q (a+b)))else none
  |_=>none
 | .mix ks,ds=>match ds with
  | [.list rows,k]=>(ax rows).bind fun es=>(bu ks k es 0).bind fun r=>r.map fun(i:Nat)=>iv (i:Int)
  |_=>none
 | .fmk,ds=>match ds with
  | [.list rows]=>(ax rows).bind fun es=>if es.all (fun p=>p.1.aF&&p.2.aF)then some (.fm rows)else none
  |_=>none
 | .mapp ks sz,ds=>match ds with
  | [.list rows,k,b]=>(ax rows).bind fun es=>(lW b).bind fun b=>(uA ks sz es k b).map fun es=> .list (ao es)
  |_=>none
 | .own,ds=>match ds with
  | [d]=>some d
  |_=>none
 | .mkl,ds=>some (.list (ds.map fun d=> [d]))
 | .isc f n,ds=>match ds with
  | [.clo g xs]=>if g=f∧xs.length=n then some (.tup [])else none
  |_=>none
 | .capc f i n,ds=>match ds with
  | [.clo g xs]=>if g=f∧xs.length=n then(xs[i]?).bind fun d=>if d.aF then some d else none else none
  |_=>none
inductive X where
 |t (i:Nat)
 |q (d:D)
 |mk (k:XK) (xs:List X)
 |ite (c a b:X)
 deriving Inhabited
mutual
def X.ev(G:FP)(E:List D):X→Option D
 | .t i=>E[i]?
 | .q d=>some d
 | .mk k xs=>(X.ba G E xs).bind (k.run G)
 | .ite c a b=>(X.ev G E c).bind fun v=>v.asBool.bind fun x=>bif x then X.ev G E a else X.ev G E b
def X.ba(G:FP)(E:List D):List X→Option (List D)
 | []=>some []
 |x::r=>(X.ev G E x).bind fun d=>(X.ba G E r).map fun ds=>d::ds
end
theorem dh{G:FP}{E:List D}: ∀{xs:List X} {ds:List D},X.ba G E xs=some ds→ds.length=xs.length
 | [],ds,h=>by simp[X.ba]at h;subst h;rfl
 |x::r,ds,h=>by
  simp only[X.ba,Bz,Mz]at h;obtain⟨d,_,ds',h2,rfl⟩:=h;simp[dh h2]
theorem fy{G:FP}{E:List D}: ∀{xs:List X} {ds:List D},X.ba G E xs=some ds→ ∀(i:Nat) (x:X) (d:D),xs[i]?=some x→ds[i]?=some d→X.ev G E x=some d
 | [],ds,_,i,x,d,hx,_=>by simp at hx
 |x::r,ds,h,i,y,d,hx,hd=>by
  simp only[X.ba,Bz,Mz]at h;obtain⟨d0,h1,ds',h2,rfl⟩:=h;cases i with
  |zero=>simp at hx hd;subst hx;subst hd;exact h1
  |succ i=>exact fy h2 i y d (by simpa using hx) (by simpa using hd)
theorem tV{G:FP}{E:List D}: ∀{xs:List X} {ds:List D},xs.length=ds.length→(∀(i:Nat) (x:X) (d:D),xs[i]?=some x→ds[i]?=some d→X.ev G E x=some d)→X.ba G E xs=some ds
 | [],[],_,_=>rfl
 |x::r,d::ds,hl,h=>by
  simp only[X.ba,h 0 x d rfl rfl,Oz,tV (xs:=r) (ds:=ds) (by simpa using hl) fun i y e hy he=>h (i+1) y e (by simpa using hy) (by simpa using he),Pz]
 | [],_::_,hl,_=>by simp at hl
 |_::_,[],hl,_=>by simp at hl
mutual
def X.lt(k:Nat):X→Bool
 | .t i=>decide (i<k)
 | .q _=>true
 | .mk _ xs=>X.lts k xs
 | .ite c a b=>X.lt k c&&X.lt k a&&X.lt k b
def X.lts(k:Nat):List X→Bool
 | []=>true
 |x::r=>X.lt k x&&X.lts k r
end
mutual
theorem wY{G:FP}{E E':List D}{k:Nat}(h: ∀i,i<k→E[i]?=E'[i]?): ∀(x:X),X.lt k x=true→X.ev G E x=X.ev G E' x
 | .t i,hx=>by simp only[X.lt,decide_eq_true_eq]at hx;exact h i hx
 | .q _,_=>rfl
 | .mk kk xs,hx=>by simp only[X.lt]at hx;simp only[X.ev,H6 h xs hx]
 | .ite c a b,hx=>by
  simp only[X.lt,Az]at hx;simp only[X.ev,wY h c hx.1.1,wY h a hx.1.2,wY h b hx.2]
theorem H6{G:FP}{E E':List D}{k:Nat}(h: ∀i,i<k→E[i]?=E'[i]?): ∀(xs:List X),X.lts k xs=true→X.ba G E xs=X.ba G E' xs
 | [],_=>rfl
 |x::r,hx=>by
  simp only[X.lts,Az]at hx;simp only[X.ba,wY h x hx.1,H6 h r hx.2]
end
mutual
theorem bt{G:FP}{E s:List D}: ∀(x:X) (d:D),X.ev G E x=some d→X.ev G (E++s) x=some d
 | .t i,d,h=>by simp only[X.ev]at h⊢;rw[Yz (Gz.1 h).1];exact h
 | .q _,_,h=>h
 | .mk k xs,d,h=>by
  simp only[X.ev,Bz]at h⊢;obtain⟨ds,h1,h2⟩:=h;exact⟨ds,AU xs ds h1,h2⟩
 | .ite c a b,d,h=>by
  simp only[X.ev,Bz]at h⊢;obtain⟨v,h1,x,h2,h3⟩:=h;refine⟨v,bt c v h1,x,h2, ?_⟩;cases x
  ·exact bt b d h3
  ·exact bt a d h3
theorem AU{G:FP}{E s:List D}: ∀(xs:List X) (ds:List D),X.ba G E xs=some ds→X.ba G (E++s) xs=some ds
 | [],_,h=>h
 |x::r,ds,h=>by
  simp only[X.ba,Bz,Mz]at h⊢;obtain⟨d,h1,ds',h2,rfl⟩:=h;exact⟨d,bt x d h1,ds',AU r ds' h2,rfl⟩
end
def qi:Value→Value→Bool
 | .int k a, .int k' b=>decide (k=k'∧a=b)
 | .bool a, .bool b=>a==b
 | .nilFunc, .nilFunc=>true
 | .nilIface, .nilIface=>true
 | .pointer none, .pointer none=>true
 |_,_=>false
theorem wT{a b:Value}(h:qi a b=true):a=b:=by
 unfold qi at h
 grind
mutual
def il:D→D→Bool
 | .v x, .v y=>qi x y
 | .nil, .nil=>true
 | .nilmap, .nilmap=>true
 | .mt, .mt=>true
 | .tup xs, .tup ys=>gN xs ys
 | .agg xs, .agg ys=>gN xs ys
 | .lptr xs, .lptr ys=>gN xs ys
 | .list xs, .list ys=>qh xs ys
 | .clo f xs, .clo g ys=>f==g&&gN xs ys
 |_,_=>false
def gN:List D→List D→Bool
 | [],[]=>true
 |a::r,b::s=>il a b&&gN r s
 |_,_=>false
def qh:List (List D)→List (List D)→Bool
 | [],[]=>true
 |a::r,b::s=>gN a b&&qh r s
 |_,_=>false
end
mutual
theorem Es: ∀{a b:D},il a b=true→a=b
 | .v x,b,h=>by
  cases b<;>first|(rename_i y;rw[wT (a:=x) (b:=y) (by simpa only[il]using h)];done)|(simp[il]at h;done)
 | .nil,b,h=>by cases b<;>first|rfl|(simp[il]at h;done)
 | .nilmap,b,h=>by cases b<;>first|rfl|(simp[il]at h;done)
 | .mt,b,h=>by cases b<;>first|rfl|(simp[il]at h;done)
 | .tup xs,b,h=>by
  cases b<;>first|(rename_i ys;rw[dG (a:=xs) (b:=ys) (by simpa only[il]using h)];done)|(simp[il]at h;done)
 | .agg xs,b,h=>by
  cases b<;>first|(rename_i ys;rw[dG (a:=xs) (b:=ys) (by simpa only[il]using h)];done)|(simp[il]at h;done)
 | .lptr xs,b,h=>by
  cases b<;>first|(rename_i ys;rw[dG (a:=xs) (b:=ys) (by simpa only[il]using h)];done)|(simp[il]at h;done)
 | .list xs,b,h=>by
  cases b<;>first|(rename_i ys;rw[wR (a:=xs) (b:=ys) (by simpa only[il]using h)];done)|(simp[il]at h;done)
 | .clo f xs,b,h=>by
  cases b<;>try (simp[il]at h;done)
  simp only[il,Az,beq_iff_eq]at h;rw[h.1,dG h.2]
 | .undef,b,h=>by cases b<;>(simp[il]at h;done)
 | .sl ..,b,h=>by cases b<;>(simp[il]at h;done)
 | .ptr ..,b,h=>by cases b<;>(simp[il]at h;done)
 | .rptr ..,b,h=>by cases b<;>(simp[il]at h;done)
 | .mp _,b,h=>by cases b<;>(simp[il]at h;done)
 | .fm _,b,h=>by cases b<;>(simp[il]at h;done)
theorem dG: ∀{a b:List D},gN a b=true→a=b
 | [],[],_=>rfl
 |a::r,b::s,h=>by simp only[gN,Az]at h;rw[Es h.1,dG h.2]
 | [],_::_,h=>by simp[gN]at h
 |_::_,[],h=>by simp[gN]at h
theorem wR: ∀{a b:List (List D)},qh a b=true→a=b
 | [],[],_=>rfl
 |a::r,b::s,h=>by simp only[qh,Az]at h;rw[dG h.1,wR h.2]
 | [],_::_,h=>by simp[qh]at h
 |_::_,[],h=>by simp[qh]at h
end
def Ao:List (Nat×Nat)→List (Nat×Nat)→Bool
 | [],[]=>true
 |(a,c)::r,(b,d)::s=>a==b&&c==d&&Ao r s
 |_,_=>false
theorem tE: ∀{a b:List (Nat×Nat)},Ao a b=true→a=b
 | [],[],_=>rfl
 |(a,c)::r,(b,d)::s,h=>by simp only[Ao,Az,beq_iff_eq]at h;rw[h.1.1,h.1.2,tE h.2]
 | [],_::_,h=>by cases h
 |_::_,[],h=>by cases h
def Hu:PK→PK→Bool
 | .mv, .mv| .inot, .inot| .ineg, .ineg| .llen, .llen| .slen, .slen| .fM, .fM=>true
 | .ibin a, .ibin b=>decide (a=b)
 | .ishift a, .ishift b=>decide (a=b)
 | .beq a, .beq b=>a==b
 | .seq a, .seq b=>a==b
 | .load n g, .load n' g'=>n==n'&&g==g'
 | .fld a, .fld b=>a==b
 | .idx a b, .idx a' b'=>a==a'&&b==b'
 | .aidx a b, .aidx a' b'=>a==a'&&b==b'
 | .ext a, .ext b=>a==b
 | .conv a, .conv b=>decide (a=b)
 | .afld a b c, .afld a' b' c'=>a==a'&&b==b'&&c==c'
 | .mx2 a, .mx2 b=>a==b
 | .aix a b c, .aix a' b' c'=>a==a'&&b==b'&&c==c'
 | .aeq a l, .aeq b l'=>a==b&&l==l'
 | .snil a, .snil b=>a==b
 | .slc a b c d, .slc a' b' c' d'=>a==a'&&b==b'&&c==c'&&d==d'
 | .sla a b c d, .sla a' b' c' d'=>a==a'&&b==b'&&c==c'&&d==d'
 | .sop a, .sop b=>decide (a=b)
 | .clo a, .clo b=>a==b
 | .fbox a, .fbox b=>a==b
 | .mx3 a, .mx3 b=>a==b
 | .build z p, .build z' p'=>gN z z'&&Ao p p'
 | .lkp ks z o, .lkp ks' z' o'=>(ks==ks'&&o==o')&&gN [z] [z']
 |_,_=>false
theorem Hv{a b:PK}(h:Hu a b=true):a=b:=by
 unfold Hu at h;split at h<;>first|rfl|(rw[Az]at h;rw[dG h.1,tE h.2];done)|(simp only[Az,beq_iff_eq]at h;have h2:=dG h.2;simp only[List.cons.injEq,and_true]at h2;rw[h.1.1,h.1.2,h2];done)|(simp at h;simp[h];done)|(cases h;done)
def Hx:XK→XK→Bool
 | .pk a, .pk b=>Hu a b
 | .call a f, .call b g=>a==b&&f==g
 | .ccall a, .ccall b=>a==b
 | .agg, .agg| .tup, .tup| .lptr, .lptr| .qa, .qa| .bq, .bq| .eA, .eA=>true
 | .clo f, .clo g=>f==g
 | .cell a b, .cell a' b'=>a==a'&&b==b'
 | .app a, .app b=>a==b
 | .gv a, .gv b=>a==b
 | .setl a b c, .setl a' b' c'=>a==a'&&b==b'&&c==c'
 | .lit a b z p, .lit a' b' z' p'=>(a==a'&&b==b')&&(gN z z'&&Ao p p')
 | .mks a z, .mks a' z'=>a==a'&&gN z z'
 | .take, .take=>true
 | .mget ks z ok, .mget ks' z' ok'=>(ks==ks'&&ok==ok')&&gN [z] [z']
 | .mset ks, .mset ks'=>ks==ks'
 | .rngi n, .rngi n'=>n==n'
 | .geta a b c d e, .geta a' b' c' d' e'=>a==a'&&b==b'&&c==c'&&d==d'&&e==e'
 | .seta a b c d, .seta a' b' c' d'=>a==a'&&b==b'&&c==c'&&d==d'
 | .ecall a b c, .ecall a' b' c'=>a==a'&&b==b'&&c==c'
 | .mkl, .mkl=>true
 | .isc a b, .isc a' b'=>a==a'&&b==b'
 | .capc a b c, .capc a' b' c'=>a==a'&&b==b'&&c==c'
 | .mapp a b, .mapp a' b'=>a==a'&&b==b'
 | .clr z, .clr z'=>gN z z'
 | .mix ks, .mix ks'=>ks==ks'
 | .fmk, .fmk| .drp, .drp| .adn, .adn| .own, .own=>true
 |_,_=>false
theorem Hy{a b:XK}(h:Hx a b=true):a=b:=by
 unfold Hx at h;split at h<;>first|rfl|(rw[Hv h];done)|(rw[dG h];done)|(simp only[Az,beq_iff_eq]at h;rw[h.1.1,h.1.2,dG h.2.1,tE h.2.2];done)|(simp only[Az,beq_iff_eq]at h;rw[h.1,dG h.2];done)|(simp only[Az,beq_iff_eq]at h;have h2:=dG h.2;simp only[List.cons.injEq,and_true]at h2;rw[h.1.1,h.1.2,h2];done)|(simp at h;simp[h];done)|(cases h;done)
mutual
def dH:X→X→Bool
 | .t i, .t j=>i==j
 | .q d, .q e=>il d e
 | .mk k xs, .mk k' ys=>Hx k k'&&oW xs ys
 | .ite c a b, .ite c' a' b'=>dH c c'&&dH a a'&&dH b b'
 |_,_=>false
def oW:List X→List X→Bool
 | [],[]=>true
 |x::r,y::s=>dH x y&&oW r s
 |_,_=>false
end
mutual
theorem aK: ∀(a b:X),dH a b=true→a=b
 | .t i,b,h=>by cases b<;>simp[dH]at h;rw[h]
 | .q d,b,h=>by cases b<;>simp[dH]at h;rw[Es h]
 | .mk k xs,b,h=>by
  cases b<;>simp[dH]at h;rw[Hy h.1,kz xs _ h.2]
 | .ite c a b,y,h=>by
  cases y<;>simp[dH]at h;rw[aK c _ h.1.1,aK a _ h.1.2,aK b _ h.2]
theorem kz: ∀(a b:List X),oW a b=true→a=b
 | [],b,h=>by cases b<;>simp[oW]at h;rfl
 |x::r,b,h=>by
  cases b<;>simp[oW]at h;rw[aK x _ h.1,kz r _ h.2]
end
def iter{α β:Type}(F:(α→Option β)→α→Option β):Nat→α→Option β
 |0=>fun _=>none
 |n+1=>F (iter F n)
end
section
inductive VE where
 |normal
 |exit (id:Nat)
 |ret
 deriving Inhabited,DecidableEq
def VE.ex:VE→Exit
 | .normal=> .normal
 | .exit id=> .exit id
 | .ret=> .ret
inductive RS where
 |ready
 |busy
 |done (e:VE)
 |over
 deriving Inhabited,DecidableEq
structure bO where
 t:Nat→Tok
 f:Nat→RS→Obj
 c:Tok→Prop
inductive SV where
 |un
 |x (e:X)
 |agg (vs:List SV)
 |tup (vs:List SV)
 |clo (f:Nat) (vs:List SV)
 |ptr (n o:Nat)
 |dp (n o cnt s:Nat) (i:X) (j:Nat)
 |gl (n sz:Nat)
 |gs (n sz:Nat) (k:X)
 |gc (n sz:Nat) (k:X)
 |gt (n sz:Nat) (k:X)
 |ep (n sz:Nat) (i:X) (j:Nat)
 |sb (n o len:Nat)
 |rb (n o:Nat)
 |mp (n:Nat)
 |yl (n:Nat)
 |gd (g:X) (v:SV)
 deriving Inhabited
inductive SO where
 |box (vs:List SV)
 |au (e sz:Nat) (c:X)
 |map (c:X)
 |mpl (e sz:Nat) (c:X)
 |raw (k:RS)
 deriving Inhabited
def SO.Ts:SO→Bool
 | .map _| .mpl .. =>true
 |_=>false
structure Sy where
 s:List (Nat×SV)
 h:List (Nat×SO)
 nv:Nat
 d:Nat
 nx:Nat
 pd:Option VE
def find{α:Type}:List (Nat×α)→Nat→Option α
 | [],_=>none
 |(i,a)::r,n=>bif i==n then some a else find r n
def ru{α:Type}(n:Nat):List (Nat×α)→List (Nat×α)
 | []=> []
 |(i,a)::r=>bif i==n then ru n r else(i,a)::ru n r
theorem iG{α:Type}(n k:Nat): ∀(l:List (Nat×α)),find (ru n l) k=if k=n then none else find l k
 | []=>by simp[find,ru]
 |(i,a)::r=>by
  simp only[ru];by_cases h:i=n
  ·simp only[h,beq_self_eq_true,cond_true,iG n k r,find]
   grind
  ·have h1:(i==n)=false:=by simpa using h
   simp only[h1,cond_false,find,iG n k r]
   grind
def b_{α:Type}(n:Nat)(a:α)(l:List (Nat×α)):List (Nat×α):=(n,a)::ru n l
theorem bC{α:Type}(n k:Nat)(a:α)(l:List (Nat×α)):find (b_ n a l) k=if k=n then some a else find l k:=by
 simp only[b_,find,iG]
 grind
def mapA{α β:Type}(f:α→β):List (Nat×α)→List (Nat×β)
 | []=> []
 |(i,a)::r=>(i,f a)::mapA f r
theorem d_{α β:Type}(f:α→β)(k:Nat): ∀(l:List (Nat×α)),find (mapA f l) k=(find l k).map f
 | []=>rfl
 |(i,a)::r=>by
  simp only[mapA,find,d_ f k r]
  grind
theorem pe {α : Type} : ∀ {l : List (Nat × α)} {n : Nat} {v : α}, find l n = some v → (n, v) ∈ l
  | [], _, _, h => by cases h
  | (i, a) :: r, n, v, h => by
    simp only [find] at h
    cases hi : i == n with
    | true => rw [hi] at h; cases h; have : i = n := by simpa using hi
              grind
    | false => rw [hi] at h; exact Cz _ (pe h)
mutual
def SV.ja(n:Nat):SV→Bool
 | .un| .x _=>false
 | .agg vs| .tup vs=>SV.pA n vs
 | .clo _ vs=>SV.pA n vs
 | .ptr k _| .dp k _ _ _ _ _| .gl k _| .gs k _ _| .gc k _ _| .gt k _ _| .ep k _ _ _| .sb k _ _| .rb k _| .mp k| .yl k=>k==n
 | .gd _ v=>SV.ja n v
def SV.pA(n:Nat):List SV→Bool
 | []=>false
 |v::r=>SV.ja n v||SV.pA n r
end
theorem uC{n:Nat}: ∀{vs:List SV},SV.pA n vs=false→ ∀(i:Nat) (v:SV),vs[i]?=some v→v.ja n=false
 | [],_,i,v,h=>by simp at h
 |a::r,h,i,v,hv=>by
  simp only[SV.pA,Bool.or_eq_false_iff]at h;cases i with
  |zero=>simp at hv;subst hv;exact h.1
  |succ i=>exact uC h.2 i v (by simpa using hv)
section
variable (G : FP) (E : List D) (ι : Nat → Tok) (h : List (Nat × SO))
inductive VR:SV→D→Prop
 |un {d:D}:VR .un d
 |x {e:X} {d:D} (h1:X.ev G E e=some d) (h2:d.aF=true):VR (.x e) d
 |agg {vs:List SV} {ds:List D} (hl:vs.length=ds.length) (hh: ∀(i:Nat) (v:SV) (d:D),vs[i]?=some v→ds[i]?=some d→VR v d):VR (.agg vs) (.agg ds)
 |tup {vs:List SV} {ds:List D} (hl:vs.length=ds.length) (hh: ∀(i:Nat) (v:SV) (d:D),vs[i]?=some v→ds[i]?=some d→VR v d):VR (.tup vs) (.tup ds)
 |clo {f:Nat} {vs:List SV} {ds:List D} (hl:vs.length=ds.length) (hh: ∀(i:Nat) (v:SV) (d:D),vs[i]?=some v→ds[i]?=some d→VR v d):VR (.clo f vs) (.clo f ds)
 |ptr {n o:Nat} {vs:List SV} (hf:find h n=some (.box vs)):VR (.ptr n o) (.ptr (ι n) o)
 |dp {n o cnt s j:Nat} {i:X} {vs:List SV} {k:IntKind} {z:Int} (hf:find h n=some (.box vs)) (hv:X.ev G E i=some (.v (.int k z))) (h0:0≤z) (hz:z<cnt) (hl:o+cnt*s≤vs.length):
   VR (.dp n o cnt s i j) (.ptr (ι n) (o+z.toNat*s+j))
 |gln {n sz e:Nat} {c:X} (hf:find h n=some (.au e sz c)) (hi:ι n= []):VR (.gl n sz) .nil
 |gl {n sz e:Nat} {c:X} {es:List (List D)} (hf:find h n=some (.au e sz c)) (hc:X.ev G E c=some (.list es)) (hi:ι n≠ []):VR (.gl n sz) (.sl (ι n) sz 0 es.length none)
 |gsn {n sz e:Nat} {c k:X} {q:IntKind} (hf:find h n=some (.au e sz c)) (hi:ι n= []) (hk:X.ev G E k=some (.v (.int q 0))):VR (.gs n sz k) (.list [])
 |gs {n sz e:Nat} {c k:X} {es:List (List D)} {q:IntKind} {z:Int} (hf:find h n=some (.au e sz c)) (hc:X.ev G E c=some (.list es)) (hi:ι n≠ []) (hk:X.ev G E k=some (.v (.int q z))) (h0:0≤z) (hz:z≤es.length):
   VR (.gs n sz k) (.sl (ι n) sz 0 z.toNat none)
 |gcn {n sz e:Nat} {c k:X} {q:IntKind} (hf:find h n=some (.au e sz c)) (hi:ι n= []) (hk:X.ev G E k=some (.v (.int q 0))):VR (.gc n sz k) (.list [])
 |gc {n sz e:Nat} {c k:X} {es:List (List D)} {q:IntKind} {z:Int} {m:Nat} (hf:find h n=some (.au e sz c)) (hc:X.ev G E c=some (.list es)) (hi:ι n≠ []) (hk:X.ev G E k=some (.v (.int q z))) (h0:0≤z) (hz:z≤es.length):
   VR (.gc n sz k) (.sl (ι n) sz 0 z.toNat (some m))
 |gtn {n sz e:Nat} {c k:X} {q:IntKind} (hf:find h n=some (.au e sz c)) (hi:ι n= []) (hk:X.ev G E k=some (.v (.int q 0))):VR (.gt n sz k) (.list [])
 |gt {n sz e:Nat} {c k:X} {es:List (List D)} {q:IntKind} {z:Int} (hf:find h n=some (.au e sz c)) (hc:X.ev G E c=some (.list es)) (hi:ι n≠ []) (hk:X.ev G E k=some (.v (.int q z))) (h0:0≤z) (hz:z≤es.length):
   VR (.gt n sz k) (.sl (ι n) sz z.toNat (es.length-z.toNat) none)
 |ep {n sz e j:Nat} {c i:X} {k:IntKind} {z:Int} {es:List (List D)} (hf:find h n=some (.au e sz c)) (hc:X.ev G E c=some (.list es)) (hi:ι n≠ []) (hv:X.ev G E i=some (.v (.int k z))) (h0:0≤z) (hz:z.toNat<es.length):
   VR (.ep n sz i j) (.rptr (ι n) sz z.toNat j)
 |sb {n o len:Nat} {lim:Option Nat} {vs:List SV} (hf:find h n=some (.box vs)) (hl:o+len≤vs.length):VR (.sb n o len) (.sl (ι n) 1 o len lim)
 |rb {n o:Nat} {vs:List SV} (hf:find h n=some (.box vs)) (hl:o<vs.length):VR (.rb n o) (.rptr (ι n) 1 o 0)
 |mp {n:Nat} {o:SO} (hf:find h n=some o) (ho:o.Ts=true):VR (.mp n) (.mp (ι n))
 |yl {n:Nat} {k:RS} (hf:find h n=some (.raw k)):VR (.yl n) (.v (.func (.yield ((ι n).headD 0-1)) #[] #[]))
 |gd {g:X} {b:Bool} {v:SV} {d:D} (hg:X.ev G E g=some (bv b)) (h1:b=true→VR v d) (h2:b=false→d= .tup []):VR (.gd g v) d
end
def bz(G:FP)(E:List D)(ι:Nat→Tok)(h:List (Nat×SO))(vs:List SV)(ds:List D):Prop:=
 vs.length=ds.length∧ ∀(i:Nat) (v:SV) (d:D),vs[i]?=some v→ds[i]?=some d→VR G E ι h v d
structure OE where
 k:D
 u:Tok
 g:Tok
 es:List (List D)
def OE.pr(q:OE):D×D:=(q.k, .list q.es)
def OE.en(sz:Nat)(q:OE):D×D:=(q.k, .sl q.u sz 0 q.es.length none)
abbrev KN(h:List (Nat×SO))(ι γ:Nat→Tok)(J:St)(e sz:Nat)(q:OE):Prop:=
 q.u≠ []∧aO sz q.es=true∧J.m q.u=some (.row q.g e q.es)∧(∀k o,find h k=some o→ι k≠q.u)∧(∀k e sz c,find h k=some (.au e sz c)→ι k≠ []→γ k≠q.g)∧(∀y k r,q.g=(y+1)::k::r→k<J.c y)
abbrev KL(h:List (Nat×SO))(ι γ:Nat→Tok)(J:St)(e sz:Nat)(L:List OE):Prop:=(∀q∈L,KN h ι γ J e sz q)∧(L.map OE.g).Nodup
theorem KN.lE{h h':List (Nat×SO)}{ι ι' γ γ':Nat→Tok}{J J':St}{e sz:Nat}{q:OE}(H:KN h ι γ J e sz q)(hm:J'.m q.u=J.m q.u)(hi: ∀k o,find h' k=some o→ι' k≠q.u)
  (hg: ∀k e sz c,find h' k=some (.au e sz c)→ι' k≠ []→γ' k≠q.g) (hc: ∀y,J.c y≤J'.c y):KN h' ι' γ' J' e sz q:=
 ⟨H.1,H.2.1,hm.trans H.2.2.1,hi,hg,fun y k r h=>Nat.lt_of_lt_of_le (H.2.2.2.2.2 y k r h) (hc y)⟩
abbrev iJ(h:List (Nat×SO))(ι γ:Nat→Tok)(J:St)(q:OE):Prop:= ∃n e sz c L,find h n=some (.mpl e sz c)∧J.m (ι n)=some (.map (L.map (OE.en sz)))∧KL h ι γ J e sz L∧q∈L
structure Mt(Ω:bO)(G:FP)(E:List D)(ι γ:Nat→Tok)(Y:Sy)(J:St):Prop where
 slot: ∀i v,find Y.s i=some v→VR G E ι Y.h v (J.s i)
 box: ∀n vs,find Y.h n=some (.box vs)→ ∃ds,ι n≠ []∧J.m (ι n)=some (.box ds)∧bz G E ι Y.h vs ds
 au: ∀n e sz c,find Y.h n=some (.au e sz c)→ ∃es,X.ev G E c=some (.list es)∧aO sz es=true∧(ι n= []∧es= []∨ι n≠ []∧J.m (ι n)=some (.row (γ n) e es))
 mpo: ∀n c,find Y.h n=some (.map c)→ ∃es,X.ev G E c=some (.list (ao es))∧ι n≠ []∧J.m (ι n)=some (.map es)
 own: ∀n e sz c,find Y.h n=some (.mpl e sz c)→ ∃L:List OE,X.ev G E c=some (.list (ao (L.map OE.pr)))∧ι n≠ []∧J.m (ι n)=some (.map (L.map (OE.en sz)))∧KL Y.h ι γ J e sz L
 one: ∀n n' e e' sz sz' c c',find Y.h n=some (.mpl e sz c)→find Y.h n'=some (.mpl e' sz' c')→n=n'
 rwo: ∀n k,find Y.h n=some (.raw k)→ι n=Ω.t n∧ι n≠ []∧J.m (ι n)=some (.raw (Ω.f n k))∧ ¬Ω.c (ι n)
 inj: ∀n n' o o',find Y.h n=some o→find Y.h n'=some o'→ι n=ι n'→ι n≠ []→n=n'
 gZ: ∀n n' e e' sz sz' c c',find Y.h n=some (.au e sz c)→find Y.h n'=some (.au e' sz' c')→ι n≠ []→ι n'≠ []→γ n=γ n'→n=n'
 wf:WF J
 old: ∀n e sz c,find Y.h n=some (.au e sz c)→ι n≠ []→ ∀y k r,γ n=(y+1)::k::r→k<J.c y
 nv:E.length=Y.nv
 con: ∀t,Ω.c t→J.m t=some (.raw (.deferred (some [])))
def SO.cZ(G:FP)(E E':List D):SO→SO→Prop
 | .box vs, .box vs'=>vs'.length=vs.length
 | .au e sz c, .au e' sz' c'=>e'=e∧sz'=sz∧ ∀es,X.ev G E c=some (.list es)→ ∃es',X.ev G E' c'=some (.list es')∧es'.length=es.length
 | .map _, .map _=>True
 | .mpl .., .mpl .. =>True
 | .mpl .., .map _=>True
 | .raw _, .raw _=>True
 |_,_=>False
def Lk(G:FP)(E E':List D)(h h':List (Nat×SO))(n:Nat):Prop:= ∀o,find h n=some o→ ∃o',find h' n=some o'∧SO.cZ G E E' o o'
theorem Lk.box{G:FP}{E E':List D}{h h':List (Nat×SO)}{n:Nat}(L:Lk G E E' h h' n){vs:List SV}(hf:find h n=some (.box vs)): ∃vs',find h' n=some (.box vs')∧vs'.length=vs.length:=by
 obtain⟨o',h1,h2⟩:=L _ hf;cases o'<;>simp only[SO.cZ]at h2
 grind
theorem Lk.au{G:FP}{E E':List D}{h h':List (Nat×SO)}{n:Nat}(L:Lk G E E' h h' n){e sz:Nat}{c:X}(hf:find h n=some (.au e sz c)):
  ∃c',find h' n=some (.au e sz c')∧ ∀es,X.ev G E c=some (.list es)→ ∃es',X.ev G E' c'=some (.list es')∧es'.length=es.length:=by
 obtain⟨o',h1,h2⟩:=L _ hf;cases o'<;>simp only[SO.cZ]at h2
 grind
theorem Lk.map{G:FP}{E E':List D}{h h':List (Nat×SO)}{n:Nat}(L:Lk G E E' h h' n){o:SO}(hf:find h n=some o)(ho:o.Ts=true): ∃o',find h' n=some o'∧o'.Ts=true:=by
 obtain⟨o',h1,h2⟩:=L _ hf;refine⟨o',h1, ?_⟩;cases o<;>cases o'<;>simp only[SO.cZ]at h2<;>first|rfl|cases ho
theorem Lk.raw{G:FP}{E E':List D}{h h':List (Nat×SO)}{n:Nat}(L:Lk G E E' h h' n){k:RS}(hf:find h n=some (.raw k)): ∃k',find h' n=some (.raw k'):=by
 obtain⟨o',h1,h2⟩:=L _ hf;cases o'<;>simp only[SO.cZ]at h2
 grind
theorem Lk.same{G:FP}{E E':List D}{h h':List (Nat×SO)}{n:Nat}(hE: ∀e d,X.ev G E e=some d→X.ev G E' e=some d)(hf:find h' n=find h n):Lk G E E' h h' n:=fun o ho=>
 ⟨o,hf.trans ho,by cases o<;>simp only[SO.cZ];exact⟨trivial,trivial,fun es he=>⟨es,hE _ _ he,rfl⟩⟩⟩
theorem VR.mono{G:FP}{E E':List D}{ι ι':Nat→Tok}{h h':List (Nat×SO)}(hE: ∀e d,X.ev G E e=some d→X.ev G E' e=some d){v:SV}{d:D}(H:VR G E ι h v d)
  (hm: ∀n,v.ja n=true→ι' n=ι n∧Lk G E E' h h' n):VR G E' ι' h' v d:=by
 have pA: ∀{n:Nat} {vs:List SV} {i:Nat} {v:SV},vs[i]?=some v→v.ja n=true→SV.pA n vs=true:=fun{n vs i v} hv hm=>by
  cases hh:SV.pA n vs with
  |true=>rfl
  |false=>rw[uC hh i v hv]at hm;cases hm
 induction H with
 |un=>exact .un
 |x h1 h2=>exact .x (hE _ _ h1) h2
 |agg hl hh ih=>exact .agg hl fun i v d hv hd=>ih i v d hv hd fun n hn=>hm n (by simpa[SV.ja]using pA hv hn)
 |tup hl hh ih=>exact .tup hl fun i v d hv hd=>ih i v d hv hd fun n hn=>hm n (by simpa[SV.ja]using pA hv hn)
 |clo hl hh ih=>exact .clo hl fun i v d hv hd=>ih i v d hv hd fun n hn=>hm n (by simpa[SV.ja]using pA hv hn)
 | @ptr n o vs hf=>
  obtain⟨h1,L⟩:=hm n (by simp[SV.ja]);obtain⟨vs',h3,_⟩:=L.box hf;rw[←h1];exact .ptr h3
 | @dp n o cnt s j i vs k z hf hv h0 hz hl=>
  obtain⟨h1,L⟩:=hm n (by simp[SV.ja]);obtain⟨vs',h3,h4⟩:=L.box hf;rw[←h1];exact .dp h3 (hE _ _ hv) h0 hz (by rw[h4];exact hl)
 | @gln n sz e c hf hi=>
  obtain⟨h1,L⟩:=hm n (by simp[SV.ja]);obtain⟨c',h3,_⟩:=L.au hf;exact .gln h3 (h1.trans hi)
 | @gl n sz e c es hf hc hi=>
  obtain⟨h1,L⟩:=hm n (by simp[SV.ja]);obtain⟨c',h3,h4⟩:=L.au hf;obtain⟨es',h5,h6⟩:=h4 _ hc;rw[←h1,←h6];exact .gl h3 h5 (by rw[h1];exact hi)
 | @gsn n sz e c k q hf hi hk=>
  obtain⟨h1,L⟩:=hm n (by simp[SV.ja]);obtain⟨c',h3,_⟩:=L.au hf;exact .gsn h3 (h1.trans hi) (hE _ _ hk)
 | @gs n sz e c k es q z hf hc hi hk h0 hz=>
  obtain⟨h1,L⟩:=hm n (by simp[SV.ja]);obtain⟨c',h3,h4⟩:=L.au hf;obtain⟨es',h5,h6⟩:=h4 _ hc;rw[←h1];exact .gs h3 h5 (by rw[h1];exact hi) (hE _ _ hk) h0 (by rw[h6];exact hz)
 | @gcn n sz e c k q hf hi hk=>
  obtain⟨h1,L⟩:=hm n (by simp[SV.ja]);obtain⟨c',h3,_⟩:=L.au hf;exact .gcn h3 (h1.trans hi) (hE _ _ hk)
 | @gc n sz e c k es q z m hf hc hi hk h0 hz=>
  obtain⟨h1,L⟩:=hm n (by simp[SV.ja]);obtain⟨c',h3,h4⟩:=L.au hf;obtain⟨es',h5,h6⟩:=h4 _ hc;rw[←h1];exact .gc h3 h5 (by rw[h1];exact hi) (hE _ _ hk) h0 (by rw[h6];exact hz)
 | @gtn n sz e c k q hf hi hk=>
  obtain⟨h1,L⟩:=hm n (by simp[SV.ja]);obtain⟨c',h3,_⟩:=L.au hf;exact .gtn h3 (h1.trans hi) (hE _ _ hk)
 | @gt n sz e c k es q z hf hc hi hk h0 hz=>
  obtain⟨h1,L⟩:=hm n (by simp[SV.ja]);obtain⟨c',h3,h4⟩:=L.au hf;obtain⟨es',h5,h6⟩:=h4 _ hc;rw[←h1,←h6];exact .gt h3 h5 (by rw[h1];exact hi) (hE _ _ hk) h0 (by rw[h6];exact hz)
 | @ep n sz e j c i k z es hf hc hi hv h0 hz=>
  obtain⟨h1,L⟩:=hm n (by simp[SV.ja]);obtain⟨c',h3,h4⟩:=L.au hf;obtain⟨es',h5,h6⟩:=h4 _ hc;rw[←h1];exact .ep h3 h5 (by rw[h1];exact hi) (hE _ _ hv) h0 (by rw[h6];exact hz)
 | @sb n o len lim vs hf hl=>
  obtain⟨h1,L⟩:=hm n (by simp[SV.ja]);obtain⟨vs',h3,h4⟩:=L.box hf;rw[←h1];exact .sb h3 (by rw[h4];exact hl)
 | @rb n o vs hf hl=>
  obtain⟨h1,L⟩:=hm n (by simp[SV.ja]);obtain⟨vs',h3,h4⟩:=L.box hf;rw[←h1];exact .rb h3 (by rw[h4];exact hl)
 | @mp n o hf ho=>
  obtain⟨h1,L⟩:=hm n (by simp[SV.ja]);obtain⟨o',h3,h4⟩:=L.map hf ho;rw[←h1];exact .mp h3 h4
 | @yl n k hf=>
  obtain⟨h1,L⟩:=hm n (by simp[SV.ja]);obtain⟨k',h3⟩:=L.raw hf;rw[←h1];exact .yl h3
 |gd hg h1 h2 ih=>exact .gd (hE _ _ hg) (fun e=>ih e fun n hn=>hm n (by simpa[SV.ja]using hn)) h2
theorem VR.more{G:FP}{E s:List D}{ι:Nat→Tok}{h:List (Nat×SO)}{v:SV}{d:D}(H:VR G E ι h v d):VR G (E++s) ι h v d:=
 H.mono (fun _ _ h=>bt _ _ h) fun n _=>⟨rfl,Lk.same (fun _ _ h=>bt _ _ h) rfl⟩
theorem Mt.more{Ω:bO}{G:FP}{E s:List D}{ι γ:Nat→Tok}{Y:Sy}{J:St}(M:Mt Ω G E ι γ Y J):Mt Ω G (E++s) ι γ {Y with nv:=Y.nv+s.length} J:=
 ⟨fun i v hv=>(M.slot i v hv).more,fun n vs hn=>let⟨ds,h0,h1,h2,h3⟩:=M.box n vs hn;⟨ds,h0,h1,h2,fun i v d hv hd=>(h3 i v d hv hd).more⟩,
  fun n e sz c hn=>let⟨es,h1,h2⟩:=M.au n e sz c hn;⟨es,bt _ _ h1,h2⟩,fun n c hn=>let⟨es,h1,h2⟩:=M.mpo n c hn;⟨es,bt _ _ h1,h2⟩,fun n e sz c hn=>let⟨L,h1,h2⟩:=M.own n e sz c hn;⟨L,bt _ _ h1,h2⟩,M.one,M.rwo,M.inj,M.gZ,M.wf,M.old,by simp[M.nv],M.con⟩
def Sy.set(Y:Sy)(i:Nat)(v:SV):Sy:={Y with s:=b_ i v Y.s}
theorem WF.set{J:St}(W:WF J)(i:Nat)(d:D):WF (J.set i d):=W
theorem Mt.set{Ω:bO}{G:FP}{E:List D}{ι γ:Nat→Tok}{Y:Sy}{J:St}(M:Mt Ω G E ι γ Y J){i:Nat}{v:SV}{d:D}(hv:VR G E ι Y.h v d):Mt Ω G E ι γ (Y.set i v) (J.set i d):=
 ⟨fun j u hu=>by
  simp only[Sy.set,bC]at hu;by_cases hj:j=i
  ·rw[if_pos hj]at hu;cases hu;subst hj;rw[St.vj];exact hv
  ·rw[if_neg hj]at hu;rw[St.cN _ _ hj];exact M.slot j u hu,M.box,M.au,M.mpo,M.own,M.one,M.rwo,M.inj,M.gZ,M.wf,M.old,M.nv,M.con⟩
def rP(n:Nat)(v:SV):SV:=bif v.ja n then .un else v
def ib(n:Nat):SO→SO
 | .box vs=> .box (vs.map (rP n))
 |o=>o
def Sy.kill(Y:Sy)(n:Nat):Sy:={Y with s:=mapA (rP n) Y.s,h:=mapA (ib n) (ru n Y.h)}
def Sy.free(Y:Sy)(n:Nat):Prop:=
 find Y.h n=none∧(∀i v,find Y.s i=some v→v.ja n=false)∧ ∀k vs,find Y.h k=some (.box vs)→ ∀v∈vs,v.ja n=false
theorem nc(Y:Sy)(n k:Nat):find (Y.kill n).h k=if k=n then none else(find Y.h k).map (ib n):=by
 simp only[Sy.kill,d_,iG]
 grind
theorem bI{Y:Sy}{n k:Nat}{o:SO}(h:find (Y.kill n).h k=some o):k≠n∧ ∃o0,find Y.h k=some o0∧o=ib n o0:=by
 rw[nc]at h;split at h
 ·cases h
 ·rename_i hk;obtain⟨o0,ho,h⟩:=Mz.1 h
  grind
theorem Gu{G:FP}{E:List D}(n:Nat)(o:SO):SO.cZ G E E o (ib n o):=by
 cases o with
 |box vs=>simp[ib,SO.cZ]
 |au e sz c=>exact⟨rfl,rfl,fun es he=>⟨es,he,rfl⟩⟩
 |map c=>trivial
 |mpl=>trivial
 |raw=>trivial
theorem VR.Jb{G:FP}{E:List D}{ι:Nat→Tok}{Y:Sy}(n:Nat){v:SV}{d:D}(H:VR G E ι Y.h v d):VR G E ι (Y.kill n).h (rP n v) d:=by
 unfold rP;cases hm:v.ja n with
 |true=>exact .un
 |false=>
  refine H.mono (fun _ _ h=>h) fun k hk=>⟨rfl,fun o ho=>⟨ib n o, ?_,Gu n o⟩⟩;rw[nc,if_neg (fun e=>by rw[e,hm]at hk;cases hk),ho];rfl
theorem Mt.kill{Ω:bO}{G:FP}{E:List D}{ι γ:Nat→Tok}{Y:Sy}{J:St}(M:Mt Ω G E ι γ Y J)(n:Nat):Mt Ω G E ι γ (Y.kill n) J∧(Y.kill n).free n:=by
 have hl: ∀k e sz c,find (Y.kill n).h k=some (.au e sz c)→find Y.h k=some (.au e sz c):=fun k e sz c h=>by
  obtain⟨_,o,ho,h⟩:=bI h;cases o<;>simp only[ib,reduceCtorEq]at h;rw[ho,h]
 have hp: ∀k e sz c,find (Y.kill n).h k=some (.mpl e sz c)→find Y.h k=some (.mpl e sz c):=fun k e sz c h=>by
  obtain⟨_,o,ho,h⟩:=bI h;cases o<;>simp only[ib,reduceCtorEq]at h;rw[ho,h]
 refine⟨⟨fun i v hv=> ?_,fun k vs hk=> ?_,fun k e sz c hk=>M.au k e sz c (hl k e sz c hk),fun k c hk=> ?_,fun k e sz c hk=> ?_,fun a b e e' sz sz' c c' h1 h2=>M.one a b e e' sz sz' c c' (hp _ _ _ _ h1) (hp _ _ _ _ h2),fun k q hk=> ?_,fun a b o o' h1 h2=> ?_,fun a b e e' sz sz' c c' h1 h2=>M.gZ a b e e' sz sz' c c' (hl _ _ _ _ h1) (hl _ _ _ _ h2),M.wf,fun k e sz c hk=>M.old k e sz c (hl k e sz c hk),M.nv,M.con⟩, ?_,fun i v hv=> ?_,fun k vs hk v hv=> ?_⟩
 ·simp only[Sy.kill,d_]at hv;obtain⟨u,hu,rfl⟩:=Mz.1 hv;exact(M.slot i u hu).Jb n
 ·obtain⟨_,o,ho,h⟩:=bI hk;cases o<;>simp only[ib,reduceCtorEq,SO.box.injEq]at h;rename_i us;subst h;obtain⟨ds,h0,h1,h2,h3⟩:=M.box k us ho;refine⟨ds,h0,h1,by simpa using h2,fun i v d hv hd=> ?_⟩;rw[Dz,Mz]at hv;obtain⟨u,hu,rfl⟩:=hv;exact(h3 i u d hu hd).Jb n
 ·obtain⟨_,o,ho,h⟩:=bI hk;cases o<;>simp only[ib,reduceCtorEq]at h;cases h;exact M.mpo k c ho
 ·obtain⟨L,h1,h2,h3,h4⟩:=M.own k e sz c (hp _ _ _ _ hk);exact⟨L,h1,h2,h3,fun q hq=>(h4.1 q hq).lE rfl (fun j o hj=>let⟨_,o0,h0,_⟩:=bI hj;(h4.1 q hq).2.2.2.1 j o0 h0) (fun j e sz c hj=>(h4.1 q hq).2.2.2.2.1 j e sz c (hl _ _ _ _ hj)) fun _=>Nat.le_refl _,h4.2⟩
 ·obtain⟨_,o,ho,h⟩:=bI hk;cases o<;>simp only[ib,reduceCtorEq,SO.raw.injEq]at h;subst h;exact M.rwo k _ ho
 ·obtain⟨_,o1,g1,_⟩:=bI h1;obtain⟨_,o2,g2,_⟩:=bI h2;exact M.inj a b o1 o2 g1 g2
 ·rw[nc,if_pos rfl]
 ·simp only[Sy.kill,d_]at hv;obtain⟨u,hu,rfl⟩:=Mz.1 hv;cases hm:u.ja n<;>simp[rP,hm,SV.ja]
 ·obtain⟨_,o,ho,h⟩:=bI hk;cases o<;>simp only[ib,reduceCtorEq,SO.box.injEq]at h;subst h;obtain⟨u,_,rfl⟩:=List.mem_map.1 hv;cases hm:u.ja n<;>simp[rP,hm,SV.ja]
end
section
def px(e:X)(n:Nat):Nat→List SV→Bool
 |i,[]=>i==n
 |i, .x (.mk (.cell j m) [e'])::r=>j==i&&m==n&&dH e e'&&px e n (i+1) r
 |_,_::_=>false
def eta(vs:List SV):Option X:=
 match vs with
 | .x (.mk (.cell _ n) [e])::_=>if 2≤n∧px e n 0 vs=true then some e else none
 |_=>none
mutual
def SV.nM:SV→Option X
 | .x e=>some e
 | .agg vs=>(eta vs).or ((SV.oq vs).map (.mk .agg))
 | .clo f vs=>(SV.oq vs).map (.mk (.clo f))
 |_=>none
def SV.oq:List SV→Option (List X)
 | []=>some []
 |v::r=>(SV.nM v).bind fun x=>(SV.oq r).map fun xs=>x::xs
end
def cR(h:List (Nat×SO)):Nat→SV→Option X
 |0,_=>none
 |k+1,v=>match v with
  | .x e=>if k=0 then none else some (.mk .eA [e])
  | .gl n _=>if k<2 then none else match find h n with
   |some (.au _ _ c)=>some c
   |_=>none
  | .gs n _ q=>if k<2 then none else match find h n with
   |some (.au _ _ c)=>some (.mk .take [c,q])
   |_=>none
  | .gc n _ q=>if k<2 then none else match find h n with
   |some (.au _ _ c)=>some (.mk .take [c,q])
   |_=>none
  | .sb n o len=>if k=0 then none else match find h n with
   |some (.box vs)=>if o+len≤vs.length then(((vs.drop o).take len).mapM (cR h k)).map (.mk .mkl)else none
   |_=>none
  | .ptr n o=>if k=0 then none else match find h n with
   |some (.box vs)=>if o≤vs.length then((vs.drop o).mapM (cR h k)).map (.mk .lptr)else none
   |_=>none
  | .clo f vs=>if k=0 then none else(vs.mapM (cR h k)).map (.mk (.clo f))
  | .mp n=>if k=0 then none else match find h n with
   |some (.map c)=>some (.mk .fmk [c])
   |_=>none
  |_=>none
def bM(h:List (Nat×SO))(v:SV):Option X:=
 match v with
 | .x e=>some (.mk .bq [e])
 | .agg vs=>match eta vs with
  |some e=>some (.mk .bq [e])
  |none=>(vs.mapM (cR h 6)).map (.mk .agg)
 |v=>cR h 6 v
def SV.isX:SV→Bool
 | .x _=>true
 |_=>false
def SV.Tw:SV→Bool
 | .un| .gd .. =>true
 |_=>false
def SV.pl:SV→Bool
 | .x _=>true
 | .agg vs=>vs.all SV.isX
 | .clo _ vs=>vs.all SV.isX
 |_=>false
def cont(h:List (Nat×SO))(n:Nat):Option X:=
 match find h n with
 |some (.au _ _ c)=>some c
 |_=>none
def tc:PK→Bool
 | .call _| .ccall| .mv| .pick| .clo _| .ent=>false
 |_=>true
def zB(h:List (Nat×SO))(f:Nat)(vs:List SV):Option (SV×List X):=
 (vs.mapM (bM h)).map fun es=>(.x (.mk (.call (!vs.all SV.pl) f) es),[.mk (.call (!vs.all SV.pl) f) es])
def Z6:List X→Option (List D)
 | []=>some []
 | .q d::r=>(Z6 r).map (d:: ·)
 |_=>none
def SM:PK→Bool
 | .ibin _| .inot| .beq _| .conv _| .llen=>true
 |_=>false
def rG(k:PK)(xs:List X):X:=
 if SM k then match(Z6 xs).bind (k.run (br Yq) dO)with
  |some d=>if d.aF then .q d else .mk (.pk k) xs
  |none=> .mk (.pk k) xs
 else .mk (.pk k) xs
theorem JF{G:FP}{E:List D}: ∀{xs:List X} {ds:List D},Z6 xs=some ds→X.ba G E xs=some ds
 | [],ds,h=>by simp[Z6]at h;subst h;rfl
 |x::r,ds,h=>by
  cases x<;>simp only[Z6]at h<;>try (cases h;done)
  obtain⟨ds',h1,rfl⟩:=Mz.1 h;simp only[X.ba,X.ev,Oz,JF h1,Pz]
theorem Ii{G:FP}{E:List D}{k:PK}{xs:List X}:X.ev G E (rG k xs)=X.ev G E (.mk (.pk k) xs):=by
 unfold rG;split
 ·split
  ·rename_i d hd;split
   ·rename_i hn;obtain⟨ds,h1,h2⟩:=Bz.1 hd;simp only[X.ev,JF h1,Oz,XK.run,h2,if_pos hn]
   ·rfl
  ·rfl
 ·rfl
def isQ:X→Bool
 | .q _=>true
 |_=>false
def bX(k:PK)(vs:List SV):Option (SV×List X):=
 if tc k then(SV.oq vs).map fun xs=>(.x (rG k xs),if isQ (rG k xs)then []else [rG k xs])else none
def unG(w:Bool)(c:X):X→X
 | .ite (.mk (.gv w') [c']) e u=>if w'=w∧dH c' c=true then e else .ite (.mk (.gv w') [c']) e u
 |a=>a
def Fj(c a b:X):X:=match c with
 | .q (.v (.bool true))=>a
 | .q (.v (.bool false))=>b
 |c=> .ite c (unG true c a) (unG false c b)
theorem Ki{G:FP}{E:List D}{w:Bool}{c a:X}{vc d:D}(hc:X.ev G E c=some vc)(hw:vc.asBool=some w)(h:X.ev G E (unG w c a)=some d):X.ev G E a=some d:=by
 unfold unG at h;split at h
 ·split at h
  ·rename_i w' c' e u hh;obtain⟨rfl,hb⟩:=hh;obtain rfl:=aK _ _ hb
   have hv:vc= .v (.bool w'):=by
    cases vc<;>simp only[D.asBool]at hw<;>try (cases hw;done)
    grind
   subst hv;simp only[X.ev,X.ba,hc,Oz,Pz,XK.run,beq_self_eq_true];exact h
  ·exact h
 ·exact h
theorem JC{G:FP}{E:List D}{c a b:X}{d:D}(h:X.ev G E (Fj c a b)=some d):X.ev G E (.ite c a b)=some d:=by
 unfold Fj at h;split at h
 ·simpa[X.ev,D.asBool]using h
 ·simpa[X.ev,D.asBool]using h
 simp only[X.ev,Bz]at h⊢;obtain⟨vc,h1,w,h2,h3⟩:=h;refine⟨vc,h1,w,h2, ?_⟩;cases w
 ·exact Ki h1 h2 h3
 ·exact Ki h1 h2 h3
def J7(h:List (Nat×SO))(vs:List SV):Option (SV×List X):=
 match vs with
 | [v]=>some (v,[])
 |vs=>bX (.mv) vs
def DU(h:List (Nat×SO))(q:Nat)(vs:List SV):Option (SV×List X):=
 match vs with
 | [.tup vs]=>(vs[q]?).map fun v=>(v,[])
 |vs=>bX (.ext q) vs
def DS(h:List (Nat×SO))(vs:List SV):Option (SV×List X):=
 match vs with
 | [.ptr n o]=>some (.ptr n o,[])
 | [.dp n o c s i j]=>some (.dp n o c s i j,[])
 | [.ep n s i j]=>some (.ep n s i j,[])
 | [.clo f us]=>some (.clo f us,[])
 |vs=>bX (.fM) vs
def DV(h:List (Nat×SO))(q:Nat)(vs:List SV):Option (SV×List X):=
 match vs with
 | [.ptr n o]=>some (.ptr n (o+q),[])
 | [.dp n o c s i j]=>some (.dp n o c s i (j+q),[])
 | [.ep n s i j]=>some (.ep n s i (j+q),[])
 |vs=>bX (.fld q) vs
def zK(h:List (Nat×SO))(m:Nat)(g:Bool)(vs:List SV):Option (SV×List X):=
 match m,g,vs with
 |m,g,[.ptr n o]=>match find h n with
  |some (.box us)=>if o+m≤us.length then(if g then some (.agg ((us.drop o).take m),[])else(us[o]?).map fun v=>(v,[]))else none
  |_=>none
 |1,false,[.rb n o]=>match find h n with
  |some (.box us)=>(us[o]?).map fun v=>(v,[])
  |_=>none
 |m,g,[.dp n o c s i j]=>match find h n with
  |some (.box us)=>if j+m≤s then(SV.oq ((us.drop o).take (c*s))).map fun xs=>(.x (.mk (.geta c s j m g) [.mk .agg xs,i]),[.mk (.geta c s j m g) [.mk .agg xs,i]])else none
  |_=>none
 |m,g,[.ep n s i j]=>if s<j+m then none else(cont h n).map fun c=>(.x (.mk (.pk (.load m g)) [.mk (.pk (.fld j)) [.mk (.pk (.idx 0 s)) [c,i]]]),[.mk (.pk (.load m g)) [.mk (.pk (.fld j)) [.mk (.pk (.idx 0 s)) [c,i]]]])
 |_,_,vs=>bX (.load m g) vs
def DW(h:List (Nat×SO))(e s:Nat)(vs:List SV):Option (SV×List X):=
 match s,vs with
 |s,[.gl n s', .x i]=>if s=s' then(cont h n).map fun c=>(.ep n s i 0,[.mk (.pk (.idx 0 s)) [c,i]])else none
 |s,[.gs n s' k, .x i]=>if s=s' then(cont h n).map fun c=>(.ep n s i 0,[.mk (.pk (.idx 0 s)) [.mk .take [c,k],i]])else none
 |s,[.gt n s' k, .x i]=>if s=s' then(cont h n).map fun c=>(.ep n s (.mk .adn [k,i]) 0,[.mk (.pk (.idx 0 s)) [.mk .drp [c,k],i]])else none
 |1,[.sb n o len, .x (.q (.v (.int _ z)))]=>if 0≤z∧z<len then some (.rb n (o+z.toNat),[])else none
 |_,vs=>bX (.idx e s) vs
def zt(h:List (Nat×SO))(cnt s:Nat)(vs:List SV):Option (SV×List X):=
 match vs with
 | [.ptr n o, .x (.q (.v (.int _ z)))]=>if 0≤z∧z<cnt then some (.ptr n (o+z.toNat*s),[])else none
 | [.ptr n o, .x i]=>match find h n with
  |some (.box us)=>if o+cnt*s≤us.length then some (.dp n o cnt s i 0,[.mk (.rngi cnt) [i]])else none
  |_=>none
 | [.ep n sz i j, .x (.q (.v (.int _ z)))]=>if 0≤z∧z<cnt then some (.ep n sz i (j+z.toNat*s),[])else none
 |vs=>bX (.aidx cnt s) vs
def zJ(h:List (Nat×SO))(vs:List SV):Option (SV×List X):=
 match vs with
 | [.gl n _]=>(cont h n).map fun c=>(.x (.mk (.pk .llen) [c]),[.mk (.pk .llen) [c]])
 | [.gs n _ k]=>(cont h n).map fun c=>(.x (.mk (.pk .llen) [.mk .take [c,k]]),[.mk (.pk .llen) [.mk .take [c,k]]])
 | [.gt n _ k]=>(cont h n).map fun c=>(.x (.mk (.pk .llen) [.mk .drp [c,k]]),[.mk (.pk .llen) [.mk .drp [c,k]]])
 | [.sb _ _ len]=>some (.x (.q (iv len)),[])
 |vs=>bX (.llen) vs
def DZ(h:List (Nat×SO))(s:Nat)(lo hi mx:Bool)(vs:List SV):Option (SV×List X):=
 match s,lo,hi,mx,vs with
 |s,false,true,false,[.gl n s', .x k]=>if s=s' then(cont h n).map fun c=>(.gs n s k,[.mk .take [c,k]])else none
 |s,false,true,false,[.gs n s' _, .x k]=>if s=s' then(cont h n).map fun c=>(.gs n s k,[.mk .take [c,k]])else none
 |s,false,true,true,[.gl n s', .x k, .x m]=>if s=s' then(cont h n).map fun c=>(.gc n s k,[.mk .take [.mk .take [c,m],k], .mk .take [c,m], .mk .take [c,k]])else none
 |s,false,true,true,[.gs n s' k0, .x k, .x m]=>if s=s' then(cont h n).map fun c=>(.gc n s k,[.mk .take [.mk .take [c,m],k], .mk .take [.mk .take [c,k0],m], .mk .take [c,k0], .mk .take [c,m], .mk .take [c,k]])else none
 |s,true,false,false,[.gl n s', .x k]=>if s=s' then(cont h n).map fun c=>(.gt n s k,[.mk .drp [c,k]])else none
 |_,_,_,_,vs=>bX (.slc s lo hi mx) vs
def DY(h:List (Nat×SO))(cnt s:Nat)(lo hi:Bool)(vs:List SV):Option (SV×List X):=
 match cnt,s,lo,hi,vs with
 |cnt,1,false,false,[.ptr n o]=>match find h n with
  |some (.box us)=>if o+cnt≤us.length then some (.sb n o cnt,[])else none
  |_=>none
 |cnt,1,true,false,[.ptr n o, .x (.q (.v (.int _ z)))]=>match find h n with
  |some (.box us)=>if o+cnt≤us.length∧0≤z∧z≤cnt then some (.sb n (o+z.toNat) (cnt-z.toNat),[])else none
  |_=>none
 |_,_,_,_,vs=>bX (.sla cnt s lo hi) vs
def Ih(ks:List Nat)(z:D)(c k:X):X:=
 match c with
 | .mk (.mset ks1) [c0,k1, .mk (.mget ks2 z2 false) [c1,k2]]=>if(((ks1==ks)&&(ks2==ks))&&(gN [z2] [z]&&(dH k1 k&&(dH k2 k&&dH c0 c1))))=true then .mk (.mget ks z false) [c0,k]else .mk (.mget ks z false) [c,k]
 |c=> .mk (.mget ks z false) [c,k]
def T1(ks:List Nat)(z:D)(ok:Bool)(c k:X):X:=if ok then .mk (.mget ks z true) [c,k]else Ih ks z c k
def DX(h:List (Nat×SO))(ks:List Nat)(z:D)(ok:Bool)(vs:List SV):Option (SV×List X):=
 match vs with
 | [.mp n,k]=>match find h n with
  |some (.map c)=>k.nM.map fun k=>(.x (T1 ks z ok c k),[T1 ks z ok c k])
  |_=>none
 |vs=>bX (.lkp ks z ok) vs
def zr(h:List (Nat×SO))(off n:Nat)(g:Bool)(vs:List SV):Option (SV×List X):=
 match vs with
 | [.agg us]=>if off+n≤us.length then(if g then some (.agg ((us.drop off).take n),[])else(us[off]?).map fun v=>(v,[]))else none
 |vs=>bX (.afld off n g) vs
def DT(_:List (Nat×SO))(f:Nat)(vs:List SV):Option (SV×List X):=
 if vs.all (fun v=> !v.Tw)then some (.clo f vs,[])else none
def zL(h:List (Nat×SO))(vs:List SV):Option (SV×List X):=
 match vs with
 | [c,a,b]=>c.nM.bind fun c=>a.nM.bind fun a=>b.nM.map fun b=>(.x (Fj c a b),[Fj c a b])
 |vs=>bX (.pick) vs
def vp(h:List (Nat×SO))(vs:List SV):Option (SV×List X):=
 match vs with
 | .clo f eM::vs=>if f<1000000 then zB h f (vs++eM)else none
 | .x e::vs=>(vs.mapM (bM h)).map fun es=>(.x (.mk (.ccall (!vs.all SV.pl)) (e::es)),[.mk (.ccall (!vs.all SV.pl)) (e::es)])
 |vs=>bX (.ccall) vs
def Cc(d:D):SV:=if d.aF then .x (.q d)else .un
def Jx:SV→Option (List X)
 | .x (.q d)=>if d.gK then some []else none
 | .x (.mk (.cell _ _) _)=>some []
 | .x e=>some [.mk .qa [e]]
 | .ptr .. | .gl .. | .ep .. | .clo .. | .dp .. | .gs .. | .gc .. | .sb .. | .rb .. | .mp .. =>some []
 |_=>none
def yW:List SV→Option (List X)
 | []=>some []
 |v::r=>(Jx v).bind fun a=>(yW r).map fun b=>a++b
def mh(n:Nat)(g:Bool):SV→Option (List SV×List X)
 | .agg vs=>if vs.length=n then(yW vs).map fun O=>(vs,O)else none
 | .x e=>if g then(if 0<n then some ((List.range n).map fun j=> .x (.mk (.cell j n) [e]),[.mk (.cell 0 n) [e]])else none)else if n=1 then some ([.x e],[.mk .qa [e]])else none
 | .ptr m o=>if n=1 then some ([.ptr m o],[])else none
 | .gl m s=>if n=1 then some ([.gl m s],[])else none
 | .ep m s i j=>if n=1 then some ([.ep m s i j],[])else none
 | .clo f vs=>if n=1 then some ([.clo f vs],[])else none
 | .dp m o c s i j=>if n=1 then some ([.dp m o c s i j],[])else none
 | .gs m s k=>if n=1 then some ([.gs m s k],[])else none
 | .mp m=>if n=1 then some ([.mp m],[])else none
 |_=>none
def LM:X→Bool
 | .q d=>d.gK
 | .mk (.cell _ _) _=>true
 | .mk (.pk k) _=>match k with
  | .ibin .. | .ishift .. | .beq .. | .seq .. | .sop .. | .inot| .ineg| .llen| .slen| .conv _| .aeq .. | .snil _=>true
  |_=>false
 |_=>false
def gOf:SV→Bool
 | .x e=> !LM e
 |_=>false
def AV:List SV→List (Nat×Nat)→List SV→Option (List SV×List X)
 |cells,[],[]=>some (cells,[])
 |cells,(off,n)::ps,v::vs=>(mh n (gOf v) v).bind fun q=>if off+n≤cells.length then(AV (cells.take off++q.1++cells.drop (off+n)) ps vs).map fun r=>(r.1,q.2++r.2)else none
 |_,_,_=>none
def vn(h:List (Nat×SO))(zero:List D)(places:List (Nat×Nat))(vs:List SV):Option (SV×List X):=
 match AV (zero.map Cc) places vs with
 |some q=>some (.agg q.1,q.2)
 |none=>bX (.build zero places) vs
def DR(h:List (Nat×SO))(n size:Nat)(g:Bool)(vs:List SV):Option (SV×List X):=
 match vs with
 | [.agg us, .x (.q (.v (.int k i)))]=>if 0≤i∧i<n∧i.toNat*size+size≤us.length then(if g then some (.agg ((us.drop (i.toNat*size)).take size),[])else(us[i.toNat*size]?).map fun v=>(v,[]))else none
 |vs=>bX (.aix n size g) vs
def vu(h:List (Nat×SO))(k:PK)(vs:List SV):Option (SV×List X):=
 match k with
 | .mv=>J7 h vs
 | .ext q=>DU h q vs
 | .fM=>DS h vs
 | .fld q=>DV h q vs
 | .load m g=>zK h m g vs
 | .idx e s=>DW h e s vs
 | .aidx cnt s=>zt h cnt s vs
 | .llen=>zJ h vs
 | .slc s lo hi mx=>DZ h s lo hi mx vs
 | .sla cnt s lo hi=>DY h cnt s lo hi vs
 | .lkp ks z ok=>DX h ks z ok vs
 | .afld off n g=>zr h off n g vs
 | .clo f=>DT h f vs
 | .pick=>zL h vs
 | .call f=>zB h f vs
 | .ccall=>vp h vs
 | .build z p=>vn h z p vs
 | .aix n s g=>DR h n s g vs
 |k=>bX k vs
section
variable {Ω : bO} {G : FP} {E : List D} {ι γ : Nat → Tok} {Y : Sy} {J : St}
theorem rO{e:X}{n:Nat}: ∀{i:Nat} {vs:List SV},px e n i vs=true→i+vs.length=n∧ ∀j,j<vs.length→vs[j]?=some (.x (.mk (.cell (i+j) n) [e]))
 |i,[],h=>by simp[px]at h;exact⟨by simpa using h,fun j hj=>by simp at hj⟩
 |i,v::r,h=>by
  unfold px at h;split at h
  ·grind
  ·rename_i j m e' r' hh;cases hh;simp only[Az,beq_iff_eq]at h;obtain⟨⟨⟨rfl,rfl⟩,he⟩,hr⟩:=h;obtain rfl:=aK _ _ he;obtain⟨h1,h2⟩:=rO hr
   grind
  ·cases h
theorem m_{vs:List SV}{ds:List D}{e:X}(he:eta vs=some e)(hv:bz G E ι Y.h vs ds):X.ev G E e=some (.agg ds)∧ds.all D.aM=true:=by
 unfold eta at he;split at he
 ·rename_i j n e' r;split at he
  ·rename_i hc;cases he;obtain⟨h2,hc⟩:=hc;obtain⟨h3,h4⟩:=rO hc
   have at': ∀i,i<n→ ∃d d0,ds[i]?=some d∧X.ev G E e=some d0∧d0.cells.length=n∧d0.cells[i]?=some d∧d.aM=true:=fun i hi=>by
    have hi':i<(SV.x (.mk (.cell j n) [e])::r).length:=by omega
    have hdl:i<ds.length:=by rw[←hv.1];exact hi'
    have hd:ds[i]?=some ds[i]:=Ez hdl;have:=hv.2 i _ _ (h4 i hi') hd;cases this with
    |x h5 _=>
     simp only[X.ev,X.ba,Bz,Mz]at h5;obtain⟨dd,⟨d0,h6,ds',h7,rfl⟩,h8⟩:=h5;cases h7;simp only[XK.run]at h8
     grind
   obtain⟨_,d0,_,h6,h7,_⟩:=at' 0 (by omega);have hl:ds.length=n:=by rw[←hv.1];omega
   have fJ:d0.cells=ds:=List.ext_getElem? fun i=>by
    grind
   refine⟨?_,Tz.2 fun d hd=> ?_⟩
   ·rw[h6];cases d0<;>simp only[D.cells]at fJ h7<;>first|(rw[fJ];done)|(simp at h7;omega)
   ·obtain⟨i,hi⟩:=List.getElem?_of_mem hd;obtain⟨d',_,g1,_,_,_,g5⟩:=at' i (by have:=(Gz.1 hi).1;omega);rw[hi]at g1;cases g1;exact g5
  ·cases he
 ·cases he
theorem tz: ∀{vs:List SV} {xs:List X},SV.oq vs=some xs→xs.length=vs.length∧ ∀(i:Nat) (v:SV) (x:X),vs[i]?=some v→xs[i]?=some x→v.nM=some x
 | [],xs,h=>by simp[SV.oq]at h;subst h;exact⟨rfl,fun i v x h=>by simp at h⟩
 |v::r,xs,h=>by
  simp only[SV.oq,Bz,Mz]at h;obtain⟨x,h1,xs',h2,rfl⟩:=h;obtain⟨h3,h4⟩:=tz h2
  grind
theorem bJ{v:SV}{d:D}(H:VR G E ι Y.h v d): ∀{e:X} {d':D},v.nM=some e→X.ev G E e=some d'→d'=d:=by
 have vG: ∀{vs:List SV} {xs:List X} {ds ds':List D},vs.length=ds.length→(∀(i:Nat) (v:SV) (d:D),vs[i]?=some v→ds[i]?=some d→ ∀{e:X} {d':D},v.nM=some e→X.ev G E e=some d'→d'=d)→
   SV.oq vs=some xs→X.ba G E xs=some ds'→ds'=ds:=fun{vs xs ds ds'} hl ih ha he=>by
  obtain⟨h1,h2⟩:=tz ha;have h3:=dh he;refine List.ext_getElem? fun i=> ?_;by_cases hi:i<vs.length
  ·have e1:=Ez hi;have e2:=Ez (show i<xs.length by omega);have e3:=Ez (show i<ds.length by omega);have e4:=Ez (show i<ds'.length by omega);rw[e3,e4,ih i _ _ e1 e3 (h2 i _ _ e1 e2) (fy he i _ _ e2 e4)]
  ·rw[List.getElem?_eq_none (by omega),List.getElem?_eq_none (by omega)]
 induction H with
 |x h1 _=>intro e d' ha he;cases ha;rw[h1]at he;cases he;rfl
 |agg hl hh ih=>
  intro e d' ha he;simp only[SV.nM,Option.or_eq_some_iff]at ha;rcases ha with ha|⟨_,ha⟩
  ·have:=(m_ (Y:=Y) ha ⟨hl,hh⟩).1;rw[this]at he;cases he;rfl
  ·obtain⟨xs,hx,rfl⟩:=Mz.1 ha;simp only[X.ev,Bz]at he;obtain⟨ds',h1,h2⟩:=he;simp only[XK.run]at h2;split at h2<;>cases h2;rw[vG hl ih hx h1]
 |clo hl hh ih=>
  intro e d' ha he;simp only[SV.nM]at ha;obtain⟨xs,hx,rfl⟩:=Mz.1 ha;simp only[X.ev,Bz]at he;obtain⟨ds',h1,h2⟩:=he;simp only[XK.run]at h2;split at h2<;>cases h2;rw[vG hl ih hx h1]
 |_=>intro e d' ha;simp[SV.nM]at ha
theorem xV{v:SV}{d:D}(H:VR G E ι Y.h v d){e:X}{d':D}(ha:v.nM=some e)(he:X.ev G E e=some d'):d'.aF=true:=by
 cases H with
 |x h1 h2=>cases ha;rw[h1]at he;cases he;exact h2
 |agg hl hh=>
  simp only[SV.nM,Option.or_eq_some_iff]at ha;rcases ha with ha|⟨_,ha⟩
  ·have:=m_ (Y:=Y) ha ⟨hl,hh⟩;rw[this.1]at he;cases he;exact this.2
  ·obtain⟨xs,hx,rfl⟩:=Mz.1 ha;simp only[X.ev,Bz]at he;obtain⟨ds',h1,h2⟩:=he;simp only[XK.run]at h2;split at h2<;>cases h2
   assumption
 |clo hl hh=>
  obtain⟨xs,hx,rfl⟩:=Mz.1 ha;simp only[X.ev,Bz]at he;obtain⟨ds',h1,h2⟩:=he;simp only[XK.run]at h2;split at h2<;>cases h2
  assumption
 |_=>simp[SV.nM]at ha
theorem gu{vs:List SV}{ds ds':List D}{xs:List X}(hv:bz G E ι Y.h vs ds)(ha:SV.oq vs=some xs)(he:X.ba G E xs=some ds'):ds'=ds:=by
 obtain⟨h1,h2⟩:=tz ha;have h3:=dh he;have hl:=hv.1;refine List.ext_getElem? fun i=> ?_;by_cases hi:i<vs.length
 ·have e1:=Ez hi;have e2:=Ez (show i<xs.length by omega);have e3:=Ez (show i<ds.length by omega);have e4:=Ez (show i<ds'.length by omega);rw[e3,e4,bJ (hv.2 i _ _ e1 e3) (h2 i _ _ e1 e2) (fy he i _ _ e2 e4)]
 ·grind
end
end
section
theorem lQ{m:Mem}{k:Nat}{d:D}(h:d.eT=true):aq m (k+1) d=aq dO 6 d:=by
 cases d<;>simp only[D.eT]at h<;>first|rfl|cases h
theorem mE{f g:D→Option D}: ∀{l:List D},(∀d∈l,f d=g d)→l.mapM f=l.mapM g
 | [],_=>rfl
 |a::l,h=>by
  have h1:=mE (f:=f) (g:=g) (l:=l) fun d hd=>h d (Cz _ hd)
  grind
theorem jX{f g:D→Option D}{l:List D}(h: ∀d∈l,f d=g d):aU f l=aU g l:=by unfold aU;rw[mE h]
theorem gY{m:Mem}{k:Nat}{d:D}(h:d.aM=true):aq m (k+2) d=aq dO 6 d:=by
 cases d
 case clo f xs=>
  simp only[D.aM,Tz]at h;show(aU (aq m (k+1)) xs).map (D.clo f)=(aU (aq dO 5) xs).map (D.clo f);rw[jX fun d hd=>(lQ (m:=m) (k:=k) (h d hd)).trans (lQ (m:=dO) (k:=4) (h d hd)).symm]
 all_goals exact lQ h
theorem fL{f:D→Option D}{l:List D}(hf: ∀x,f (.v x)=some (.v x)):aU f l=l.mapM f:=by
 unfold aU;split
 ·rename_i h;symm
  induction l with
  |nil=>rfl
  |cons a l ih=>
   simp only[List.all_cons,Az]at h;have ha:f a=some a:=by cases a<;>first|exact hf _|(simp[D.aW]at h;done)
   simp[ha,ih h.2]
 ·rfl
theorem sg{m:Mem}{d:D}(h:d.aF=true):bo m d=bo dO d:=by
 cases d
 case agg xs=>
  simp only[D.aF,Tz]at h;simp only[bo];rw[jX fun d hd=>gY (m:=m) (k:=4) (h d hd)]
 case clo f xs=>
  simp only[D.aF,Tz]at h;show(aU (aq m 5) xs).map (D.clo f)=(aU (aq dO 5) xs).map (D.clo f);rw[jX fun d hd=>(gY (m:=m) (k:=3) (h d hd)).trans (gY (m:=dO) (k:=3) (h d hd)).symm]
 case tup xs=>rfl
 all_goals exact gY (m:=m) (k:=4) (by simpa only[D.aF]using h)
theorem kP{f:SV→Option X}{g:D→Option D}{G:FP}{E:List D}: ∀{vs:List SV} {es:List X} {ds ds':List D},vs.length=ds.length→vs.mapM f=some es→X.ba G E es=some ds'→
  (∀(i:Nat) (v:SV) (d:D),vs[i]?=some v→ds[i]?=some d→ ∀{e:X} {d':D},f v=some e→X.ev G E e=some d'→g d=some d')→ds.mapM g=some ds'
 | [],es,[],ds',_,h,he,_=>by simp at h;subst h;simp[X.ba]at he;subst he;rfl
 |v::vs,es,d::ds,ds',hl,h,he,H=>by
  simp only[List.mapM_cons,Option.bind_eq_bind,Bz,Option.pure_def,Jz]at h;obtain⟨e,h1,es',h2,rfl⟩:=h;simp only[X.ba,Bz,Mz]at he;obtain⟨d',h3,af4,h4,rfl⟩:=he;have r:=kP (ds:=ds) (by simpa using hl) h2 h4 fun i u dd hu hd=>H (i+1) u dd (by simpa using hu) (by simpa using hd);simp only[List.mapM_cons,H 0 v d rfl rfl h1 h3,r,Option.bind_eq_bind,Oz,Option.pure_def]
 | [],_,_::_,_,hl,_,_,_=>by simp at hl
 |_::_,_,[],_,hl,_,_,_=>by simp at hl
section
variable {Ω : bO} {G : FP} {E : List D} {ι γ : Nat → Tok} {Y : Sy} {J : St}
theorem qS{m:Mem}{sz k:Nat}{es:List (List D)}(h:aO sz es=true):cQ (aq m (k+2)) es=some es:=by
 have Wa: ∀c:D,c.VC=true→aq m (k+1) c=some c:=fun c hc=>by
  cases c<;>simp only[D.VC]at hc<;>first|rfl|cases hc
 have all: ∀(f:D→Option D) (l:List D),(∀c∈l,f c=some c)→l.mapM f=some l:=by
  intro f l
  induction l with
  |nil=>intro _;rfl
  |cons a l ih=>intro hl;simp[hl a (by simp),ih fun c hc=>hl c (by simp[hc])]
 have cell: ∀c:D,c.nV=true→aq m (k+2) c=some c:=fun c hc=>by
  cases c
  case clo f xs=>
   simp only[D.nV,Tz]at hc;show(aU (aq m (k+1)) xs).map (D.clo f)=_;rw[fL (f:=aq m (k+1)) fun _=>rfl,all _ xs fun c h=>Wa c (hc c h)];rfl
  all_goals simp only[D.nV]at hc<;>first|rfl|cases hc
 have row: ∀q∈es,aU (aq m (k+2)) q=some q:=fun q hq=>by
  have h1:=Tz.1 h q hq;rw[fL (f:=aq m (k+2)) fun _=>rfl]
  grind
 unfold cQ;split
 ·rfl
 ·have: ∀l:List (List D),(∀q∈l,aU (aq m (k+2)) q=some q)→l.mapM (aU (aq m (k+2)))=some l:=by
   intro l
   induction l with
   |nil=>intro _;rfl
   |cons a l ih=>intro hl;simp[hl a (by simp),ih fun c hc=>hl c (by simp[hc])]
  grind
theorem bU{sz:Nat}{es:List (List D)}(h:aO sz es=true):es.all (fun c=>c.length==sz)=true:=
 Tz.2 fun q hq=>by have:=Tz.1 h q hq;simp only[Az]at this;exact this.1
theorem bw(M:Mt Ω G E ι γ Y J): ∀(k:Nat) {v:SV} {d:D},VR G E ι Y.h v d→ ∀{e:X} {d':D},cR Y.h k v=some e→X.ev G E e=some d'→aq J.m k d=some d'
 |0,_,_,_,_,_,h,_=>by simp[cR]at h
 |k+1,v,d,H,e,d',h,he=>by
  cases H with
  |x h1 _=>
   simp only[cR]at h;split at h
   ·cases h
   ·rename_i hk;cases h;obtain⟨k',rfl⟩: ∃k',k=k'+1:=⟨k-1,by omega⟩;simp only[X.ev,X.ba,h1,Oz,Pz,XK.run]at he;split at he
    ·rename_i hc;rw[gY hc];exact he
    ·cases he
  | @ptr n o vs hf=>
   simp only[cR,hf]at h;split at h
   ·cases h
   ·rename_i hk;split at h
    ·rename_i ho;obtain⟨es,hes,rfl⟩:=Mz.1 h;simp only[X.ev,Bz]at he;obtain⟨ds',h1,h2⟩:=he;cases h2;obtain⟨ds,_,h3,h4⟩:=M.box n vs hf;have hl:=h4.1;simp only[aq,h3];rw[if_pos (by omega)];obtain⟨k',rfl⟩: ∃k',k=k'+1:=⟨k-1,by omega⟩;rw[fL (f:=aq J.m (k'+1)) fun _=>rfl]
     rw[kP (ds:=ds.drop o) (by simp[hl]) hes h1 fun i u dd hu hd=>by
      rw[List.getElem?_drop]at hu hd
      exact fun{e d'}=>bw M (k'+1) (h4.2 _ u dd hu hd)]
     rfl
    ·cases h
  | @gln n sz e0 c hf hi=>
   simp only[cR,hf]at h;split at h<;>cases h;obtain⟨es,h1,_,h2⟩:=M.au n e0 sz _ hf;rcases h2 with⟨_,rfl⟩|⟨h2,_⟩
   ·rw[h1]at he;cases he;rfl
   ·exact absurd hi h2
  | @gl n sz e0 c es hf hc hi=>
   simp only[cR,hf]at h;split at h
   ·cases h
   ·rename_i hk;cases h;rw[hc]at he;cases he;obtain⟨es',h1,h3,h2⟩:=M.au n e0 sz _ hf;rw[hc]at h1;cases h1;rcases h2 with⟨h2,_⟩|⟨_,h2⟩
    ·exact absurd h2 hi
    ·obtain⟨k',rfl⟩: ∃k',k=k'+2:=⟨k-2,by omega⟩
     have hel:(D.sl (ι n) sz 0 es.length none).elems J.m=some es:=by
      simp only[D.elems,h2];rw[if_pos ⟨by omega,bU h3⟩];simp
     show(((D.sl (ι n) sz 0 es.length none).elems J.m).bind fun es=>(cQ (aq J.m (k'+2)) es).map D.list)=some (.list es);rw[hel];simp only[Oz,qS h3,Pz]
  | @gsn n sz e0 c q kd hf hi hq=>
   simp only[cR,hf]at h;split at h<;>cases h;obtain⟨es,h1,_,h2⟩:=M.au n e0 sz _ hf;rcases h2 with⟨_,rfl⟩|⟨h2,_⟩
   ·simp only[X.ev,X.ba,h1,hq,Oz,Pz,XK.run,List.length_nil]at he;cases he;rfl
   ·exact absurd hi h2
  | @gs n sz e0 c q es kd z hf hc hi hq h0 hz=>
   simp only[cR,hf]at h;split at h
   ·cases h
   ·rename_i hk;cases h;simp only[X.ev,X.ba,hc,hq,Oz,Pz,XK.run]at he;rw[if_pos ⟨h0,hz⟩]at he;cases he;obtain⟨es',h1,h3,h2⟩:=M.au n e0 sz _ hf;rw[hc]at h1;cases h1;rcases h2 with⟨h2,_⟩|⟨_,h2⟩
    ·exact absurd h2 hi
    ·obtain⟨k',rfl⟩: ∃k',k=k'+2:=⟨k-2,by omega⟩
     have hel:(D.sl (ι n) sz 0 z.toNat none).elems J.m=some (es.take z.toNat):=by
      simp only[D.elems,h2];rw[if_pos ⟨by omega,bU h3⟩];simp
     have hrt:aO sz (es.take z.toNat)=true:=Tz.2 fun q hq=>Tz.1 h3 q (List.mem_of_mem_take hq);show(((D.sl (ι n) sz 0 z.toNat none).elems J.m).bind fun es=>(cQ (aq J.m (k'+2)) es).map D.list)=some (.list (es.take z.toNat));rw[hel];simp only[Oz,qS hrt,Pz]
  | @gcn n sz e0 c q kd hf hi hq=>
   simp only[cR,hf]at h;split at h<;>cases h;obtain⟨es,h1,_,h2⟩:=M.au n e0 sz _ hf;rcases h2 with⟨_,rfl⟩|⟨h2,_⟩
   ·simp only[X.ev,X.ba,h1,hq,Oz,Pz,XK.run,List.length_nil]at he;cases he;rfl
   ·exact absurd hi h2
  | @gc n sz e0 c q es kd z m0 hf hc hi hq h0 hz=>
   simp only[cR,hf]at h;split at h
   ·cases h
   ·rename_i hk;cases h;simp only[X.ev,X.ba,hc,hq,Oz,Pz,XK.run]at he;rw[if_pos ⟨h0,hz⟩]at he;cases he;obtain⟨es',h1,h3,h2⟩:=M.au n e0 sz _ hf;rw[hc]at h1;cases h1;rcases h2 with⟨h2,_⟩|⟨_,h2⟩
    ·exact absurd h2 hi
    ·obtain⟨k',rfl⟩: ∃k',k=k'+2:=⟨k-2,by omega⟩
     have hel:(D.sl (ι n) sz 0 z.toNat (some m0)).elems J.m=some (es.take z.toNat):=by
      simp only[D.elems,h2];rw[if_pos ⟨by omega,bU h3⟩];simp
     have hrt:aO sz (es.take z.toNat)=true:=Tz.2 fun q hq=>Tz.1 h3 q (List.mem_of_mem_take hq);show(((D.sl (ι n) sz 0 z.toNat (some m0)).elems J.m).bind fun es=>(cQ (aq J.m (k'+2)) es).map D.list)=some (.list (es.take z.toNat));rw[hel];simp only[Oz,qS hrt,Pz]
  | @sb n o len lim vs hf hlen=>
   simp only[cR,hf]at h;split at h
   ·cases h
   ·rename_i hk;obtain⟨es,hes,rfl⟩:=Mz.1 h;simp only[X.ev,Bz]at he;obtain⟨ds',h1,h2⟩:=he;cases h2;obtain⟨ds,_,h3,h4⟩:=M.box n vs hf;have hl:=h4.1;obtain⟨k',rfl⟩: ∃k',k=k'+1:=⟨k-1,by omega⟩
    have hm:((ds.drop o).take len).mapM (aq J.m (k'+1))=some ds':=kP (ds:=(ds.drop o).take len) (by simp[hl]) hes h1 fun i u dd hu hd {e d'}=>by
     have hi:i<len:=by have:=(Gz.1 hu).1;simp at this;omega
     rw[List.getElem?_take_of_lt hi,List.getElem?_drop]at hu hd;exact bw M (k'+1) (h4.2 _ u dd hu hd)
    have hel:(D.sl (ι n) 1 o len lim).elems J.m=some (((ds.drop o).take len).map fun d=> [d]):=by
     simp only[D.elems,h3];rw[if_pos ⟨trivial,by omega⟩]
    show(((D.sl (ι n) 1 o len lim).elems J.m).bind fun es=>(cQ (aq J.m (k'+1)) es).map D.list)=some (.list (ds'.map fun d=> [d]));rw[hel]
    have gi: ∀d:D,aU (aq J.m (k'+1)) [d]=(aq J.m (k'+1) d).map fun d=> [d]:=fun d=>by
     rw[fL (f:=aq J.m (k'+1)) fun _=>rfl];simp only[List.mapM_cons,List.mapM_nil,Option.bind_eq_bind,Option.pure_def];cases aq J.m (k'+1) d<;>rfl
    have Bh:cQ (aq J.m (k'+1)) (((ds.drop o).take len).map fun d=> [d])=some (ds'.map fun d=> [d]):=by
     generalize(ds.drop o).take len=l at hm
     have key: ∀(l ds':List D),l.mapM (aq J.m (k'+1))=some ds'→(l.map fun d=> [d]).mapM (aU (aq J.m (k'+1)))=some (ds'.map fun d=> [d]):=by
      intro l
      induction l with
      |nil=>intro ds' h;simp at h;subst h;rfl
      |cons a l ih=>
       intro ds' h;simp only[List.mapM_cons,Option.bind_eq_bind,Bz,Option.pure_def,Jz]at h;obtain⟨b,hb,r,hr,rfl⟩:=h;simp only[List.map_cons,List.mapM_cons,gi,hb,Pz,ih r hr,Option.bind_eq_bind,Oz,Option.pure_def]
     unfold cQ;split
     ·rename_i bQ
      have:ds'=l:=by
       have e:l.mapM (aq J.m (k'+1))=some l:=by
        clear hm key
        induction l with
        |nil=>rfl
        |cons a l ih=>
         simp only[List.map_cons,List.all_cons,Az,List.all_nil,and_true]at bQ;have ha:aq J.m (k'+1) a=some a:=by cases a<;>first|rfl|(simp[D.aW]at bQ;done)
         simp[List.mapM_cons,ha,ih bQ.2]
       rw[hm]at e;exact Option.some.inj e
      rw[this]
     ·exact key l ds' hm
    rw[Oz,Bh];rfl
  | @clo f vs ds hl hh=>
   simp only[cR]at h;split at h
   ·cases h
   ·rename_i hk;obtain⟨es,hes,rfl⟩:=Mz.1 h;simp only[X.ev,Bz]at he;obtain⟨ds',h1,h2⟩:=he;simp only[XK.run]at h2;split at h2<;>cases h2;obtain⟨k',rfl⟩: ∃k',k=k'+1:=⟨k-1,by omega⟩;show(aU (aq J.m (k'+1)) ds).map (D.clo f)=_;rw[fL (f:=aq J.m (k'+1)) fun _=>rfl,kP hl hes h1 fun i u dd hu hd {e d'}=>bw M (k'+1) (hh i u dd hu hd)];rfl
  | @mp n o hf ho=>
   simp only[cR]at h;split at h
   ·cases h
   ·split at h
    ·rename_i c hfc;cases h;obtain⟨es,k1,k2,k3⟩:=M.mpo n c hfc;simp only[X.ev,X.ba,k1,Oz,Pz,XK.run,aH]at he;split at he<;>cases he;rename_i bQ;simp only[aq,k3];rw[if_pos bQ]
    ·cases h
  |_=>simp[cR]at h
theorem lT(M:Mt Ω G E ι γ Y J){v:SV}{d:D}(H:VR G E ι Y.h v d){e:X}{d':D}(h:bM Y.h v=some e)(he:X.ev G E e=some d'):bo J.m d=some d':=by
 have bq: ∀{e0:X} {d0:D},X.ev G E e0=some d0→X.ev G E (.mk .bq [e0])=some d'→bo J.m d0=some d':=fun{e0 d0} h1 he=>by
  simp only[X.ev,X.ba,h1,Oz,Pz,XK.run]at he;split at he
  ·rename_i hc;rw[sg hc];exact he
  ·cases he
 cases H with
 |x h1 _=>simp only[bM,Jz]at h;subst h;exact bq h1 he
 | @agg vs ds hl hh=>
  simp only[bM]at h;split at h
  ·rename_i e0 h0;cases h;exact bq (m_ (Y:=Y) h0 ⟨hl,hh⟩).1 he
  ·obtain⟨es,hes,rfl⟩:=Mz.1 h;simp only[X.ev,Bz]at he;obtain⟨ds',h1,h2⟩:=he;simp only[XK.run]at h2;split at h2<;>cases h2;show(aU (aq J.m 6) ds).map D.agg=_;rw[fL (f:=aq J.m 6) fun _=>rfl,kP hl hes h1 fun i u dd hu hd {e d'}=>bw M 6 (hh i u dd hu hd)];rfl
 |un=>simp[bM,cR]at h
 |ptr hf=>exact bw M 6 (.ptr hf) (by simpa only[bM]using h) he
 |gln hf hi=>exact bw M 6 (.gln hf hi) (by simpa only[bM]using h) he
 |gl hf hc hi=>exact bw M 6 (.gl hf hc hi) (by simpa only[bM]using h) he
 |gsn hf hi hk=>exact bw M 6 (.gsn hf hi hk) (by simpa only[bM]using h) he
 |gs hf hc hi hk h0 hz=>exact bw M 6 (.gs hf hc hi hk h0 hz) (by simpa only[bM]using h) he
 |gcn hf hi hk=>exact bw M 6 (.gcn hf hi hk) (by simpa only[bM]using h) he
 |gc hf hc hi hk h0 hz=>exact bw M 6 (.gc hf hc hi hk h0 hz) (by simpa only[bM]using h) he
 |ep=>simp[bM,cR]at h
 |gt=>simp[bM,cR]at h
 |gtn=>simp[bM,cR]at h
 |tup=>simp[bM,cR]at h
 |dp=>simp[bM,cR]at h
 |sb hf hl=>exact bw M 6 (.sb hf hl) (by simpa only[bM]using h) he
 |rb=>simp[bM,cR]at h
 |mp hf ho=>exact bw M 6 (.mp hf ho) (by simpa only[bM]using h) he
 |yl=>simp[bM,cR]at h
 |clo hl hh=>exact bw M 6 (.clo hl hh) (by simpa only[bM]using h) he
 |gd=>simp[bM,cR]at h
theorem GB{d:D}(h:d.eT=true):d.aM=true:=by cases d<;>simp only[D.eT]at h<;>first|rfl|cases h
theorem mH{d:D}(h:d.aM=true):d.aF=true:=by
 cases d
 case clo f xs=>
  simp only[D.aM,D.aF,Tz]at h⊢;exact fun x hx=>GB (h x hx)
 all_goals simp only[D.aM]at h<;>first|rfl|cases h
theorem lz{d:D}(h:d.aW=true):d.aM=true:=by cases d<;>simp only[D.aW]at h<;>first|rfl|cases h
theorem Ic{d:D}(h:d.flat=true):d.aF=true:=by
 cases d
 case agg xs=>simp only[D.flat,D.aF,Tz]at h⊢;exact fun x hx=>lz (h x hx)
 case tup xs=>
  simp only[D.flat,D.aF,Tz]at h⊢;intro x hx;have:=h x hx;cases x
  case agg ys=>simp only[Tz]at this⊢;exact fun y hy=>lz (this y hy)
  all_goals exact lz this
 all_goals exact mH (lz (by simpa only[D.flat]using h))
theorem Un{v:SV}{d:D}(H:VR G E ι Y.h v d)(hp:v.pl=true){e:X}{d':D}(h:bM Y.h v=some e)(he:X.ev G E e=some d'):d.aF=true:=by
 have cells: ∀{vs:List SV} {ds ds':List D} {es:List X} {k:Nat},vs.length=ds.length→(∀(i:Nat) (v:SV) (d:D),vs[i]?=some v→ds[i]?=some d→VR G E ι Y.h v d)→vs.all SV.isX=true→
   vs.mapM (cR Y.h (k+1))=some es→X.ba G E es=some ds'→ds.all D.aM=true:=fun{vs ds ds' es k} hl hh hx hes hev=>by
  refine Tz.2 fun d hd=> ?_;obtain⟨i,hi⟩:=List.getElem?_of_mem hd;have hil:i<vs.length:=by rw[hl];exact(Gz.1 hi).1
  have hv:=Ez hil;have S8:=Tz.1 hx _ (Lz hv);have hr:=hh i _ d hv hi;obtain⟨hlen,gC⟩:=gV hes;have he1:=Ez (show i<es.length by omega);obtain⟨v',hv',he2⟩:=gC i _ he1;rw[hv]at hv';cases hv';have hd':=Ez (show i<ds'.length by rw[dh hev];omega);have he3:=fy hev i _ _ he1 hd';cases hvv:vs[i]<;>rw[hvv]at S8 hr he2<;>simp only[SV.isX]at S8<;>try (cases S8;done)
  cases hr with
  |x h1 _=>
   simp only[cR]at he2;split at he2
   ·grind
   ·rw[←Option.some.inj he2]at he3;simp only[X.ev,X.ba,h1,Oz,Pz,XK.run]at he3
    grind
 cases H with
 |x _ h2=>exact h2
 | @agg vs ds hl hh=>
  simp only[bM]at h;split at h
  ·rename_i e0 h0;exact(m_ (Y:=Y) h0 ⟨hl,hh⟩).2
  ·obtain⟨es,hes,rfl⟩:=Mz.1 h;simp only[X.ev,Bz]at he;obtain⟨ds',h1,_⟩:=he;exact cells hl hh (by simpa[SV.pl]using hp) hes h1
 | @clo f vs ds hl hh=>
  simp only[bM,cR]at h;rw[if_neg (by omega)]at h;obtain⟨es,hes,rfl⟩:=Mz.1 h;simp only[X.ev,Bz]at he;obtain⟨ds',h1,_⟩:=he;exact cells hl hh (by simpa[SV.pl]using hp) hes h1
 |_=>simp[SV.pl]at hp
theorem sh(M:Mt Ω G E ι γ Y J){vs:List SV}{ds as:List D}{es:List X}(hv:bz G E ι Y.h vs ds)(h:vs.mapM (bM Y.h)=some es)(he:X.ba G E es=some as):
  ds.mapM (bo J.m)=some as∧(vs.all SV.pl=true→ds.all D.aF=true):=by
 refine⟨kP hv.1 h he fun i u dd hu hd {e d'}=>lT M (hv.2 i u dd hu hd),fun hp=>Tz.2 fun d hd=> ?_⟩;obtain⟨i,hi⟩:=List.getElem?_of_mem hd;have hil:i<vs.length:=by rw[hv.1];exact(Gz.1 hi).1
 have hv1:=Ez hil;obtain⟨hlen,gC⟩:=gV h;have he1:=Ez (show i<es.length by omega);obtain⟨v',hv',he2⟩:=gC i _ he1;rw[hv1]at hv';cases hv';have hd':=Ez (show i<as.length by rw[dh he];omega);exact Un (hv.2 i _ d hv1 hi) (Tz.1 hp _ (Lz hv1)) he2 (fy he i _ _ he1 hd')
theorem rl{m:Mem}{fl:Bool}{f:Nat}{ds as:List D}{d:D}(h:ds.mapM (bo m)=some as)(hp:fl=false→ds.all D.aF=true)(hc:gn G fl f as=some d):
  me (br G) m f ds=some d∧d.aF=true:=by
 unfold gn at hc;rw[Bz]at hc;obtain⟨d0,h1,h2⟩:=hc;cases fl
 ·simp only[Bool.false_eq_true,if_false]at h2;split at h2<;>cases h2;rename_i bc;exact⟨by simp[me,h,br,h1,hp rfl,bc],bc⟩
 ·simp only[if_true]at h2;split at h2<;>cases h2;rename_i bc
  refine⟨by
   unfold me;rw[h];show(G f as).bind _=_;rw[h1]
   exact if_pos (by rw[bc];rfl), ?_⟩
  rw[Bool.or_eq_true,Az]at bc;exact bc.elim Ic fun h=>h.2
end
end
end Go.Proofs.YtkcfpgaepmllhaaGreatDoor
