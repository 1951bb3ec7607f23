/- Part of the proof: symbolic execution of the program, its soundness, and the closing lemmas. No condition. -/
import Derived.Test.YtkcfpgaepmllhaaGreatDoorEab
import Derived.OrdersIn
import Derived.Orders
namespace Go.Proofs.YtkcfpgaepmllhaaGreatDoor
open Go.RowKit
set_option maxRecDepth 100000
set_option linter.all false
section
def aL.reads:aL→List Nat
 | .t i=> [i]
 | .c _=> []
def iT:Option (Nat×Bool)→List Nat
 |some (j,_)=> [j]
 |none=> []
def Eff.reads:Eff→List Nat
 | .box _ _ _ a=>a.reads
 | .store _ _ a v=>a.reads++v.reads
 | .app _ _ _ a b=>a.reads++b.reads
 | .mks _ _ _ _ a b=>a.reads++b.reads
 | .lit _ _ _ _ _ _ args=>args.flatMap aL.reads
 | .mkm _| .mkml .. => []
 | .ecall _ _ _ args=>args.flatMap aL.reads
 | .acall _ _ _ _ args=>args.flatMap aL.reads
 | .clr _ _ a=>a.reads
 | .copy _ a b=>a.reads++b.reads
 | .mupd _ a k v=>a.reads++k.reads++v.reads
def au.reads:au→List Nat
 | .op _ _ args g=>args.flatMap aL.reads++iT g
 | .eff e g=>e.reads++iT g
 | .bad=> []
def au.dst:au→Option Nat
 | .op x .. =>some x
 | .eff e _=>e.dst
 | .bad=>none
def PK.pf:PK→Bool
 | .load .. | .call _| .ccall| .slc .. | .lkp .. | .ent=>true
 |_=>false
def Eff.news:Eff→Bool
 | .box .. | .mks .. | .lit .. | .mkm _| .mkml .. | .acall .. =>true
 |_=>false
def au.news:au→Bool
 | .eff e _=>e.news
 |_=>false
def apart(a b:au):Bool:=
 (match a.dst with|some x=> !b.reads.contains x|none=>true)&&(match b.dst with|some y=> !a.reads.contains y|none=>true)&&(match a.dst,b.dst with|some x,some y=>x !=y|_,_=>true)
def indep(a b:au):Bool:=
 apart a b&&match a with
 | .op _ k _ _=>(match b with| .op .. =>true|_=>false)||b.news|| !k.pf
 |_=>false
def WF(J:St):Prop:= ∀x k r,J.c x≤k→J.m ((x+1)::k::r)=none
def lV(m m':Mem):Prop:= ∀t o,m t=some o→m' t=some o
section
variable {Γ : Env}
theorem val_congr{s s':Nat→D}{g:aL}(h: ∀j∈g.reads,s' j=s j):g.val s'=g.val s:=by
 cases g with
 |t i=>exact h i (by simp[aL.reads])
 |c d=>rfl
theorem uZ{s s':Nat→D}{gs:List aL}(h: ∀j∈gs.flatMap aL.reads,s' j=s j):gs.map (aL.val s')=gs.map (aL.val s):=
 List.map_congr_left fun g hg=>val_congr fun j hj=>h j (List.mem_flatMap.2 ⟨g,hg,hj⟩)
theorem B8{m m':Mem}(h:lV m m'){d:D}{es:List (List D)}(he:d.elems m=some es):d.elems m'=some es:=by
 cases d<;>simp only[D.elems]at he⊢ <;>try exact he
 split at he
 ·rename_i g e es0 hm;rw[h _ _ hm];exact he
 ·rename_i xs hm;rw[h _ _ hm];exact he
 ·cases he
theorem mapM_mono{f g:D→Option D}(h: ∀d d',f d=some d'→g d=some d'): ∀{l l':List D},l.mapM f=some l'→l.mapM g=some l'
 | [],l',e=>by simpa using e
 |a::l,l',e=>by
  simp only[List.mapM_cons,Option.bind_eq_bind,Bz,Option.pure_def,Jz]at e⊢;obtain⟨b,hb,r,hr,rfl⟩:=e;exact⟨b,h _ _ hb,r,mapM_mono h hr,rfl⟩
theorem f_{f g:D→Option D}(h: ∀d d',f d=some d'→g d=some d'){c c':List D}(e:aW f c=some c'):aW g c=some c':=by
 unfold aW at e⊢;split at e
 ·grind
 ·rename_i hc;rw[if_neg hc];exact mapM_mono h e
theorem vJ{f g:D→Option D}(h: ∀d d',f d=some d'→g d=some d'){c c':List (List D)}(e:cP f c=some c'):cP g c=some c':=by
 unfold cP at e⊢;split at e
 ·grind
 ·rename_i hc
  have: ∀{l l':List (List D)},l.mapM (aW f)=some l'→l.mapM (aW g)=some l':=by
   intro l
   induction l with
   |nil=>intro l' e;simpa using e
   |cons a l ih=>
    intro l' e;simp only[List.mapM_cons,Option.bind_eq_bind,Bz,Option.pure_def,Jz]at e⊢;obtain⟨b,hb,r,hr,rfl⟩:=e;exact⟨b,f_ h hb,r,ih hr,rfl⟩
  grind
theorem oz{m m':Mem}(h:lV m m'): ∀(n:Nat) (d d':D),ay m n d=some d'→ay m' n d=some d'
 |0,_,_,e=>by simp[ay]at e
 |n+1,d,d',e=>by
  have ih:=oz h n;cases d<;>simp only[ay]at e⊢ <;>try exact e
  case sl t size off len lim=>
   rw[Bz]at e⊢;obtain⟨es,he,e⟩:=e;obtain⟨es',hv,rfl⟩:=Mz.1 e;exact⟨es,B8 h he,by rw[vJ ih hv];rfl⟩
  case ptr t off=>
   split at e
   ·rename_i xs hm;rw[h _ _ hm];split at e
    ·rename_i hc;obtain⟨c',hv,rfl⟩:=Mz.1 e;simp only[if_pos hc,f_ ih hv,Pz]
    ·cases e
   ·cases e
  case mp t=>
   split at e
   ·rename_i es hm;rw[h _ _ hm];exact e
   ·cases e
  case rptr t size i j=>
   split at e
   ·rename_i g e0 es hm;rw[h _ _ hm];rw[Bz]at e;obtain⟨c,hc,e⟩:=e;split at e
    ·rename_i br;obtain⟨c',hv,rfl⟩:=Mz.1 e;simp only[hc,Oz,if_pos br,f_ ih hv,Pz]
    ·cases e
   ·cases e
  case clo f xs=>
   obtain⟨c',hv,rfl⟩:=Mz.1 e;rw[f_ ih hv];rfl
theorem Dm{m m':Mem}(h:lV m m'){d d':D}(e:bu m d=some d'):bu m' d=some d':=by
 cases d
 case agg xs=>
  obtain⟨c',hv,rfl⟩:=Mz.1 e;simp only[bu,f_ (oz h 6) hv,Pz]
 all_goals (simp only[bu]at e⊢;exact oz h 6 _ d' e)
theorem tc{m m':Mem}(h:lV m m'){f:Nat}{ds:List D}{d:D}(e:lZ Γ m f ds=some d):lZ Γ m' f ds=some d:=by
 unfold lZ at e⊢;rw[Bz]at e⊢;obtain⟨as,ha,e⟩:=e;exact⟨as,mapM_mono (fun _ _=>Dm h) ha,e⟩
theorem pj{m m':Mem}(h:lV m m'){k:PK}{ds:List D}{d:D}(e:k.run Γ m ds=some d):k.run Γ m' ds=some d:=by
 cases k<;>try exact e
 case load n agg=>
  simp only[PK.run]at e⊢;unfold iW at e⊢;split at e
  ·exact e
  ·split at e
   ·rename_i xs hm;simp only[h _ _ hm];exact e
   ·cases e
  ·split at e
   ·rename_i g e0 es hm;simp only[h _ _ hm];exact e
   ·rename_i xs hm;simp only[h _ _ hm];exact e
   ·cases e
  ·cases e
 case slc size lo hi mx=>
  simp only[PK.run]at e⊢;unfold mC at e⊢;split at e
  ·rename_i t kM off len lim r;rw[Bz]at e⊢;obtain⟨l,hl,e⟩:=e;refine⟨l,hl, ?_⟩;rw[Bz]at e⊢;obtain⟨q,hq,e⟩:=e;refine⟨q,hq, ?_⟩;split at e
   ·rename_i hc;obtain⟨h1,h2,h3,h4⟩:=hc
    rw[if_pos ⟨h1,h2,h3.imp id (fun hr=>by
     unfold EL at hr⊢;split at hr
     ·rename_i hm;rw[h _ _ hm];exact hr
     ·cases hr),h4⟩]
    exact e
   ·cases e
  ·exact e
  ·cases e
 case lkp ks z ok=>
  simp only[PK.run]at e⊢;unfold og at e⊢;split at e
  ·split at e
   ·rename_i hm;simp only[h _ _ hm];exact e
   ·cases e
  ·exact e
  ·cases e
 case ent=>
  simp only[PK.run]at e⊢;unfold Kw at e⊢;split at e
  ·split at e
   ·rename_i hm;split at e
    ·rename_i hm2;simp only[h _ _ hm,h _ _ hm2];exact e
    ·cases e
   ·cases e
  ·cases e
 case call f=>exact tc h e
 case ccall=>
  simp only[PK.run,tf]at e⊢;split at e
  ·split at e
   ·rename_i hc;rw[if_pos hc];exact tc h e
   ·cases e
  ·cases e
theorem Bf{m m':Mem}{k:PK}(hk:k.pf=false)(ds:List D):k.run Γ m ds=k.run Γ m' ds:=by
 cases k<;>first|rfl|(simp[PK.pf]at hk;done)
theorem St.ext'{J τ:St}(h1:J.s=τ.s)(h2:J.m=τ.m)(h3:J.c=τ.c):J=τ:=by
 cases J;cases τ;simp only at h1 h2 h3;subst h1;subst h2;subst h3;rfl
theorem set_set{J:St}{x y:Nat}{d e:D}(h:x≠y):(J.set x d).set y e=(J.set y e).set x d:=by
 simp only[St.set]
 grind
theorem St.eY{J:St}{x:Nat}{d:D}{g:aL}(h:x∉g.reads):g.val (J.set x d).s=g.val J.s:=
 val_congr fun _ hj=>St.dg _ _ fun e=>h (e▸hj)
theorem St.po{J:St}{x:Nat}{d:D}{gs:List aL}(h:x∉gs.flatMap aL.reads):gs.map (aL.val (J.set x d).s)=gs.map (aL.val J.s):=
 uZ fun _ hj=>St.dg _ _ fun e=>h (e▸hj)
theorem guard_congr{J τ:St}{g:Option (Nat×Bool)}(h: ∀j want,g=some (j,want)→τ.s j=J.s j):bC τ g=bC J g:=by
 cases g with
 |none=>rfl
 |some q=>obtain⟨j,want⟩:=q;simp only[bC,h j want rfl]
theorem St.gG{J:St}{x y:Nat}{o:HO}{d e:D}(h:x≠y):(J.set x d).new y o e=(J.new y o e).set x d:=by
 refine St.ext' ?_ rfl rfl;simp only[St.new,St.H8,St.set,St.ZE]
 grind
theorem St.fc{J:St}{y j:Nat}{o:HO}{e:D}(h:j≠y):(J.new y o e).s j=J.s j:=by simp[St.new,St.set,h]
@[simp] theorem St.sN{J:St}{x y:Nat}{d:D}:(J.set x d).tok y=J.tok y:=rfl
theorem Fj{x y k f:Nat}{ds:List D}{J J2:St}{d:D}(hy:x≠y)(h:kY Γ y k f ds (J.set x d)=some J2): ∃J3,kY Γ y k f ds J=some J3∧J2=J3.set x d∧ ∀j,j≠y→J3.s j=J.s j:=by
 unfold kY at h⊢;split at h
 ·rename_i hc;rw[if_pos hc];split at h
  ·obtain⟨q,hq,h⟩:=Bz.1 h;simp only[hq,Oz];split at h
   ·split at h<;>cases h;rename_i hd;exact⟨_,if_pos hd,set_set hy,fun j hj=>St.dg _ _ hj⟩
   ·cases h
  ·simp only[St.lO]at h;split at h
   ·split at h
    ·rename_i hcc;obtain⟨q,hq,h⟩:=Bz.1 h;simp only[hcc,and_self,if_true,hq,Oz];split at h
     ·split at h<;>cases h;rename_i hd;refine⟨_,if_pos hd, ?_,fun j hj=>St.dg _ _ hj⟩;exact set_set (J:=(J.aG _ 0).put _ _) hy
     ·cases h
    ·cases h
   ·cases h
  ·cases h
 ·cases h
theorem Fp{b:Eff}{J J2:St}{x:Nat}{d:D}(h:b.run Γ (J.set x d)=some J2)(h1:x∉b.reads)(h2:b.dst≠some x):
  ∃J3,b.run Γ J=some J3∧J2=J3.set x d∧ ∀j,b.dst≠some j→J3.s j=J.s j:=by
 cases b with
 |box _ _ y a=>
  have hy:x≠y:=fun e=>h2 (by simp[Eff.dst,e]);simp only[Eff.run,St.eY (show x∉a.reads from h1)]at h⊢;unfold aid at h⊢;simp only[St.sN]at h;split at h<;>cases h;rename_i hc;exact⟨_,by rw[if_pos hc],St.gG hy,fun j hj=>St.fc fun e=>hj (by simp[Eff.dst,e])⟩
 |store k _ a v=>
  simp only[Eff.reads,List.mem_append,not_or]at h1;simp only[Eff.run,St.eY h1.1,St.eY h1.2]at h⊢;generalize a.val J.s=av at h⊢;generalize v.val J.s=vv at h⊢;unfold jN at h⊢;split at h
  ·simp only[St.lO]at h;split at h
   ·split at h<;>cases h;rename_i hc;exact⟨_,if_pos hc,rfl,fun _ _=>rfl⟩
   ·cases h
  ·simp only[St.lO]at h;split at h
   ·rw[Bz]at h;obtain⟨c,hc,h⟩:=h;split at h<;>cases h;rename_i hcc;rw[hc];exact⟨_,if_pos hcc,rfl,fun _ _=>rfl⟩
   ·split at h<;>cases h;rename_i hc;exact⟨_,if_pos hc,rfl,fun _ _=>rfl⟩
   ·cases h
  ·cases h
 |app y e size a b=>
  simp only[Eff.reads,List.mem_append,not_or]at h1;have hy:x≠y:=fun e=>h2 (by simp[Eff.dst,e]);simp only[Eff.run,St.eY h1.1,St.eY h1.2]at h⊢;generalize a.val J.s=av at h⊢;generalize b.val J.s=bv at h⊢;unfold sU at h⊢;simp only[St.lO,St.sN]at h;rw[Bz]at h;obtain⟨es,hes,h⟩:=h;simp only[hes,Oz];split at h
  ·cases h
  rename_i bN;rw[if_neg bN];have fin: ∀{J3:St},J2=J3.set x d→(∀j,j≠y→J3.s j=J.s j)→ ∃J4,some J3=some J4∧J2=J4.set x d∧ ∀j,(Eff.app y e size a b).dst≠some j→J4.s j=J.s j:=fun{J3} e1 e2=>⟨J3,rfl,e1,fun j hj=>e2 j fun e=>hj (by simp[Eff.dst,e])⟩;split at h
  ·split at h
   ·rename_i h0;cases h;simp only[h0,if_true];exact fin (set_set hy) fun j hj=>St.dg _ _ hj
   ·rename_i h0;split at h<;>cases h;rename_i hc;simp only[h0,hc,if_true,Bool.false_eq_true,if_false];exact fin (St.gG hy) fun j hj=>St.fc hj
  ·split at h
   ·rename_i h0;cases h;simp only[h0,if_true];exact fin (set_set hy) fun j hj=>St.dg _ _ hj
   ·rename_i h0;split at h
    ·simp only[h0,Bool.false_eq_true,if_false];split at h
     ·rename_i br;rw[if_pos br];split at h
      ·split at h<;>cases h;rename_i rJ;simp only[rJ,if_true];exact fin (by rw[show(J.set x d).aG _ _=(J.aG _ _).set x d from rfl];exact St.gG hy) fun j hj=>by rw[St.fc hj];rfl
      ·split at h<;>cases h;rename_i hlt;simp only[hlt,if_true];exact fin (St.gG hy) fun j hj=>St.fc hj
     ·cases h
    ·cases h
  ·cases h
 |mks y e size zero a b=>
  simp only[Eff.reads,List.mem_append,not_or]at h1;have hy:x≠y:=fun e=>h2 (by simp[Eff.dst,e]);simp only[Eff.run,St.eY h1.1,St.eY h1.2]at h⊢;generalize a.val J.s=av at h⊢;generalize b.val J.s=bv at h⊢;unfold CJ at h⊢;simp only[St.sN]at h;split at h
  ·split at h<;>cases h;rename_i hc;exact⟨_,by rw[if_pos hc],St.gG hy,fun j hj=>St.fc fun e=>hj (by simp[Eff.dst,e])⟩
  ·cases h
 |lit y e size len zero places args=>
  have hy:x≠y:=fun e=>h2 (by simp[Eff.dst,e]);simp only[Eff.run,St.po (show x∉args.flatMap aL.reads from h1)]at h⊢;unfold CF at h⊢;simp only[St.sN]at h;split at h
  ·rename_i bN;rw[if_pos bN];rw[Bz]at h;obtain⟨cs,hcs,h⟩:=h;simp only[hcs,Oz];split at h<;>cases h;rename_i hc;exact⟨_,by rw[if_pos hc],St.gG hy,fun j hj=>St.fc fun e=>hj (by simp[Eff.dst,e])⟩
  ·cases h
 |mkm y=>
  have hy:x≠y:=fun e=>h2 (by simp[Eff.dst,e]);cases h;exact⟨_,rfl,St.gG hy,fun j hj=>St.fc fun e=>hj (by simp[Eff.dst,e])⟩
 |mkml y e s=>
  have hy:x≠y:=fun e=>h2 (by simp[Eff.dst,e]);cases h;exact⟨_,rfl,St.gG hy,fun j hj=>St.fc fun e=>hj (by simp[Eff.dst,e])⟩
 |clr s z a=>
  simp only[Eff.reads]at h1;simp only[Eff.run,St.eY h1]at h⊢;generalize a.val J.s=av at h⊢;unfold zP at h⊢;split at h
  ·cases h;exact⟨_,rfl,rfl,fun _ _=>rfl⟩
  ·cases h;exact⟨_,rfl,rfl,fun _ _=>rfl⟩
  ·cases h;exact⟨_,rfl,rfl,fun _ _=>rfl⟩
  ·split at h
   ·rename_i h0;cases h;exact⟨_,if_pos h0,rfl,fun _ _=>rfl⟩
   ·rename_i h0;simp only[St.lO]at h;split at h
    ·split at h<;>cases h;rename_i hm hc;simp only[if_neg h0,hm];exact⟨_,if_pos hc,rfl,fun _ _=>rfl⟩
    ·cases h
  ·cases h
 |ecall y k f args=>
  have hy:x≠y:=fun e=>h2 (by simp[Eff.dst,e]);simp only[Eff.run,St.po (show x∉args.flatMap aL.reads from h1)]at h⊢;obtain⟨J3,g1,g2,g3⟩:=Fj hy h;exact⟨J3,g1,g2,fun j hj=>g3 j fun e=>hj (by simp[Eff.dst,e])⟩
 |acall y e sz f args=>
  have hy:x≠y:=fun e=>h2 (by simp[Eff.dst,e]);simp only[Eff.run,St.po (show x∉args.flatMap aL.reads from h1)]at h⊢;generalize args.map (aL.val J.s)=as at h⊢;unfold nQ at h⊢;split at h
  ·rename_i hc0;rw[if_pos hc0];obtain⟨q,hq,h⟩:=Bz.1 h;rw[hq,Oz];split at h
   ·rename_i hq1;split at h<;>cases h;rename_i hc
    first
     |exact⟨_,if_pos hc,St.gG hy,fun j hj=>St.fc fun e=>hj (by simp[Eff.dst,e])⟩
     |(simp only[hq1];exact⟨_,if_pos hc,St.gG hy,fun j hj=>St.fc fun e=>hj (by simp[Eff.dst,e])⟩)
   ·cases h
  ·cases h
 |copy y a b=>
  simp only[Eff.reads,List.mem_append,not_or]at h1;simp only[Eff.run,St.eY h1.1,St.eY h1.2]at h⊢;generalize a.val J.s=av at h⊢;generalize b.val J.s=bv at h⊢;unfold copyV at h⊢;split at h
  ·simp only[St.lO]at h;split at h
   ·split at h
    ·rename_i hc;rw[if_pos hc];cases y with
     |none=>cases h;exact⟨_,rfl,rfl,fun _ _=>rfl⟩
     |some y=>
      cases h;have hy:x≠y:=fun e=>h2 (by simp[Eff.dst,e]);exact⟨_,rfl,(show((J.put _ _).set x d).set y _=((J.put _ _).set y _).set x d from set_set hy),fun j hj=>St.dg _ _ fun e=>hj (by simp[Eff.dst,e])⟩
    ·cases h
   ·cases h
  ·cases h
 |mupd ks a k v=>
  simp only[Eff.reads,List.mem_append,not_or]at h1;simp only[Eff.run,St.eY h1.1.1,St.eY h1.1.2,St.eY h1.2]at h⊢;generalize a.val J.s=av at h⊢;generalize k.val J.s=kv at h⊢;generalize v.val J.s=vv at h⊢;unfold q9 at h⊢;split at h
  ·simp only[St.lO]at h;split at h
   ·split at h
    ·rename_i hm hok;rw[if_pos hok];rw[Bz]at h;obtain⟨r,hr,h⟩:=h;simp only[hr,Oz];split at h
     ·obtain⟨p,hp,rfl⟩:=Mz.1 h;simp only[hp,Pz];exact⟨_,rfl,rfl,fun _ _=>rfl⟩
     ·split at h<;>cases h;rename_i hlt;exact⟨_,if_pos hlt,rfl,fun _ _=>rfl⟩
    ·cases h
   ·cases h
  ·cases h
theorem Fs{b:au}{J J2:St}{x:Nat}{d:D}(h:b.run Γ (J.set x d)=some J2)(h1:x∉b.reads)(h2:b.dst≠some x):
  ∃J3,b.run Γ J=some J3∧J2=J3.set x d∧ ∀j,b.dst≠some j→J3.s j=J.s j:=by
 cases b with
 |op y k args g=>
  simp only[au.reads,List.mem_append,not_or]at h1;have hy:x≠y:=fun e=>h2 (by simp[au.dst,e]);have hg:bC (J.set x d) g=bC J g:=guard_congr fun j want e=>St.dg _ _ fun e2=>h1.2 (by simp[iT,e,e2]);simp only[au.run,hg,Pa,St.lO,St.po h1.1]at h⊢;rw[Bz]at h;obtain⟨c,hc,h⟩:=h;rw[hc];cases c
  ·simp only[cond_false,Jz]at h;exact⟨J.set y (.tup []),by simp,by rw[←h];exact set_set hy,fun j hj=>St.dg _ _ fun e=>hj (by simp[au.dst,e])⟩
  ·simp only[cond_true]at h;obtain⟨v,hv,rfl⟩:=Mz.1 h;exact⟨_,by simp[hv],set_set hy,fun j hj=>St.dg _ _ fun e=>hj (by simp[au.dst,e])⟩
 |eff e g=>
  simp only[au.reads,List.mem_append,not_or]at h1;have hg:bC (J.set x d) g=bC J g:=guard_congr fun j want e=>St.dg _ _ fun e2=>h1.2 (by simp[iT,e,e2]);simp only[au.run,hg]at h⊢;rw[Bz]at h;obtain⟨c,hc,h⟩:=h;rw[hc];cases c
  ·simp only[cond_false,Jz]at h;subst h;refine⟨J.void e.dst,rfl, ?_,fun j hj=> ?_⟩
   ·cases hd:e.dst with
    |none=>rfl
    |some y=>exact set_set fun e2=>h2 (by simp[au.dst,hd,e2])
   ·cases hd:e.dst with
    |none=>rfl
    |some y=>exact St.dg _ _ fun e2=>hj (by simp[au.dst,hd,e2])
  ·exact Fp (Γ:=Γ) h h1.1 h2
 |bad=>cases h
theorem iA{x:Nat}{k:PK}{args:List aL}{g:Option (Nat×Bool)}{J J':St}(h:(au.op x k args g).run Γ J=some J'):
  ∃d,J'=J.set x d∧ ∀τ:St,(∀j∈(au.op x k args g).reads,τ.s j=J.s j)→(lV J.m τ.m∨k.pf=false)→(au.op x k args g).run Γ τ=some (τ.set x d):=by
 have key: ∀τ:St,(∀j∈(au.op x k args g).reads,τ.s j=J.s j)→args.map (aL.val τ.s)=args.map (aL.val J.s)∧bC τ g=bC J g:=fun τ heq=>
  ⟨uZ fun j hj=>heq j (by simp only[au.reads,List.mem_append];exact .inl hj),guard_congr fun j want e=>heq j (by simp[au.reads,iT,e])⟩
 simp only[au.run]at h;rw[Bz]at h;obtain⟨b,hb,h⟩:=h;cases b
 ·simp only[cond_false,Jz]at h;refine⟨_,h.symm,fun τ heq _=> ?_⟩;simp only[au.run,(key τ heq).2,hb,Oz,cond_false]
 ·simp only[cond_true,Pa]at h;obtain⟨d,hd,rfl⟩:=Mz.1 h;refine⟨d,rfl,fun τ heq hm=> ?_⟩
  have ai:k.run Γ τ.m (args.map (aL.val J.s))=some d:=by
   rcases hm with hm|hm
   ·exact pj hm hd
   ·rw[Bf hm (m':=J.m)];exact hd
  simp only[au.run,(key τ heq).2,hb,Oz,cond_true,Pa,(key τ heq).1,ai,Pz]
theorem WF.tok{J:St}(W:WF J)(x:Nat):J.m (J.tok x)=none:=W x (J.c x) [] (Nat.le_refl _)
theorem WF.sub{J:St}(W:WF J){m:Mem}(h:lV m J.m):WF ⟨J.s,m,J.c⟩:=fun x k r hk=>by
 show m ((x+1)::k::r)=none;cases hm:m ((x+1)::k::r)with
 |none=>rfl
 |some o=>have:=h _ _ hm;rw[W x k r hk]at this;cases this
theorem WF.put{J:St}(W:WF J){t:Tok}{o:Option HO}(h:J.m t≠none):WF (J.put t o):=fun x k r hk=>by
 simp only[St.put];split
 ·rename_i e;rw[←e,W x k r hk]at h;exact absurd rfl h
 ·exact W x k r hk
theorem WF.new{J:St}(W:WF J)(x:Nat)(o:HO)(d:D):WF (J.new x o d):=fun y k r hk=>by
 simp only[St.new,St.inc,St.set,St.put]at hk⊢
 have hne:(y+1)::k::r≠J.tok x:=fun e=>by
  simp only[St.tok,List.cons.injEq]at e;obtain⟨e1,e2,_⟩:=e;have:y=x:=by omega
  subst this;rw[if_pos rfl]at hk;omega
 rw[if_neg hne];refine W y k r ?_;split at hk<;>omega
theorem WF.aG{J:St}(W:WF J)(g:Tok)(k:Nat):WF (J.aG g k):=W.sub fun _ _ h=>(cr h).1
theorem lV.aG(J:St)(g:Tok)(k:Nat):lV (J.aG g k).m J.m:=fun _ _ h=>(cr h).1
theorem lV.new{J:St}(W:WF J)(x:Nat)(o:HO)(d:D):lV J.m (J.new x o d).m:=fun t q h=>by
 have:t≠J.tok x:=fun e=>by rw[e,W.tok]at h;cases h
 simp[St.new,St.put,this,h]
theorem Ku{st:Eff}{J J':St}(W:WF J)(h:st.run Γ J=some J'):WF J'∧(st.news=true→lV J.m J'.m):=by
 have fresh: ∀x o d,J.new x o d=J'→WF J'∧lV J.m J'.m:=fun x o d e=>by subst e;exact⟨W.new x o d,lV.new W x o d⟩
 cases st with
 |box _ _ x a=>
  simp only[Eff.run,aid]at h;split at h
  ·have:=fresh _ _ _ (Option.some.inj h);exact⟨this.1,fun _=>this.2⟩
  ·cases h
 |store k _ a v=>
  refine⟨?_,fun e=>by simp[Eff.news]at e⟩;simp only[Eff.run,jN]at h;split at h
  ·split at h
   ·rename_i hm;split at h<;>cases h;exact W.put (by rw[hm];simp)
   ·cases h
  ·split at h
   ·rename_i hm;rw[Bz]at h;obtain⟨c,_,h⟩:=h;split at h<;>cases h;rename_i g0 e0 es0 _ _;intro x k r hk;simp only[St.put];split
    ·rename_i e;rw[←e,W x k r hk]at hm;cases hm
    ·exact W.aG _ _ x k r hk
   ·rename_i hm;split at h<;>cases h;exact W.put (by rw[hm];simp)
   ·cases h
  ·cases h
 |app x e size a b=>
  refine⟨?_,fun e=>by simp[Eff.news]at e⟩;simp only[Eff.run,sU]at h;rw[Bz]at h;obtain⟨es,_,h⟩:=h;split at h
  ·cases h
  split at h
  ·split at h
   ·cases h;exact W
   ·split at h<;>cases h;exact W.new _ _ _
  ·split at h
   ·cases h;exact W
   ·split at h
    ·split at h
     ·split at h
      ·split at h<;>cases h;exact(W.aG _ _).new _ _ _
      ·split at h<;>cases h;exact W.new _ _ _
     ·cases h
    ·cases h
  ·cases h
 |mks x e size zero a b=>
  simp only[Eff.run,CJ]at h;split at h
  ·split at h
   ·have:=fresh _ _ _ (Option.some.inj h);exact⟨this.1,fun _=>this.2⟩
   ·cases h
  ·cases h
 |lit x e size len zero places args=>
  simp only[Eff.run,CF]at h;split at h
  ·rw[Bz]at h;obtain⟨cs,_,h⟩:=h;split at h
   ·have:=fresh _ _ _ (Option.some.inj h);exact⟨this.1,fun _=>this.2⟩
   ·cases h
  ·cases h
 |mkm x=>exact⟨(fresh _ _ _ (Option.some.inj h)).1,fun _=>(fresh _ _ _ (Option.some.inj h)).2⟩
 |mkml x e s=>exact⟨(fresh _ _ _ (Option.some.inj h)).1,fun _=>(fresh _ _ _ (Option.some.inj h)).2⟩
 |clr s z a=>
  refine⟨?_,fun e=>by simp[Eff.news]at e⟩;simp only[Eff.run,zP]at h;split at h
  ·cases h;exact W
  ·cases h;exact W
  ·cases h;exact W
  ·split at h
   ·cases h;exact W
   ·split at h
    ·rename_i hm;split at h<;>cases h;intro x k r hk;simp only[St.put];split
     ·rename_i e;rw[←e,W x k r hk]at hm;cases hm
     ·exact W.aG _ _ x k r hk
    ·cases h
  ·cases h
 |ecall x k f args=>
  refine⟨?_,fun e=>by simp[Eff.news]at e⟩;simp only[Eff.run,kY]at h;split at h
  ·split at h
   ·obtain⟨q,_,h⟩:=Bz.1 h;split at h
    ·split at h<;>cases h;exact W
    ·cases h
   ·split at h
    ·rename_i hm;split at h
     ·obtain⟨q,_,h⟩:=Bz.1 h;split at h
      ·split at h<;>cases h;intro x k r hk;simp only[St.lO,St.put];split
       ·rename_i e;rw[←e,W x k r hk]at hm;cases hm
       ·exact W.aG _ _ x k r hk
      ·cases h
     ·cases h
    ·cases h
   ·cases h
  ·cases h
 |acall x e sz f args=>
  simp only[Eff.run,nQ]at h;split at h
  ·obtain⟨q,_,h⟩:=Bz.1 h;split at h
   ·split at h<;>cases h;have:=fresh _ _ _ rfl;exact⟨this.1,fun _=>this.2⟩
   ·cases h
  ·cases h
 |copy x a b=>
  refine⟨?_,fun e=>by simp[Eff.news]at e⟩;simp only[Eff.run,copyV]at h;split at h
  ·split at h
   ·rename_i hm _;split at h
    ·cases x with
     |none=>cases h;exact W.put (by rw[hm];simp)
     |some x=>cases h;exact WF.put W (by rw[hm];simp)
    ·cases h
   ·cases h
  ·cases h
 |mupd ks a k v=>
  refine⟨?_,fun e=>by simp[Eff.news]at e⟩;simp only[Eff.run,q9]at h;split at h
  ·split at h
   ·rename_i hm;split at h
    ·rw[Bz]at h;obtain⟨r,_,h⟩:=h;split at h
     ·obtain⟨p,_,rfl⟩:=Mz.1 h;exact W.put (by rw[hm];simp)
     ·split at h<;>cases h;exact W.put (by rw[hm];simp)
    ·cases h
   ·cases h
  ·cases h
theorem sJ{st:au}{J J':St}(W:WF J)(h:st.run Γ J=some J'):WF J'∧(st.news=true→lV J.m J'.m)∧((match st with| .op .. =>True|_=>False)→J'.m=J.m):=by
 cases st with
 |op x k args g=>
  obtain⟨d,rfl,_⟩:=iA h;exact⟨W,fun e=>by simp[au.news]at e,fun _=>rfl⟩
 |eff e g=>
  simp only[au.run]at h;rw[Bz]at h;obtain⟨c,hc,h⟩:=h;cases c
  ·simp only[cond_false,Jz]at h;subst h;refine⟨?_,fun _=> ?_,fun e=>e.elim⟩
   ·cases e.dst<;>exact W
   ·cases e.dst<;>exact fun _ _ h=>h
  ·obtain⟨h1,h2⟩:=Ku (Γ:=Γ) W h;exact⟨h1,h2,fun e=>e.elim⟩
 |bad=>cases h
theorem Kj{a b:au}{J J1 J2:St}(W:WF J)(hi:indep a b=true)(h1:a.run Γ J=some J1)(h2:b.run Γ J1=some J2): ∃J3,b.run Γ J=some J3∧a.run Γ J3=some J2:=by
 simp only[indep,Az]at hi;obtain⟨hap,hk⟩:=hi;cases a with
 |op x k args g=>
  simp only[apart,show(au.op x k args g).dst=some x from rfl,Az]at hap;obtain⟨⟨g1,g2⟩,g3⟩:=hap;have hx1:x∉b.reads:=by simpa using g1
  have hx2:b.dst≠some x:=fun e=>by rw[e]at g3;simp at g3
  obtain⟨d,rfl,Sr⟩:=iA h1;obtain⟨J3,k1,rfl,k3⟩:=Fs h2 hx1 hx2;refine⟨J3,k1,Sr J3 (fun j hj=>k3 j fun e=> ?_) ?_⟩
  ·grind
  ·simp only[Bool.or_eq_true]at hk;obtain⟨_,m1,m2⟩:=sJ W k1;rcases hk with(hk|hk)|hk
   ·left;cases b<;>try (cases hk;done)
    rw[m2 trivial];exact fun _ _ h=>h
   ·grind
   ·grind
 |_=>cases hk
end
end
section
def qx(sts:List au)(k:Nat):au:=sts.getD k default
def iN(e:Edge):Bool:=Region.binds .any e
def jA(ops:Array Oper)(M:Nat→Nat):Bool:=
 (List.range ops.size).all fun i=>
  match ops[i]? with
  |none=>false
  |some o=>o.after.toList.all (fun e=> !iN e||decide (e.on<i))&&
   (List.range ops.size).all fun k=> !(M i).testBit k||o.after.toList.any fun e=>iN e&&(e.on==k||(M e.on).testBit k)
def aK(L:Array Bool)(i:Nat):Bool:=L.getD i false
def bj(ops:Array Oper)(L:Array Bool):List Nat:=(List.range ops.size).filter fun i=> !aK L i
def oI(ops:Array Oper)(sts:List au)(M:Nat→Nat)(L:Array Bool)(i:Nat):Bool:=
 (List.range ops.size).all fun j=>aK L j||j==i||(M j).testBit i||indep (qx sts i) (qx sts j)
def pick(ops:Array Oper)(sts:List au)(M:Nat→Nat)(L:Array Bool):Option Nat:=(Region.ready .any ops L).find? (oI ops sts M L)
def rT(ops:Array Oper)(sts:List au)(M:Nat→Nat):Nat→Array Bool→List (List Nat)
 |0,_=> [[]]
 |n+1,L=>match pick ops sts M L with
  |some i=>(rT ops sts M n (L.setIfInBounds i true)).map (i:: ·)
  |none=>(Region.ready .any ops L).flatMap fun i=>(rT ops sts M n (L.setIfInBounds i true)).map (i:: ·)
section
variable {P : Program} {fr : pI} {w0 : World} {pr : aX} {A : iJ} {n : Nat} {Γ : Env} {ops : Array Oper}
theorem lq{L:Array Bool}{i:Nat}(hi:i<L.size)(k:Nat):aK (L.setIfInBounds i true) k=(aK L k||k==i):=by
 simp only[aK,Array.getD_eq_getD_getElem?]
 grind
theorem bO{L:Array Bool}(hL:L.size=ops.size){i:Nat}(h:i∈Region.ready .any ops L):
  i<ops.size∧aK L i=false∧ ∃o,ops[i]?=some o∧ ∀e∈o.after,iN e=true→aK L e.on=true:=by
 simp only[Region.ready,List.mem_filter,List.mem_range,Az]at h;obtain⟨h1,h2,h3⟩:=h
 have hl:aK L i=false:=by
  simp only[aK]at*
  grind
 refine⟨h1,hl,ops[i],Rz h1,fun e he hb=> ?_⟩;rw[Rz h1]at h3;simp only[Pz,Option.getD_some,Array.all_eq_true_iff_forall_mem]at h3;have:=h3 e he;have hb':Region.binds .any e=true:=hb;rw[hb']at this;simpa[aK]using this
theorem mA{L:Array Bool}{M:Nat→Nat}(hL:L.size=ops.size)(hB:jA ops M=true){i:Nat}(hi:i<ops.size)(hu:aK L i=false)(hlt: ∀k,k<i→aK L k=true):i∈Region.ready .any ops L:=by
 simp only[Region.ready,List.mem_filter,List.mem_range,Az];refine⟨hi, ?_, ?_⟩
 ·simp only[aK]at*
  grind
 ·rw[Rz hi];simp only[Pz,Option.getD_some,Array.all_eq_true_iff_forall_mem];intro e he;simp only[jA,Tz,List.mem_range]at hB;have:=hB i hi;rw[Rz hi]at this;simp only[Az,Tz]at this;have h1:=this.1 e (by simpa using he);cases hb:Region.binds .any e
  ·simp
  ·simp only[iN,hb,Bool.not_true,Bool.false_or,decide_eq_true_eq]at h1;have:=hlt _ h1;simpa[aK]using this
def nO(ops:Array Oper)(L:Array Bool):Prop:= ∀i o,ops[i]?=some o→aK L i=true→ ∀e∈o.after,iN e=true→aK L e.on=true
theorem xB{L:Array Bool}{M:Nat→Nat}(hB:jA ops M=true)(hC:nO ops L): ∀(i:Nat),i<ops.size→(aK L i=true∨ ∃o,ops[i]?=some o∧ ∀e∈o.after,iN e=true→aK L e.on=true)→
  ∀k,k<ops.size→(M i).testBit k=true→aK L k=true:=by
 intro i
 induction i using Nat.strongRecOn with
 |_ i ih=>
  intro hi hl k hk hm;have hB':=hB;simp only[jA,Tz,List.mem_range]at hB';have:=hB' i hi;rw[Rz hi]at this;simp only[Az,Tz,List.mem_range]at this
  have hed: ∀e∈ops[i].after,iN e=true→aK L e.on=true:=by
   rcases hl with hl|⟨o,ho,hl⟩
   ·exact hC i _ (Rz hi) hl
   ·grind
  have h2:=this.2 k hk;rw[hm]at h2
  grind
def Full(Γ:Env)(ops:Array Oper)(sts:List au)(K:St→Prop):Nat→Array Bool→St→Prop
 |0,_,J=>K J
 |n+1,L,J=> ∀i∈Region.ready .any ops L,∃J1,(qx sts i).run Γ J=some J1∧Full Γ ops sts K n (L.setIfInBounds i true) J1
theorem uo{L:Array Bool}(hL:L.size=ops.size){i j:Nat}(hi:i∈Region.ready .any ops L)(hj:j∈Region.ready .any ops L)(hne:j≠i):j∈Region.ready .any ops (L.setIfInBounds i true):=by
 obtain⟨i1,i2,_⟩:=bO hL hi;obtain⟨j1,j2,o,ho,hed⟩:=bO hL hj;have fK:=fun k=>lq (L:=L) (i:=i) (by omega) k;simp only[Region.ready,List.mem_filter,List.mem_range,Az,Bool.not_eq_true'];have hsz:(L.setIfInBounds i true).size=ops.size:=by simpa using hL
 refine⟨j1, ?_, ?_⟩
 ·have:aK (L.setIfInBounds i true) j=false:=by rw[fK,j2];simpa using hne
  have hlt:j<(L.setIfInBounds i true).size:=by omega
  simp only[aK,Array.getD_eq_getD_getElem?,Rz hlt]at this⊢;exact this
 ·rw[ho];simp only[Pz,Option.getD_some,Array.all_eq_true_iff_forall_mem];intro e he;cases hb:Region.binds .any e
  ·simp
  ·have:=hed e he hb;have h2:aK (L.setIfInBounds i true) e.on=true:=by rw[fK,this];rfl
   simpa[aK]using h2
theorem dS{L:Array Bool}(hL:L.size=ops.size){i:Nat}(hi:i<ops.size)(hu:aK L i=false){k:Nat}(hk:(bj ops L).length=k+1):(bj ops (L.setIfInBounds i true)).length=k:=by
 have fK:=fun k=>lq (L:=L) (i:=i) (by omega) k;have qc:i∈bj ops L:=by simp[bj,hi,hu]
 have e:bj ops (L.setIfInBounds i true)=(bj ops L).filter (· !=i):=by
  simp only[bj,List.filter_filter]
  grind
 have hnd:(bj ops L).Nodup:=List.Nodup.sublist List.filter_sublist List.nodup_range;rw[e,←List.Nodup.erase_eq_filter hnd,List.length_erase_of_mem qc,hk];rfl
theorem nW{L:Array Bool}(hL:L.size=ops.size){i:Nat}(hi:i∈Region.ready .any ops L)(hC:nO ops L):nO ops (L.setIfInBounds i true):=fun k ok hok hk e he hb=>by
 obtain⟨i1,i2,o,ho,hed⟩:=bO hL hi;rw[lq (by omega)]at hk⊢;rw[Bool.or_eq_true]at hk⊢;rcases hk with hk|hk
 ·exact .inl (hC k ok hok hk e he hb)
 ·have:k=i:=by simpa using hk
  subst this;rw[ho]at hok;cases hok;exact .inl (hed e he hb)
theorem yz(L:Array Bool)(i j:Nat):(L.setIfInBounds i true).setIfInBounds j true=(L.setIfInBounds j true).setIfInBounds i true:=by
 grind
theorem vj{sts:List au}{K:St→Prop}{M:Nat→Nat}(hB:jA ops M=true): ∀(k:Nat) (L:Array Bool) (i:Nat) (J J1:St),L.size=ops.size→nO ops L→(bj ops L).length=k+1→WF J→i∈Region.ready .any ops L→
  oI ops sts M L i=true→(qx sts i).run Γ J=some J1→Full Γ ops sts K k (L.setIfInBounds i true) J1→Full Γ ops sts K (k+1) L J:=by
 intro k
 induction k with
 |zero=>
  intro L i J J1 hL hC hu W hi hf h1 hF j hj;obtain⟨i1,i2,_⟩:=bO hL hi;obtain⟨j1,j2,_⟩:=bO hL hj
  have rK: ∀q,q∈bj ops L→ ∀q',q'∈bj ops L→q=q':=by
   cases hl:bj ops L with
   |nil=>simp[hl]at hu
   |cons a r=>
    rw[hl]at hu;have:r= []:=List.eq_nil_of_length_eq_zero (by simpa using hu);subst this;intro q hq q' hq';simp at hq hq';rw[hq,hq']
  have:j=i:=rK j (by simp[bj,j1,j2]) i (by simp[bj,i1,i2]);subst this;exact⟨J1,h1,hF⟩
 |succ k ih=>
  intro L i J J1 hL hC hu W hi hf h1 hF j hj;obtain⟨i1,i2,_⟩:=bO hL hi;obtain⟨j1,j2,oj,hoj,acw⟩:=bO hL hj;by_cases hji:j=i
  ·subst hji;exact⟨J1,h1,hF⟩
  ·obtain⟨J2,h2,hF2⟩:=hF j (uo hL hi hj hji)
   have hnd:(M j).testBit i=false:=by
    cases hb:(M j).testBit i
    ·rfl
    ·have:=xB hB hC j j1 (.inr ⟨oj,hoj,acw⟩) i i1 hb;rw[i2]at this;cases this
   have acz:indep (qx sts i) (qx sts j)=true:=by
    simp only[oI,Tz,List.mem_range,Bool.or_eq_true,beq_iff_eq]at hf;rcases hf j j1 with((h|h)|h)|h
    ·rw[j2]at h;cases h
    ·exact absurd h hji
    ·rw[hnd]at h;cases h
    ·exact h
   obtain⟨J3,h3,h4⟩:=Kj W acz h1 h2;refine⟨J3,h3,ih (L.setIfInBounds j true) i J3 J2 (by simpa using hL) (nW hL hj hC) (dS hL j1 j2 hu) (sJ W h3).1 (uo hL hj hi (fun e=>hji e.symm)) ?_ h4 ?_⟩
   ·simp only[oI,Tz,List.mem_range,Bool.or_eq_true,beq_iff_eq]at hf⊢;intro q hq;rcases hf q hq with((h|h)|h)|h
    ·left;left;left;rw[lq (by omega),h];rfl
    ·exact .inl (.inl (.inr h))
    ·exact .inl (.inr h)
    ·exact .inr h
   ·rw[←yz];exact hF2
theorem xU{sts:List au}{K:St→Prop}{M:Nat→Nat}(hB:jA ops M=true): ∀(k:Nat) (L:Array Bool) (J:St),L.size=ops.size→nO ops L→(bj ops L).length=k→WF J→
  (∀s∈rT ops sts M k L,∃J',runs Γ (s.map (qx sts)) J=some J'∧K J')→Full Γ ops sts K k L J:=by
 intro k
 induction k with
 |zero=>
  intro L J hL hC hu W h;obtain⟨J',h1,h2⟩:=h [] (by simp[rT]);simp only[List.map_nil,runs,Jz]at h1;subst h1;exact h2
 |succ k ih=>
  intro L J hL hC hu W h
  have step: ∀i,i∈Region.ready .any ops L→(rT ops sts M k (L.setIfInBounds i true))≠ []→(∀s∈rT ops sts M k (L.setIfInBounds i true),∃J',runs Γ ((i::s).map (qx sts)) J=some J'∧K J')→
    ∃J1,(qx sts i).run Γ J=some J1∧Full Γ ops sts K k (L.setIfInBounds i true) J1:=by
   intro i hi hne hs;obtain⟨i1,i2,_⟩:=bO hL hi;cases hr:(qx sts i).run Γ J with
   |none=>
    cases hq:rT ops sts M k (L.setIfInBounds i true)with
    |nil=>exact absurd hq hne
    |cons s r=>
     obtain⟨J',h1,_⟩:=hs s (by rw[hq];simp);simp[runs,hr]at h1
   |some J1=>
    refine⟨J1,rfl,ih _ J1 (by simpa using hL) (nW hL hi hC) (dS hL i1 i2 hu) (sJ W hr).1 fun s hss=> ?_⟩;obtain⟨J',h1,h2⟩:=hs s hss;exact⟨J',by simpa[runs,hr]using h1,h2⟩
  have nonempty: ∀(k:Nat) (L:Array Bool),L.size=ops.size→(bj ops L).length=k→rT ops sts M k L≠ []:=by
   intro k
   induction k with
   |zero=>intro L _ _;simp[rT]
   |succ k ih2=>
    intro L hL hu
    have hrd:Region.ready .any ops L≠ []:=fun hr=>by
     have all: ∀q,q<ops.size→aK L q=true:=by
      intro q
      induction q using Nat.strongRecOn with
      |_ q ihq=>
       intro hq;cases hl:aK L q
       ·have:=mA hL hB hq hl fun j hj=>ihq j hj (by omega)
        grind
       ·rfl
     have:bj ops L= []:=by
      simp only[bj,List.filter_eq_nil_iff,List.mem_range]
      grind
     grind
    simp only[rT];split
    ·rename_i i hp;have hi:=List.mem_of_find?_eq_some hp;obtain⟨i1,i2,_⟩:=bO hL hi;have:=ih2 (L.setIfInBounds i true) (by simpa using hL) (dS hL i1 i2 hu);simpa using this
    ·cases hq:Region.ready .any ops L with
     |nil=>exact absurd hq hrd
     |cons i r=>
      have hi:i∈Region.ready .any ops L:=by rw[hq];simp
      obtain⟨i1,i2,_⟩:=bO hL hi;have:=ih2 (L.setIfInBounds i true) (by simpa using hL) (dS hL i1 i2 hu);simp[this]
  simp only[rT]at h;split at h
  ·rename_i i hp;have hi:=List.mem_of_find?_eq_some hp;obtain⟨i1,i2,_⟩:=bO hL hi;obtain⟨J1,h1,h2⟩:=step i hi (nonempty k _ (by simpa using hL) (dS hL i1 i2 hu)) fun s hs=>h (i::s) (by simpa using hs);exact vj hB k L i J J1 hL hC hu W hi (List.find?_some hp) h1 h2
  ·intro i hi;obtain⟨i1,i2,_⟩:=bO hL hi;exact step i hi (nonempty k _ (by simpa using hL) (dS hL i1 i2 hu)) fun s hs=>h (i::s) (by simp only[List.mem_flatMap,List.mem_map];exact⟨i,hi,s,hs,rfl⟩)
theorem Rel.wf{w:World}{cs:Array Value}{J:St}{tk:ahw}(R:Rel P w0 pr A n w cs J tk):WF J:=fun x k r hk=>by
 cases h:J.m ((x+1)::k::r)with
 |none=>rfl
 |some o=>
  obtain⟨b,c,h1,_⟩:=(R.mem.obj _ o h).place;rw[R.fresh x k r hk]at h1;cases h1
theorem E6{r:Option Nat}{B:fe}(hΓ:Sound P Γ){M:Nat→Nat}(hB:jA ops M=true){Q:Exit→Act→World→Prop}{df:List Deferred}{K:St→Prop}(hQ: ∀a' w' J',a'.defers=df→dm P B n w' a'.tmps J'→K J'→Q .normal a' w'):
  ∀(k:Nat) (L:Array Bool) (a:Act) (w:World) (J:St),L.size=ops.size→nO ops L→(bj ops L).length=k→a.defers=df→dm P B n w a.tmps J→
   Full Γ ops (B3 P fr n ops) K k L J→wpAnyIn (wF r) 0 P .any ops Q k L a w:=by
 have gY: ∀i o,ops[i]?=some o→qx (B3 P fr n ops) i=B4 P fr n ops o:=fun i o h=>by
  simp[qx,B3,h]
 have ZS: ∀{L:Array Bool},L.size=ops.size→Region.ready .any ops L= []→ ∀k,k<ops.size→aK L k=true:=by
  intro L hL hr k
  induction k using Nat.strongRecOn with
  |_ k ih=>
   intro hk;cases hl:aK L k
   ·have:=mA hL hB hk hl fun j hj=>ih j hj (by omega)
    grind
   ·rfl
 intro k
 induction k with
 |zero=>
  intro L a w J hL hC hu hdf R hF;refine⟨?_,hQ a w J hdf R hF⟩;cases hr:Region.ready .any ops L with
  |nil=>rfl
  |cons i r=>
   obtain⟨h1,h2,_⟩:=bO hL (i:=i) (by rw[hr];simp);have:i∈bj ops L:=by simp[bj,h1,h2]
   grind
 |succ k ih=>
  intro L a w J hL hC hu hdf R hF;refine⟨fun hr=> ?_,fun i hi=> ?_⟩
  ·exfalso
   have:bj ops L= []:=by
    simp only[bj,List.filter_eq_nil_iff]
    grind
   grind
  ·obtain⟨i1,i2,o,ho,_⟩:=bO hL hi;obtain⟨J1,h1,h2⟩:=hF i hi;rw[gY i o ho]at h1
   have:=qy (r:=r) hΓ R h1 (wpAnyIn (wF r) 0 P .any ops Q k (L.setIfInBounds i true)) Q fun a' w' acu R'=>
    ih (L.setIfInBounds i true) a' w' J1 (by simpa using hL) (nW hL hi hC) (dS hL i1 i2 hu) (acu.trans hdf) R' h2
   unfold wpOpIn;simp only[ho];split
   ·rename_i hw;rw[if_pos hw]at this;exact this
   ·rename_i hw;rw[if_neg hw]at this;exact⟨fun _ _=>trivial,this⟩
def CO(P:Program)(fr:pI)(n:Nat)(ops:Array Oper):Option (List (List au)):=
 let b:=Region.before ops
 if jA ops (fun i=>b.getD i 0)then some ((rT ops (B3 P fr n ops) (fun i=>b.getD i 0) ops.size (Array.replicate ops.size false)).map fun s=>s.map (qx (B3 P fr n ops)))else none
theorem dm.wf{B:fe}{w:World}{cs:Array Value}{J:St}(R:dm P B n w cs J):WF J:=let⟨_,_,_,_,R,_⟩:=R;R.wf
theorem Af{r:Option Nat}{B:fe}(hΓ:Sound P Γ)(hm:P.follows .mixedOrders=true){id:Nat}{Q:Exit→Act→World→Prop}{w:World}{J:St}{K:St→Prop}{a:Act}{ss:List (List au)}
  (R:dm P B n w a.tmps J) (hd:CO P fr n ops=some ss) (hr: ∀s∈ss,∃J',runs Γ s J=some J'∧K J')
  (hQ: ∀a' w' J',a'.defers=a.defers→dm P B n w' a'.tmps J'→K J'→Q .normal a' w'):Code.vP r P (Code.region id ops true) Q a w:=by
 apply wpIn_region_any hm;simp only[CO]at hd;split at hd<;>cases hd;rename_i hB
 have hun: ∀k,aK (Array.replicate ops.size false) k=false:=fun k=>by
  simp only[aK,Array.getD_eq_getD_getElem?]
  grind
 have hC:nO ops (Array.replicate ops.size false):=fun i o ho hl=>by rw[hun i]at hl;cases hl
 have hu:(bj ops (Array.replicate ops.size false)).length=ops.size:=by
  have:bj ops (Array.replicate ops.size false)=List.range ops.size:=List.filter_eq_self.2 fun k _=>by rw[hun k];rfl
  grind
 have hg:dU (fun _=>False) w {w with drawn:=w.drawn+1}:=⟨rfl,rfl,rfl,Nat.le_refl _,fun _ _ _=>rfl,Nat.le_succ _⟩
 have R':dm P B n {w with drawn:=w.drawn+1} a.tmps J:=by
  obtain⟨w1,pr,A,tk,R,U⟩:=R;have K:=R.jG hg (fun _ _ h=>h);exact⟨w1,pr,A,tk,⟨R.size,R.chg.trans hg (fun _ _ h=>h.elim),R.prlt,R.prA,R.glob.keeps K.cell,R.mem.keeps K fun _ _ _ _ _ _=>rfl,R.live,R.fresh,R.zero,R.one,fun i hi=>(R.slot i hi).keeps K,fun i hi=>(R.sav i hi).keeps K⟩,U⟩
 exact E6 hΓ hB hQ ops.size _ a _ J (by simp) hC hu rfl R' (xU hB _ _ _ (by simp) hC hu R.wf fun s hs=>hr _ (List.mem_map.2 ⟨s,hs,rfl⟩))
end
end
section
abbrev FP:=Nat→List D→Option D
def bw(G:FP):Env:=⟨G,fun f ds=>(G (1000001000000+f) ds).map fun d=>(d.bare,dI),fun _ _ _=>none,fun k f ds=>G (1000000+(1000000*k+f)) ds⟩
def X3:FP:=fun _ _=>none
inductive XK where
 |pk (k:PK)
 |call (fl:Bool) (f:Nat)
 |ccall (fl:Bool)
 |agg
 |tup
 |clo (f:Nat)
 |lptr
 |cell (j n:Nat)
 |qo
 |gv (w:Bool)
 |bt
 |eu
 |app (size:Nat)
 |lit (size len:Nat) (zero:List D) (places:List (Nat×Nat))
 |mks (size:Nat) (zero:List D)
 |setl (size j n:Nat)
 |take
 |mget (ks:List Nat) (z:D) (ok:Bool)
 |mset (ks:List Nat)
 |rngi (n:Nat)
 |geta (n s j m:Nat) (g:Bool)
 |seta (n s j m:Nat)
 |ecall (k f sz:Nat)
 |mkl
 |isc (f n:Nat)
 |capc (f i n:Nat)
 |mapp (ks:List Nat) (sz:Nat)
 |fmk
 |drp
 |clr (zero:List D)
 |adn
 |own
 deriving Inhabited
def pa(ks:List Nat)(z:D)(ok:Bool)(es:List (D×D))(k:D):Option D:=
 if k.zt=true∧cj ks k k=some true then(cG ks k es 0).bind fun r=>match r with
  |none=>some (if ok then .tup [z,bv false]else z)
  |some i=>(es[i]?).map fun p=>if ok then .tup [p.2,bv true]else p.2
 else none
def ua(ks:List Nat)(es:List (D×D))(k v:D):Option (List (D×D)):=
 if v.zt=true∧k.zt=true∧cj ks k k=some true then(cG ks k es 0).bind fun r=>match r with
  |some i=>(es[i]?).map fun p=>es.set i (p.1,v)
  |none=>if es.length<aD then some (es++ [(k,v)])else none
 else none
def D.Vb:D→Bool
 | .v _| .list _| .lptr _=>true
 |_=>false
def D.nG:D→Bool
 | .clo _ xs=>xs.all D.Vb
 |d=>d.Vb
def tW(ks:List Nat)(sz:Nat)(es:List (D×D))(k:D)(b:List (List D)):Option (List (D×D)):=
 if(k.zt=true∧cj ks k k=some true)∧(b.all fun c=>c.length==sz&&c.all D.nG)=true∧b.isEmpty=false then(cG ks k es 0).bind fun r=>match r with
  |some i=>match es[i]? with
   |some (k0, .list rows)=>if rows.length+b.length≤aD then some (es.set i (k0, .list (rows++b)))else none
   |_=>none
  |none=>if es.length<aD∧b.length≤aD then some (es++ [(k, .list b)])else none
 else none
def gn(G:FP)(fl:Bool)(f:Nat)(ds:List D):Option D:=(G f ds).bind fun r=>if(if fl then r.bare.flat||r.eS&&r.bare.aF else r.bare.aF)then some r.bare else none
def aQ(size:Nat)(es:List (List D)):Bool:=es.all fun c=>c.length==size&&c.all D.nG
def lN:D→Option (List (List D))
 | .list es=>some es
 | .nil| .mt=>some []
 |_=>none
def XK.run(G:FP):XK→List D→Option D
 | .pk k,ds=>(k.run (bw X3) dI ds).bind fun d=>if d.aF then some d else none
 | .call fl f,ds=>gn G fl f ds
 | .ccall fl,ds=>match ds with
  | .clo f eK::r=>if f<1000000 then(eK.mapM (bu dI)).bind fun cs=>gn G fl f (r++cs)else none
  |_=>none
 | .agg,ds=>if ds.all D.aO then some (.agg ds)else none
 | .tup,ds=>some (.tup ds)
 | .clo f,ds=>if ds.all D.aO then some (.clo f ds)else none
 | .lptr,ds=>some (.lptr ds)
 | .cell j n,ds=>match ds with
  | [d]=>if d.cells.length=n∧d.cells.all D.gH=true∧d.cells.all D.aO=true then d.cells[j]? else none
  |_=>none
 | .qo,ds=>match ds with
  | [d]=>if d.gH=true∧d.aF=true then some d else none
  |_=>none
 | .gv w,ds=>match ds with
  | [.v (.bool b)]=>some (bv (b==w))
  | [.tup _]=>some (bv false)
  |_=>none
 | .bt,ds=>match ds with
  | [d]=>if d.aF then bu dI d else none
  |_=>none
 | .eu,ds=>match ds with
  | [d]=>if d.aO then ay dI 6 d else none
  |_=>none
 | .app size,ds=>match ds with
  | [a,b]=>(lN a).bind fun a=>(lN b).bind fun b=>if aQ size b=true∧a.length+b.length≤aD then some (.list (a++b))else none
  |_=>none
 | .lit size len zero places,ds=>if ds.all (fun d=>d.cells.all D.gH)then(ahI zero places ds).bind fun cs=>if cs.length=len*size∧aQ size (kV size len (cs.map D.nz))=true then some (.list (kV size len (cs.map D.nz)))else none else none
 | .mks size zero,ds=>match ds with
  | [.v (.int _ l), .v (.int _ c)]=>if 0≤l∧l≤c∧c≤aD∧c.toNat*size≤16777216∧zero.length=size∧zero.all D.nG=true then some (.list (List.replicate l.toNat zero))else none
  |_=>none
 | .setl size j n,ds=>match ds with
  | [.list es, .v (.int _ i),v]=>if i<0 then none else(es[i.toNat]?).bind fun c=>if v.cells.length=n∧j+n≤size∧c.length=size∧v.cells.all D.gH=true∧v.cells.all D.nG=true then some (.list (es.set i.toNat (putAt c j v.cells)))else none
  |_=>none
 | .take,ds=>match ds with
  | [.list es, .v (.int _ k)]=>if 0≤k∧k≤es.length then some (.list (es.take k.toNat))else none
  |_=>none
 | .mget ks z ok,ds=>match ds with
  | [.list rows,k]=>(aC rows).bind fun es=>(pa ks z ok es k).bind fun d=>if d.aF then some d else none
  |_=>none
 | .mset ks,ds=>match ds with
  | [.list rows,k,v]=>(aC rows).bind fun es=>(ua ks es k v).map fun es=> .list (aH es)
  |_=>none
 | .rngi n,ds=>match ds with
  | [.v (.int _ i)]=>if 0≤i∧i<n then some (.tup [])else none
  |_=>none
 | .geta n s j m g,ds=>match ds with
  | [.agg xs, .v (.int _ i)]=>if 0≤i∧i<n∧j+m≤s∧n*s≤xs.length then(if g then(if((xs.drop (i.toNat*s+j)).take m).all D.aO then some (.agg ((xs.drop (i.toNat*s+j)).take m))else none)else(xs[i.toNat*s+j]?).bind fun d=>if d.aF then some d else none)else none
  |_=>none
 | .seta n s j m,ds=>match ds with
  | [.agg xs, .v (.int _ i),v]=>if 0≤i∧i<n∧j+m≤s∧n*s≤xs.length∧v.cells.length=m∧v.cells.all D.gH=true∧v.cells.all D.aO=true∧xs.all D.aO=true then some (.agg (putAt xs (i.toNat*s+j) v.cells))else none
  |_=>none
 | .ecall k f sz,ds=>if(ds.set k .nil).all D.aF=true∧f<1000000 then(match ds[k]? with
  |some (.list es)=>(G (1000000+(1000000*k+f)) ds).bind fun r=>match r with
   | .tup [d, .list es']=>if d.aF=true∧es'.length=es.length∧aQ sz es'=true then some (.tup [d, .list es'])else none
   |_=>none
  |_=>none)else none
 | .drp,ds=>match ds with
  | [.list es, .v (.int _ k)]=>if 0≤k∧k≤es.length then some (.list (es.drop k.toNat))else none
  |_=>none
 | .clr zero,ds=>match ds with
  | [.list es, .v (.int _ k)]=>if 0≤k∧k≤es.length then some (.list (es.take k.toNat++List.replicate (es.length-k.toNat) zero))else none
  |_=>none
 | .adn,ds=>match ds with
  | [.v (.int _ a), .v (.int q b)]=>if 0≤a∧0≤b then some (.v (.int q (a+b)))else none
  |_=>none
 | .fmk,ds=>match ds with
  | [.list rows]=>(aC rows).bind fun es=>if es.all (fun p=>p.1.aF&&p.2.aF)then some (.fm rows)else none
  |_=>none
 | .mapp ks sz,ds=>match ds with
  | [.list rows,k,b]=>(aC rows).bind fun es=>(lN b).bind fun b=>(tW ks sz es k b).map fun es=> .list (aH es)
  |_=>none
 | .own,ds=>match ds with
  | [d]=>some d
  |_=>none
 | .mkl,ds=>some (.list (ds.map fun d=> [d]))
 | .isc f n,ds=>match ds with
  | [.clo g xs]=>if g=f∧xs.length=n then some (.tup [])else none
  |_=>none
 | .capc f i n,ds=>match ds with
  | [.clo g xs]=>if g=f∧xs.length=n then(xs[i]?).bind fun d=>if d.aF then some d else none else none
  |_=>none
inductive X where
 |t (i:Nat)
 |q (d:D)
 |mk (k:XK) (xs:List X)
 |ite (c a b:X)
 deriving Inhabited
mutual
def X.ev(G:FP)(E:List D):X→Option D
 | .t i=>E[i]?
 | .q d=>some d
 | .mk k xs=>(X.bm G E xs).bind (k.run G)
 | .ite c a b=>(X.ev G E c).bind fun v=>v.asBool.bind fun x=>bif x then X.ev G E a else X.ev G E b
def X.bm(G:FP)(E:List D):List X→Option (List D)
 | []=>some []
 |x::r=>(X.ev G E x).bind fun d=>(X.bm G E r).map fun ds=>d::ds
end
theorem cY{G:FP}{E:List D}: ∀{xs:List X} {ds:List D},X.bm G E xs=some ds→ds.length=xs.length
 | [],ds,h=>by simp[X.bm]at h;subst h;rfl
 |x::r,ds,h=>by
  simp only[X.bm,Bz,Mz]at h;obtain⟨d,_,ds',h2,rfl⟩:=h;simp[cY h2]
theorem fy{G:FP}{E:List D}: ∀{xs:List X} {ds:List D},X.bm G E xs=some ds→ ∀(i:Nat) (x:X) (d:D),xs[i]?=some x→ds[i]?=some d→X.ev G E x=some d
 | [],ds,_,i,x,d,hx,_=>by simp at hx
 |x::r,ds,h,i,y,d,hx,hd=>by
  simp only[X.bm,Bz,Mz]at h;obtain⟨d0,h1,ds',h2,rfl⟩:=h;cases i with
  |zero=>simp at hx hd;subst hx;subst hd;exact h1
  |succ i=>exact fy h2 i y d (by simpa using hx) (by simpa using hd)
theorem tv{G:FP}{E:List D}: ∀{xs:List X} {ds:List D},xs.length=ds.length→(∀(i:Nat) (x:X) (d:D),xs[i]?=some x→ds[i]?=some d→X.ev G E x=some d)→X.bm G E xs=some ds
 | [],[],_,_=>rfl
 |x::r,d::ds,hl,h=>by
  simp only[X.bm,h 0 x d rfl rfl,Oz,tv (xs:=r) (ds:=ds) (by simpa using hl) fun i y e hy he=>h (i+1) y e (by simpa using hy) (by simpa using he),Pz]
 | [],_::_,hl,_=>by simp at hl
 |_::_,[],hl,_=>by simp at hl
mutual
def X.lt(k:Nat):X→Bool
 | .t i=>decide (i<k)
 | .q _=>true
 | .mk _ xs=>X.lts k xs
 | .ite c a b=>X.lt k c&&X.lt k a&&X.lt k b
def X.lts(k:Nat):List X→Bool
 | []=>true
 |x::r=>X.lt k x&&X.lts k r
end
mutual
theorem wa{G:FP}{E E':List D}{k:Nat}(h: ∀i,i<k→E[i]?=E'[i]?): ∀(x:X),X.lt k x=true→X.ev G E x=X.ev G E' x
 | .t i,hx=>by simp only[X.lt,decide_eq_true_eq]at hx;exact h i hx
 | .q _,_=>rfl
 | .mk kk xs,hx=>by simp only[X.lt]at hx;simp only[X.ev,Ht h xs hx]
 | .ite c a b,hx=>by
  simp only[X.lt,Az]at hx;simp only[X.ev,wa h c hx.1.1,wa h a hx.1.2,wa h b hx.2]
theorem Ht{G:FP}{E E':List D}{k:Nat}(h: ∀i,i<k→E[i]?=E'[i]?): ∀(xs:List X),X.lts k xs=true→X.bm G E xs=X.bm G E' xs
 | [],_=>rfl
 |x::r,hx=>by
  simp only[X.lts,Az]at hx;simp only[X.bm,wa h x hx.1,Ht h r hx.2]
end
mutual
theorem bx{G:FP}{E s:List D}: ∀(x:X) (d:D),X.ev G E x=some d→X.ev G (E++s) x=some d
 | .t i,d,h=>by simp only[X.ev]at h⊢;rw[Yz (Gz.1 h).1];exact h
 | .q _,_,h=>h
 | .mk k xs,d,h=>by
  simp only[X.ev,Bz]at h⊢;obtain⟨ds,h1,h2⟩:=h;exact⟨ds,Aj xs ds h1,h2⟩
 | .ite c a b,d,h=>by
  simp only[X.ev,Bz]at h⊢;obtain⟨v,h1,x,h2,h3⟩:=h;refine⟨v,bx c v h1,x,h2, ?_⟩;cases x
  ·exact bx b d h3
  ·exact bx a d h3
theorem Aj{G:FP}{E s:List D}: ∀(xs:List X) (ds:List D),X.bm G E xs=some ds→X.bm G (E++s) xs=some ds
 | [],_,h=>h
 |x::r,ds,h=>by
  simp only[X.bm,Bz,Mz]at h⊢;obtain⟨d,h1,ds',h2,rfl⟩:=h;exact⟨d,bx x d h1,ds',Aj r ds' h2,rfl⟩
end
def pR:Value→Value→Bool
 | .int k a, .int k' b=>decide (k=k'∧a=b)
 | .bool a, .bool b=>a==b
 | .nilFunc, .nilFunc=>true
 | .nilIface, .nilIface=>true
 | .pointer none, .pointer none=>true
 |_,_=>false
theorem vX{a b:Value}(h:pR a b=true):a=b:=by
 unfold pR at h
 grind
mutual
def ij:D→D→Bool
 | .v x, .v y=>pR x y
 | .nil, .nil=>true
 | .nilmap, .nilmap=>true
 | .mt, .mt=>true
 | .tup xs, .tup ys=>hD xs ys
 | .agg xs, .agg ys=>hD xs ys
 | .lptr xs, .lptr ys=>hD xs ys
 | .list xs, .list ys=>pQ xs ys
 | .clo f xs, .clo g ys=>f==g&&hD xs ys
 |_,_=>false
def hD:List D→List D→Bool
 | [],[]=>true
 |a::r,b::s=>ij a b&&hD r s
 |_,_=>false
def pQ:List (List D)→List (List D)→Bool
 | [],[]=>true
 |a::r,b::s=>hD a b&&pQ r s
 |_,_=>false
end
mutual
theorem DQ: ∀{a b:D},ij a b=true→a=b
 | .v x,b,h=>by
  cases b<;>first|(rename_i y;rw[vX (a:=x) (b:=y) (by simpa only[ij]using h)];done)|(simp[ij]at h;done)
 | .nil,b,h=>by cases b<;>first|rfl|(simp[ij]at h;done)
 | .nilmap,b,h=>by cases b<;>first|rfl|(simp[ij]at h;done)
 | .mt,b,h=>by cases b<;>first|rfl|(simp[ij]at h;done)
 | .tup xs,b,h=>by
  cases b<;>first|(rename_i ys;rw[dX (a:=xs) (b:=ys) (by simpa only[ij]using h)];done)|(simp[ij]at h;done)
 | .agg xs,b,h=>by
  cases b<;>first|(rename_i ys;rw[dX (a:=xs) (b:=ys) (by simpa only[ij]using h)];done)|(simp[ij]at h;done)
 | .lptr xs,b,h=>by
  cases b<;>first|(rename_i ys;rw[dX (a:=xs) (b:=ys) (by simpa only[ij]using h)];done)|(simp[ij]at h;done)
 | .list xs,b,h=>by
  cases b<;>first|(rename_i ys;rw[vV (a:=xs) (b:=ys) (by simpa only[ij]using h)];done)|(simp[ij]at h;done)
 | .clo f xs,b,h=>by
  cases b<;>try (simp[ij]at h;done)
  simp only[ij,Az,beq_iff_eq]at h;rw[h.1,dX h.2]
 | .undef,b,h=>by cases b<;>(simp[ij]at h;done)
 | .sl ..,b,h=>by cases b<;>(simp[ij]at h;done)
 | .ptr ..,b,h=>by cases b<;>(simp[ij]at h;done)
 | .rptr ..,b,h=>by cases b<;>(simp[ij]at h;done)
 | .mp _,b,h=>by cases b<;>(simp[ij]at h;done)
 | .fm _,b,h=>by cases b<;>(simp[ij]at h;done)
theorem dX: ∀{a b:List D},hD a b=true→a=b
 | [],[],_=>rfl
 |a::r,b::s,h=>by simp only[hD,Az]at h;rw[DQ h.1,dX h.2]
 | [],_::_,h=>by simp[hD]at h
 |_::_,[],h=>by simp[hD]at h
theorem vV: ∀{a b:List (List D)},pQ a b=true→a=b
 | [],[],_=>rfl
 |a::r,b::s,h=>by simp only[pQ,Az]at h;rw[dX h.1,vV h.2]
 | [],_::_,h=>by simp[pQ]at h
 |_::_,[],h=>by simp[pQ]at h
end
def zH:List (Nat×Nat)→List (Nat×Nat)→Bool
 | [],[]=>true
 |(a,c)::r,(b,d)::s=>a==b&&c==d&&zH r s
 |_,_=>false
theorem sZ: ∀{a b:List (Nat×Nat)},zH a b=true→a=b
 | [],[],_=>rfl
 |(a,c)::r,(b,d)::s,h=>by simp only[zH,Az,beq_iff_eq]at h;rw[h.1.1,h.1.2,sZ h.2]
 | [],_::_,h=>by cases h
 |_::_,[],h=>by cases h
def GR:PK→PK→Bool
 | .mv, .mv| .inot, .inot| .ineg, .ineg| .llen, .llen| .slen, .slen| .fC, .fC=>true
 | .ibin a, .ibin b=>decide (a=b)
 | .ishift a, .ishift b=>decide (a=b)
 | .beq a, .beq b=>a==b
 | .seq a, .seq b=>a==b
 | .load n g, .load n' g'=>n==n'&&g==g'
 | .fld a, .fld b=>a==b
 | .idx a b, .idx a' b'=>a==a'&&b==b'
 | .aidx a b, .aidx a' b'=>a==a'&&b==b'
 | .ext a, .ext b=>a==b
 | .conv a, .conv b=>decide (a=b)
 | .afld a b c, .afld a' b' c'=>a==a'&&b==b'&&c==c'
 | .mx2 a, .mx2 b=>a==b
 | .aix a b c, .aix a' b' c'=>a==a'&&b==b'&&c==c'
 | .aeq a l, .aeq b l'=>a==b&&l==l'
 | .snil a, .snil b=>a==b
 | .slc a b c d, .slc a' b' c' d'=>a==a'&&b==b'&&c==c'&&d==d'
 | .sla a b c d, .sla a' b' c' d'=>a==a'&&b==b'&&c==c'&&d==d'
 | .sop a, .sop b=>decide (a=b)
 | .clo a, .clo b=>a==b
 | .fbox a, .fbox b=>a==b
 | .mx3 a, .mx3 b=>a==b
 | .build z p, .build z' p'=>hD z z'&&zH p p'
 | .lkp ks z o, .lkp ks' z' o'=>(ks==ks'&&o==o')&&hD [z] [z']
 |_,_=>false
theorem GS{a b:PK}(h:GR a b=true):a=b:=by
 unfold GR at h;split at h<;>first|rfl|(rw[Az]at h;rw[dX h.1,sZ h.2];done)|(simp only[Az,beq_iff_eq]at h;have h2:=dX h.2;simp only[List.cons.injEq,and_true]at h2;rw[h.1.1,h.1.2,h2];done)|(simp at h;simp[h];done)|(cases h;done)
def GW:XK→XK→Bool
 | .pk a, .pk b=>GR a b
 | .call a f, .call b g=>a==b&&f==g
 | .ccall a, .ccall b=>a==b
 | .agg, .agg| .tup, .tup| .lptr, .lptr| .qo, .qo| .bt, .bt| .eu, .eu=>true
 | .clo f, .clo g=>f==g
 | .cell a b, .cell a' b'=>a==a'&&b==b'
 | .app a, .app b=>a==b
 | .gv a, .gv b=>a==b
 | .setl a b c, .setl a' b' c'=>a==a'&&b==b'&&c==c'
 | .lit a b z p, .lit a' b' z' p'=>(a==a'&&b==b')&&(hD z z'&&zH p p')
 | .mks a z, .mks a' z'=>a==a'&&hD z z'
 | .take, .take=>true
 | .mget ks z ok, .mget ks' z' ok'=>(ks==ks'&&ok==ok')&&hD [z] [z']
 | .mset ks, .mset ks'=>ks==ks'
 | .rngi n, .rngi n'=>n==n'
 | .geta a b c d e, .geta a' b' c' d' e'=>a==a'&&b==b'&&c==c'&&d==d'&&e==e'
 | .seta a b c d, .seta a' b' c' d'=>a==a'&&b==b'&&c==c'&&d==d'
 | .ecall a b c, .ecall a' b' c'=>a==a'&&b==b'&&c==c'
 | .mkl, .mkl=>true
 | .isc a b, .isc a' b'=>a==a'&&b==b'
 | .capc a b c, .capc a' b' c'=>a==a'&&b==b'&&c==c'
 | .mapp a b, .mapp a' b'=>a==a'&&b==b'
 | .clr z, .clr z'=>hD z z'
 | .fmk, .fmk| .drp, .drp| .adn, .adn| .own, .own=>true
 |_,_=>false
theorem GX{a b:XK}(h:GW a b=true):a=b:=by
 unfold GW at h;split at h<;>first|rfl|(rw[GS h];done)|(rw[dX h];done)|(simp only[Az,beq_iff_eq]at h;rw[h.1.1,h.1.2,dX h.2.1,sZ h.2.2];done)|(simp only[Az,beq_iff_eq]at h;rw[h.1,dX h.2];done)|(simp only[Az,beq_iff_eq]at h;have h2:=dX h.2;simp only[List.cons.injEq,and_true]at h2;rw[h.1.1,h.1.2,h2];done)|(simp at h;simp[h];done)|(cases h;done)
mutual
def eJ:X→X→Bool
 | .t i, .t j=>i==j
 | .q d, .q e=>ij d e
 | .mk k xs, .mk k' ys=>GW k k'&&oH xs ys
 | .ite c a b, .ite c' a' b'=>eJ c c'&&eJ a a'&&eJ b b'
 |_,_=>false
def oH:List X→List X→Bool
 | [],[]=>true
 |x::r,y::s=>eJ x y&&oH r s
 |_,_=>false
end
mutual
theorem ba: ∀(a b:X),eJ a b=true→a=b
 | .t i,b,h=>by cases b<;>simp[eJ]at h;rw[h]
 | .q d,b,h=>by cases b<;>simp[eJ]at h;rw[DQ h]
 | .mk k xs,b,h=>by
  cases b<;>simp[eJ]at h;rw[GX h.1,ke xs _ h.2]
 | .ite c a b,y,h=>by
  cases y<;>simp[eJ]at h;rw[ba c _ h.1.1,ba a _ h.1.2,ba b _ h.2]
theorem ke: ∀(a b:List X),oH a b=true→a=b
 | [],b,h=>by cases b<;>simp[oH]at h;rfl
 |x::r,b,h=>by
  cases b<;>simp[oH]at h;rw[ba x _ h.1,ke r _ h.2]
end
def iter{α β:Type}(F:(α→Option β)→α→Option β):Nat→α→Option β
 |0=>fun _=>none
 |n+1=>F (iter F n)
end
section
inductive VE where
 |normal
 |exit (id:Nat)
 |ret
 deriving Inhabited,DecidableEq
def VE.ex:VE→Exit
 | .normal=> .normal
 | .exit id=> .exit id
 | .ret=> .ret
inductive RS where
 |ready
 |busy
 |done (e:VE)
 |over
 deriving Inhabited,DecidableEq
structure bM where
 t:Nat→Tok
 f:Nat→RS→Obj
 c:Tok→Prop
inductive SV where
 |un
 |x (e:X)
 |agg (vs:List SV)
 |tup (vs:List SV)
 |clo (f:Nat) (vs:List SV)
 |ptr (n o:Nat)
 |dp (n o cnt s:Nat) (i:X) (j:Nat)
 |gl (n sz:Nat)
 |gs (n sz:Nat) (k:X)
 |gc (n sz:Nat) (k:X)
 |gt (n sz:Nat) (k:X)
 |ep (n sz:Nat) (i:X) (j:Nat)
 |sb (n o len:Nat)
 |rb (n o:Nat)
 |mp (n:Nat)
 |yl (n:Nat)
 |gd (g:X) (v:SV)
 deriving Inhabited
inductive SO where
 |box (vs:List SV)
 |az (e sz:Nat) (c:X)
 |map (c:X)
 |mpl (e sz:Nat) (c:X)
 |raw (k:RS)
 deriving Inhabited
def SO.SU:SO→Bool
 | .map _| .mpl .. =>true
 |_=>false
structure Sy where
 s:List (Nat×SV)
 h:List (Nat×SO)
 nv:Nat
 d:Nat
 nx:Nat
 pd:Option VE
def find{α:Type}:List (Nat×α)→Nat→Option α
 | [],_=>none
 |(i,a)::r,n=>bif i==n then some a else find r n
def qL{α:Type}(n:Nat):List (Nat×α)→List (Nat×α)
 | []=> []
 |(i,a)::r=>bif i==n then qL n r else(i,a)::qL n r
theorem iH{α:Type}(n k:Nat): ∀(l:List (Nat×α)),find (qL n l) k=if k=n then none else find l k
 | []=>by simp[find,qL]
 |(i,a)::r=>by
  simp only[qL];by_cases h:i=n
  ·simp only[h,beq_self_eq_true,cond_true,iH n k r,find]
   grind
  ·have h1:(i==n)=false:=by simpa using h
   simp only[h1,cond_false,find,iH n k r]
   grind
def cq{α:Type}(n:Nat)(a:α)(l:List (Nat×α)):List (Nat×α):=(n,a)::qL n l
theorem bB{α:Type}(n k:Nat)(a:α)(l:List (Nat×α)):find (cq n a l) k=if k=n then some a else find l k:=by
 simp only[cq,find,iH]
 grind
def mapA{α β:Type}(f:α→β):List (Nat×α)→List (Nat×β)
 | []=> []
 |(i,a)::r=>(i,f a)::mapA f r
theorem dY{α β:Type}(f:α→β)(k:Nat): ∀(l:List (Nat×α)),find (mapA f l) k=(find l k).map f
 | []=>rfl
 |(i,a)::r=>by
  simp only[mapA,find,dY f k r]
  grind
theorem oU {α : Type} : ∀ {l : List (Nat × α)} {n : Nat} {v : α}, find l n = some v → (n, v) ∈ l
  | [], _, _, h => by cases h
  | (i, a) :: r, n, v, h => by
    simp only [find] at h
    cases hi : i == n with
    | true => rw [hi] at h; cases h; have : i = n := by simpa using hi
              grind
    | false => rw [hi] at h; exact Cz _ (oU h)
mutual
def SV.jc(n:Nat):SV→Bool
 | .un| .x _=>false
 | .agg vs| .tup vs=>SV.o_ n vs
 | .clo _ vs=>SV.o_ n vs
 | .ptr k _| .dp k _ _ _ _ _| .gl k _| .gs k _ _| .gc k _ _| .gt k _ _| .ep k _ _ _| .sb k _ _| .rb k _| .mp k| .yl k=>k==n
 | .gd _ v=>SV.jc n v
def SV.o_(n:Nat):List SV→Bool
 | []=>false
 |v::r=>SV.jc n v||SV.o_ n r
end
theorem tY{n:Nat}: ∀{vs:List SV},SV.o_ n vs=false→ ∀(i:Nat) (v:SV),vs[i]?=some v→v.jc n=false
 | [],_,i,v,h=>by simp at h
 |a::r,h,i,v,hv=>by
  simp only[SV.o_,Bool.or_eq_false_iff]at h;cases i with
  |zero=>simp at hv;subst hv;exact h.1
  |succ i=>exact tY h.2 i v (by simpa using hv)
section
variable (G : FP) (E : List D) (ι : Nat → Tok) (h : List (Nat × SO))
inductive VR:SV→D→Prop
 |un {d:D}:VR .un d
 |x {e:X} {d:D} (h1:X.ev G E e=some d) (h2:d.aF=true):VR (.x e) d
 |agg {vs:List SV} {ds:List D} (hl:vs.length=ds.length) (hh: ∀(i:Nat) (v:SV) (d:D),vs[i]?=some v→ds[i]?=some d→VR v d):VR (.agg vs) (.agg ds)
 |tup {vs:List SV} {ds:List D} (hl:vs.length=ds.length) (hh: ∀(i:Nat) (v:SV) (d:D),vs[i]?=some v→ds[i]?=some d→VR v d):VR (.tup vs) (.tup ds)
 |clo {f:Nat} {vs:List SV} {ds:List D} (hl:vs.length=ds.length) (hh: ∀(i:Nat) (v:SV) (d:D),vs[i]?=some v→ds[i]?=some d→VR v d):VR (.clo f vs) (.clo f ds)
 |ptr {n o:Nat} {vs:List SV} (hf:find h n=some (.box vs)):VR (.ptr n o) (.ptr (ι n) o)
 |dp {n o cnt s j:Nat} {i:X} {vs:List SV} {k:IntKind} {z:Int} (hf:find h n=some (.box vs)) (hv:X.ev G E i=some (.v (.int k z))) (h0:0≤z) (hz:z<cnt) (hl:o+cnt*s≤vs.length):
   VR (.dp n o cnt s i j) (.ptr (ι n) (o+z.toNat*s+j))
 |gln {n sz e:Nat} {c:X} (hf:find h n=some (.az e sz c)) (hi:ι n= []):VR (.gl n sz) .nil
 |gl {n sz e:Nat} {c:X} {es:List (List D)} (hf:find h n=some (.az e sz c)) (hc:X.ev G E c=some (.list es)) (hi:ι n≠ []):VR (.gl n sz) (.sl (ι n) sz 0 es.length none)
 |gsn {n sz e:Nat} {c k:X} {q:IntKind} (hf:find h n=some (.az e sz c)) (hi:ι n= []) (hk:X.ev G E k=some (.v (.int q 0))):VR (.gs n sz k) (.list [])
 |gs {n sz e:Nat} {c k:X} {es:List (List D)} {q:IntKind} {z:Int} (hf:find h n=some (.az e sz c)) (hc:X.ev G E c=some (.list es)) (hi:ι n≠ []) (hk:X.ev G E k=some (.v (.int q z))) (h0:0≤z) (hz:z≤es.length):
   VR (.gs n sz k) (.sl (ι n) sz 0 z.toNat none)
 |gcn {n sz e:Nat} {c k:X} {q:IntKind} (hf:find h n=some (.az e sz c)) (hi:ι n= []) (hk:X.ev G E k=some (.v (.int q 0))):VR (.gc n sz k) (.list [])
 |gc {n sz e:Nat} {c k:X} {es:List (List D)} {q:IntKind} {z:Int} {m:Nat} (hf:find h n=some (.az e sz c)) (hc:X.ev G E c=some (.list es)) (hi:ι n≠ []) (hk:X.ev G E k=some (.v (.int q z))) (h0:0≤z) (hz:z≤es.length):
   VR (.gc n sz k) (.sl (ι n) sz 0 z.toNat (some m))
 |gtn {n sz e:Nat} {c k:X} {q:IntKind} (hf:find h n=some (.az e sz c)) (hi:ι n= []) (hk:X.ev G E k=some (.v (.int q 0))):VR (.gt n sz k) (.list [])
 |gt {n sz e:Nat} {c k:X} {es:List (List D)} {q:IntKind} {z:Int} (hf:find h n=some (.az e sz c)) (hc:X.ev G E c=some (.list es)) (hi:ι n≠ []) (hk:X.ev G E k=some (.v (.int q z))) (h0:0≤z) (hz:z≤es.length):
   VR (.gt n sz k) (.sl (ι n) sz z.toNat (es.length-z.toNat) none)
 |ep {n sz e j:Nat} {c i:X} {k:IntKind} {z:Int} {es:List (List D)} (hf:find h n=some (.az e sz c)) (hc:X.ev G E c=some (.list es)) (hi:ι n≠ []) (hv:X.ev G E i=some (.v (.int k z))) (h0:0≤z) (hz:z.toNat<es.length):
   VR (.ep n sz i j) (.rptr (ι n) sz z.toNat j)
 |sb {n o len:Nat} {lim:Option Nat} {vs:List SV} (hf:find h n=some (.box vs)) (hl:o+len≤vs.length):VR (.sb n o len) (.sl (ι n) 1 o len lim)
 |rb {n o:Nat} {vs:List SV} (hf:find h n=some (.box vs)) (hl:o<vs.length):VR (.rb n o) (.rptr (ι n) 1 o 0)
 |mp {n:Nat} {o:SO} (hf:find h n=some o) (ho:o.SU=true):VR (.mp n) (.mp (ι n))
 |yl {n:Nat} {k:RS} (hf:find h n=some (.raw k)):VR (.yl n) (.v (.func (.yield ((ι n).headD 0-1)) #[] #[]))
 |gd {g:X} {b:Bool} {v:SV} {d:D} (hg:X.ev G E g=some (bv b)) (h1:b=true→VR v d) (h2:b=false→d= .tup []):VR (.gd g v) d
end
def bA(G:FP)(E:List D)(ι:Nat→Tok)(h:List (Nat×SO))(vs:List SV)(ds:List D):Prop:=
 vs.length=ds.length∧ ∀(i:Nat) (v:SV) (d:D),vs[i]?=some v→ds[i]?=some d→VR G E ι h v d
structure OE where
 k:D
 u:Tok
 g:Tok
 es:List (List D)
def OE.pr(q:OE):D×D:=(q.k, .list q.es)
def OE.en(sz:Nat)(q:OE):D×D:=(q.k, .sl q.u sz 0 q.es.length none)
abbrev JT(h:List (Nat×SO))(ι γ:Nat→Tok)(J:St)(e sz:Nat)(q:OE):Prop:=
 q.u≠ []∧aQ sz q.es=true∧J.m q.u=some (.row q.g e q.es)∧(∀k o,find h k=some o→ι k≠q.u)∧(∀k e sz c,find h k=some (.az e sz c)→ι k≠ []→γ k≠q.g)∧(∀y k r,q.g=(y+1)::k::r→k<J.c y)
abbrev JS(h:List (Nat×SO))(ι γ:Nat→Tok)(J:St)(e sz:Nat)(L:List OE):Prop:=(∀q∈L,JT h ι γ J e sz q)∧(L.map OE.g).Nodup
theorem JT.lj{h h':List (Nat×SO)}{ι ι' γ γ':Nat→Tok}{J J':St}{e sz:Nat}{q:OE}(H:JT h ι γ J e sz q)(hm:J'.m q.u=J.m q.u)(hi: ∀k o,find h' k=some o→ι' k≠q.u)
  (hg: ∀k e sz c,find h' k=some (.az e sz c)→ι' k≠ []→γ' k≠q.g) (hc: ∀y,J.c y≤J'.c y):JT h' ι' γ' J' e sz q:=
 ⟨H.1,H.2.1,hm.trans H.2.2.1,hi,hg,fun y k r h=>Nat.lt_of_lt_of_le (H.2.2.2.2.2 y k r h) (hc y)⟩
abbrev iK(h:List (Nat×SO))(ι γ:Nat→Tok)(J:St)(q:OE):Prop:= ∃n e sz c L,find h n=some (.mpl e sz c)∧J.m (ι n)=some (.map (L.map (OE.en sz)))∧JS h ι γ J e sz L∧q∈L
structure Mt(Ω:bM)(G:FP)(E:List D)(ι γ:Nat→Tok)(Y:Sy)(J:St):Prop where
 slot: ∀i v,find Y.s i=some v→VR G E ι Y.h v (J.s i)
 box: ∀n vs,find Y.h n=some (.box vs)→ ∃ds,ι n≠ []∧J.m (ι n)=some (.box ds)∧bA G E ι Y.h vs ds
 az: ∀n e sz c,find Y.h n=some (.az e sz c)→ ∃es,X.ev G E c=some (.list es)∧aQ sz es=true∧(ι n= []∧es= []∨ι n≠ []∧J.m (ι n)=some (.row (γ n) e es))
 mpo: ∀n c,find Y.h n=some (.map c)→ ∃es,X.ev G E c=some (.list (aH es))∧ι n≠ []∧J.m (ι n)=some (.map es)
 own: ∀n e sz c,find Y.h n=some (.mpl e sz c)→ ∃L:List OE,X.ev G E c=some (.list (aH (L.map OE.pr)))∧ι n≠ []∧J.m (ι n)=some (.map (L.map (OE.en sz)))∧JS Y.h ι γ J e sz L
 one: ∀n n' e e' sz sz' c c',find Y.h n=some (.mpl e sz c)→find Y.h n'=some (.mpl e' sz' c')→n=n'
 rwo: ∀n k,find Y.h n=some (.raw k)→ι n=Ω.t n∧ι n≠ []∧J.m (ι n)=some (.raw (Ω.f n k))∧ ¬Ω.c (ι n)
 inj: ∀n n' o o',find Y.h n=some o→find Y.h n'=some o'→ι n=ι n'→ι n≠ []→n=n'
 gV: ∀n n' e e' sz sz' c c',find Y.h n=some (.az e sz c)→find Y.h n'=some (.az e' sz' c')→ι n≠ []→ι n'≠ []→γ n=γ n'→n=n'
 wf:WF J
 old: ∀n e sz c,find Y.h n=some (.az e sz c)→ι n≠ []→ ∀y k r,γ n=(y+1)::k::r→k<J.c y
 nv:E.length=Y.nv
 con: ∀t,Ω.c t→J.m t=some (.raw (.deferred (some [])))
def SO.cU(G:FP)(E E':List D):SO→SO→Prop
 | .box vs, .box vs'=>vs'.length=vs.length
 | .az e sz c, .az e' sz' c'=>e'=e∧sz'=sz∧ ∀es,X.ev G E c=some (.list es)→ ∃es',X.ev G E' c'=some (.list es')∧es'.length=es.length
 | .map _, .map _=>True
 | .mpl .., .mpl .. =>True
 | .mpl .., .map _=>True
 | .raw _, .raw _=>True
 |_,_=>False
def Lk(G:FP)(E E':List D)(h h':List (Nat×SO))(n:Nat):Prop:= ∀o,find h n=some o→ ∃o',find h' n=some o'∧SO.cU G E E' o o'
theorem Lk.box{G:FP}{E E':List D}{h h':List (Nat×SO)}{n:Nat}(L:Lk G E E' h h' n){vs:List SV}(hf:find h n=some (.box vs)): ∃vs',find h' n=some (.box vs')∧vs'.length=vs.length:=by
 obtain⟨o',h1,h2⟩:=L _ hf;cases o'<;>simp only[SO.cU]at h2
 grind
theorem Lk.az{G:FP}{E E':List D}{h h':List (Nat×SO)}{n:Nat}(L:Lk G E E' h h' n){e sz:Nat}{c:X}(hf:find h n=some (.az e sz c)):
  ∃c',find h' n=some (.az e sz c')∧ ∀es,X.ev G E c=some (.list es)→ ∃es',X.ev G E' c'=some (.list es')∧es'.length=es.length:=by
 obtain⟨o',h1,h2⟩:=L _ hf;cases o'<;>simp only[SO.cU]at h2
 grind
theorem Lk.map{G:FP}{E E':List D}{h h':List (Nat×SO)}{n:Nat}(L:Lk G E E' h h' n){o:SO}(hf:find h n=some o)(ho:o.SU=true): ∃o',find h' n=some o'∧o'.SU=true:=by
 obtain⟨o',h1,h2⟩:=L _ hf;refine⟨o',h1, ?_⟩;cases o<;>cases o'<;>simp only[SO.cU]at h2<;>first|rfl|cases ho
theorem Lk.raw{G:FP}{E E':List D}{h h':List (Nat×SO)}{n:Nat}(L:Lk G E E' h h' n){k:RS}(hf:find h n=some (.raw k)): ∃k',find h' n=some (.raw k'):=by
 obtain⟨o',h1,h2⟩:=L _ hf;cases o'<;>simp only[SO.cU]at h2
 grind
theorem Lk.same{G:FP}{E E':List D}{h h':List (Nat×SO)}{n:Nat}(hE: ∀e d,X.ev G E e=some d→X.ev G E' e=some d)(hf:find h' n=find h n):Lk G E E' h h' n:=fun o ho=>
 ⟨o,hf.trans ho,by cases o<;>simp only[SO.cU];exact⟨trivial,trivial,fun es he=>⟨es,hE _ _ he,rfl⟩⟩⟩
theorem VR.mono{G:FP}{E E':List D}{ι ι':Nat→Tok}{h h':List (Nat×SO)}(hE: ∀e d,X.ev G E e=some d→X.ev G E' e=some d){v:SV}{d:D}(H:VR G E ι h v d)
  (hm: ∀n,v.jc n=true→ι' n=ι n∧Lk G E E' h h' n):VR G E' ι' h' v d:=by
 have o_: ∀{n:Nat} {vs:List SV} {i:Nat} {v:SV},vs[i]?=some v→v.jc n=true→SV.o_ n vs=true:=fun{n vs i v} hv hm=>by
  cases hh:SV.o_ n vs with
  |true=>rfl
  |false=>rw[tY hh i v hv]at hm;cases hm
 induction H with
 |un=>exact .un
 |x h1 h2=>exact .x (hE _ _ h1) h2
 |agg hl hh ih=>exact .agg hl fun i v d hv hd=>ih i v d hv hd fun n hn=>hm n (by simpa[SV.jc]using o_ hv hn)
 |tup hl hh ih=>exact .tup hl fun i v d hv hd=>ih i v d hv hd fun n hn=>hm n (by simpa[SV.jc]using o_ hv hn)
 |clo hl hh ih=>exact .clo hl fun i v d hv hd=>ih i v d hv hd fun n hn=>hm n (by simpa[SV.jc]using o_ hv hn)
 | @ptr n o vs hf=>
  obtain⟨h1,L⟩:=hm n (by simp[SV.jc]);obtain⟨vs',h3,_⟩:=L.box hf;rw[←h1];exact .ptr h3
 | @dp n o cnt s j i vs k z hf hv h0 hz hl=>
  obtain⟨h1,L⟩:=hm n (by simp[SV.jc]);obtain⟨vs',h3,h4⟩:=L.box hf;rw[←h1];exact .dp h3 (hE _ _ hv) h0 hz (by rw[h4];exact hl)
 | @gln n sz e c hf hi=>
  obtain⟨h1,L⟩:=hm n (by simp[SV.jc]);obtain⟨c',h3,_⟩:=L.az hf;exact .gln h3 (h1.trans hi)
 | @gl n sz e c es hf hc hi=>
  obtain⟨h1,L⟩:=hm n (by simp[SV.jc]);obtain⟨c',h3,h4⟩:=L.az hf;obtain⟨es',h5,h6⟩:=h4 _ hc;rw[←h1,←h6];exact .gl h3 h5 (by rw[h1];exact hi)
 | @gsn n sz e c k q hf hi hk=>
  obtain⟨h1,L⟩:=hm n (by simp[SV.jc]);obtain⟨c',h3,_⟩:=L.az hf;exact .gsn h3 (h1.trans hi) (hE _ _ hk)
 | @gs n sz e c k es q z hf hc hi hk h0 hz=>
  obtain⟨h1,L⟩:=hm n (by simp[SV.jc]);obtain⟨c',h3,h4⟩:=L.az hf;obtain⟨es',h5,h6⟩:=h4 _ hc;rw[←h1];exact .gs h3 h5 (by rw[h1];exact hi) (hE _ _ hk) h0 (by rw[h6];exact hz)
 | @gcn n sz e c k q hf hi hk=>
  obtain⟨h1,L⟩:=hm n (by simp[SV.jc]);obtain⟨c',h3,_⟩:=L.az hf;exact .gcn h3 (h1.trans hi) (hE _ _ hk)
 | @gc n sz e c k es q z m hf hc hi hk h0 hz=>
  obtain⟨h1,L⟩:=hm n (by simp[SV.jc]);obtain⟨c',h3,h4⟩:=L.az hf;obtain⟨es',h5,h6⟩:=h4 _ hc;rw[←h1];exact .gc h3 h5 (by rw[h1];exact hi) (hE _ _ hk) h0 (by rw[h6];exact hz)
 | @gtn n sz e c k q hf hi hk=>
  obtain⟨h1,L⟩:=hm n (by simp[SV.jc]);obtain⟨c',h3,_⟩:=L.az hf;exact .gtn h3 (h1.trans hi) (hE _ _ hk)
 | @gt n sz e c k es q z hf hc hi hk h0 hz=>
  obtain⟨h1,L⟩:=hm n (by simp[SV.jc]);obtain⟨c',h3,h4⟩:=L.az hf;obtain⟨es',h5,h6⟩:=h4 _ hc;rw[←h1,←h6];exact .gt h3 h5 (by rw[h1];exact hi) (hE _ _ hk) h0 (by rw[h6];exact hz)
 | @ep n sz e j c i k z es hf hc hi hv h0 hz=>
  obtain⟨h1,L⟩:=hm n (by simp[SV.jc]);obtain⟨c',h3,h4⟩:=L.az hf;obtain⟨es',h5,h6⟩:=h4 _ hc;rw[←h1];exact .ep h3 h5 (by rw[h1];exact hi) (hE _ _ hv) h0 (by rw[h6];exact hz)
 | @sb n o len lim vs hf hl=>
  obtain⟨h1,L⟩:=hm n (by simp[SV.jc]);obtain⟨vs',h3,h4⟩:=L.box hf;rw[←h1];exact .sb h3 (by rw[h4];exact hl)
 | @rb n o vs hf hl=>
  obtain⟨h1,L⟩:=hm n (by simp[SV.jc]);obtain⟨vs',h3,h4⟩:=L.box hf;rw[←h1];exact .rb h3 (by rw[h4];exact hl)
 | @mp n o hf ho=>
  obtain⟨h1,L⟩:=hm n (by simp[SV.jc]);obtain⟨o',h3,h4⟩:=L.map hf ho;rw[←h1];exact .mp h3 h4
 | @yl n k hf=>
  obtain⟨h1,L⟩:=hm n (by simp[SV.jc]);obtain⟨k',h3⟩:=L.raw hf;rw[←h1];exact .yl h3
 |gd hg h1 h2 ih=>exact .gd (hE _ _ hg) (fun e=>ih e fun n hn=>hm n (by simpa[SV.jc]using hn)) h2
theorem VR.more{G:FP}{E s:List D}{ι:Nat→Tok}{h:List (Nat×SO)}{v:SV}{d:D}(H:VR G E ι h v d):VR G (E++s) ι h v d:=
 H.mono (fun _ _ h=>bx _ _ h) fun n _=>⟨rfl,Lk.same (fun _ _ h=>bx _ _ h) rfl⟩
theorem Mt.more{Ω:bM}{G:FP}{E s:List D}{ι γ:Nat→Tok}{Y:Sy}{J:St}(M:Mt Ω G E ι γ Y J):Mt Ω G (E++s) ι γ {Y with nv:=Y.nv+s.length} J:=
 ⟨fun i v hv=>(M.slot i v hv).more,fun n vs hn=>let⟨ds,h0,h1,h2,h3⟩:=M.box n vs hn;⟨ds,h0,h1,h2,fun i v d hv hd=>(h3 i v d hv hd).more⟩,
  fun n e sz c hn=>let⟨es,h1,h2⟩:=M.az n e sz c hn;⟨es,bx _ _ h1,h2⟩,fun n c hn=>let⟨es,h1,h2⟩:=M.mpo n c hn;⟨es,bx _ _ h1,h2⟩,fun n e sz c hn=>let⟨L,h1,h2⟩:=M.own n e sz c hn;⟨L,bx _ _ h1,h2⟩,M.one,M.rwo,M.inj,M.gV,M.wf,M.old,by simp[M.nv],M.con⟩
def Sy.set(Y:Sy)(i:Nat)(v:SV):Sy:={Y with s:=cq i v Y.s}
theorem WF.set{J:St}(W:WF J)(i:Nat)(d:D):WF (J.set i d):=W
theorem Mt.set{Ω:bM}{G:FP}{E:List D}{ι γ:Nat→Tok}{Y:Sy}{J:St}(M:Mt Ω G E ι γ Y J){i:Nat}{v:SV}{d:D}(hv:VR G E ι Y.h v d):Mt Ω G E ι γ (Y.set i v) (J.set i d):=
 ⟨fun j u hu=>by
  simp only[Sy.set,bB]at hu;by_cases hj:j=i
  ·rw[if_pos hj]at hu;cases hu;subst hj;rw[St.uG];exact hv
  ·rw[if_neg hj]at hu;rw[St.dg _ _ hj];exact M.slot j u hu,M.box,M.az,M.mpo,M.own,M.one,M.rwo,M.inj,M.gV,M.wf,M.old,M.nv,M.con⟩
def qY(n:Nat)(v:SV):SV:=bif v.jc n then .un else v
def hU(n:Nat):SO→SO
 | .box vs=> .box (vs.map (qY n))
 |o=>o
def Sy.kill(Y:Sy)(n:Nat):Sy:={Y with s:=mapA (qY n) Y.s,h:=mapA (hU n) (qL n Y.h)}
def Sy.free(Y:Sy)(n:Nat):Prop:=
 find Y.h n=none∧(∀i v,find Y.s i=some v→v.jc n=false)∧ ∀k vs,find Y.h k=some (.box vs)→ ∀v∈vs,v.jc n=false
theorem mO(Y:Sy)(n k:Nat):find (Y.kill n).h k=if k=n then none else(find Y.h k).map (hU n):=by
 simp only[Sy.kill,dY,iH]
 grind
theorem bF{Y:Sy}{n k:Nat}{o:SO}(h:find (Y.kill n).h k=some o):k≠n∧ ∃o0,find Y.h k=some o0∧o=hU n o0:=by
 rw[mO]at h;split at h
 ·cases h
 ·rename_i hk;obtain⟨o0,ho,h⟩:=Mz.1 h
  grind
theorem FN{G:FP}{E:List D}(n:Nat)(o:SO):SO.cU G E E o (hU n o):=by
 cases o with
 |box vs=>simp[hU,SO.cU]
 |az e sz c=>exact⟨rfl,rfl,fun es he=>⟨es,he,rfl⟩⟩
 |map c=>trivial
 |mpl=>trivial
 |raw=>trivial
theorem VR.Iu{G:FP}{E:List D}{ι:Nat→Tok}{Y:Sy}(n:Nat){v:SV}{d:D}(H:VR G E ι Y.h v d):VR G E ι (Y.kill n).h (qY n v) d:=by
 unfold qY;cases hm:v.jc n with
 |true=>exact .un
 |false=>
  refine H.mono (fun _ _ h=>h) fun k hk=>⟨rfl,fun o ho=>⟨hU n o, ?_,FN n o⟩⟩;rw[mO,if_neg (fun e=>by rw[e,hm]at hk;cases hk),ho];rfl
theorem Mt.kill{Ω:bM}{G:FP}{E:List D}{ι γ:Nat→Tok}{Y:Sy}{J:St}(M:Mt Ω G E ι γ Y J)(n:Nat):Mt Ω G E ι γ (Y.kill n) J∧(Y.kill n).free n:=by
 have hl: ∀k e sz c,find (Y.kill n).h k=some (.az e sz c)→find Y.h k=some (.az e sz c):=fun k e sz c h=>by
  obtain⟨_,o,ho,h⟩:=bF h;cases o<;>simp only[hU,reduceCtorEq]at h;rw[ho,h]
 have hp: ∀k e sz c,find (Y.kill n).h k=some (.mpl e sz c)→find Y.h k=some (.mpl e sz c):=fun k e sz c h=>by
  obtain⟨_,o,ho,h⟩:=bF h;cases o<;>simp only[hU,reduceCtorEq]at h;rw[ho,h]
 refine⟨⟨fun i v hv=> ?_,fun k vs hk=> ?_,fun k e sz c hk=>M.az k e sz c (hl k e sz c hk),fun k c hk=> ?_,fun k e sz c hk=> ?_,fun a b e e' sz sz' c c' h1 h2=>M.one a b e e' sz sz' c c' (hp _ _ _ _ h1) (hp _ _ _ _ h2),fun k q hk=> ?_,fun a b o o' h1 h2=> ?_,fun a b e e' sz sz' c c' h1 h2=>M.gV a b e e' sz sz' c c' (hl _ _ _ _ h1) (hl _ _ _ _ h2),M.wf,fun k e sz c hk=>M.old k e sz c (hl k e sz c hk),M.nv,M.con⟩, ?_,fun i v hv=> ?_,fun k vs hk v hv=> ?_⟩
 ·simp only[Sy.kill,dY]at hv;obtain⟨u,hu,rfl⟩:=Mz.1 hv;exact(M.slot i u hu).Iu n
 ·obtain⟨_,o,ho,h⟩:=bF hk;cases o<;>simp only[hU,reduceCtorEq,SO.box.injEq]at h;rename_i us;subst h;obtain⟨ds,h0,h1,h2,h3⟩:=M.box k us ho;refine⟨ds,h0,h1,by simpa using h2,fun i v d hv hd=> ?_⟩;rw[Dz,Mz]at hv;obtain⟨u,hu,rfl⟩:=hv;exact(h3 i u d hu hd).Iu n
 ·obtain⟨_,o,ho,h⟩:=bF hk;cases o<;>simp only[hU,reduceCtorEq]at h;cases h;exact M.mpo k c ho
 ·obtain⟨L,h1,h2,h3,h4⟩:=M.own k e sz c (hp _ _ _ _ hk);exact⟨L,h1,h2,h3,fun q hq=>(h4.1 q hq).lj rfl (fun j o hj=>let⟨_,o0,h0,_⟩:=bF hj;(h4.1 q hq).2.2.2.1 j o0 h0) (fun j e sz c hj=>(h4.1 q hq).2.2.2.2.1 j e sz c (hl _ _ _ _ hj)) fun _=>Nat.le_refl _,h4.2⟩
 ·obtain⟨_,o,ho,h⟩:=bF hk;cases o<;>simp only[hU,reduceCtorEq,SO.raw.injEq]at h;subst h;exact M.rwo k _ ho
 ·obtain⟨_,o1,g1,_⟩:=bF h1;obtain⟨_,o2,g2,_⟩:=bF h2;exact M.inj a b o1 o2 g1 g2
 ·rw[mO,if_pos rfl]
 ·simp only[Sy.kill,dY]at hv;obtain⟨u,hu,rfl⟩:=Mz.1 hv;cases hm:u.jc n<;>simp[qY,hm,SV.jc]
 ·obtain⟨_,o,ho,h⟩:=bF hk;cases o<;>simp only[hU,reduceCtorEq,SO.box.injEq]at h;subst h;obtain⟨u,_,rfl⟩:=List.mem_map.1 hv;cases hm:u.jc n<;>simp[qY,hm,SV.jc]
end
section
def o7(e:X)(n:Nat):Nat→List SV→Bool
 |i,[]=>i==n
 |i, .x (.mk (.cell j m) [e'])::r=>j==i&&m==n&&eJ e e'&&o7 e n (i+1) r
 |_,_::_=>false
def eta(vs:List SV):Option X:=
 match vs with
 | .x (.mk (.cell _ n) [e])::_=>if 2≤n∧o7 e n 0 vs=true then some e else none
 |_=>none
mutual
def SV.oB:SV→Option X
 | .x e=>some e
 | .agg vs=>(eta vs).or ((SV.nU vs).map (.mk .agg))
 | .clo f vs=>(SV.nU vs).map (.mk (.clo f))
 |_=>none
def SV.nU:List SV→Option (List X)
 | []=>some []
 |v::r=>(SV.oB v).bind fun x=>(SV.nU r).map fun xs=>x::xs
end
def cQ(h:List (Nat×SO)):Nat→SV→Option X
 |0,_=>none
 |k+1,v=>match v with
  | .x e=>if k=0 then none else some (.mk .eu [e])
  | .gl n _=>if k<2 then none else match find h n with
   |some (.az _ _ c)=>some c
   |_=>none
  | .gs n _ q=>if k<2 then none else match find h n with
   |some (.az _ _ c)=>some (.mk .take [c,q])
   |_=>none
  | .gc n _ q=>if k<2 then none else match find h n with
   |some (.az _ _ c)=>some (.mk .take [c,q])
   |_=>none
  | .sb n o len=>if k=0 then none else match find h n with
   |some (.box vs)=>if o+len≤vs.length then(((vs.drop o).take len).mapM (cQ h k)).map (.mk .mkl)else none
   |_=>none
  | .ptr n o=>if k=0 then none else match find h n with
   |some (.box vs)=>if o≤vs.length then((vs.drop o).mapM (cQ h k)).map (.mk .lptr)else none
   |_=>none
  | .clo f vs=>if k=0 then none else(vs.mapM (cQ h k)).map (.mk (.clo f))
  | .mp n=>if k=0 then none else match find h n with
   |some (.map c)=>some (.mk .fmk [c])
   |_=>none
  |_=>none
def bL(h:List (Nat×SO))(v:SV):Option X:=
 match v with
 | .x e=>some (.mk .bt [e])
 | .agg vs=>match eta vs with
  |some e=>some (.mk .bt [e])
  |none=>(vs.mapM (cQ h 6)).map (.mk .agg)
 |v=>cQ h 6 v
def SV.isX:SV→Bool
 | .x _=>true
 |_=>false
def SV.S0:SV→Bool
 | .un| .gd .. =>true
 |_=>false
def SV.pl:SV→Bool
 | .x _=>true
 | .agg vs=>vs.all SV.isX
 | .clo _ vs=>vs.all SV.isX
 |_=>false
def cont(h:List (Nat×SO))(n:Nat):Option X:=
 match find h n with
 |some (.az _ _ c)=>some c
 |_=>none
def sG:PK→Bool
 | .call _| .ccall| .mv| .pick| .clo _| .ent=>false
 |_=>true
def yK(h:List (Nat×SO))(f:Nat)(vs:List SV):Option (SV×List X):=
 (vs.mapM (bL h)).map fun es=>(.x (.mk (.call (!vs.all SV.pl) f) es),[.mk (.call (!vs.all SV.pl) f) es])
def ZF:List X→Option (List D)
 | []=>some []
 | .q d::r=>(ZF r).map (d:: ·)
 |_=>none
def Se:PK→Bool
 | .ibin _| .inot| .beq _| .conv _| .llen=>true
 |_=>false
def qR(k:PK)(xs:List X):X:=
 if Se k then match(ZF xs).bind (k.run (bw X3) dI)with
  |some d=>if d.aF then .q d else .mk (.pk k) xs
  |none=> .mk (.pk k) xs
 else .mk (.pk k) xs
theorem IY{G:FP}{E:List D}: ∀{xs:List X} {ds:List D},ZF xs=some ds→X.bm G E xs=some ds
 | [],ds,h=>by simp[ZF]at h;subst h;rfl
 |x::r,ds,h=>by
  cases x<;>simp only[ZF]at h<;>try (cases h;done)
  obtain⟨ds',h1,rfl⟩:=Mz.1 h;simp only[X.bm,X.ev,Oz,IY h1,Pz]
theorem HA{G:FP}{E:List D}{k:PK}{xs:List X}:X.ev G E (qR k xs)=X.ev G E (.mk (.pk k) xs):=by
 unfold qR;split
 ·split
  ·rename_i d hd;split
   ·rename_i hn;obtain⟨ds,h1,h2⟩:=Bz.1 hd;simp only[X.ev,IY h1,Oz,XK.run,h2,if_pos hn]
   ·rfl
  ·rfl
 ·rfl
def isQ:X→Bool
 | .q _=>true
 |_=>false
def bS(k:PK)(vs:List SV):Option (SV×List X):=
 if sG k then(SV.nU vs).map fun xs=>(.x (qR k xs),if isQ (qR k xs)then []else [qR k xs])else none
def unG(w:Bool)(c:X):X→X
 | .ite (.mk (.gv w') [c']) e u=>if w'=w∧eJ c' c=true then e else .ite (.mk (.gv w') [c']) e u
 |a=>a
def EC(c a b:X):X:=match c with
 | .q (.v (.bool true))=>a
 | .q (.v (.bool false))=>b
 |c=> .ite c (unG true c a) (unG false c b)
theorem Js{G:FP}{E:List D}{w:Bool}{c a:X}{vc d:D}(hc:X.ev G E c=some vc)(hw:vc.asBool=some w)(h:X.ev G E (unG w c a)=some d):X.ev G E a=some d:=by
 unfold unG at h;split at h
 ·split at h
  ·rename_i w' c' e u hh;obtain⟨rfl,hb⟩:=hh;obtain rfl:=ba _ _ hb
   have hv:vc= .v (.bool w'):=by
    cases vc<;>simp only[D.asBool]at hw<;>try (cases hw;done)
    grind
   subst hv;simp only[X.ev,X.bm,hc,Oz,Pz,XK.run,beq_self_eq_true];exact h
  ·exact h
 ·exact h
theorem IV{G:FP}{E:List D}{c a b:X}{d:D}(h:X.ev G E (EC c a b)=some d):X.ev G E (.ite c a b)=some d:=by
 unfold EC at h;split at h
 ·simpa[X.ev,D.asBool]using h
 ·simpa[X.ev,D.asBool]using h
 simp only[X.ev,Bz]at h⊢;obtain⟨vc,h1,w,h2,h3⟩:=h;refine⟨vc,h1,w,h2, ?_⟩;cases w
 ·exact Js h1 h2 h3
 ·exact Js h1 h2 h3
def Jg(h:List (Nat×SO))(vs:List SV):Option (SV×List X):=
 match vs with
 | [v]=>some (v,[])
 |vs=>bS (.mv) vs
def Dd(h:List (Nat×SO))(q:Nat)(vs:List SV):Option (SV×List X):=
 match vs with
 | [.tup vs]=>(vs[q]?).map fun v=>(v,[])
 |vs=>bS (.ext q) vs
def Db(h:List (Nat×SO))(vs:List SV):Option (SV×List X):=
 match vs with
 | [.ptr n o]=>some (.ptr n o,[])
 | [.dp n o c s i j]=>some (.dp n o c s i j,[])
 | [.ep n s i j]=>some (.ep n s i j,[])
 | [.clo f us]=>some (.clo f us,[])
 |vs=>bS (.fC) vs
def De(h:List (Nat×SO))(q:Nat)(vs:List SV):Option (SV×List X):=
 match vs with
 | [.ptr n o]=>some (.ptr n (o+q),[])
 | [.dp n o c s i j]=>some (.dp n o c s i (j+q),[])
 | [.ep n s i j]=>some (.ep n s i (j+q),[])
 |vs=>bS (.fld q) vs
def yS(h:List (Nat×SO))(m:Nat)(g:Bool)(vs:List SV):Option (SV×List X):=
 match m,g,vs with
 |m,g,[.ptr n o]=>match find h n with
  |some (.box us)=>if o+m≤us.length then(if g then some (.agg ((us.drop o).take m),[])else(us[o]?).map fun v=>(v,[]))else none
  |_=>none
 |1,false,[.rb n o]=>match find h n with
  |some (.box us)=>(us[o]?).map fun v=>(v,[])
  |_=>none
 |m,g,[.dp n o c s i j]=>match find h n with
  |some (.box us)=>if j+m≤s then(SV.nU ((us.drop o).take (c*s))).map fun xs=>(.x (.mk (.geta c s j m g) [.mk .agg xs,i]),[.mk (.geta c s j m g) [.mk .agg xs,i]])else none
  |_=>none
 |m,g,[.ep n s i j]=>if s<j+m then none else(cont h n).map fun c=>(.x (.mk (.pk (.load m g)) [.mk (.pk (.fld j)) [.mk (.pk (.idx 0 s)) [c,i]]]),[.mk (.pk (.load m g)) [.mk (.pk (.fld j)) [.mk (.pk (.idx 0 s)) [c,i]]]])
 |_,_,vs=>bS (.load m g) vs
def Df(h:List (Nat×SO))(e s:Nat)(vs:List SV):Option (SV×List X):=
 match s,vs with
 |s,[.gl n s', .x i]=>if s=s' then(cont h n).map fun c=>(.ep n s i 0,[.mk (.pk (.idx 0 s)) [c,i]])else none
 |s,[.gs n s' k, .x i]=>if s=s' then(cont h n).map fun c=>(.ep n s i 0,[.mk (.pk (.idx 0 s)) [.mk .take [c,k],i]])else none
 |s,[.gt n s' k, .x i]=>if s=s' then(cont h n).map fun c=>(.ep n s (.mk .adn [k,i]) 0,[.mk (.pk (.idx 0 s)) [.mk .drp [c,k],i]])else none
 |1,[.sb n o len, .x (.q (.v (.int _ z)))]=>if 0≤z∧z<len then some (.rb n (o+z.toNat),[])else none
 |_,vs=>bS (.idx e s) vs
def yF(h:List (Nat×SO))(cnt s:Nat)(vs:List SV):Option (SV×List X):=
 match vs with
 | [.ptr n o, .x (.q (.v (.int _ z)))]=>if 0≤z∧z<cnt then some (.ptr n (o+z.toNat*s),[])else none
 | [.ptr n o, .x i]=>match find h n with
  |some (.box us)=>if o+cnt*s≤us.length then some (.dp n o cnt s i 0,[.mk (.rngi cnt) [i]])else none
  |_=>none
 | [.ep n sz i j, .x (.q (.v (.int _ z)))]=>if 0≤z∧z<cnt then some (.ep n sz i (j+z.toNat*s),[])else none
 |vs=>bS (.aidx cnt s) vs
def yR(h:List (Nat×SO))(vs:List SV):Option (SV×List X):=
 match vs with
 | [.gl n _]=>(cont h n).map fun c=>(.x (.mk (.pk .llen) [c]),[.mk (.pk .llen) [c]])
 | [.gs n _ k]=>(cont h n).map fun c=>(.x (.mk (.pk .llen) [.mk .take [c,k]]),[.mk (.pk .llen) [.mk .take [c,k]]])
 | [.gt n _ k]=>(cont h n).map fun c=>(.x (.mk (.pk .llen) [.mk .drp [c,k]]),[.mk (.pk .llen) [.mk .drp [c,k]]])
 | [.sb _ _ len]=>some (.x (.q (iv len)),[])
 |vs=>bS (.llen) vs
def Di(h:List (Nat×SO))(s:Nat)(lo hi mx:Bool)(vs:List SV):Option (SV×List X):=
 match s,lo,hi,mx,vs with
 |s,false,true,false,[.gl n s', .x k]=>if s=s' then(cont h n).map fun c=>(.gs n s k,[.mk .take [c,k]])else none
 |s,false,true,false,[.gs n s' _, .x k]=>if s=s' then(cont h n).map fun c=>(.gs n s k,[.mk .take [c,k]])else none
 |s,false,true,true,[.gl n s', .x k, .x m]=>if s=s' then(cont h n).map fun c=>(.gc n s k,[.mk .take [.mk .take [c,m],k], .mk .take [c,m], .mk .take [c,k]])else none
 |s,false,true,true,[.gs n s' k0, .x k, .x m]=>if s=s' then(cont h n).map fun c=>(.gc n s k,[.mk .take [.mk .take [c,m],k], .mk .take [.mk .take [c,k0],m], .mk .take [c,k0], .mk .take [c,m], .mk .take [c,k]])else none
 |s,true,false,false,[.gl n s', .x k]=>if s=s' then(cont h n).map fun c=>(.gt n s k,[.mk .drp [c,k]])else none
 |_,_,_,_,vs=>bS (.slc s lo hi mx) vs
def Dh(h:List (Nat×SO))(cnt s:Nat)(lo hi:Bool)(vs:List SV):Option (SV×List X):=
 match cnt,s,lo,hi,vs with
 |cnt,1,false,false,[.ptr n o]=>match find h n with
  |some (.box us)=>if o+cnt≤us.length then some (.sb n o cnt,[])else none
  |_=>none
 |cnt,1,true,false,[.ptr n o, .x (.q (.v (.int _ z)))]=>match find h n with
  |some (.box us)=>if o+cnt≤us.length∧0≤z∧z≤cnt then some (.sb n (o+z.toNat) (cnt-z.toNat),[])else none
  |_=>none
 |_,_,_,_,vs=>bS (.sla cnt s lo hi) vs
def Dg(h:List (Nat×SO))(ks:List Nat)(z:D)(ok:Bool)(vs:List SV):Option (SV×List X):=
 match vs with
 | [.mp n,k]=>match find h n with
  |some (.map c)=>k.oB.map fun k=>(.x (.mk (.mget ks z ok) [c,k]),[.mk (.mget ks z ok) [c,k]])
  |_=>none
 |vs=>bS (.lkp ks z ok) vs
def yE(h:List (Nat×SO))(off n:Nat)(g:Bool)(vs:List SV):Option (SV×List X):=
 match vs with
 | [.agg us]=>if off+n≤us.length then(if g then some (.agg ((us.drop off).take n),[])else(us[off]?).map fun v=>(v,[]))else none
 |vs=>bS (.afld off n g) vs
def Dc(_:List (Nat×SO))(f:Nat)(vs:List SV):Option (SV×List X):=
 if vs.all (fun v=> !v.S0)then some (.clo f vs,[])else none
def yT(h:List (Nat×SO))(vs:List SV):Option (SV×List X):=
 match vs with
 | [c,a,b]=>c.oB.bind fun c=>a.oB.bind fun a=>b.oB.map fun b=>(.x (EC c a b),[EC c a b])
 |vs=>bS (.pick) vs
def uL(h:List (Nat×SO))(vs:List SV):Option (SV×List X):=
 match vs with
 | .clo f eK::vs=>if f<1000000 then yK h f (vs++eK)else none
 | .x e::vs=>(vs.mapM (bL h)).map fun es=>(.x (.mk (.ccall (!vs.all SV.pl)) (e::es)),[.mk (.ccall (!vs.all SV.pl)) (e::es)])
 |vs=>bS (.ccall) vs
def Bw(d:D):SV:=if d.aF then .x (.q d)else .un
def IQ:SV→Option (List X)
 | .x (.q d)=>if d.gH then some []else none
 | .x (.mk (.cell _ _) _)=>some []
 | .x e=>some [.mk .qo [e]]
 | .ptr .. | .gl .. | .ep .. | .clo .. | .dp .. | .gs .. | .gc .. | .sb .. | .rb .. | .mp .. =>some []
 |_=>none
def yk:List SV→Option (List X)
 | []=>some []
 |v::r=>(IQ v).bind fun a=>(yk r).map fun b=>a++b
def l7(n:Nat)(g:Bool):SV→Option (List SV×List X)
 | .agg vs=>if vs.length=n then(yk vs).map fun O=>(vs,O)else none
 | .x e=>if g then(if 0<n then some ((List.range n).map fun j=> .x (.mk (.cell j n) [e]),[.mk (.cell 0 n) [e]])else none)else if n=1 then some ([.x e],[.mk .qo [e]])else none
 | .ptr m o=>if n=1 then some ([.ptr m o],[])else none
 | .gl m s=>if n=1 then some ([.gl m s],[])else none
 | .ep m s i j=>if n=1 then some ([.ep m s i j],[])else none
 | .clo f vs=>if n=1 then some ([.clo f vs],[])else none
 | .dp m o c s i j=>if n=1 then some ([.dp m o c s i j],[])else none
 | .gs m s k=>if n=1 then some ([.gs m s k],[])else none
 | .mp m=>if n=1 then some ([.mp m],[])else none
 |_=>none
def K4:X→Bool
 | .q d=>d.gH
 | .mk (.cell _ _) _=>true
 | .mk (.pk k) _=>match k with
  | .ibin .. | .ishift .. | .beq .. | .seq .. | .sop .. | .inot| .ineg| .llen| .slen| .conv _| .aeq .. | .snil _=>true
  |_=>false
 |_=>false
def gOf:SV→Bool
 | .x e=> !K4 e
 |_=>false
def Al:List SV→List (Nat×Nat)→List SV→Option (List SV×List X)
 |cells,[],[]=>some (cells,[])
 |cells,(off,n)::ps,v::vs=>(l7 n (gOf v) v).bind fun q=>if off+n≤cells.length then(Al (cells.take off++q.1++cells.drop (off+n)) ps vs).map fun r=>(r.1,q.2++r.2)else none
 |_,_,_=>none
def uJ(h:List (Nat×SO))(zero:List D)(places:List (Nat×Nat))(vs:List SV):Option (SV×List X):=
 match Al (zero.map Bw) places vs with
 |some q=>some (.agg q.1,q.2)
 |none=>bS (.build zero places) vs
def Da(h:List (Nat×SO))(n size:Nat)(g:Bool)(vs:List SV):Option (SV×List X):=
 match vs with
 | [.agg us, .x (.q (.v (.int k i)))]=>if 0≤i∧i<n∧i.toNat*size+size≤us.length then(if g then some (.agg ((us.drop (i.toNat*size)).take size),[])else(us[i.toNat*size]?).map fun v=>(v,[]))else none
 |vs=>bS (.aix n size g) vs
def uO(h:List (Nat×SO))(k:PK)(vs:List SV):Option (SV×List X):=
 match k with
 | .mv=>Jg h vs
 | .ext q=>Dd h q vs
 | .fC=>Db h vs
 | .fld q=>De h q vs
 | .load m g=>yS h m g vs
 | .idx e s=>Df h e s vs
 | .aidx cnt s=>yF h cnt s vs
 | .llen=>yR h vs
 | .slc s lo hi mx=>Di h s lo hi mx vs
 | .sla cnt s lo hi=>Dh h cnt s lo hi vs
 | .lkp ks z ok=>Dg h ks z ok vs
 | .afld off n g=>yE h off n g vs
 | .clo f=>Dc h f vs
 | .pick=>yT h vs
 | .call f=>yK h f vs
 | .ccall=>uL h vs
 | .build z p=>uJ h z p vs
 | .aix n s g=>Da h n s g vs
 |k=>bS k vs
section
variable {Ω : bM} {G : FP} {E : List D} {ι γ : Nat → Tok} {Y : Sy} {J : St}
theorem qX{e:X}{n:Nat}: ∀{i:Nat} {vs:List SV},o7 e n i vs=true→i+vs.length=n∧ ∀j,j<vs.length→vs[j]?=some (.x (.mk (.cell (i+j) n) [e]))
 |i,[],h=>by simp[o7]at h;exact⟨by simpa using h,fun j hj=>by simp at hj⟩
 |i,v::r,h=>by
  unfold o7 at h;split at h
  ·grind
  ·rename_i j m e' r' hh;cases hh;simp only[Az,beq_iff_eq]at h;obtain⟨⟨⟨rfl,rfl⟩,he⟩,hr⟩:=h;obtain rfl:=ba _ _ he;obtain⟨h1,h2⟩:=qX hr
   grind
  ·cases h
theorem mM{vs:List SV}{ds:List D}{e:X}(he:eta vs=some e)(hv:bA G E ι Y.h vs ds):X.ev G E e=some (.agg ds)∧ds.all D.aO=true:=by
 unfold eta at he;split at he
 ·rename_i j n e' r;split at he
  ·rename_i hc;cases he;obtain⟨h2,hc⟩:=hc;obtain⟨h3,h4⟩:=qX hc
   have at': ∀i,i<n→ ∃d d0,ds[i]?=some d∧X.ev G E e=some d0∧d0.cells.length=n∧d0.cells[i]?=some d∧d.aO=true:=fun i hi=>by
    have hi':i<(SV.x (.mk (.cell j n) [e])::r).length:=by omega
    have hdl:i<ds.length:=by rw[←hv.1];exact hi'
    have hd:ds[i]?=some ds[i]:=Ez hdl;have:=hv.2 i _ _ (h4 i hi') hd;cases this with
    |x h5 _=>
     simp only[X.ev,X.bm,Bz,Mz]at h5;obtain⟨dd,⟨d0,h6,ds',h7,rfl⟩,h8⟩:=h5;cases h7;simp only[XK.run]at h8
     grind
   obtain⟨_,d0,_,h6,h7,_⟩:=at' 0 (by omega);have hl:ds.length=n:=by rw[←hv.1];omega
   have fG:d0.cells=ds:=List.ext_getElem? fun i=>by
    grind
   refine⟨?_,Tz.2 fun d hd=> ?_⟩
   ·rw[h6];cases d0<;>simp only[D.cells]at fG h7<;>first|(rw[fG];done)|(simp at h7;omega)
   ·obtain⟨i,hi⟩:=List.getElem?_of_mem hd;obtain⟨d',_,g1,_,_,_,g5⟩:=at' i (by have:=(Gz.1 hi).1;omega);rw[hi]at g1;cases g1;exact g5
  ·cases he
 ·cases he
theorem sV: ∀{vs:List SV} {xs:List X},SV.nU vs=some xs→xs.length=vs.length∧ ∀(i:Nat) (v:SV) (x:X),vs[i]?=some v→xs[i]?=some x→v.oB=some x
 | [],xs,h=>by simp[SV.nU]at h;subst h;exact⟨rfl,fun i v x h=>by simp at h⟩
 |v::r,xs,h=>by
  simp only[SV.nU,Bz,Mz]at h;obtain⟨x,h1,xs',h2,rfl⟩:=h;obtain⟨h3,h4⟩:=sV h2
  grind
theorem b8{v:SV}{d:D}(H:VR G E ι Y.h v d): ∀{e:X} {d':D},v.oB=some e→X.ev G E e=some d'→d'=d:=by
 have uY: ∀{vs:List SV} {xs:List X} {ds ds':List D},vs.length=ds.length→(∀(i:Nat) (v:SV) (d:D),vs[i]?=some v→ds[i]?=some d→ ∀{e:X} {d':D},v.oB=some e→X.ev G E e=some d'→d'=d)→
   SV.nU vs=some xs→X.bm G E xs=some ds'→ds'=ds:=fun{vs xs ds ds'} hl ih ha he=>by
  obtain⟨h1,h2⟩:=sV ha;have h3:=cY he;refine List.ext_getElem? fun i=> ?_;by_cases hi:i<vs.length
  ·have e1:=Ez hi;have e2:=Ez (show i<xs.length by omega);have e3:=Ez (show i<ds.length by omega);have e4:=Ez (show i<ds'.length by omega);rw[e3,e4,ih i _ _ e1 e3 (h2 i _ _ e1 e2) (fy he i _ _ e2 e4)]
  ·rw[List.getElem?_eq_none (by omega),List.getElem?_eq_none (by omega)]
 induction H with
 |x h1 _=>intro e d' ha he;cases ha;rw[h1]at he;cases he;rfl
 |agg hl hh ih=>
  intro e d' ha he;simp only[SV.oB,Option.or_eq_some_iff]at ha;rcases ha with ha|⟨_,ha⟩
  ·have:=(mM (Y:=Y) ha ⟨hl,hh⟩).1;rw[this]at he;cases he;rfl
  ·obtain⟨xs,hx,rfl⟩:=Mz.1 ha;simp only[X.ev,Bz]at he;obtain⟨ds',h1,h2⟩:=he;simp only[XK.run]at h2;split at h2<;>cases h2;rw[uY hl ih hx h1]
 |clo hl hh ih=>
  intro e d' ha he;simp only[SV.oB]at ha;obtain⟨xs,hx,rfl⟩:=Mz.1 ha;simp only[X.ev,Bz]at he;obtain⟨ds',h1,h2⟩:=he;simp only[XK.run]at h2;split at h2<;>cases h2;rw[uY hl ih hx h1]
 |_=>intro e d' ha;simp[SV.oB]at ha
theorem xn{v:SV}{d:D}(H:VR G E ι Y.h v d){e:X}{d':D}(ha:v.oB=some e)(he:X.ev G E e=some d'):d'.aF=true:=by
 cases H with
 |x h1 h2=>cases ha;rw[h1]at he;cases he;exact h2
 |agg hl hh=>
  simp only[SV.oB,Option.or_eq_some_iff]at ha;rcases ha with ha|⟨_,ha⟩
  ·have:=mM (Y:=Y) ha ⟨hl,hh⟩;rw[this.1]at he;cases he;exact this.2
  ·obtain⟨xs,hx,rfl⟩:=Mz.1 ha;simp only[X.ev,Bz]at he;obtain⟨ds',h1,h2⟩:=he;simp only[XK.run]at h2;split at h2<;>cases h2
   assumption
 |clo hl hh=>
  obtain⟨xs,hx,rfl⟩:=Mz.1 ha;simp only[X.ev,Bz]at he;obtain⟨ds',h1,h2⟩:=he;simp only[XK.run]at h2;split at h2<;>cases h2
  assumption
 |_=>simp[SV.oB]at ha
theorem gu{vs:List SV}{ds ds':List D}{xs:List X}(hv:bA G E ι Y.h vs ds)(ha:SV.nU vs=some xs)(he:X.bm G E xs=some ds'):ds'=ds:=by
 obtain⟨h1,h2⟩:=sV ha;have h3:=cY he;have hl:=hv.1;refine List.ext_getElem? fun i=> ?_;by_cases hi:i<vs.length
 ·have e1:=Ez hi;have e2:=Ez (show i<xs.length by omega);have e3:=Ez (show i<ds.length by omega);have e4:=Ez (show i<ds'.length by omega);rw[e3,e4,b8 (hv.2 i _ _ e1 e3) (h2 i _ _ e1 e2) (fy he i _ _ e2 e4)]
 ·grind
end
end
section
theorem lH{m:Mem}{k:Nat}{d:D}(h:d.eT=true):ay m (k+1) d=ay dI 6 d:=by
 cases d<;>simp only[D.eT]at h<;>first|rfl|cases h
theorem mn{f g:D→Option D}: ∀{l:List D},(∀d∈l,f d=g d)→l.mapM f=l.mapM g
 | [],_=>rfl
 |a::l,h=>by
  have h1:=mn (f:=f) (g:=g) (l:=l) fun d hd=>h d (Cz _ hd)
  grind
theorem jR{f g:D→Option D}{l:List D}(h: ∀d∈l,f d=g d):aW f l=aW g l:=by unfold aW;rw[mn h]
theorem gU{m:Mem}{k:Nat}{d:D}(h:d.aO=true):ay m (k+2) d=ay dI 6 d:=by
 cases d
 case clo f xs=>
  simp only[D.aO,Tz]at h;show(aW (ay m (k+1)) xs).map (D.clo f)=(aW (ay dI 5) xs).map (D.clo f);rw[jR fun d hd=>(lH (m:=m) (k:=k) (h d hd)).trans (lH (m:=dI) (k:=4) (h d hd)).symm]
 all_goals exact lH h
theorem fJ{f:D→Option D}{l:List D}(hf: ∀x,f (.v x)=some (.v x)):aW f l=l.mapM f:=by
 unfold aW;split
 ·rename_i h;symm
  induction l with
  |nil=>rfl
  |cons a l ih=>
   simp only[List.all_cons,Az]at h;have ha:f a=some a:=by cases a<;>first|exact hf _|(simp[D.aY]at h;done)
   simp[ha,ih h.2]
 ·rfl
theorem rC{m:Mem}{d:D}(h:d.aF=true):bu m d=bu dI d:=by
 cases d
 case agg xs=>
  simp only[D.aF,Tz]at h;simp only[bu];rw[jR fun d hd=>gU (m:=m) (k:=4) (h d hd)]
 case clo f xs=>
  simp only[D.aF,Tz]at h;show(aW (ay m 5) xs).map (D.clo f)=(aW (ay dI 5) xs).map (D.clo f);rw[jR fun d hd=>(gU (m:=m) (k:=3) (h d hd)).trans (gU (m:=dI) (k:=3) (h d hd)).symm]
 case tup xs=>rfl
 all_goals exact gU (m:=m) (k:=4) (by simpa only[D.aF]using h)
theorem kF{f:SV→Option X}{g:D→Option D}{G:FP}{E:List D}: ∀{vs:List SV} {es:List X} {ds ds':List D},vs.length=ds.length→vs.mapM f=some es→X.bm G E es=some ds'→
  (∀(i:Nat) (v:SV) (d:D),vs[i]?=some v→ds[i]?=some d→ ∀{e:X} {d':D},f v=some e→X.ev G E e=some d'→g d=some d')→ds.mapM g=some ds'
 | [],es,[],ds',_,h,he,_=>by simp at h;subst h;simp[X.bm]at he;subst he;rfl
 |v::vs,es,d::ds,ds',hl,h,he,H=>by
  simp only[List.mapM_cons,Option.bind_eq_bind,Bz,Option.pure_def,Jz]at h;obtain⟨e,h1,es',h2,rfl⟩:=h;simp only[X.bm,Bz,Mz]at he;obtain⟨d',h3,afD,h4,rfl⟩:=he;have r:=kF (ds:=ds) (by simpa using hl) h2 h4 fun i u dd hu hd=>H (i+1) u dd (by simpa using hu) (by simpa using hd);simp only[List.mapM_cons,H 0 v d rfl rfl h1 h3,r,Option.bind_eq_bind,Oz,Option.pure_def]
 | [],_,_::_,_,hl,_,_,_=>by simp at hl
 |_::_,_,[],_,hl,_,_,_=>by simp at hl
section
variable {Ω : bM} {G : FP} {E : List D} {ι γ : Nat → Tok} {Y : Sy} {J : St}
theorem qt{m:Mem}{sz k:Nat}{es:List (List D)}(h:aQ sz es=true):cP (ay m (k+2)) es=some es:=by
 have VJ: ∀c:D,c.Vb=true→ay m (k+1) c=some c:=fun c hc=>by
  cases c<;>simp only[D.Vb]at hc<;>first|rfl|cases hc
 have all: ∀(f:D→Option D) (l:List D),(∀c∈l,f c=some c)→l.mapM f=some l:=by
  intro f l
  induction l with
  |nil=>intro _;rfl
  |cons a l ih=>intro hl;simp[hl a (by simp),ih fun c hc=>hl c (by simp[hc])]
 have cell: ∀c:D,c.nG=true→ay m (k+2) c=some c:=fun c hc=>by
  cases c
  case clo f xs=>
   simp only[D.nG,Tz]at hc;show(aW (ay m (k+1)) xs).map (D.clo f)=_;rw[fJ (f:=ay m (k+1)) fun _=>rfl,all _ xs fun c h=>VJ c (hc c h)];rfl
  all_goals simp only[D.nG]at hc<;>first|rfl|cases hc
 have row: ∀q∈es,aW (ay m (k+2)) q=some q:=fun q hq=>by
  have h1:=Tz.1 h q hq;rw[fJ (f:=ay m (k+2)) fun _=>rfl]
  grind
 unfold cP;split
 ·rfl
 ·have: ∀l:List (List D),(∀q∈l,aW (ay m (k+2)) q=some q)→l.mapM (aW (ay m (k+2)))=some l:=by
   intro l
   induction l with
   |nil=>intro _;rfl
   |cons a l ih=>intro hl;simp[hl a (by simp),ih fun c hc=>hl c (by simp[hc])]
  grind
theorem bQ{sz:Nat}{es:List (List D)}(h:aQ sz es=true):es.all (fun c=>c.length==sz)=true:=
 Tz.2 fun q hq=>by have:=Tz.1 h q hq;simp only[Az]at this;exact this.1
theorem bz(M:Mt Ω G E ι γ Y J): ∀(k:Nat) {v:SV} {d:D},VR G E ι Y.h v d→ ∀{e:X} {d':D},cQ Y.h k v=some e→X.ev G E e=some d'→ay J.m k d=some d'
 |0,_,_,_,_,_,h,_=>by simp[cQ]at h
 |k+1,v,d,H,e,d',h,he=>by
  cases H with
  |x h1 _=>
   simp only[cQ]at h;split at h
   ·cases h
   ·rename_i hk;cases h;obtain⟨k',rfl⟩: ∃k',k=k'+1:=⟨k-1,by omega⟩;simp only[X.ev,X.bm,h1,Oz,Pz,XK.run]at he;split at he
    ·rename_i hc;rw[gU hc];exact he
    ·cases he
  | @ptr n o vs hf=>
   simp only[cQ,hf]at h;split at h
   ·cases h
   ·rename_i hk;split at h
    ·rename_i ho;obtain⟨es,hes,rfl⟩:=Mz.1 h;simp only[X.ev,Bz]at he;obtain⟨ds',h1,h2⟩:=he;cases h2;obtain⟨ds,_,h3,h4⟩:=M.box n vs hf;have hl:=h4.1;simp only[ay,h3];rw[if_pos (by omega)];obtain⟨k',rfl⟩: ∃k',k=k'+1:=⟨k-1,by omega⟩;rw[fJ (f:=ay J.m (k'+1)) fun _=>rfl]
     rw[kF (ds:=ds.drop o) (by simp[hl]) hes h1 fun i u dd hu hd=>by
      rw[List.getElem?_drop]at hu hd
      exact fun{e d'}=>bz M (k'+1) (h4.2 _ u dd hu hd)]
     rfl
    ·cases h
  | @gln n sz e0 c hf hi=>
   simp only[cQ,hf]at h;split at h<;>cases h;obtain⟨es,h1,_,h2⟩:=M.az n e0 sz _ hf;rcases h2 with⟨_,rfl⟩|⟨h2,_⟩
   ·rw[h1]at he;cases he;rfl
   ·exact absurd hi h2
  | @gl n sz e0 c es hf hc hi=>
   simp only[cQ,hf]at h;split at h
   ·cases h
   ·rename_i hk;cases h;rw[hc]at he;cases he;obtain⟨es',h1,h3,h2⟩:=M.az n e0 sz _ hf;rw[hc]at h1;cases h1;rcases h2 with⟨h2,_⟩|⟨_,h2⟩
    ·exact absurd h2 hi
    ·obtain⟨k',rfl⟩: ∃k',k=k'+2:=⟨k-2,by omega⟩
     have hel:(D.sl (ι n) sz 0 es.length none).elems J.m=some es:=by
      simp only[D.elems,h2];rw[if_pos ⟨by omega,bQ h3⟩];simp
     show(((D.sl (ι n) sz 0 es.length none).elems J.m).bind fun es=>(cP (ay J.m (k'+2)) es).map D.list)=some (.list es);rw[hel];simp only[Oz,qt h3,Pz]
  | @gsn n sz e0 c q kd hf hi hq=>
   simp only[cQ,hf]at h;split at h<;>cases h;obtain⟨es,h1,_,h2⟩:=M.az n e0 sz _ hf;rcases h2 with⟨_,rfl⟩|⟨h2,_⟩
   ·simp only[X.ev,X.bm,h1,hq,Oz,Pz,XK.run,List.length_nil]at he;cases he;rfl
   ·exact absurd hi h2
  | @gs n sz e0 c q es kd z hf hc hi hq h0 hz=>
   simp only[cQ,hf]at h;split at h
   ·cases h
   ·rename_i hk;cases h;simp only[X.ev,X.bm,hc,hq,Oz,Pz,XK.run]at he;rw[if_pos ⟨h0,hz⟩]at he;cases he;obtain⟨es',h1,h3,h2⟩:=M.az n e0 sz _ hf;rw[hc]at h1;cases h1;rcases h2 with⟨h2,_⟩|⟨_,h2⟩
    ·exact absurd h2 hi
    ·obtain⟨k',rfl⟩: ∃k',k=k'+2:=⟨k-2,by omega⟩
     have hel:(D.sl (ι n) sz 0 z.toNat none).elems J.m=some (es.take z.toNat):=by
      simp only[D.elems,h2];rw[if_pos ⟨by omega,bQ h3⟩];simp
     have hrt:aQ sz (es.take z.toNat)=true:=Tz.2 fun q hq=>Tz.1 h3 q (List.mem_of_mem_take hq);show(((D.sl (ι n) sz 0 z.toNat none).elems J.m).bind fun es=>(cP (ay J.m (k'+2)) es).map D.list)=some (.list (es.take z.toNat));rw[hel];simp only[Oz,qt hrt,Pz]
  | @gcn n sz e0 c q kd hf hi hq=>
   simp only[cQ,hf]at h;split at h<;>cases h;obtain⟨es,h1,_,h2⟩:=M.az n e0 sz _ hf;rcases h2 with⟨_,rfl⟩|⟨h2,_⟩
   ·simp only[X.ev,X.bm,h1,hq,Oz,Pz,XK.run,List.length_nil]at he;cases he;rfl
   ·exact absurd hi h2
  | @gc n sz e0 c q es kd z m0 hf hc hi hq h0 hz=>
   simp only[cQ,hf]at h;split at h
   ·cases h
   ·rename_i hk;cases h;simp only[X.ev,X.bm,hc,hq,Oz,Pz,XK.run]at he;rw[if_pos ⟨h0,hz⟩]at he;cases he;obtain⟨es',h1,h3,h2⟩:=M.az n e0 sz _ hf;rw[hc]at h1;cases h1;rcases h2 with⟨h2,_⟩|⟨_,h2⟩
    ·exact absurd h2 hi
    ·obtain⟨k',rfl⟩: ∃k',k=k'+2:=⟨k-2,by omega⟩
     have hel:(D.sl (ι n) sz 0 z.toNat (some m0)).elems J.m=some (es.take z.toNat):=by
      simp only[D.elems,h2];rw[if_pos ⟨by omega,bQ h3⟩];simp
     have hrt:aQ sz (es.take z.toNat)=true:=Tz.2 fun q hq=>Tz.1 h3 q (List.mem_of_mem_take hq);show(((D.sl (ι n) sz 0 z.toNat (some m0)).elems J.m).bind fun es=>(cP (ay J.m (k'+2)) es).map D.list)=some (.list (es.take z.toNat));rw[hel];simp only[Oz,qt hrt,Pz]
  | @sb n o len lim vs hf hlen=>
   simp only[cQ,hf]at h;split at h
   ·cases h
   ·rename_i hk;obtain⟨es,hes,rfl⟩:=Mz.1 h;simp only[X.ev,Bz]at he;obtain⟨ds',h1,h2⟩:=he;cases h2;obtain⟨ds,_,h3,h4⟩:=M.box n vs hf;have hl:=h4.1;obtain⟨k',rfl⟩: ∃k',k=k'+1:=⟨k-1,by omega⟩
    have hm:((ds.drop o).take len).mapM (ay J.m (k'+1))=some ds':=kF (ds:=(ds.drop o).take len) (by simp[hl]) hes h1 fun i u dd hu hd {e d'}=>by
     have hi:i<len:=by have:=(Gz.1 hu).1;simp at this;omega
     rw[List.getElem?_take_of_lt hi,List.getElem?_drop]at hu hd;exact bz M (k'+1) (h4.2 _ u dd hu hd)
    have hel:(D.sl (ι n) 1 o len lim).elems J.m=some (((ds.drop o).take len).map fun d=> [d]):=by
     simp only[D.elems,h3];rw[if_pos ⟨trivial,by omega⟩]
    show(((D.sl (ι n) 1 o len lim).elems J.m).bind fun es=>(cP (ay J.m (k'+1)) es).map D.list)=some (.list (ds'.map fun d=> [d]));rw[hel]
    have gi: ∀d:D,aW (ay J.m (k'+1)) [d]=(ay J.m (k'+1) d).map fun d=> [d]:=fun d=>by
     rw[fJ (f:=ay J.m (k'+1)) fun _=>rfl];simp only[List.mapM_cons,List.mapM_nil,Option.bind_eq_bind,Option.pure_def];cases ay J.m (k'+1) d<;>rfl
    have AH:cP (ay J.m (k'+1)) (((ds.drop o).take len).map fun d=> [d])=some (ds'.map fun d=> [d]):=by
     generalize(ds.drop o).take len=l at hm
     have key: ∀(l ds':List D),l.mapM (ay J.m (k'+1))=some ds'→(l.map fun d=> [d]).mapM (aW (ay J.m (k'+1)))=some (ds'.map fun d=> [d]):=by
      intro l
      induction l with
      |nil=>intro ds' h;simp at h;subst h;rfl
      |cons a l ih=>
       intro ds' h;simp only[List.mapM_cons,Option.bind_eq_bind,Bz,Option.pure_def,Jz]at h;obtain⟨b,hb,r,hr,rfl⟩:=h;simp only[List.map_cons,List.mapM_cons,gi,hb,Pz,ih r hr,Option.bind_eq_bind,Oz,Option.pure_def]
     unfold cP;split
     ·rename_i bN
      have:ds'=l:=by
       have e:l.mapM (ay J.m (k'+1))=some l:=by
        clear hm key
        induction l with
        |nil=>rfl
        |cons a l ih=>
         simp only[List.map_cons,List.all_cons,Az,List.all_nil,and_true]at bN;have ha:ay J.m (k'+1) a=some a:=by cases a<;>first|rfl|(simp[D.aY]at bN;done)
         simp[List.mapM_cons,ha,ih bN.2]
       rw[hm]at e;exact Option.some.inj e
      rw[this]
     ·exact key l ds' hm
    rw[Oz,AH];rfl
  | @clo f vs ds hl hh=>
   simp only[cQ]at h;split at h
   ·cases h
   ·rename_i hk;obtain⟨es,hes,rfl⟩:=Mz.1 h;simp only[X.ev,Bz]at he;obtain⟨ds',h1,h2⟩:=he;simp only[XK.run]at h2;split at h2<;>cases h2;obtain⟨k',rfl⟩: ∃k',k=k'+1:=⟨k-1,by omega⟩;show(aW (ay J.m (k'+1)) ds).map (D.clo f)=_;rw[fJ (f:=ay J.m (k'+1)) fun _=>rfl,kF hl hes h1 fun i u dd hu hd {e d'}=>bz M (k'+1) (hh i u dd hu hd)];rfl
  | @mp n o hf ho=>
   simp only[cQ]at h;split at h
   ·cases h
   ·split at h
    ·rename_i c hfc;cases h;obtain⟨es,k1,k2,k3⟩:=M.mpo n c hfc;simp only[X.ev,X.bm,k1,Oz,Pz,XK.run,bJ]at he;split at he<;>cases he;rename_i bN;simp only[ay,k3];rw[if_pos bN]
    ·cases h
  |_=>simp[cQ]at h
theorem lK(M:Mt Ω G E ι γ Y J){v:SV}{d:D}(H:VR G E ι Y.h v d){e:X}{d':D}(h:bL Y.h v=some e)(he:X.ev G E e=some d'):bu J.m d=some d':=by
 have bt: ∀{e0:X} {d0:D},X.ev G E e0=some d0→X.ev G E (.mk .bt [e0])=some d'→bu J.m d0=some d':=fun{e0 d0} h1 he=>by
  simp only[X.ev,X.bm,h1,Oz,Pz,XK.run]at he;split at he
  ·rename_i hc;rw[rC hc];exact he
  ·cases he
 cases H with
 |x h1 _=>simp only[bL,Jz]at h;subst h;exact bt h1 he
 | @agg vs ds hl hh=>
  simp only[bL]at h;split at h
  ·rename_i e0 h0;cases h;exact bt (mM (Y:=Y) h0 ⟨hl,hh⟩).1 he
  ·obtain⟨es,hes,rfl⟩:=Mz.1 h;simp only[X.ev,Bz]at he;obtain⟨ds',h1,h2⟩:=he;simp only[XK.run]at h2;split at h2<;>cases h2;show(aW (ay J.m 6) ds).map D.agg=_;rw[fJ (f:=ay J.m 6) fun _=>rfl,kF hl hes h1 fun i u dd hu hd {e d'}=>bz M 6 (hh i u dd hu hd)];rfl
 |un=>simp[bL,cQ]at h
 |ptr hf=>exact bz M 6 (.ptr hf) (by simpa only[bL]using h) he
 |gln hf hi=>exact bz M 6 (.gln hf hi) (by simpa only[bL]using h) he
 |gl hf hc hi=>exact bz M 6 (.gl hf hc hi) (by simpa only[bL]using h) he
 |gsn hf hi hk=>exact bz M 6 (.gsn hf hi hk) (by simpa only[bL]using h) he
 |gs hf hc hi hk h0 hz=>exact bz M 6 (.gs hf hc hi hk h0 hz) (by simpa only[bL]using h) he
 |gcn hf hi hk=>exact bz M 6 (.gcn hf hi hk) (by simpa only[bL]using h) he
 |gc hf hc hi hk h0 hz=>exact bz M 6 (.gc hf hc hi hk h0 hz) (by simpa only[bL]using h) he
 |ep=>simp[bL,cQ]at h
 |gt=>simp[bL,cQ]at h
 |gtn=>simp[bL,cQ]at h
 |tup=>simp[bL,cQ]at h
 |dp=>simp[bL,cQ]at h
 |sb hf hl=>exact bz M 6 (.sb hf hl) (by simpa only[bL]using h) he
 |rb=>simp[bL,cQ]at h
 |mp hf ho=>exact bz M 6 (.mp hf ho) (by simpa only[bL]using h) he
 |yl=>simp[bL,cQ]at h
 |clo hl hh=>exact bz M 6 (.clo hl hh) (by simpa only[bL]using h) he
 |gd=>simp[bL,cQ]at h
theorem FV{d:D}(h:d.eT=true):d.aO=true:=by cases d<;>simp only[D.eT]at h<;>first|rfl|cases h
theorem mw{d:D}(h:d.aO=true):d.aF=true:=by
 cases d
 case clo f xs=>
  simp only[D.aO,D.aF,Tz]at h⊢;exact fun x hx=>FV (h x hx)
 all_goals simp only[D.aO]at h<;>first|rfl|cases h
theorem lb{d:D}(h:d.aY=true):d.aO=true:=by cases d<;>simp only[D.aY]at h<;>first|rfl|cases h
theorem Hx{d:D}(h:d.flat=true):d.aF=true:=by
 cases d
 case agg xs=>simp only[D.flat,D.aF,Tz]at h⊢;exact fun x hx=>lb (h x hx)
 case tup xs=>
  simp only[D.flat,D.aF,Tz]at h⊢;intro x hx;have:=h x hx;cases x
  case agg ys=>simp only[Tz]at this⊢;exact fun y hy=>lb (this y hy)
  all_goals exact lb this
 all_goals exact mw (lb (by simpa only[D.flat]using h))
theorem TX{v:SV}{d:D}(H:VR G E ι Y.h v d)(hp:v.pl=true){e:X}{d':D}(h:bL Y.h v=some e)(he:X.ev G E e=some d'):d.aF=true:=by
 have cells: ∀{vs:List SV} {ds ds':List D} {es:List X} {k:Nat},vs.length=ds.length→(∀(i:Nat) (v:SV) (d:D),vs[i]?=some v→ds[i]?=some d→VR G E ι Y.h v d)→vs.all SV.isX=true→
   vs.mapM (cQ Y.h (k+1))=some es→X.bm G E es=some ds'→ds.all D.aO=true:=fun{vs ds ds' es k} hl hh hx hes hev=>by
  refine Tz.2 fun d hd=> ?_;obtain⟨i,hi⟩:=List.getElem?_of_mem hd;have hil:i<vs.length:=by rw[hl];exact(Gz.1 hi).1
  have hv:=Ez hil;have SA:=Tz.1 hx _ (Lz hv);have hr:=hh i _ d hv hi;obtain⟨hlen,gY⟩:=gQ hes;have he1:=Ez (show i<es.length by omega);obtain⟨v',hv',he2⟩:=gY i _ he1;rw[hv]at hv';cases hv';have hd':=Ez (show i<ds'.length by rw[cY hev];omega);have he3:=fy hev i _ _ he1 hd';cases hvv:vs[i]<;>rw[hvv]at SA hr he2<;>simp only[SV.isX]at SA<;>try (cases SA;done)
  cases hr with
  |x h1 _=>
   simp only[cQ]at he2;split at he2
   ·grind
   ·rw[←Option.some.inj he2]at he3;simp only[X.ev,X.bm,h1,Oz,Pz,XK.run]at he3
    grind
 cases H with
 |x _ h2=>exact h2
 | @agg vs ds hl hh=>
  simp only[bL]at h;split at h
  ·rename_i e0 h0;exact(mM (Y:=Y) h0 ⟨hl,hh⟩).2
  ·obtain⟨es,hes,rfl⟩:=Mz.1 h;simp only[X.ev,Bz]at he;obtain⟨ds',h1,_⟩:=he;exact cells hl hh (by simpa[SV.pl]using hp) hes h1
 | @clo f vs ds hl hh=>
  simp only[bL,cQ]at h;rw[if_neg (by omega)]at h;obtain⟨es,hes,rfl⟩:=Mz.1 h;simp only[X.ev,Bz]at he;obtain⟨ds',h1,_⟩:=he;exact cells hl hh (by simpa[SV.pl]using hp) hes h1
 |_=>simp[SV.pl]at hp
theorem rF(M:Mt Ω G E ι γ Y J){vs:List SV}{ds as:List D}{es:List X}(hv:bA G E ι Y.h vs ds)(h:vs.mapM (bL Y.h)=some es)(he:X.bm G E es=some as):
  ds.mapM (bu J.m)=some as∧(vs.all SV.pl=true→ds.all D.aF=true):=by
 refine⟨kF hv.1 h he fun i u dd hu hd {e d'}=>lK M (hv.2 i u dd hu hd),fun hp=>Tz.2 fun d hd=> ?_⟩;obtain⟨i,hi⟩:=List.getElem?_of_mem hd;have hil:i<vs.length:=by rw[hv.1];exact(Gz.1 hi).1
 have hv1:=Ez hil;obtain⟨hlen,gY⟩:=gQ h;have he1:=Ez (show i<es.length by omega);obtain⟨v',hv',he2⟩:=gY i _ he1;rw[hv1]at hv';cases hv';have hd':=Ez (show i<as.length by rw[cY he];omega);exact TX (hv.2 i _ d hv1 hi) (Tz.1 hp _ (Lz hv1)) he2 (fy he i _ _ he1 hd')
theorem qH{m:Mem}{fl:Bool}{f:Nat}{ds as:List D}{d:D}(h:ds.mapM (bu m)=some as)(hp:fl=false→ds.all D.aF=true)(hc:gn G fl f as=some d):
  lZ (bw G) m f ds=some d∧d.aF=true:=by
 unfold gn at hc;rw[Bz]at hc;obtain⟨d0,h1,h2⟩:=hc;cases fl
 ·simp only[Bool.false_eq_true,if_false]at h2;split at h2<;>cases h2;rename_i br;exact⟨by simp[lZ,h,bw,h1,hp rfl,br],br⟩
 ·simp only[if_true]at h2;split at h2<;>cases h2;rename_i br
  refine⟨by
   unfold lZ;rw[h];show(G f as).bind _=_;rw[h1]
   exact if_pos (by rw[br];rfl), ?_⟩
  rw[Bool.or_eq_true,Az]at br;exact br.elim Hx fun h=>h.2
end
end
section
section
variable {Ω : bM} {G : FP} {E : List D} {ι γ : Nat → Tok} {Y : Sy} {J : St} {h : List (Nat × SO)}
theorem bA.one{v:SV}{ds:List D}(H:bA G E ι h [v] ds): ∃d,ds= [d]∧VR G E ι h v d:=by
 obtain⟨hl,hh⟩:=H
 match ds,hl with
 | [d],_=>exact⟨d,rfl,hh 0 v d rfl rfl⟩
theorem bA.cons{v:SV}{vs:List SV}{ds:List D}(H:bA G E ι h (v::vs) ds): ∃d r,ds=d::r∧VR G E ι h v d∧bA G E ι h vs r:=by
 obtain⟨hl,hh⟩:=H
 match ds,hl with
 |d::r,hl=>exact⟨d,r,rfl,hh 0 v d rfl rfl,by simpa using hl,fun i u e hu he=>hh (i+1) u e (by simpa using hu) (by simpa using he)⟩
theorem bA.nil:bA G E ι h [] []:=⟨rfl,fun i v d h=>by simp at h⟩
theorem bA.mk{v:SV}{vs:List SV}{d:D}{ds:List D}(H:VR G E ι h v d)(K:bA G E ι h vs ds):bA G E ι h (v::vs) (d::ds):=by
 refine⟨by simp[K.1],fun i u e hu he=> ?_⟩;cases i with
 |zero=>simp at hu he;subst hu;subst he;exact H
 |succ i=>exact K.2 i u e (by simpa using hu) (by simpa using he)
theorem bA.two{v u:SV}{ds:List D}(H:bA G E ι h [v,u] ds): ∃d e,ds= [d,e]∧VR G E ι h v d∧VR G E ι h u e:=by
 obtain⟨d,r,rfl,h1,h2⟩:=H.cons;obtain⟨e,rfl,h3⟩:=h2.one
 grind
theorem bA.three{v u t:SV}{ds:List D}(H:bA G E ι h [v,u,t] ds): ∃d e f,ds= [d,e,f]∧VR G E ι h v d∧VR G E ι h u e∧VR G E ι h t f:=by
 obtain⟨d,r,rfl,h1,h2⟩:=H.cons;obtain⟨e,f,rfl,h3,h4⟩:=h2.two
 grind
theorem bA.append{vs us:List SV}{ds es:List D}(H:bA G E ι h vs ds)(K:bA G E ι h us es):bA G E ι h (vs++us) (ds++es):=by
 refine⟨by simp[H.1,K.1],fun i v d hv hd=> ?_⟩;by_cases hi:i<vs.length
 ·rw[Yz hi]at hv;rw[Yz (by rw[←H.1];exact hi)]at hd;exact H.2 i v d hv hd
 ·rw[Xz (by omega)]at hv;rw[Xz (by rw[←H.1];omega),←H.1]at hd;exact K.2 _ v d hv hd
theorem bA.drop{vs:List SV}{ds:List D}(H:bA G E ι h vs ds)(k:Nat):bA G E ι h (vs.drop k) (ds.drop k):=
 ⟨by simp[H.1],fun i v d hv hd=>by rw[List.getElem?_drop]at hv hd;exact H.2 _ v d hv hd⟩
theorem bA.take{vs:List SV}{ds:List D}(H:bA G E ι h vs ds)(k:Nat):bA G E ι h (vs.take k) (ds.take k):=
 ⟨by simp[H.1],fun i v d hv hd=>by
  rw[List.getElem?_take]at hv hd;split at hv
  ·rename_i hi;rw[if_pos hi]at hd;exact H.2 i v d hv hd
  ·cases hv⟩
theorem bc{k:XK}{xs:List X}{d:D}(he:X.ev G E (.mk k xs)=some d): ∃ds,X.bm G E xs=some ds∧k.run G ds=some d:=by
 simpa only[X.ev,Bz]using he
theorem jf{x:X}{ds:List D}(he:X.bm G E [x]=some ds): ∃d,ds= [d]∧X.ev G E x=some d:=by
 simp only[X.bm,Bz]at he
 grind
theorem oN{x y:X}{ds:List D}(he:X.bm G E [x,y]=some ds): ∃d e,ds= [d,e]∧X.ev G E x=some d∧X.ev G E y=some e:=by
 simp only[X.bm,Bz,Mz]at he
 grind
theorem Ml{k:PK}(hp:sG k=true)(Γ Γ':Env)(m:Mem)(ds:List D):k.run Γ m ds=k.run Γ' m ds:=by
 cases k<;>first|rfl|(simp[sG]at hp)
theorem jI{k:PK}{ds:List D}{d:D}(he:(XK.pk k).run G ds=some d)(hp:sG k=true:=by rfl):k.run (bw G) dI ds=some d∧d.aF=true:=by
 simp only[XK.run,Bz]at he;obtain⟨d',h1,h2⟩:=he;split at h2<;>cases h2;exact⟨by rw[Ml hp _ (bw X3)];exact h1,by assumption⟩
theorem LR(m:Mem):lV dI m:=fun _ _ h=>by cases h
theorem aB{k:PK}{vs:List SV}{ds:List D}{v:SV}{O:List X}(hv:bA G E ι Y.h vs ds)(hs:bS k vs=some (v,O))(hO: ∀e∈O,∃d,X.ev G E e=some d):
  ∃d,k.run (bw G) J.m ds=some d∧VR G E ι Y.h v d:=by
 unfold bS at hs;split at hs
 ·rename_i hpp;obtain⟨xs,hx,he⟩:=Mz.1 hs;cases he
  have hex: ∃d,X.ev G E (qR k xs)=some d:=by
   cases hq:isQ (qR k xs)with
   |true=>
    generalize qR k xs=y at hq;cases y<;>simp only[isQ]at hq<;>first|exact⟨_,rfl⟩|cases hq
   |false=>exact hO _ (by rw[hq];exact List.mem_singleton.2 rfl)
  obtain⟨d,hd⟩:=hex;obtain⟨ds',h1,h2⟩:=bc (HA.symm.trans hd);obtain rfl:=gu hv hx h1;obtain⟨h3,h4⟩:=jI h2 hpp;exact⟨d,pj (LR _) h3, .x hd h4⟩
 ·cases hs
theorem nK(M:Mt Ω G E ι γ Y J){f:Nat}{vs:List SV}{ds:List D}{v:SV}{O:List X}(hv:bA G E ι Y.h vs ds)(hs:yK Y.h f vs=some (v,O))(hO: ∀e∈O,∃d,X.ev G E e=some d):
  ∃d,lZ (bw G) J.m f ds=some d∧VR G E ι Y.h v d:=by
 obtain⟨es,hx,he⟩:=Mz.1 hs;cases he;obtain⟨d,hd⟩:=hO _ (List.mem_singleton.2 rfl);obtain⟨as,h1,h2⟩:=bc hd;obtain⟨h3,h4⟩:=rF M hv hx h1;obtain⟨h5,h6⟩:=qH h3 (fun hf=>h4 (by simpa using hf)) h2;exact⟨d,h5, .x hd h6⟩
theorem b9{n:Nat}{c:X}(hc:cont h n=some c): ∃e sz,find h n=some (.az e sz c):=by
 unfold cont at hc
 grind
theorem VR.b7{e:X}{d:D}(H:VR G E ι h (.x e) d):X.ev G E e=some d∧d.aF=true:=by cases H;exact⟨by assumption,by assumption⟩
theorem VR.Ej{v:SV}{d:D}(H:VR G E ι h v d)(hu:v.S0=false):d.Ej=true:=by
 cases H<;>first|rfl|(simp[SV.S0]at hu;done)|skip
 rename_i e h1 h2;cases d<;>first|rfl|(simp[D.aF,D.aO,D.eT]at h2)
theorem xJ{c k:X}{es:List (List D)}{d:D}(hc:X.ev G E c=some (.list es))(h:X.ev G E (.mk .drp [c,k])=some d):
  ∃q z,X.ev G E k=some (.v (.int q z))∧0≤z∧z≤es.length∧d= .list (es.drop z.toNat):=by
 obtain⟨ds,a1,a2⟩:=bc h;obtain⟨dc,dk,rfl,c3,c4⟩:=oN a1;simp only[XK.run]at a2
 grind
theorem eZ{c k:X}{es:List (List D)}{d:D}(hc:X.ev G E c=some (.list es))(h:X.ev G E (.mk .take [c,k])=some d):
  ∃q z,X.ev G E k=some (.v (.int q z))∧0≤z∧z≤es.length∧d= .list (es.take z.toNat):=by
 obtain⟨ds,a1,a2⟩:=bc h;obtain⟨dc,dk,rfl,c3,c4⟩:=oN a1;simp only[XK.run]at a2
 grind
theorem Bp(M:Mt Ω G E ι γ Y J){vs:List SV}{ds:List D}{v:SV}{O:List X}(hv:bA G E ι Y.h vs ds)(hs:Jg Y.h vs=some (v,O))(hO: ∀e∈O,∃d,X.ev G E e=some d):
  ∃d,(PK.mv).run (bw G) J.m ds=some d∧VR G E ι Y.h v d:=by
 unfold Jg at hs;split at hs
 ·cases hs;obtain⟨d,rfl,H⟩:=hv.one;exact⟨d,rfl,H⟩
 ·exact aB hv hs hO
theorem yN(M:Mt Ω G E ι γ Y J){q:Nat}{vs:List SV}{ds:List D}{v:SV}{O:List X}(hv:bA G E ι Y.h vs ds)(hs:Dd Y.h q vs=some (v,O))(hO: ∀e∈O,∃d,X.ev G E e=some d):
  ∃d,(PK.ext q).run (bw G) J.m ds=some d∧VR G E ι Y.h v d:=by
 unfold Dd at hs;split at hs
 ·rename_i vs;obtain⟨d,rfl,H⟩:=hv.one;obtain⟨v',hv',he⟩:=Mz.1 hs;cases he;cases H with
  |tup hl hh=>
   rename_i xs;have hlt:=(Gz.1 hv').1;have hx:=Ez (show q<xs.length by omega);exact⟨_,hx,hh q _ _ hv' hx⟩
 ·exact aB hv hs hO
theorem yL(M:Mt Ω G E ι γ Y J){vs:List SV}{ds:List D}{v:SV}{O:List X}(hv:bA G E ι Y.h vs ds)(hs:Db Y.h vs=some (v,O))(hO: ∀e∈O,∃d,X.ev G E e=some d):
  ∃d,(PK.fC).run (bw G) J.m ds=some d∧VR G E ι Y.h v d:=by
 unfold Db at hs;split at hs
 ·cases hs;obtain⟨d,rfl,H⟩:=hv.one;cases H;exact⟨_,rfl, .ptr (by assumption)⟩
 ·cases hs;obtain⟨d,rfl,H⟩:=hv.one;have H':=H;cases H;exact⟨_,rfl,H'⟩
 ·cases hs;obtain⟨d,rfl,H⟩:=hv.one;have H':=H;cases H;exact⟨_,rfl,H'⟩
 ·cases hs;obtain⟨d,rfl,H⟩:=hv.one;have H':=H;cases H;exact⟨_,rfl,H'⟩
 ·exact aB hv hs hO
theorem yO(M:Mt Ω G E ι γ Y J){q:Nat}{vs:List SV}{ds:List D}{v:SV}{O:List X}(hv:bA G E ι Y.h vs ds)(hs:De Y.h q vs=some (v,O))(hO: ∀e∈O,∃d,X.ev G E e=some d):
  ∃d,(PK.fld q).run (bw G) J.m ds=some d∧VR G E ι Y.h v d:=by
 unfold De at hs;split at hs
 ·cases hs;obtain⟨d,rfl,H⟩:=hv.one;cases H;exact⟨_,rfl, .ptr (by assumption)⟩
 ·cases hs;obtain⟨d,rfl,H⟩:=hv.one;rename_i n o c s i j;cases H with
  |dp h1 h2 h3 h4 h5=>
   have:=VR.dp (ι:=ι) (j:=j+q) h1 h2 h3 h4 h5;rw[←Nat.add_assoc]at this;exact⟨_,rfl,this⟩
 ·cases hs;obtain⟨d,rfl,H⟩:=hv.one;cases H with
  |ep h1 h2 h3 h4 h5 h6=>exact⟨_,rfl, .ep h1 h2 h3 h4 h5 h6⟩
 ·exact aB hv hs hO
theorem vE(M:Mt Ω G E ι γ Y J){m:Nat}{g:Bool}{vs:List SV}{ds:List D}{v:SV}{O:List X}(hv:bA G E ι Y.h vs ds)(hs:yS Y.h m g vs=some (v,O))(hO: ∀e∈O,∃d,X.ev G E e=some d):
  ∃d,(PK.load m g).run (bw G) J.m ds=some d∧VR G E ι Y.h v d:=by
 unfold yS at hs;split at hs
 ·rename_i n o;obtain⟨d,rfl,H⟩:=hv.one;cases H with
  |ptr hf=>
   simp only[hf]at hs;split at hs
   ·rename_i ho;obtain⟨xs,_,h1,h2⟩:=M.box _ _ hf;have hl:=h2.1;simp only[PK.run,iW,h1];rw[if_pos (by omega)];cases g
    ·simp only[Bool.false_eq_true,if_false]at hs⊢;obtain⟨u,hu,he⟩:=Mz.1 hs;cases he;have hlt:=(Gz.1 hu).1;exact⟨_,Ez (show o<xs.length by omega),h2.2 o _ _ hu (Ez _)⟩
    ·simp only[if_true]at hs⊢;cases hs;exact⟨_,rfl, .agg ((h2.drop o).take m).1 ((h2.drop o).take m).2⟩
   ·cases hs
 ·rename_i n o;obtain⟨d,rfl,H⟩:=hv.one;cases H with
  |rb hf hl=>
   simp only[hf]at hs;obtain⟨v',hv',he⟩:=Mz.1 hs;cases he;obtain⟨xs,_,h1,h2⟩:=M.box _ _ hf;have hlt:o<xs.length:=by rw[←h2.1];exact hl
   refine⟨xs[o], ?_,h2.2 o _ _ hv' (Ez hlt)⟩;simp only[PK.run,iW,h1]
   grind
 ·rename_i n o c s i j;obtain⟨d,rfl,H⟩:=hv.one;cases H with
  |dp hf hiv h0 hz hl=>
   rename_i z;simp only[hf]at hs;split at hs
   ·rename_i hjm;obtain⟨xs,hx,he⟩:=Mz.1 hs;cases he;obtain⟨ds,_,h1,h2⟩:=M.box _ _ hf;obtain⟨d',hd'⟩:=hO _ (List.mem_singleton.2 rfl);obtain⟨ds1,a1,a2⟩:=bc hd';obtain⟨da,di,rfl,a3,a4⟩:=oN a1;rw[hiv]at a4;cases a4;obtain⟨xs',b1,b2⟩:=bc a3;simp only[XK.run]at b2;split at b2<;>cases b2;obtain rfl:=gu ((h2.drop o).take (c*s)) hx b1
    have hzs:z.toNat*s+s≤c*s:=by
     have:(z.toNat+1)*s≤c*s:=Nat.mul_le_mul_right _ (by omega);rw[Nat.add_mul]at this;omega
    have hdl:=h2.1;simp only[XK.run]at a2;split at a2
    ·have Cl:(((ds.drop o).take (c*s)).drop (z.toNat*s+j)).take m=(ds.drop (o+z.toNat*s+j)).take m:=by
      rw[List.drop_take,List.drop_drop,List.take_take];congr 1
      ·omega
      ·congr 1;omega
     cases g
     ·simp only[Bool.false_eq_true,if_false,Bz]at a2;obtain⟨d0,c1,c2⟩:=a2;split at c2<;>cases c2;rename_i hno;have acC:=(Gz.1 c1).1;simp only[List.length_take,List.length_drop]at acC;rw[List.getElem?_take_of_lt (by omega),List.getElem?_drop]at c1;refine⟨d', ?_, .x hd' hno⟩;simp only[PK.run,iW,h1];rw[if_pos (by omega)];simp only[Bool.false_eq_true,if_false];rw[show o+z.toNat*s+j=o+(z.toNat*s+j) by omega];exact c1
     ·simp only[if_true]at a2;rw[Cl]at a2;split at a2<;>cases a2;rename_i hno;refine⟨_, ?_, .x hd' hno⟩;simp only[PK.run,iW,h1];rw[if_pos (by omega)];rfl
    ·cases a2
   ·cases hs
 ·rename_i n s i j;obtain⟨d,rfl,H⟩:=hv.one;split at hs
  ·cases hs
  rename_i hjm;obtain⟨c,hc,he⟩:=Mz.1 hs;cases he;obtain⟨e0,sz0,hf⟩:=b9 hc;obtain⟨d',hd'⟩:=hO _ (List.mem_singleton.2 rfl);cases H with
  |ep g1 g2 g3 g4 g5 g6=>
   rename_i es;rw[hf]at g1;cases g1;obtain⟨es',k1,k2,k3⟩:=M.az _ _ _ _ hf;rw[g2]at k1;cases k1;rcases k3 with⟨k3,_⟩|⟨_,k3⟩
   ·exact absurd k3 g3
   ·obtain⟨ds1,a1,a2⟩:=bc hd';obtain⟨p1,rfl,a3⟩:=jf a1;obtain⟨a4,a5⟩:=jI a2;obtain⟨ds2,b1,b2⟩:=bc a3;obtain⟨p2,rfl,b3⟩:=jf b1;obtain⟨b4,_⟩:=jI b2;obtain⟨ds3,c1,c2⟩:=bc b3;obtain⟨q1,q2,rfl,c3,c4⟩:=oN c1;obtain⟨c5,_⟩:=jI c2;rw[g2]at c3;cases c3;rw[g4]at c4;cases c4;simp only[PK.run,rP]at c5;rw[if_neg (by omega),Bz]at c5;obtain⟨cc,c6,c7⟩:=c5;by_cases hcl:cc.length=s
    ·rw[if_pos hcl]at c7;cases c7;simp only[PK.run,Hy,Jz]at b4;subst b4;refine⟨d', ?_, .x hd' a5⟩;simp only[PK.run,iW,k3,c6,Oz];simp only[PK.run,iW,List.length_drop]at a4;have HV:(cc.drop j)[0]?=cc[j]?:=by rw[List.getElem?_drop];rfl
     rw[HV,if_pos (by omega)]at a4;rw[if_pos ⟨hcl,by omega⟩];exact a4
    ·rw[if_neg hcl]at c7;cases c7
 ·exact aB hv hs hO
theorem yP(M:Mt Ω G E ι γ Y J){e s:Nat}{vs:List SV}{ds:List D}{v:SV}{O:List X}(hv:bA G E ι Y.h vs ds)(hs:Df Y.h e s vs=some (v,O))(hO: ∀e∈O,∃d,X.ev G E e=some d):
  ∃d,(PK.idx e s).run (bw G) J.m ds=some d∧VR G E ι Y.h v d:=by
 unfold Df at hs;split at hs
 ·rename_i n s' i;obtain⟨d,z,rfl,H,K⟩:=hv.two;split at hs
  ·rename_i hss;subst hss;obtain⟨c,hc,he⟩:=Mz.1 hs;cases he;obtain⟨e0,sz0,hf⟩:=b9 hc;obtain⟨d',hd'⟩:=hO _ (List.mem_singleton.2 rfl);obtain⟨ds1,a1,a2⟩:=bc hd';obtain⟨q1,q2,rfl,c3,c4⟩:=oN a1;obtain⟨c5,_⟩:=jI a2;obtain⟨k1,_⟩:=K.b7;rw[k1]at c4;cases c4;obtain⟨es,j1,j2,j3⟩:=M.az _ _ _ _ hf;rw[j1]at c3;cases c3;simp only[PK.run,rP]at c5;split at c5
   ·rename_i es0 kd zz heq;simp only[List.cons.injEq,D.list.injEq,and_true]at heq;obtain⟨rfl,rfl⟩:=heq;split at c5
    ·cases c5
    ·rename_i hz0;rw[Bz]at c5;obtain⟨cc,c6,_⟩:=c5;have hlt:=(Gz.1 c6).1;rcases j3 with⟨_,rfl⟩|⟨j4,j5⟩
     ·simp at hlt
     ·cases H with
      |gln g1 g2=>exact absurd g2 j4
      |gl g1 g2 g3=>
       rw[hf]at g1;cases g1;rw[j1]at g2;cases g2;refine⟨.rptr (ι n) s zz.toNat 0, ?_, .ep hf j1 j4 k1 (by omega) hlt⟩;simp only[PK.run,rP];rw[if_neg hz0,if_pos ⟨trivial,hlt⟩,Nat.zero_add]
   ·rename_i heq;simp at heq
   ·cases c5
  ·cases hs
 ·rename_i n s' k i;obtain⟨d,z,rfl,H,K⟩:=hv.two;split at hs
  ·rename_i hss;subst hss;obtain⟨c,hc,he⟩:=Mz.1 hs;cases he;obtain⟨e0,sz0,hf⟩:=b9 hc;obtain⟨d',hd'⟩:=hO _ (List.mem_singleton.2 rfl);obtain⟨ds1,a1,a2⟩:=bc hd';obtain⟨q1,q2,rfl,c3,c4⟩:=oN a1;obtain⟨c5,_⟩:=jI a2;obtain⟨k1,_⟩:=K.b7;rw[k1]at c4;cases c4;obtain⟨es,j1,j2,j3⟩:=M.az _ _ _ _ hf;obtain⟨kq,kk,g1,g2,g3,rfl⟩:=eZ j1 c3;simp only[PK.run,rP]at c5;split at c5
   ·rename_i es0 kd zz heq;simp only[List.cons.injEq,D.list.injEq,and_true]at heq;obtain⟨rfl,rfl⟩:=heq;split at c5
    ·cases c5
    ·rename_i hz0;rw[Bz]at c5;obtain⟨cc,c6,_⟩:=c5;have hlt:=(Gz.1 c6).1;simp only[List.length_take]at hlt;rcases j3 with⟨_,rfl⟩|⟨j4,j5⟩
     ·simp at hlt
     ·cases H with
      |gsn _ g4=>exact absurd g4 j4
      |gs g4 g5 g6 g7 g8 g9=>
       rw[g1]at g7;cases g7;rw[hf]at g4;cases g4;refine⟨.rptr (ι n) s zz.toNat 0, ?_, .ep hf j1 j4 k1 (by omega) (by omega)⟩;simp only[PK.run,rP];rw[if_neg hz0,if_pos ⟨trivial,by omega⟩,Nat.zero_add]
   ·rename_i heq;simp at heq
   ·cases c5
  ·cases hs
 ·rename_i n s' k i;obtain⟨d,z,rfl,H,K⟩:=hv.two;split at hs
  ·rename_i hss;subst hss;obtain⟨c,hc,he⟩:=Mz.1 hs;cases he;obtain⟨e0,sz0,hf⟩:=b9 hc;obtain⟨d',hd'⟩:=hO _ (List.mem_singleton.2 rfl);obtain⟨ds1,a1,a2⟩:=bc hd';obtain⟨q1,q2,rfl,c3,c4⟩:=oN a1;obtain⟨c5,_⟩:=jI a2;obtain⟨k1,_⟩:=K.b7;rw[k1]at c4;cases c4;obtain⟨es,j1,j2,j3⟩:=M.az _ _ _ _ hf;obtain⟨kq,kk,g1,g2,g3,rfl⟩:=xJ j1 c3;simp only[PK.run,rP]at c5;split at c5
   ·rename_i es0 kd zz heq;simp only[List.cons.injEq,D.list.injEq,and_true]at heq;obtain⟨rfl,rfl⟩:=heq;split at c5
    ·cases c5
    ·rename_i hz0;rw[Bz]at c5;obtain⟨cc,c6,_⟩:=c5;have hlt:=(Gz.1 c6).1;simp only[List.length_drop]at hlt;rcases j3 with⟨_,rfl⟩|⟨j4,j5⟩
     ·simp at hlt
     ·cases H with
      |gtn _ g4=>exact absurd g4 j4
      |gt g4 g5 g6 g7 g8 g9=>
       rw[g1]at g7;cases g7;rw[hf]at g4;cases g4;rw[j1]at g5;cases g5;have acR:0≤zz:=by omega
       have abR:(kk+zz).toNat=kk.toNat+zz.toNat:=by omega
       refine⟨.rptr (ι n) s (kk+zz).toNat 0, ?_, .ep hf j1 j4 (by simp only[X.ev,X.bm,g1,k1,Oz,Pz,XK.run];exact if_pos ⟨g2,acR⟩) (by omega) (by omega)⟩;simp only[PK.run,rP];rw[if_neg hz0,if_pos ⟨trivial,by omega⟩,abR]
   ·rename_i heq;simp at heq
   ·cases c5
  ·cases hs
 ·rename_i n o len kd z;obtain⟨d,e',rfl,H,K⟩:=hv.two;split at hs
  ·rename_i hz;cases hs;cases H with
   |sb hf hl=>
    obtain⟨k1,_⟩:=K.b7;cases k1;refine⟨.rptr (ι n) 1 (o+z.toNat) 0, ?_, .rb hf (by omega)⟩;simp only[PK.run,rP];rw[if_neg (by omega),if_pos ⟨trivial,by omega⟩]
  ·cases hs
 ·exact aB hv hs hO
theorem vC(M:Mt Ω G E ι γ Y J){cnt s:Nat}{vs:List SV}{ds:List D}{v:SV}{O:List X}(hv:bA G E ι Y.h vs ds)(hs:yF Y.h cnt s vs=some (v,O))(hO: ∀e∈O,∃d,X.ev G E e=some d):
  ∃d,(PK.aidx cnt s).run (bw G) J.m ds=some d∧VR G E ι Y.h v d:=by
 unfold yF at hs;split at hs
 ·rename_i n o kd z;obtain⟨d,e,rfl,H,K⟩:=hv.two;split at hs
  ·rename_i hz;cases hs;cases H with
   |ptr hf=>
    obtain⟨k1,_⟩:=K.b7;cases k1;refine⟨.ptr (ι n) (o+z.toNat*s), ?_, .ptr hf⟩;simp only[PK.run,vR]
    grind
  ·cases hs
 ·rename_i n o i hne;obtain⟨d,e,rfl,H,K⟩:=hv.two;split at hs
  ·rename_i us hf;split at hs
   ·rename_i hl;cases hs;obtain⟨d',hd'⟩:=hO _ (List.mem_singleton.2 rfl);obtain⟨ds1,a1,a2⟩:=bc hd';obtain⟨q1,rfl,c3⟩:=jf a1;obtain⟨k1,_⟩:=K.b7;rw[k1]at c3;cases c3;simp only[XK.run]at a2;split at a2<;>try (cases a2;done)
    rename_i kd z heq;simp only[List.cons.injEq,and_true]at heq;rw[heq]at k1⊢;split at a2
    ·rename_i hz;cases H with
     |ptr _=>
      have:=VR.dp (ι:=ι) (j:=0) hf k1 hz.1 hz.2 hl;rw[Nat.add_zero]at this;refine⟨.ptr (ι n) (o+z.toNat*s), ?_,this⟩;simp only[PK.run,vR];rw[if_pos hz]
    ·cases a2
   ·cases hs
  ·cases hs
 ·rename_i n sz i j kd z;obtain⟨d,e,rfl,H,K⟩:=hv.two;split at hs
  ·rename_i hz;cases hs;cases H with
   |ep h1 h2 h3 h4 h5 h6=>
    obtain⟨k1,_⟩:=K.b7;cases k1;refine⟨.rptr (ι n) sz _ (j+z.toNat*s), ?_, .ep h1 h2 h3 h4 h5 h6⟩;simp only[PK.run,vR];rw[if_pos hz]
  ·cases hs
 ·exact aB hv hs hO
theorem vD(M:Mt Ω G E ι γ Y J){vs:List SV}{ds:List D}{v:SV}{O:List X}(hv:bA G E ι Y.h vs ds)(hs:yR Y.h vs=some (v,O))(hO: ∀e∈O,∃d,X.ev G E e=some d):
  ∃d,(PK.llen).run (bw G) J.m ds=some d∧VR G E ι Y.h v d:=by
 unfold yR at hs;split at hs
 ·rename_i n sz;obtain⟨d,rfl,H⟩:=hv.one;obtain⟨c,hc,he⟩:=Mz.1 hs;cases he;obtain⟨e0,sz0,hf⟩:=b9 hc;obtain⟨d',hd'⟩:=hO _ (List.mem_singleton.2 rfl);obtain⟨ds1,a1,a2⟩:=bc hd';obtain⟨p1,rfl,a3⟩:=jf a1;obtain⟨a4,a5⟩:=jI a2;obtain⟨es,j1,j2,j3⟩:=M.az _ _ _ _ hf;rw[j1]at a3;cases a3;simp only[PK.run,yh,D.tS,Oz,Jz]at a4;subst a4;refine⟨_, ?_, .x hd' a5⟩;cases H with
  |gln g1 g2=>
   rcases j3 with⟨_,rfl⟩|⟨j4,_⟩
   ·rfl
   ·grind
  |gl g1 g2 g3=>
   rw[hf]at g1;cases g1;rw[j1]at g2;cases g2;rfl
 ·rename_i n sz k;obtain⟨d,rfl,H⟩:=hv.one;obtain⟨c,hc,he⟩:=Mz.1 hs;cases he;obtain⟨e0,sz0,hf⟩:=b9 hc;obtain⟨d',hd'⟩:=hO _ (List.mem_singleton.2 rfl);obtain⟨ds1,a1,a2⟩:=bc hd';obtain⟨p1,rfl,a3⟩:=jf a1;obtain⟨a4,a5⟩:=jI a2;obtain⟨es,j1,j2,j3⟩:=M.az _ _ _ _ hf;obtain⟨kq,kk,g1,g2,g3,rfl⟩:=eZ j1 a3;simp only[PK.run,yh,D.tS,Oz,Jz,List.length_take]at a4;refine⟨_, ?_, .x hd' a5⟩;cases H with
  |gsn g4 g5 g6=>
   rcases j3 with⟨_,rfl⟩|⟨j4,_⟩
   ·rw[←a4];simp[PK.run,yh,D.tS]
   ·grind
  |gs g4 g5 g6 g7 g8 g9=>
   rw[g1]at g7;cases g7;rw[←a4];simp only[PK.run,yh,D.tS,Oz]
   grind
 ·rename_i n sz k;obtain⟨d,rfl,H⟩:=hv.one;obtain⟨c,hc,he⟩:=Mz.1 hs;cases he;obtain⟨e0,sz0,hf⟩:=b9 hc;obtain⟨d',hd'⟩:=hO _ (List.mem_singleton.2 rfl);obtain⟨ds1,a1,a2⟩:=bc hd';obtain⟨p1,rfl,a3⟩:=jf a1;obtain⟨a4,a5⟩:=jI a2;obtain⟨es,j1,j2,j3⟩:=M.az _ _ _ _ hf;obtain⟨kq,kk,g1,g2,g3,rfl⟩:=xJ j1 a3;simp only[PK.run,yh,D.tS,Oz,Jz,List.length_drop]at a4;refine⟨_, ?_, .x hd' a5⟩;cases H with
  |gtn g4 g5 g6=>
   rcases j3 with⟨_,rfl⟩|⟨j4,_⟩
   ·rw[←a4];simp[PK.run,yh,D.tS]
   ·grind
  |gt g4 g5 g6 g7 g8 g9=>
   rw[g1]at g7;cases g7;rw[hf]at g4;cases g4;rw[j1]at g5;cases g5;rw[←a4];simp only[PK.run,yh,D.tS,Oz]
 ·cases hs;obtain⟨d,rfl,H⟩:=hv.one;cases H;exact⟨_,rfl, .x rfl rfl⟩
 ·exact aB hv hs hO
theorem yV(M:Mt Ω G E ι γ Y J){s:Nat}{lo hi mx:Bool}{vs:List SV}{ds:List D}{v:SV}{O:List X}(hv:bA G E ι Y.h vs ds)(hs:Di Y.h s lo hi mx vs=some (v,O))(hO: ∀e∈O,∃d,X.ev G E e=some d):
  ∃d,(PK.slc s lo hi mx).run (bw G) J.m ds=some d∧VR G E ι Y.h v d:=by
 unfold Di at hs;split at hs
 ·rename_i n s' k;obtain⟨d,z,rfl,H,K⟩:=hv.two;split at hs
  ·rename_i hss;subst hss;obtain⟨c,hc,he⟩:=Mz.1 hs;cases he;obtain⟨e0,sz0,hf⟩:=b9 hc;obtain⟨d',hd'⟩:=hO _ (List.mem_singleton.2 rfl);obtain⟨es,j1,j2,j3⟩:=M.az _ _ _ _ hf;obtain⟨kq,kk,g1,g2,g3,rfl⟩:=eZ j1 hd';obtain⟨k1,_⟩:=K.b7;rw[k1]at g1;cases g1;cases H with
   |gln g4 g5=>
    rcases j3 with⟨_,rfl⟩|⟨j4,_⟩
    ·obtain rfl:kk=0:=by simp at g3;omega
     rw[hf]at g4;cases g4;exact⟨.list [],by simp[PK.run,mC,eA,bK,pU], .gsn hf g5 k1⟩
    ·grind
   |gl g4 g5 g6=>
    rw[hf]at g4;cases g4;rw[j1]at g5;cases g5;refine⟨.sl (ι n) s 0 kk.toNat none, ?_, .gs hf j1 g6 k1 g2 g3⟩;simp only[PK.run,mC,eA,Pz,bK,Oz]
    grind
  ·cases hs
 ·rename_i n s' k0 k;obtain⟨d,z,rfl,H,K⟩:=hv.two;split at hs
  ·rename_i hss;subst hss;obtain⟨c,hc,he⟩:=Mz.1 hs;cases he;obtain⟨e0,sz0,hf⟩:=b9 hc;obtain⟨d',hd'⟩:=hO _ (List.mem_singleton.2 rfl);obtain⟨es,j1,j2,j3⟩:=M.az _ _ _ _ hf;obtain⟨kq,kk,g1,g2,g3,rfl⟩:=eZ j1 hd';obtain⟨k1,_⟩:=K.b7;rw[k1]at g1;cases g1;cases H with
   |gsn g4 g5 _=>
    rcases j3 with⟨_,rfl⟩|⟨j4,_⟩
    ·obtain rfl:kk=0:=by simp at g3;omega
     rw[hf]at g4;cases g4;exact⟨.list [],by simp[PK.run,mC,eA,bK,pU], .gsn hf g5 k1⟩
    ·exact absurd g5 j4
   |gs g4 g5 g6 g7 g8 g9=>
    rw[hf]at g4;cases g4;rw[j1]at g5;cases g5;rcases j3 with⟨j4,_⟩|⟨j4,j5⟩
    ·exact absurd j4 g6
    refine⟨.sl (ι n) s 0 kk.toNat none, ?_, .gs hf j1 g6 k1 g2 g3⟩;simp only[PK.run,mC,eA,Pz,bK,Oz];rw[if_pos ⟨by omega,g2, .inr (by simp only[EL,j5];simpa using g3),trivial⟩];simp
  ·cases hs
 ·rename_i n s' k mm;obtain⟨d,z,z2,rfl,H,K,K2⟩:=hv.three;split at hs
  ·rename_i hss;subst hss;obtain⟨c,hc,he⟩:=Mz.1 hs;cases he;obtain⟨e0,sz0,hf⟩:=b9 hc;obtain⟨d1,hd1⟩:=hO (.mk .take [.mk .take [c,mm],k]) (by simp);obtain⟨d2,hd2⟩:=hO (.mk .take [c,mm]) (by simp);obtain⟨d3,hd3⟩:=hO (.mk .take [c,k]) (by simp);obtain⟨es,j1,j2,j3⟩:=M.az _ _ _ _ hf;obtain⟨mq,mk',m1,m2,m3,rfl⟩:=eZ j1 hd2;obtain⟨kq,kk,g1,g2,g3,rfl⟩:=eZ j1 hd3;obtain⟨kq',kk',g1',g2',g3',rfl⟩:=eZ hd2 hd1;obtain⟨k1,_⟩:=K.b7;obtain⟨k2,_⟩:=K2.b7;rw[k1]at g1;cases g1;rw[k1]at g1';cases g1';rw[k2]at m1;cases m1;rw[List.length_take]at g3';have hkm:kk≤mk':=by omega
   cases H with
   |gln g4 g5=>
    rcases j3 with⟨_,rfl⟩|⟨j4,_⟩
    ·obtain rfl:kk=0:=by simp at g3;omega
     obtain rfl:mk'=0:=by simp at m3;omega
     rw[hf]at g4;cases g4;exact⟨.list [],by simp[PK.run,mC,eA,bK,pU], .gcn hf g5 k1⟩
    ·exact absurd g5 j4
   |gl g4 g5 g6=>
    rw[hf]at g4;cases g4;rw[j1]at g5;cases g5;refine⟨.sl (ι n) s 0 kk.toNat (some mk'.toNat), ?_, .gc hf j1 g6 k1 g2 g3⟩;simp only[PK.run,mC,eA,Pz,bK,Oz];rw[if_pos ⟨by omega,g2, .inl g3,trivial⟩];rw[if_pos ⟨hkm,m3⟩];simp
  ·cases hs
 ·rename_i n s' k0 k mm;obtain⟨d,z,z2,rfl,H,K,K2⟩:=hv.three;split at hs
  ·rename_i hss;subst hss;obtain⟨c,hc,he⟩:=Mz.1 hs;cases he;obtain⟨e0,sz0,hf⟩:=b9 hc;obtain⟨d1,hd1⟩:=hO (.mk .take [.mk .take [c,mm],k]) (by simp);obtain⟨d2,hd2⟩:=hO (.mk .take [c,mm]) (by simp);obtain⟨d3,hd3⟩:=hO (.mk .take [c,k]) (by simp);obtain⟨es,j1,j2,j3⟩:=M.az _ _ _ _ hf;obtain⟨d4,hd4⟩:=hO (.mk .take [c,k0]) (by simp);obtain⟨d5,hd5⟩:=hO (.mk .take [.mk .take [c,k0],mm]) (by simp);obtain⟨zq,zz,z1,z2',z3,rfl⟩:=eZ j1 hd4;obtain⟨mq5,mk5,LG,m52,m53,rfl⟩:=eZ hd4 hd5;rw[List.length_take]at m53;obtain⟨mq,mk',m1,m2,m3,rfl⟩:=eZ j1 hd2;obtain⟨kq,kk,g1,g2,g3,rfl⟩:=eZ j1 hd3;obtain⟨kq',kk',g1',g2',g3',rfl⟩:=eZ hd2 hd1;obtain⟨k1,_⟩:=K.b7;obtain⟨k2,_⟩:=K2.b7;rw[k1]at g1;cases g1;rw[k1]at g1';cases g1';rw[k2]at m1;cases m1;rw[List.length_take]at g3';have hkm:kk≤mk':=by omega
   cases H with
   |gsn g4 g5 _=>
    rcases j3 with⟨_,rfl⟩|⟨j4,_⟩
    ·obtain rfl:kk=0:=by simp at g3;omega
     obtain rfl:mk'=0:=by simp at m3;omega
     rw[hf]at g4;cases g4;exact⟨.list [],by simp[PK.run,mC,eA,bK,pU], .gcn hf g5 k1⟩
    ·exact absurd g5 j4
   |gs g4 g5 g6 g7 g8 g9=>
    rw[hf]at g4;cases g4;rw[j1]at g5;cases g5;rcases j3 with⟨j4,_⟩|⟨j4,j5⟩
    ·exact absurd j4 g6
    refine⟨.sl (ι n) s 0 kk.toNat (some mk'.toNat), ?_, .gc hf j1 g6 k1 g2 g3⟩;rw[z1]at g7;cases g7;rw[k2]at LG;cases LG;simp only[PK.run,mC,eA,Pz,bK,Oz];rw[if_pos ⟨by omega,g2, .inl (by omega),trivial⟩];rw[if_pos ⟨hkm,by omega⟩];simp
  ·cases hs
 ·rename_i n s' k;obtain⟨d,z,rfl,H,K⟩:=hv.two;split at hs
  ·rename_i hss;subst hss;obtain⟨c,hc,he⟩:=Mz.1 hs;cases he;obtain⟨e0,sz0,hf⟩:=b9 hc;obtain⟨d',hd'⟩:=hO _ (List.mem_singleton.2 rfl);obtain⟨es,j1,j2,j3⟩:=M.az _ _ _ _ hf;obtain⟨kq,kk,g1,g2,g3,rfl⟩:=xJ j1 hd';obtain⟨k1,_⟩:=K.b7;rw[k1]at g1;cases g1;cases H with
   |gln g4 g5=>
    rcases j3 with⟨_,rfl⟩|⟨j4,_⟩
    ·obtain rfl:kk=0:=by simp at g3;omega
     rw[hf]at g4;cases g4;exact⟨.list [],by simp[PK.run,mC,eA,bK,pU], .gtn hf g5 k1⟩
    ·exact absurd g5 j4
   |gl g4 g5 g6=>
    rw[hf]at g4;cases g4;rw[j1]at g5;cases g5;refine⟨.sl (ι n) s kk.toNat (es.length-kk.toNat) none, ?_, .gt hf j1 g6 k1 g2 g3⟩;simp only[PK.run,mC,eA,Pz,bK,Oz];rw[if_pos ⟨g2,g3, .inl (by omega),trivial⟩];simp
  ·cases hs
 ·exact aB hv hs hO
theorem yU(M:Mt Ω G E ι γ Y J){cnt s:Nat}{lo hi:Bool}{vs:List SV}{ds:List D}{v:SV}{O:List X}(hv:bA G E ι Y.h vs ds)(hs:Dh Y.h cnt s lo hi vs=some (v,O))(hO: ∀e∈O,∃d,X.ev G E e=some d):
  ∃d,(PK.sla cnt s lo hi).run (bw G) J.m ds=some d∧VR G E ι Y.h v d:=by
 unfold Dh at hs;split at hs
 ·rename_i n o;obtain⟨d,rfl,H⟩:=hv.one;split at hs
  ·rename_i us hf;split at hs
   ·rename_i hl;cases hs;cases H with
    |ptr _=>
     refine⟨.sl (ι n) 1 o cnt (some cnt), ?_, .sb hf hl⟩;simp[PK.run,Mp,eA,bK]
   ·cases hs
  ·cases hs
 ·rename_i n o kd z;obtain⟨d,e,rfl,H,K⟩:=hv.two;split at hs
  ·rename_i us hf;split at hs
   ·rename_i hl;cases hs;obtain⟨k1,_⟩:=K.b7;cases k1;cases H with
    |ptr _=>
     refine⟨.sl (ι n) 1 (o+z.toNat) (cnt-z.toNat) (some (cnt-z.toNat)), ?_, .sb hf (by omega)⟩;simp only[PK.run,Mp,eA,bK]
     grind
   ·cases hs
  ·cases hs
 ·exact aB hv hs hO
theorem yQ(M:Mt Ω G E ι γ Y J){ks:List Nat}{z:D}{ok:Bool}{vs:List SV}{ds:List D}{v:SV}{O:List X}(hv:bA G E ι Y.h vs ds)(hs:Dg Y.h ks z ok vs=some (v,O))(hO: ∀e∈O,∃d,X.ev G E e=some d):
  ∃d,(PK.lkp ks z ok).run (bw G) J.m ds=some d∧VR G E ι Y.h v d:=by
 unfold Dg at hs;split at hs
 ·rename_i n k;obtain⟨d,e,rfl,H,K⟩:=hv.two;split at hs
  ·rename_i c hf;obtain⟨kx,hkx,he⟩:=Mz.1 hs;cases he;obtain⟨d',hd'⟩:=hO _ (List.mem_singleton.2 rfl);obtain⟨ds1,a1,a2⟩:=bc hd';obtain⟨dc,dk,rfl,c3,c4⟩:=oN a1;obtain⟨es,j1,j2,j3⟩:=M.mpo _ _ hf;rw[j1]at c3;cases c3;obtain rfl:=b8 K hkx c4;simp only[XK.run,bJ,Oz,Bz]at a2;obtain⟨d0,g1,g2⟩:=a2;split at g2<;>cases g2;rename_i hno;cases H with
   |mp _=>
    refine⟨_, ?_, .x hd' hno⟩;simp only[PK.run,og,j3];exact g1
  ·cases hs
 ·exact aB hv hs hO
theorem vA(M:Mt Ω G E ι γ Y J){off n:Nat}{g:Bool}{vs:List SV}{ds:List D}{v:SV}{O:List X}(hv:bA G E ι Y.h vs ds)(hs:yE Y.h off n g vs=some (v,O))(hO: ∀e∈O,∃d,X.ev G E e=some d):
  ∃d,(PK.afld off n g).run (bw G) J.m ds=some d∧VR G E ι Y.h v d:=by
 unfold yE at hs;split at hs
 ·rename_i us;obtain⟨d,rfl,H⟩:=hv.one;cases H with
  |agg hl hh=>
   rename_i xs;have h2:bA G E ι Y.h us xs:=⟨hl,hh⟩;split at hs
   ·rename_i ho;simp only[PK.run,GA];rw[if_pos (by omega)];cases g
    ·simp only[Bool.false_eq_true]at hs⊢;obtain⟨u,hu,he⟩:=Mz.1 hs;cases he;have hlt:=(Gz.1 hu).1;exact⟨_,Ez (show off<xs.length by omega),h2.2 off _ _ hu (Ez _)⟩
    ·simp only[if_true]at hs⊢;cases hs;exact⟨_,rfl, .agg ((h2.drop off).take n).1 ((h2.drop off).take n).2⟩
   ·cases hs
 ·exact aB hv hs hO
theorem yM(M:Mt Ω G E ι γ Y J){f:Nat}{vs:List SV}{ds:List D}{v:SV}{O:List X}(hv:bA G E ι Y.h vs ds)(hs:Dc Y.h f vs=some (v,O))(hO: ∀e∈O,∃d,X.ev G E e=some d):
  ∃d,(PK.clo f).run (bw G) J.m ds=some d∧VR G E ι Y.h v d:=by
 unfold Dc at hs;split at hs
 ·rename_i hu;cases hs;refine⟨.clo f ds, ?_, .clo hv.1 hv.2⟩;simp only[PK.run,Kd];rw[if_pos (Tz.2 fun d hd=> ?_)];obtain⟨i,hi⟩:=List.getElem?_of_mem hd;have hil:i<vs.length:=by rw[hv.1];exact(Gz.1 hi).1
  have hvi:=Ez hil;have:=Tz.1 hu _ (Lz hvi);exact(hv.2 i _ d hvi hi).Ej (by simpa using this)
 ·cases hs
theorem vF(M:Mt Ω G E ι γ Y J){vs:List SV}{ds:List D}{v:SV}{O:List X}(hv:bA G E ι Y.h vs ds)(hs:yT Y.h vs=some (v,O))(hO: ∀e∈O,∃d,X.ev G E e=some d):
  ∃d,(PK.pick).run (bw G) J.m ds=some d∧VR G E ι Y.h v d:=by
 unfold yT at hs;split at hs
 ·rename_i c a b;obtain⟨d,e,f,rfl,H,K,L⟩:=hv.three;simp only[Bz,Mz]at hs;obtain⟨xc,h1,xa,h2,xb,h3,he⟩:=hs;cases he;obtain⟨d',hd'⟩:=hO _ (List.mem_singleton.2 rfl);have hd:=IV hd';simp only[X.ev,Bz]at hd;obtain⟨vc,g1,bb,g2,g3⟩:=hd;obtain rfl:=b8 H h1 g1;cases bb
  ·simp only[cond_false]at g3;obtain rfl:=b8 L h3 g3;exact⟨d',by simp[PK.run,EB,g2], .x hd' (xn L h3 g3)⟩
  ·simp only[cond_true]at g3;obtain rfl:=b8 K h2 g3;exact⟨d',by simp[PK.run,EB,g2], .x hd' (xn K h2 g3)⟩
 ·exact aB hv hs hO
theorem uM(M:Mt Ω G E ι γ Y J){vs:List SV}{ds:List D}{v:SV}{O:List X}(hv:bA G E ι Y.h vs ds)(hs:uL Y.h vs=some (v,O))(hO: ∀e∈O,∃d,X.ev G E e=some d):
  ∃d,(PK.ccall).run (bw G) J.m ds=some d∧VR G E ι Y.h v d:=by
 unfold uL at hs;split at hs
 ·rename_i f eK vs;obtain⟨d,r,rfl,H,K⟩:=hv.cons;split at hs
  rotate_left
  ·cases hs
  rename_i Cn;cases H with
  |clo hl hh=>
   obtain⟨d',h1,h2⟩:=nK M (K.append ⟨hl,hh⟩) hs hO;exact⟨d',by simp only[PK.run,tf,if_pos Cn];exact h1,h2⟩
 ·rename_i e vs;obtain⟨d,r,rfl,H,K⟩:=hv.cons;obtain⟨es,hx,he⟩:=Mz.1 hs;cases he;obtain⟨d',hd'⟩:=hO _ (List.mem_singleton.2 rfl);obtain⟨ds1,a1,a2⟩:=bc hd';simp only[X.bm,Bz,Mz]at a1;obtain⟨dc,b1,as,b2,rfl⟩:=a1;obtain⟨k1,k2⟩:=H.b7;rw[k1]at b1;cases b1;obtain⟨h3,h4⟩:=rF M K hx b2;simp only[XK.run]at a2;split at a2
  ·rename_i f eK rr heq;cases heq;split at a2
   rotate_left
   ·cases a2
   rename_i Cn;rw[Bz]at a2;obtain⟨cs,c1,c2⟩:=a2
   have hcp:eK.all D.aF=true:=by
    simp only[D.aF,Tz]at k2⊢;exact fun x hx=>mw (k2 x hx)
   have hcv:eK.mapM (bu J.m)=some cs:=by
    rw[←c1];exact mn fun x hx=>rC (Tz.1 hcp x hx)
   obtain⟨h5,h6⟩:=qH (m:=J.m) (ds:=r++eK) (as:=as++cs) (by rw[List.mapM_append,h3,hcv];rfl) (fun hf=>by
    simp only[List.all_append,Az]
    exact⟨h4 (by simpa using hf),hcp⟩) c2
   exact⟨d',by simp only[PK.run,tf,if_pos Cn];exact h5, .x hd' h6⟩
  ·cases a2
 ·exact aB hv hs hO
theorem uX{h:List (Nat×SO)}(d:D):VR G E ι h (Bw d) d:=by
 unfold Bw;split
 ·exact .x rfl (by assumption)
 ·exact .un
theorem aia{h:List (Nat×SO)}{v:SV}{d:D}{O:List X}(H:VR G E ι h v d)(ho:IQ v=some O)(hO: ∀e∈O,∃d,X.ev G E e=some d):d.gH=true:=by
 unfold IQ at ho;split at ho
 ·split at ho<;>cases ho;cases H with|x h1 _=>cases h1;assumption
 ·cases ho;cases H with
  |x h1 _=>
   obtain⟨ds,g1,g2⟩:=bc h1;simp only[XK.run]at g2
   grind
 ·cases ho;obtain⟨d',hd'⟩:=hO _ (List.mem_singleton.2 rfl);obtain⟨ds,g1,g2⟩:=bc hd';obtain⟨d2,rfl,g3⟩:=jf g1;obtain⟨h1,_⟩:=H.b7;simp only[XK.run]at g2
  grind
 ·cases H;rfl
 ·cases H<;>rfl
 ·cases H;rfl
 ·cases H;rfl
 ·cases H;rfl
 ·cases H<;>rfl
 ·cases H<;>rfl
 ·cases H;rfl
 ·cases H;rfl
 ·cases H;rfl
 ·cases ho
theorem pc{h:List (Nat×SO)}: ∀{vs:List SV} {ds:List D} {O:List X},bA G E ι h vs ds→yk vs=some O→(∀e∈O,∃d,X.ev G E e=some d)→ds.all D.gH=true
 | [],ds,O,H,_,_=>by
  have h0:ds= []:=List.eq_nil_of_length_eq_zero H.1.symm
  grind
 |v::r,ds,O,H,ho,hO=>by
  obtain⟨d,ds',rfl,h1,h2⟩:=H.cons;simp only[yk,Bz,Mz]at ho;obtain⟨a,h3,b,h4,rfl⟩:=ho;simp only[List.all_cons,aia h1 h3 fun e he=>hO e (by simp[he]),pc h2 h4 fun e he=>hO e (by simp[he]),Bool.and_self]
theorem il{h:List (Nat×SO)}{n:Nat}{g:Bool}{v:SV}{d:D}{vs:List SV}{O:List X}(H:VR G E ι h v d)(hc:l7 n g v=some (vs,O))(hO: ∀e∈O,∃d,X.ev G E e=some d):
  d.cells.length=n∧d.cells.all D.gH=true∧bA G E ι h vs d.cells:=by
 have one: ∀{u:SV} {d:D},VR G E ι h u d→d.cells= [d]→d.gH=true→n=1→d.cells.length=n∧d.cells.all D.gH=true∧bA G E ι h [u] d.cells:=fun{u d} H h1 h2 h3=>by
  rw[h1];exact⟨h3.symm,by simp[h2],bA.mk H bA.nil⟩
 unfold l7 at hc;split at hc
 ·split at hc
  ·rename_i hl;obtain⟨O',h1,h2⟩:=Mz.1 hc;cases h2;cases H with
   |agg h3 h4=>exact⟨h3.symm.trans hl,pc ⟨h3,h4⟩ h1 hO,h3,h4⟩
  ·cases hc
 ·rename_i e;obtain⟨h1,h2⟩:=H.b7;split at hc
  ·split at hc
   ·rename_i hn;cases hc;obtain⟨d',hd'⟩:=hO _ (List.mem_singleton.2 rfl);obtain⟨ds,g1,g2⟩:=bc hd';obtain⟨d2,rfl,g3⟩:=jf g1;rw[h1]at g3;cases g3;simp only[XK.run]at g2;split at g2
    ·rename_i hcc;refine⟨hcc.1,hcc.2.1,by simp[hcc.1],fun i v c hv hcd=> ?_⟩;have hi:=(Gz.1 hcd).1;simp only[Dz,List.getElem?_range (show i<n by omega),Pz,Jz]at hv;subst hv;refine .x ?_ (mw (Tz.1 hcc.2.2 _ (Lz hcd)));simp only[X.ev,X.bm,h1,Oz,Pz,XK.run]
     grind
    ·cases g2
   ·cases hc
  ·split at hc
   ·rename_i hn;cases hc;obtain⟨d',hd'⟩:=hO _ (List.mem_singleton.2 rfl);obtain⟨ds,g1,g2⟩:=bc hd';obtain⟨d2,rfl,g3⟩:=jf g1;rw[h1]at g3;cases g3;simp only[XK.run]at g2;split at g2
    ·rename_i hcc;have HR:d.cells= [d]:=by cases d<;>first|rfl|(simp[D.gH]at hcc)
     grind
    ·cases g2
   ·cases hc
 ·split at hc<;>cases hc;cases H with|ptr hf=>exact one (.ptr hf) rfl rfl (by assumption)
 ·split at hc<;>cases hc;have H':=H;cases H with
  |gln=>exact one H' rfl rfl (by assumption)
  |gl=>exact one H' rfl rfl (by assumption)
 ·split at hc<;>cases hc;have H':=H;cases H;exact one H' rfl rfl (by assumption)
 ·split at hc<;>cases hc;have H':=H;cases H;exact one H' rfl rfl (by assumption)
 ·split at hc<;>cases hc;have H':=H;cases H;exact one H' rfl rfl (by assumption)
 ·split at hc<;>cases hc;have H':=H;cases H with
  |gsn=>exact one H' rfl rfl (by assumption)
  |gs=>exact one H' rfl rfl (by assumption)
 ·split at hc<;>cases hc;have H':=H;cases H;exact one H' rfl rfl (by assumption)
 ·cases hc
theorem wO{h:List (Nat×SO)}{us vs:List SV}{xs ds:List D}{o:Nat}(H:bA G E ι h us xs)(K:bA G E ι h vs ds):bA G E ι h (us.take o++vs++us.drop (o+vs.length)) (putAt xs o ds):=by
 rw[K.1];exact((H.take o).append K).append (H.drop _)
theorem qQ{h:List (Nat×SO)}: ∀{ps:List (Nat×Nat)} {cells vs r:List SV} {xs ds:List D} {O:List X},bA G E ι h cells xs→bA G E ι h vs ds→Al cells ps vs=some (r,O)→(∀e∈O,∃d,X.ev G E e=some d)→
  ∃ys,ahI xs ps ds=some ys∧bA G E ι h r ys∧ds.all (fun d=>d.cells.all D.gH)=true
 | [],cells,[],r,xs,ds,O,H,K,hf,hO=>by
  cases hf;have:ds= []:=List.eq_nil_of_length_eq_zero K.1.symm;subst this;exact⟨xs,rfl,H,rfl⟩
 | [],cells,v::vs,r,xs,ds,O,H,K,hf,hO=>by cases hf
 |(off,n)::ps,cells,[],r,xs,ds,O,H,K,hf,hO=>by cases hf
 |(off,n)::ps,cells,v::vs,r,xs,ds,O,H,K,hf,hO=>by
  simp only[Al,Bz]at hf;obtain⟨⟨cs,O1⟩,h1,hf⟩:=hf;split at hf
  ·rename_i hlen;obtain⟨⟨r',O2⟩,h2,h3⟩:=Mz.1 hf;cases h3;obtain⟨d,ds',rfl,K1,K2⟩:=K.cons;obtain⟨c1,c2,c3⟩:=il K1 h1 fun e he=>hO e (List.mem_append_left _ he);have hcl:cs.length=n:=by rw[c3.1];exact c1
   have KV:=wO (o:=off) H c3;rw[hcl]at KV;obtain⟨ys,y1,y2,y3⟩:=qQ KV K2 h2 fun e he=>hO e (List.mem_append_right _ he);refine⟨ys, ?_,y2,by simp[c2,y3]⟩;simp only[ahI];rw[if_pos ⟨c1,by rw[←H.1];exact hlen⟩];exact y1
  ·cases hf
theorem uK(M:Mt Ω G E ι γ Y J){zero:List D}{places:List (Nat×Nat)}{vs:List SV}{ds:List D}{v:SV}{O:List X}(hv:bA G E ι Y.h vs ds)(hs:uJ Y.h zero places vs=some (v,O))(hO: ∀e∈O,∃d,X.ev G E e=some d):
  ∃d,(PK.build zero places).run (bw G) J.m ds=some d∧VR G E ι Y.h v d:=by
 unfold uJ at hs;split at hs
 ·rename_i q hq;cases hs
  have hz:bA G E ι Y.h (zero.map Bw) zero:=⟨by simp,fun i v d hv hd=>by
   rw[Dz,hd]at hv;simp only[Pz,Jz]at hv
   subst hv;exact uX d⟩
  obtain⟨ys,y1,y2,y3⟩:=qQ hz hv (show Al _ _ _=some (q.1,q.2)from hq) hO;refine⟨.agg ys, ?_, .agg y2.1 y2.2⟩;simp only[PK.run,xq]
  grind
 ·exact aB hv hs hO
theorem yG(M:Mt Ω G E ι γ Y J){n size:Nat}{g:Bool}{vs:List SV}{ds:List D}{v:SV}{O:List X}(hv:bA G E ι Y.h vs ds)(hs:Da Y.h n size g vs=some (v,O))(hO: ∀e∈O,∃d,X.ev G E e=some d):
  ∃d,(PK.aix n size g).run (bw G) J.m ds=some d∧VR G E ι Y.h v d:=by
 unfold Da at hs;split at hs
 ·rename_i us k i;obtain⟨d,e,rfl,H,K⟩:=hv.two;obtain⟨k1,_⟩:=K.b7;cases k1;cases H with
  | @agg _ xs hl hh=>
   have HH:bA G E ι Y.h us xs:=⟨hl,hh⟩;split at hs
   ·rename_i hc;have hc':0≤i∧i<n∧i.toNat*size+size≤xs.length:=by rw[←hl];exact hc
    split at hs
    ·rename_i hg;cases hs;refine⟨.agg ((xs.drop (i.toNat*size)).take size),by simp only[PK.run,JY];rw[if_pos hc',if_pos hg], ?_⟩;have:=(HH.drop (i.toNat*size)).take size;exact .agg this.1 this.2
    ·rename_i hg;obtain⟨u,hu,he⟩:=Mz.1 hs;cases he;have hi:=(Gz.1 hu).1;have hd:xs[i.toNat*size]?=some (xs[i.toNat*size]'(by omega)):=Ez _;refine⟨_,by simp only[PK.run,JY];rw[if_pos hc',if_neg hg];exact hd,hh _ _ _ hu hd⟩
   ·cases hs
 ·exact aB hv hs hO
theorem gT(M:Mt Ω G E ι γ Y J){k:PK}{vs:List SV}{ds:List D}{v:SV}{O:List X}(hv:bA G E ι Y.h vs ds)(hs:uO Y.h k vs=some (v,O))(hO: ∀e∈O,∃d,X.ev G E e=some d):
  ∃d,k.run (bw G) J.m ds=some d∧VR G E ι Y.h v d:=by
 unfold uO at hs;split at hs
 ·exact Bp M hv hs hO
 ·exact yN M hv hs hO
 ·exact yL M hv hs hO
 ·exact yO M hv hs hO
 ·exact vE M hv hs hO
 ·exact yP M hv hs hO
 ·exact vC M hv hs hO
 ·exact vD M hv hs hO
 ·exact yV M hv hs hO
 ·exact yU M hv hs hO
 ·exact yQ M hv hs hO
 ·exact vA M hv hs hO
 ·exact yM M hv hs hO
 ·exact vF M hv hs hO
 ·exact nK M hv hs hO
 ·exact uM M hv hs hO
 ·exact uK M hv hs hO
 ·exact yG M hv hs hO
 ·exact aB hv hs hO
end
end
end Go.Proofs.YtkcfpgaepmllhaaGreatDoor
