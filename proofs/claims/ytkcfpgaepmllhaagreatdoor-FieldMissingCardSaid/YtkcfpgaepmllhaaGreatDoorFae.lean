/- Part of the proof: symbolic execution of the program, its soundness, and the closing lemmas. No condition. -/
import Derived.Test.YtkcfpgaepmllhaaGreatDoorFad
import Derived.Test.YtkcfpgaepmllhaaGreatDoorFac
import Derived.RangeFuncRecord
namespace Go.Proofs.YtkcfpgaepmllhaaGreatDoor
open Go.RowKit
set_option maxRecDepth 100000
set_option linter.all false
section
def uj{α:Type}(p:Nat→Bool):List (Nat×α)→List (Nat×α)
 | []=> []
 |(i,a)::r=>bif p i then(i,a)::uj p r else uj p r
theorem qu{α:Type}(p:Nat→Bool): ∀(l:List (Nat×α)) {k:Nat} {v:α},find (uj p l) k=some v→find l k=some v
 | [],_,_,h=>h
 |(i,a)::r,k,v,h=>by
  simp only[uj]at h;simp only[find];cases hi:i==k with
  |true=>
   have:i=k:=by simpa using hi
   subst this;cases hc:p i with
   |true=>rw[hc]at h;simp only[cond_true,find,beq_self_eq_true]at h;exact h
   |false=>
    have none: ∀l:List (Nat×α),find (uj p l) i=none:=by
     intro l
     induction l with
     |nil=>rfl
     |cons q l ih=>
      obtain⟨j,b⟩:=q;simp only[uj];cases hj:p j with
      |false=>simpa using ih
      |true=>
       simp only[cond_true,find]
       grind
    grind
  |false=>
   cases hc:p i with
   |true=>rw[hc]at h;simp only[cond_true,find,hi]at h;exact qu p r h
   |false=>rw[hc]at h;exact qu p r h
def Ma:List Nat→Nat→Bool
 | [],_=>false
 |a::r,n=>bif Nat.beq a n then true else Ma r n
def Sy.trim(n:Nat)(ks:List Nat)(Y:Sy):Sy:={Y with s:=uj (fun i=>Nat.ble n i||Ma ks i) Y.s}
theorem Mt.trim{Ω:bO}{G:FP}{E:List D}{ι γ:Nat→Tok}{Y:Sy}{J:St}(M:Mt Ω G E ι γ Y J)(n:Nat)(ks:List Nat):Mt Ω G E ι γ (Y.trim n ks) J:=M.sub (fun _ _ h=>qu _ _ h) (fun _=>rfl) rfl
def isAtom:X→Bool
 | .t _| .q _=>true
 | .mk (.cell _ _) [.t _]=>true
 |_=>false
def LJ:List X→X→Nat→Option Nat
 | [],_,_=>none
 |a::r,e,i=>if dH a e then some i else LJ r e (i+1)
def tF(k:Nat)(acc:List X)(e:X):X×List X:=
 match e with
 | .t i=>(.t i,acc)
 |e=>match LJ acc e 0 with
  |some i=>(.t (k+i),acc)
  |none=>(.t (k+acc.length),acc++ [e])
def jk(k:Nat)(acc:List X)(e:X):X×List X:=
 if isAtom e then(e,acc)else match e with
 | .mk (.cell j n) [e']=>(.mk (.cell j n) [(tF k acc e').1],(tF k acc e').2)
 |e=>tF k acc e
mutual
def cA(k:Nat)(acc:List X):SV→SV×List X
 | .x e=>(.x (jk k acc e).1,(jk k acc e).2)
 | .agg vs=>(.agg (dX k acc vs).1,(dX k acc vs).2)
 | .tup vs=>(.tup (dX k acc vs).1,(dX k acc vs).2)
 | .clo f vs=>(.clo f (dX k acc vs).1,(dX k acc vs).2)
 |v=>(v,acc)
def dX(k:Nat)(acc:List X):List SV→List SV×List X
 | []=>([],acc)
 |v::r=>((cA k acc v).1::(dX k (cA k acc v).2 r).1,(dX k (cA k acc v).2 r).2)
end
def lU(k:Nat):List X→List (Nat×SV)→List (Nat×SV)×List X
 |acc,[]=>([],acc)
 |acc,(i,v)::r=>((i,(cA k acc v).1)::(lU k (cA k acc v).2 r).1,(lU k (cA k acc v).2 r).2)
def gM(k:Nat)(acc:List X):SO→SO×List X
 | .box vs=>(.box (dX k acc vs).1,(dX k acc vs).2)
 | .au e sz c=>(.au e sz (jk k acc c).1,(jk k acc c).2)
 | .map c=>(.map (jk k acc c).1,(jk k acc c).2)
 | .mpl e sz c=>(.mpl e sz (jk k acc c).1,(jk k acc c).2)
 | .raw q=>(.raw q,acc)
def nN(k:Nat):List X→List (Nat×SO)→List (Nat×SO)×List X
 |acc,[]=>([],acc)
 |acc,(i,o)::r=>((i,(gM k acc o).1)::(nN k (gM k acc o).2 r).1,(nN k (gM k acc o).2 r).2)
def Sy.atom(Y:Sy):Sy×List X:=
 ({Y with s:=(lU Y.nv [] Y.s).1,h:=(nN Y.nv (lU Y.nv [] Y.s).2 Y.h).1,nv:=Y.nv+(nN Y.nv (lU Y.nv [] Y.s).2 Y.h).2.length},(nN Y.nv (lU Y.nv [] Y.s).2 Y.h).2)
def oR(a b:List X):Prop:= ∃s,b=a++s
theorem oR.refl(a:List X):oR a a:=⟨[],by simp⟩
theorem oR.trans{a b c:List X}(h:oR a b)(k:oR b c):oR a c:=by
 obtain⟨s,rfl⟩:=h;obtain⟨t,rfl⟩:=k;exact⟨s++t,by simp⟩
theorem xg: ∀{l:List X} {e:X} {i k:Nat},LJ l e i=some k→i≤k∧l[k-i]?=some e
 | [],_,_,_,h=>by cases h
 |a::r,e,i,k,h=>by
  simp only[LJ]at h;split at h
  ·rename_i he;rw[←aK _ _ he]
   grind
  ·obtain⟨h1,h2⟩:=xg h
   grind
section
variable {G : FP} {E ds : List D} {ι γ : Nat → Tok}
theorem ot{k:Nat}{acc:List X}{e:X}:oR acc (tF k acc e).2∧ ∀{fin:List X} {d:D},oR (tF k acc e).2 fin→X.ba G E fin=some ds→E.length=k→X.ev G E e=some d→X.ev G (E++ds) (tF k acc e).1=some d:=by
 have look: ∀{fin:List X} {d:D} {i:Nat} {e:X},fin[i]?=some e→X.ba G E fin=some ds→E.length=k→X.ev G E e=some d→X.ev G (E++ds) (.t (k+i))=some d:=fun{fin d i e} hf he hk hd=>by
  have hl:=dh he;have hi:=(Gz.1 hf).1;have h1:=Ez (show i<ds.length by omega);have h2:=fy he i _ _ hf h1;simp only[X.ev]
  grind
 unfold tF;split
 ·exact⟨oR.refl _,fun _ _ _ hd=>bt _ _ hd⟩
 ·split
  ·rename_i i hi;refine⟨oR.refl _,fun{fin d} hp he hk hd=> ?_⟩;obtain⟨s,rfl⟩:=hp;have:=(xg hi).2
   grind
  ·refine⟨⟨_,rfl⟩,fun{fin d} hp he hk hd=> ?_⟩;obtain⟨s,rfl⟩:=hp
   grind
theorem fH{k:Nat}{acc:List X}{e:X}:oR acc (jk k acc e).2∧ ∀{fin:List X} {d:D},oR (jk k acc e).2 fin→X.ba G E fin=some ds→E.length=k→X.ev G E e=some d→X.ev G (E++ds) (jk k acc e).1=some d:=by
 unfold jk;split
 ·exact⟨oR.refl _,fun _ _ _ hd=>bt _ _ hd⟩
 ·split
  ·rename_i j n e';refine⟨ot (G:=G) (E:=E) (ds:=ds).1,fun{fin d} hp he hk hd=> ?_⟩;obtain⟨xs,h1,h2⟩:=aP hd;obtain⟨d0,rfl,h3⟩:=je h1;have:=ot (G:=G) (E:=E) (ds:=ds).2 hp he hk h3;simp only[X.ev,X.ba,this,Oz,Pz,h2]
  ·exact ot
theorem VR.hp{E':List D}{h h':List (Nat×SO)}{v:SV}{d:D}(H:VR G E ι h v d)(hE: ∀e d,X.ev G E e=some d→X.ev G E' e=some d)(hh: ∀n,Lk G E E' h h' n):VR G E' ι h' v d:=
 H.mono hE fun n _=>⟨rfl,hh n⟩
theorem tD{k:Nat}: ∀{acc:List X} {vs:List SV},(dX k acc vs).1.length=vs.length
 |_,[]=>rfl
 |acc,v::r=>by simp only[dX,List.length_cons,tD]
mutual
theorem wP{k:Nat}: ∀(acc:List X) (v:SV),oR acc (cA k acc v).2
 |acc, .x e=>by simp only[cA];exact(fH (G:=fun _ _=>none) (E:= []) (ds:= [])).1
 |acc, .agg vs=>by simp only[cA];exact gw acc vs
 |acc, .tup vs=>by simp only[cA];exact gw acc vs
 |acc, .clo f vs=>by simp only[cA];exact gw acc vs
 |acc, .un|acc, .ptr .. |acc, .gl .. |acc, .ep .. |acc, .gd .. |acc, .dp .. |acc, .gs .. |acc, .gc .. |acc, .gt .. |acc, .sb .. |acc, .rb .. |acc, .mp .. |acc, .yl .. =>by simp only[cA];exact oR.refl _
theorem gw{k:Nat}: ∀(acc:List X) (vs:List SV),oR acc (dX k acc vs).2
 |acc,[]=>by simp only[dX];exact oR.refl _
 |acc,v::r=>by simp only[dX];exact(wP acc v).trans (gw _ r)
end
mutual
theorem ri{k:Nat}{h h':List (Nat×SO)}{fin:List X}(he:X.ba G E fin=some ds)(hk:E.length=k)(hh: ∀n,Lk G E (E++ds) h h' n): ∀(acc:List X) (v:SV),oR (cA k acc v).2 fin→ ∀{d:D},VR G E ι h v d→VR G (E++ds) ι h' (cA k acc v).1 d
 |acc, .x e,hp,d,H=>by
  simp only[cA]at hp⊢;obtain⟨h1,h2⟩:=H.ca;exact .x (fH.2 hp he hk h1) h2
 |acc, .agg vs,hp,d,H=>by
  simp only[cA]at hp⊢;cases H with
  |agg hl h2=>obtain⟨k1,k2⟩:=fO he hk hh acc vs hp ⟨hl,h2⟩;exact .agg k1 k2
 |acc, .clo f vs,hp,d,H=>by
  simp only[cA]at hp⊢;cases H with
  |clo hl h2=>obtain⟨k1,k2⟩:=fO he hk hh acc vs hp ⟨hl,h2⟩;exact .clo k1 k2
 |acc, .tup vs,hp,d,H=>by
  simp only[cA]at hp⊢;cases H with
  |tup hl h2=>obtain⟨k1,k2⟩:=fO he hk hh acc vs hp ⟨hl,h2⟩;exact .tup k1 k2
 |acc, .un,hp,d,H=>by simp only[cA];exact .un
 |acc, .ptr ..,hp,d,H=>by simp only[cA];exact H.hp (fun _ _ h=>bt _ _ h) hh
 |acc, .dp ..,hp,d,H=>by simp only[cA];exact H.hp (fun _ _ h=>bt _ _ h) hh
 |acc, .gt ..,hp,d,H=>by simp only[cA];exact H.hp (fun _ _ h=>bt _ _ h) hh
 |acc, .gs ..,hp,d,H=>by simp only[cA];exact H.hp (fun _ _ h=>bt _ _ h) hh
 |acc, .gc ..,hp,d,H=>by simp only[cA];exact H.hp (fun _ _ h=>bt _ _ h) hh
 |acc, .sb ..,hp,d,H=>by simp only[cA];exact H.hp (fun _ _ h=>bt _ _ h) hh
 |acc, .rb ..,hp,d,H=>by simp only[cA];exact H.hp (fun _ _ h=>bt _ _ h) hh
 |acc, .mp ..,hp,d,H=>by simp only[cA];exact H.hp (fun _ _ h=>bt _ _ h) hh
 |acc, .yl ..,hp,d,H=>by simp only[cA];exact H.hp (fun _ _ h=>bt _ _ h) hh
 |acc, .gl ..,hp,d,H=>by simp only[cA];exact H.hp (fun _ _ h=>bt _ _ h) hh
 |acc, .ep ..,hp,d,H=>by simp only[cA];exact H.hp (fun _ _ h=>bt _ _ h) hh
 |acc, .gd ..,hp,d,H=>by simp only[cA];exact H.hp (fun _ _ h=>bt _ _ h) hh
theorem fO{k:Nat}{h h':List (Nat×SO)}{fin:List X}(he:X.ba G E fin=some ds)(hk:E.length=k)(hh: ∀n,Lk G E (E++ds) h h' n): ∀(acc:List X) (vs:List SV),oR (dX k acc vs).2 fin→ ∀{xs:List D},bz G E ι h vs xs→bz G (E++ds) ι h' (dX k acc vs).1 xs
 |acc,[],hp,xs,H=>by
  simp only[dX];have h0:xs= []:=List.eq_nil_of_length_eq_zero H.1.symm;subst h0;exact bz.nil
 |acc,v::r,hp,xs,H=>by
  simp only[dX]at hp⊢;obtain⟨d,xs',rfl,h1,h2⟩:=H.cons;exact bz.mk (ri he hk hh acc v ((gw _ r).trans hp) h1) (fO he hk hh _ r hp h2)
end
theorem tC{k:Nat}{n:Nat}: ∀{acc:List X} {l:List (Nat×SV)} {v:SV},find (lU k acc l).1 n=some v→ ∃gL v0,find l n=some v0∧v=(cA k gL v0).1∧oR (cA k gL v0).2 (lU k acc l).2
 |acc,[],v,h=>by simp[lU,find]at h
 |acc,(i,u)::r,v,h=>by
  have tail: ∀{acc:List X} {l:List (Nat×SV)},oR acc (lU k acc l).2:=fun{acc l}=>by
   induction l generalizing acc with
   |nil=>exact oR.refl _
   |cons p l ih=>exact(wP _ _).trans ih
  simp only[lU,find]at h⊢;cases hi:i==n with
  |true=>rw[hi]at h;simp only[cond_true,Jz]at h;exact⟨acc,u,rfl,h.symm,tail⟩
  |false=>rw[hi]at h;exact tC h
theorem FN{k:Nat}{acc:List X}{o:SO}:oR acc (gM k acc o).2:=by
 cases o with
 |box vs=>exact gw acc vs
 |au e sz c=>exact(fH (G:=fun _ _=>none) (E:= []) (ds:= [])).1
 |map c=>exact(fH (G:=fun _ _=>none) (E:= []) (ds:= [])).1
 |mpl e sz c=>exact(fH (G:=fun _ _=>none) (E:= []) (ds:= [])).1
 |raw=>exact oR.refl _
theorem qf{k:Nat}: ∀{acc:List X} {l:List (Nat×SO)},oR acc (nN k acc l).2
 |acc,[]=>oR.refl _
 |acc,(i,o)::r=>FN.trans qf
theorem tA{k:Nat}{n:Nat}: ∀{acc:List X} {l:List (Nat×SO)},(find (nN k acc l).1 n=none∧find l n=none)∨ ∃gL o0,find l n=some o0∧find (nN k acc l).1 n=some (gM k gL o0).1∧oR (gM k gL o0).2 (nN k acc l).2
 |acc,[]=> .inl ⟨rfl,rfl⟩
 |acc,(i,o)::r=>by
  simp only[nN,find];cases hi:i==n with
  |true=>exact .inr ⟨acc,o,rfl,rfl,qf⟩
  |false=>exact tA
theorem Mt.atom{Ω:bO}{Y:Sy}{J:St}(M:Mt Ω G E ι γ Y J)(he:X.ba G E Y.atom.2=some ds):Mt Ω G (E++ds) ι γ Y.atom.1 J:=by
 have hk:=M.nv
 have Wl: ∀n,(find Y.atom.1.h n=none∧find Y.h n=none)∨ ∃gL o0,find Y.h n=some o0∧find Y.atom.1.h n=some (gM Y.nv gL o0).1∧oR (gM Y.nv gL o0).2 Y.atom.2:=fun n=>
  tA (k:=Y.nv) (n:=n) (acc:=(lU Y.nv [] Y.s).2) (l:=Y.h)
 have exprs: ∀{gL:List X} {c:X},oR (jk Y.nv gL c).2 Y.atom.2→ ∀d,X.ev G E c=some d→X.ev G (E++ds) (jk Y.nv gL c).1=some d:=fun h3 d hd=>fH.2 h3 he hk hd
 have hh: ∀n,Lk G E (E++ds) Y.h Y.atom.1.h n:=fun n o ho=>by
  rcases Wl n with⟨_,h2⟩|⟨gL,o0,h1,h2,h3⟩
  ·grind
  ·rw[ho]at h1;cases h1;refine⟨_,h2, ?_⟩;cases o with
   |box vs=>simp only[gM,SO.cZ,tD]
   |au e sz c=>exact⟨rfl,rfl,fun es hes=>⟨es,exprs h3 _ hes,rfl⟩⟩
   |map c=>trivial
   |mpl=>trivial
   |raw=>trivial
 have back: ∀n o,find Y.atom.1.h n=some o→ ∃gL o0,find Y.h n=some o0∧o=(gM Y.nv gL o0).1∧oR (gM Y.nv gL o0).2 Y.atom.2:=fun n o ho=>by
  grind
 have hl: ∀n e sz c,find Y.atom.1.h n=some (.au e sz c)→ ∃c0,find Y.h n=some (.au e sz c0)∧ ∀d,X.ev G E c0=some d→X.ev G (E++ds) c=some d:=fun n e sz c hf=>by
  obtain⟨gL,o0,h1,h2,h3⟩:=back n _ hf;cases o0<;>simp only[gM,reduceCtorEq,SO.au.injEq]at h2;obtain⟨rfl,rfl,rfl⟩:=h2;exact⟨_,h1,exprs h3⟩
 refine⟨fun i v hv=> ?_,fun n vs hn=> ?_,fun n e sz c hn=> ?_,fun n c hn=> ?_,fun n e sz c hn=> ?_,fun a b _ _ _ _ _ _ h1 h2=> ?_,fun n kk hn=> ?_,fun a b o o' h1 h2=> ?_,fun a b e e' sz sz' c c' h1 h2=> ?_,M.wf,fun n e sz c hn=> ?_, ?_,M.con⟩
 ·obtain⟨gL,v0,h1,rfl,h3⟩:=tC hv;exact ri he hk hh gL v0 (h3.trans qf) (M.slot i v0 h1)
 ·obtain⟨gL,o0,h1,h2,h3⟩:=back n _ hn;cases o0<;>simp only[gM,reduceCtorEq,SO.box.injEq]at h2;subst h2;obtain⟨xs,k1,k2,k3⟩:=M.box n _ h1;exact⟨xs,k1,k2,fO he hk hh gL _ h3 k3⟩
 ·obtain⟨c0,h1,h2⟩:=hl n e sz c hn;obtain⟨es,k1,k2⟩:=M.au n e sz c0 h1
  grind
 ·obtain⟨gL,o0,h1,h2,h3⟩:=back n _ hn;cases o0<;>simp only[gM,reduceCtorEq,SO.map.injEq]at h2;subst h2;obtain⟨es,k1,k2,k3⟩:=M.mpo n _ h1;exact⟨es,exprs h3 _ k1,k2,k3⟩
 ·obtain⟨gL,o0,h1,h2,h3⟩:=back n _ hn;cases o0<;>simp only[gM,reduceCtorEq,SO.mpl.injEq]at h2;obtain⟨rfl,rfl,rfl⟩:=h2;obtain⟨L,k1,k2,k3,k4⟩:=M.own n _ _ _ h1;refine⟨L,exprs h3 _ k1,k2,k3,fun q hq=>(k4.1 q hq).lE rfl (fun k o hk=> ?_) (fun k e sz c hk=> ?_) fun _=>Nat.le_refl _,k4.2⟩
  ·obtain⟨_,o1,g1,_⟩:=back k o hk
   grind
  ·obtain⟨c0,g1,_⟩:=hl k e sz c hk;exact(k4.1 q hq).2.2.2.2.1 k e sz c0 g1
 ·have mp: ∀{n e sz c},find Y.atom.1.h n=some (.mpl e sz c)→ ∃c0,find Y.h n=some (.mpl e sz c0):=fun{n e sz c} h=>by
   obtain⟨gL,o0,h1,h2,h3⟩:=back n _ h;cases o0<;>simp only[gM,reduceCtorEq,SO.mpl.injEq]at h2;obtain⟨rfl,rfl,rfl⟩:=h2;exact⟨_,h1⟩
  obtain⟨_,g1⟩:=mp h1;obtain⟨_,g2⟩:=mp h2;exact M.one a b _ _ _ _ _ _ g1 g2
 ·obtain⟨gL,o0,h1,h2,h3⟩:=back n _ hn;cases o0<;>simp only[gM,reduceCtorEq,SO.raw.injEq]at h2;subst h2;exact M.rwo n _ h1
 ·obtain⟨_,o1,g1,_⟩:=back a o h1;obtain⟨_,o2,g2,_⟩:=back b o' h2;exact M.inj a b o1 o2 g1 g2
 ·obtain⟨c0,g1,_⟩:=hl a e sz c h1;obtain⟨c1,g2,_⟩:=hl b e' sz' c' h2;exact M.gZ a b e e' sz sz' c0 c1 g1 g2
 ·obtain⟨c0,g1,_⟩:=hl n e sz c hn;exact M.old n e sz c0 g1
 ·rw[List.length_append,dh he,hk];rfl
end
mutual
def zn(e:X):X→Bool
 | .mk k xs=>dH e (.mk k xs)||B8 e xs
 | .ite c a b=>dH e (.ite c a b)||zn e c
 |x=>dH e x
def B8(e:X):List X→Bool
 | []=>false
 |x::r=>zn e x||B8 e r
end
def UJ(e x:X):Bool:=zn e x||match e,x with
 | .ite (.mk (.gv w) [c']) e' (.q _), .ite c a b=>dH c' c&&zn e' (bif w then a else b)
 | .mk (.gv _) [c'], .ite c _ _=>dH c' c
 |_,_=>false
def prune(es:List X):List X→List X
 | []=> []
 |e::r=>if(es++prune es r).any (UJ e)then prune es r else e::prune es r
section
variable {G : FP} {E : List D}
mutual
theorem iY{e:X}: ∀(x:X),zn e x=true→(∃d,X.ev G E x=some d)→ ∃d,X.ev G E e=some d
 | .t i,h,k=>by simp only[zn]at h;rw[aK _ _ h];exact k
 | .q i,h,k=>by simp only[zn]at h;rw[aK _ _ h];exact k
 | .mk kk xs,h,k=>by
  simp only[zn,Bool.or_eq_true]at h;rcases h with h|h
  ·rw[aK _ _ h];exact k
  ·obtain⟨d,hd⟩:=k;obtain⟨ds,h1,_⟩:=aP hd;exact rW xs h ⟨ds,h1⟩
 | .ite c a b,h,k=>by
  simp only[zn,Bool.or_eq_true]at h;rcases h with h|h
  ·rw[aK _ _ h];exact k
  ·obtain⟨d,hd⟩:=k;simp only[X.ev,Bz]at hd;obtain⟨v,h1,_⟩:=hd;exact iY c h ⟨v,h1⟩
theorem rW{e:X}: ∀(xs:List X),B8 e xs=true→(∃ds,X.ba G E xs=some ds)→ ∃d,X.ev G E e=some d
 | [],h,_=>by simp[B8]at h
 |x::r,h,k=>by
  simp only[B8,Bool.or_eq_true]at h;obtain⟨ds,hd⟩:=k;simp only[X.ba,Bz,Mz]at hd;obtain⟨d,h1,ds',h2,_⟩:=hd;rcases h with h|h
  ·exact iY x h ⟨d,h1⟩
  ·exact rW r h ⟨ds',h2⟩
end
theorem DO{e x:X}(h:UJ e x=true)(k: ∃d,X.ev G E x=some d): ∃d,X.ev G E e=some d:=by
 unfold UJ at h;rw[Bool.or_eq_true]at h;rcases h with h|h
 ·exact iY x h k
 ·split at h
  ·rename_i w c' e' q c a b;rw[Az]at h;obtain⟨h1,h2⟩:=h;obtain rfl:=aK _ _ h1;obtain⟨d,hd⟩:=k;simp only[X.ev,Bz]at hd;obtain⟨v,g1,y,g2,g3⟩:=hd
   have hv:v= .v (.bool y):=by
    cases v<;>simp only[D.asBool]at g2<;>try (cases g2;done)
    grind
   subst hv;simp only[X.ev,X.ba,g1,Oz,Pz,XK.run,bv,D.asBool];cases w<;>cases y<;>simp only[show(false==false)=true from rfl,show(false==true)=false from rfl,show(true==false)=false from rfl,show(true==true)=true from rfl,cond_true,cond_false]at h2 g3⊢
   ·exact iY _ h2 ⟨d,g3⟩
   ·grind
   ·grind
   ·exact iY _ h2 ⟨d,g3⟩
  ·rename_i w c' c a b;obtain rfl:=aK _ _ h;obtain⟨d,hd⟩:=k;simp only[X.ev,Bz]at hd;obtain⟨v,g1,y,g2,g3⟩:=hd
   have hv:v= .v (.bool y):=by
    cases v<;>simp only[D.asBool]at g2<;>try (cases g2;done)
    grind
   subst hv;exact⟨_,by simp only[X.ev,X.ba,g1,Oz,Pz,XK.run];rfl⟩
  ·cases h
theorem mK{es:List X}(he: ∀e∈es,∃d,X.ev G E e=some d): ∀{O:List X},(∀e∈prune es O,∃d,X.ev G E e=some d)→ ∀e∈O,∃d,X.ev G E e=some d
 | [],_,e,h=>by cases h
 |a::r,hO,e,h=>by
  simp only[prune]at hO;split at hO
  ·rename_i hs;have ih:=mK he hO;rcases List.mem_cons.1 h with rfl|h
   ·obtain⟨x,hx,hsx⟩:=List.any_eq_true.1 hs;refine DO hsx ?_
    grind
   ·grind
  ·have ih:=mK he (O:=r) fun x hx=>hO x (Cz _ hx);rcases List.mem_cons.1 h with rfl|h
   ·exact hO _ (List.mem_cons_self ..)
   ·grind
theorem sS{xs:List X}{ds:List D}(h:X.ba G E xs=some ds): ∀e∈xs,∃d,X.ev G E e=some d:=fun e he=>by
 obtain⟨i,hi⟩:=List.getElem?_of_mem he;have hl:=dh h;have:=(Gz.1 hi).1;have hd:=Ez (show i<ds.length by omega);exact⟨_,fy h i e _ hi hd⟩
end
end
section
inductive Ad where
 |drop
 |same (v:SV)
 |var
 |au (e sz:Nat)
 deriving Inhabited
abbrev Row:=List (Nat×Ad)
def eG:Nat→Row→List SV
 |_,[]=> []
 |k,(_, .drop)::r=> .un::eG k r
 |k,(_, .same v)::r=>v::eG k r
 |k,(_, .var)::r=> .x (.t k)::eG (k+1) r
 |k,(nm, .au _ sz)::r=> .gl nm sz::eG (k+1) r
def bT:Nat→Row→List (Nat×SO)
 |_,[]=> []
 |k,(_, .drop)::r=>bT k r
 |k,(_, .same _)::r=>bT k r
 |k,(_, .var)::r=>bT (k+1) r
 |k,(nm, .au e sz)::r=>(nm, .au e sz (.t k))::bT (k+1) r
abbrev Ren:=List (Nat×Option Nat)
def ni(h:List (Nat×SO))(nm:Nat):Ad→SV→Option (List X×Ren)
 | .drop,_=>some ([],[])
 | .same v',v=>if eP v' v then some ([],[])else none
 | .var,v=>v.nM.map fun x=>([x],[])
 | .au e sz, .gl n sz'=>match find h n with
  |some (.au e' ϙ c)=>if e'=e∧sz'=sz∧ϙ=sz then some ([c],[(nm,some n)])else none
  |_=>none
 | .au _ _, .x (.q .nil)=>some ([.q (.list [])],[(nm,none)])
 | .au _ _,_=>none
def gp(h:List (Nat×SO)):Row→List SV→Option (List X×Ren)
 | [],[]=>some ([],[])
 |(nm,p)::r,v::vs=>(ni h nm p v).bind fun a=>(gp h r vs).map fun b=>(a.1++b.1,a.2++b.2)
 |_,_=>none
inductive Sk where
 |box (l:Nat)
 |au (e sz:Nat)
 |map
 |mpl (e sz:Nat)
 |raw (k:RS)
 deriving DecidableEq,Inhabited
def Sk.len:Sk→Nat
 | .box l=>l
 | .au .. | .map| .mpl .. =>1
 | .raw _=>0
def SO.sk:SO→Sk
 | .box vs=> .box vs.length
 | .au e sz _=> .au e sz
 | .map _=> .map
 | .mpl e sz _=> .mpl e sz
 | .raw k=> .raw k
def SO.cells:SO→List SV
 | .box vs=>vs
 | .au _ _ c| .map c| .mpl _ _ c=> [.x c]
 | .raw _=> []
def Sk.T7:Sk→List SV→Option SO
 | .box l,vs=>if vs.length=l then some (.box vs)else none
 | .au e sz,[.x c]=>some (.au e sz c)
 | .map,[.x c]=>some (.map c)
 | .mpl e sz,[.x c]=>some (.mpl e sz c)
 | .raw k,[]=>some (.raw k)
 |_,_=>none
structure Hd where
 ids:List Nat
 ts:List (Nat×Nat)
 os:List (Nat×Sk)
 row:Row
def Hd.ns(hd:Hd):List Nat:=hd.os.map (·.1)
def sV(Y:Sy):List Nat→List SV
 | []=> []
 |i::r=>(find Y.s i).getD .un::sV Y r
def pj(Y:Sy):List (Nat×Nat)→Option (List SV)
 | []=>some []
 |(i,l)::r=>match find Y.s i with
  |some (.tup vs)=>if vs.length=l then(pj Y r).map fun b=>vs++b else none
  |_=>none
def ph(Y:Sy):List (Nat×Sk)→Option (List SV)
 | []=>some []
 |(n,k)::r=>(find Y.h n).bind fun o=>if o.sk=k then(ph Y r).map fun b=>o.cells++b else none
def Nw:List Nat→List SV→List (Nat×SV)
 |i::r,v::s=>(i,v)::Nw r s
 |_,_=> []
def D8:List (Nat×Nat)→List SV→List (Nat×SV)
 | [],_=> []
 |(i,l)::r,s=>(i, .tup (s.take l))::D8 r (s.drop l)
def KA:List (Nat×Sk)→List SV→Option (List (Nat×SO))
 | [],_=>some []
 |(n,k)::r,s=>(k.T7 (s.take k.len)).bind fun o=>(KA r (s.drop k.len)).map fun l=>(n,o)::l
def xt:List Nat→Bool
 | []=>true
 |a::r=> !r.contains a&&xt r
mutual
def cM(k:Nat)(ns:List Nat):SV→Bool
 | .un=>true
 | .x e=>e.lt k
 | .ptr n _| .gl n _| .sb n _ _| .rb n _| .mp n| .yl n=>ns.contains n
 | .dp n _ _ _ i _=>ns.contains n&&i.lt k
 | .gs n _ q=>ns.contains n&&q.lt k
 | .gc n _ q=>ns.contains n&&q.lt k
 | .gt n _ q=>ns.contains n&&q.lt k
 | .ep n _ i _=>ns.contains n&&i.lt k
 | .agg vs| .tup vs=>np k ns vs
 | .clo _ vs=>np k ns vs
 | .gd g v=>g.lt k&&cM k ns v
def np(k:Nat)(ns:List Nat):List SV→Bool
 | []=>true
 |v::r=>cM k ns v&&np k ns r
end
theorem jz{k:Nat}{bs:List Nat}: ∀{vs:List SV} {i:Nat} {v:SV},np k bs vs=true→vs[i]?=some v→cM k bs v=true
 |u::r,0,v,h,hv=>by simp only[np,Az]at h;simp at hv;subst hv;exact h.1
 |u::r,i+1,v,h,hv=>by simp only[np,Az]at h;exact jz h.2 (by simpa using hv)
def Bu:List (Nat×Nat)→Nat
 | []=>0
 |(_,l)::r=>l+Bu r
def L6:List (Nat×Sk)→Nat
 | []=>0
 |(_,k)::r=>k.len+L6 r
def Hd.cT(hd:Hd)(k:Nat):List SV:=(eG k hd.row).drop hd.ids.length
def Hd.cO(hd:Hd)(k:Nat):List SV:=(hd.cT k).drop (Bu hd.ts)
def Hd.ok(hd:Hd)(k:Nat):Bool:=
 hd.row.all (fun p=>match p.2 with
  | .same v=>cM k hd.ns v
  |_=>true)&&xt (hd.row.map (·.1))&&hd.row.all (fun p=> !hd.ns.contains p.1)&&hd.row.length==hd.ids.length+(Bu hd.ts+L6 hd.os)&&xt hd.ns&&(KA hd.os (hd.cO k)).isSome
def Hd.mt(hd:Hd)(Y:Sy):Option (List X×Ren):=if Y.pd.isNone then(pj Y hd.ts).bind fun t=>(ph Y hd.os).bind fun b=>(gp Y.h hd.row (sV Y hd.ids++(t++b))).bind fun q=>if xt (q.2.filterMap (·.2)++hd.ns)then some q else none else none
def Hd.mk'(hd:Hd)(k m d nx:Nat):Sy:=
 {s:=Nw hd.ids ((eG k hd.row).take hd.ids.length)++D8 hd.ts (hd.cT k),h:=(KA hd.os (hd.cO k)).getD []++bT k hd.row,nv:=k+m,d:=d,nx:=nx,pd:=none}
theorem eR{α:Type}: ∀(a b:List (Nat×α)) (n:Nat),find (a++b) n=(find a n).or (find b n)
 | [],_,_=>rfl
 |(i,v)::r,b,n=>by
  simp only[List.cons_append,find,eR r b n]
  grind
theorem kS: ∀{k:Nat} {r:Row},(eG k r).length=r.length
 |_,[]=>rfl
 |_,(_, .drop)::r=>by simp[eG,kS]
 |_,(_, .same _)::r=>by simp[eG,kS]
 |_,(_, .var)::r=>by simp[eG,kS]
 |_,(_, .au ..)::r=>by simp[eG,kS]
section
variable {Ω : bO} {G : FP} {E E2 : List D} {ι ι2 γ γ2 : Nat → Tok} {Y : Sy} {J : St} {h2 : List (Nat × SO)}
def Kp(G:FP)(E E2:List D)(ι ι2:Nat→Tok)(h h2:List (Nat×SO))(ns:List Nat):Prop:= ∀n,ns.contains n=true→ι2 n=ι n∧Lk G E E2 h h2 n
theorem yX{k:Nat}{ns:List Nat}{v:SV}{d:D}(H:VR G E ι Y.h v d)(ho:cM k ns v=true)(hE: ∀i,i<k→E[i]?=E2[i]?)(hb:Kp G E E2 ι ι2 Y.h h2 ns):VR G E2 ι2 h2 v d:=by
 have ex: ∀{e:X} {d:D},e.lt k=true→X.ev G E e=some d→X.ev G E2 e=some d:=fun he h=>by rw[←wY hE _ he];exact h
 induction H with
 |un=>exact .un
 |x h1 h2=>simp only[cM]at ho;exact .x (ex ho h1) h2
 |agg hl hh ih=>
  exact .agg hl fun i v d hv hd=>ih i v d hv hd (jz ho hv)
 |tup hl hh ih=>
  exact .tup hl fun i v d hv hd=>ih i v d hv hd (jz ho hv)
 |clo hl hh ih=>
  exact .clo hl fun i v d hv hd=>ih i v d hv hd (jz ho hv)
 | @ptr n o vs hf=>
  obtain⟨h1,L⟩:=hb n ho;obtain⟨vs',h3,_⟩:=L.box hf;rw[←h1];exact .ptr h3
 | @dp n o cnt s j i vs k z hf hv h0 hz hl=>
  simp only[cM,Az]at ho;obtain⟨h1,L⟩:=hb n ho.1;obtain⟨vs',h3,h4⟩:=L.box hf;rw[←h1];exact .dp h3 (ex ho.2 hv) h0 hz (by rw[h4];exact hl)
 | @gln n sz e c hf hi=>
  obtain⟨h1,L⟩:=hb n ho;obtain⟨c',h3,_⟩:=L.au hf;exact .gln h3 (h1.trans hi)
 | @gl n sz e c es hf hc hi=>
  obtain⟨h1,L⟩:=hb n ho;obtain⟨c',h3,h4⟩:=L.au hf;obtain⟨es',h5,h6⟩:=h4 _ hc;rw[←h1,←h6];exact .gl h3 h5 (by rw[h1];exact hi)
 | @gsn n sz e c k q hf hi hk=>
  simp only[cM,Az]at ho;obtain⟨h1,L⟩:=hb n ho.1;obtain⟨c',h3,_⟩:=L.au hf;exact .gsn h3 (h1.trans hi) (ex ho.2 hk)
 | @gs n sz e c k es q z hf hc hi hk h0 hz=>
  simp only[cM,Az]at ho;obtain⟨h1,L⟩:=hb n ho.1;obtain⟨c',h3,h4⟩:=L.au hf;obtain⟨es',h5,h6⟩:=h4 _ hc;rw[←h1];exact .gs h3 h5 (by rw[h1];exact hi) (ex ho.2 hk) h0 (by rw[h6];exact hz)
 | @gcn n sz e c k q hf hi hk=>
  simp only[cM,Az]at ho;obtain⟨h1,L⟩:=hb n ho.1;obtain⟨c',h3,_⟩:=L.au hf;exact .gcn h3 (h1.trans hi) (ex ho.2 hk)
 | @gc n sz e c k es q z m hf hc hi hk h0 hz=>
  simp only[cM,Az]at ho;obtain⟨h1,L⟩:=hb n ho.1;obtain⟨c',h3,h4⟩:=L.au hf;obtain⟨es',h5,h6⟩:=h4 _ hc;rw[←h1];exact .gc h3 h5 (by rw[h1];exact hi) (ex ho.2 hk) h0 (by rw[h6];exact hz)
 | @gtn n sz e c k q hf hi hk=>
  simp only[cM,Az]at ho;obtain⟨h1,L⟩:=hb n ho.1;obtain⟨c',h3,_⟩:=L.au hf;exact .gtn h3 (h1.trans hi) (ex ho.2 hk)
 | @gt n sz e c k es q z hf hc hi hk h0 hz=>
  simp only[cM,Az]at ho;obtain⟨h1,L⟩:=hb n ho.1;obtain⟨c',h3,h4⟩:=L.au hf;obtain⟨es',h5,h6⟩:=h4 _ hc;rw[←h1,←h6];exact .gt h3 h5 (by rw[h1];exact hi) (ex ho.2 hk) h0 (by rw[h6];exact hz)
 | @ep n sz e j c i k z es hf hc hi hv h0 hz=>
  simp only[cM,Az]at ho;obtain⟨h1,L⟩:=hb n ho.1;obtain⟨c',h3,h4⟩:=L.au hf;obtain⟨es',h5,h6⟩:=h4 _ hc;rw[←h1];exact .ep h3 h5 (by rw[h1];exact hi) (ex ho.2 hv) h0 (by rw[h6];exact hz)
 | @sb n o len lim vs hf hl=>
  obtain⟨h1,L⟩:=hb n ho;obtain⟨vs',h3,h4⟩:=L.box hf;rw[←h1];exact .sb h3 (by rw[h4];exact hl)
 | @rb n o vs hf hl=>
  obtain⟨h1,L⟩:=hb n ho;obtain⟨vs',h3,h4⟩:=L.box hf;rw[←h1];exact .rb h3 (by rw[h4];exact hl)
 | @mp n o hf hmp=>
  obtain⟨h1,L⟩:=hb n ho;obtain⟨o',h3,h4⟩:=L.map hf hmp;rw[←h1];exact .mp h3 h4
 | @yl n k hf=>
  obtain⟨h1,L⟩:=hb n ho;obtain⟨k',h3⟩:=L.raw hf;rw[←h1];exact .yl h3
 |gd hg h1 h2 ih=>
  simp only[cM,Az]at ho;exact .gd (ex ho.1 hg) (fun e=>ih e ho.2) h2
def Ren.at(ι:Nat→Tok):Option Nat→Tok
 |some n=>ι n
 |none=> []
theorem xD(M:Mt Ω G E ι γ Y J){k0:Nat}{bs:List Nat}(hE: ∀i,i<k0→E[i]?=E2[i]?)(hb:Kp G E E2 ι ι2 Y.h h2 bs):
  ∀{r:Row} {q:Nat} {vs:List SV} {dt ds:List D} {xs:List X} {rn:Ren},bz G E ι Y.h vs dt→gp Y.h r vs=some (xs,rn)→X.ba G E xs=some ds→(∀j,j<ds.length→E2[q+j]?=ds[j]?)→
   (∀p∈r,(match p.2 with| .same v=>cM k0 bs v|_=>true)=true)→(∀p∈bT q r,find h2 p.1=some p.2)→(∀p∈rn,ι2 p.1=Ren.at ι p.2)→
   bz G E2 ι2 h2 (eG q r) dt∧
   ∀p∈bT q r,∃nm e sz i,p=(nm,SO.au e sz (.t i))∧(((nm,none)∈rn∧E2[i]?=some (.list []))∨ ∃n c d,(nm,some n)∈rn∧find Y.h n=some (.au e sz c)∧E2[i]?=some d∧X.ev G E c=some d)
 | [],q,vs,dt,ds,xs,rn,hv,hm,_,_,_,_,_=>by
  cases vs with
  |cons=>simp[gp]at hm
  |nil=>
   have h0:dt= []:=List.eq_nil_of_length_eq_zero hv.1.symm;subst h0;exact⟨bz.nil,fun p hp=>by simp[bT]at hp⟩
 |(nm,p)::r,q,vs,dt,ds,xs,rn,hv,hm,he,hq,hok,hL,hI=>by
  cases vs with
  |nil=>simp[gp]at hm
  |cons v vs=>
   simp only[gp,Bz,Mz]at hm;obtain⟨⟨xs1,UD⟩,h1,⟨xs2,UE⟩,h3,h4⟩:=hm;cases h4;simp only[]at he hI;obtain⟨d,dt',rfl,H,K⟩:=hv.cons
   have C9: ∃ds1 ds2,ds=ds1++ds2∧X.ba G E xs1=some ds1∧X.ba G E xs2=some ds2:=by
    have hl:=dh he;refine⟨ds.take xs1.length,ds.drop xs1.length,(List.take_append_drop ..).symm, ?_, ?_⟩
    ·refine tV (by simp at hl⊢;omega) fun i x dd hx hd=> ?_;have hi:=(Gz.1 hx).1;rw[List.getElem?_take_of_lt hi]at hd;exact fy he i x dd (by rw[Yz hi];exact hx) hd
    ·refine tV (by simp at hl⊢;omega) fun i x dd hx hd=> ?_;rw[List.getElem?_drop]at hd;exact fy he (xs1.length+i) x dd (by rw[Xz (by omega)];simpa using hx) hd
   obtain⟨ds1,ds2,rfl,e1,e2⟩:=C9;have hI1:=fun p hp=>hI p (List.mem_append_left _ hp);have hI2:=fun p hp=>hI p (List.mem_append_right _ hp);have IH: ∀p∈r,(match p.2 with| .same v=>cM k0 bs v|_=>true)=true:=fun p hp=>hok p (Cz _ hp);have rest: ∀{q':Nat},(∀j,j<ds2.length→E2[q'+j]?=ds2[j]?)→(∀p∈bT q' r,find h2 p.1=some p.2)→_:=fun{q'} g1 g2=>xD M hE hb K h3 e2 g1 IH g2 hI2
   have Ck: ∀{q':Nat},(∀p∈bT q' r,∃nm e sz i,p=(nm,SO.au e sz (.t i))∧(((nm,none)∈UE∧E2[i]?=some (.list []))∨ ∃n c d,(nm,some n)∈UE∧find Y.h n=some (.au e sz c)∧E2[i]?=some d∧X.ev G E c=some d))→
     ∀p∈bT q' r,∃nm e sz i,p=(nm,SO.au e sz (.t i))∧(((nm,none)∈UD++UE∧E2[i]?=some (.list []))∨ ∃n c d,(nm,some n)∈UD++UE∧find Y.h n=some (.au e sz c)∧E2[i]?=some d∧X.ev G E c=some d):=fun{q'} hh p hp=>by
    obtain⟨nm',e',sz',i',rfl,hc⟩:=hh p hp;refine⟨nm',e',sz',i',rfl, ?_⟩;rcases hc with⟨a1,a2⟩|⟨n,c,d,a1,a2⟩
    ·exact .inl ⟨List.mem_append_right _ a1,a2⟩
    ·exact .inr ⟨n,c,d,List.mem_append_right _ a1,a2⟩
   cases p with
   |drop=>
    simp only[ni]at h1;cases h1;cases e1;obtain⟨g1,g2⟩:=rest (q':=q) (fun j hj=>by simpa using hq j (by simpa using hj)) (by simpa only[bT]using hL);exact⟨bz.mk .un g1,by simpa only[bT]using Ck g2⟩
   |same v'=>
    simp only[ni]at h1;split at h1<;>cases h1;rename_i hbe;obtain rfl:=mb _ _ hbe;cases e1;obtain⟨g1,g2⟩:=rest (q':=q) (fun j hj=>by simpa using hq j (by simpa using hj)) (by simpa only[bT]using hL);exact⟨bz.mk (yX H (hok _ (List.mem_cons_self ..)) hE hb) g1,by simpa only[bT]using Ck g2⟩
   |var=>
    simp only[ni]at h1;obtain⟨x,hx,h5⟩:=Mz.1 h1;cases h5;obtain⟨dx,rfl,hdx⟩:=je e1;obtain rfl:=bJ H hx hdx;obtain⟨g1,g2⟩:=rest (q':=q+1) (fun j hj=>by have:=hq (j+1) (by simpa using hj);simpa[Nat.add_assoc,Nat.add_comm 1 j]using this) (by simpa only[bT]using hL);refine⟨bz.mk (.x ?_ (xV H hx hdx)) g1,by simpa only[bT]using Ck g2⟩;have:=hq 0 (by simp);simpa[X.ev]using this
   |au e sz=>
    have hLs:=hL (nm, .au e sz (.t q)) (by simp[bT]);have hLr:=fun p hp=>hL p (by simp only[bT];exact Cz _ hp);cases v
    case gl n sz'=>
     simp only[ni]at h1;split at h1
     ·rename_i e' ϙ c hf;split at h1<;>cases h1;rename_i hc;obtain⟨rfl,rfl,rfl⟩:=hc;obtain⟨dx,rfl,hdx⟩:=je e1;have hq0:E2[q]?=some dx:=by have:=hq 0 (by simp);simpa using this
      have hi:=hI1 (nm,some n) (by simp);obtain⟨es,k1,k2,k3⟩:=M.au _ _ _ _ hf;rw[hdx]at k1;cases k1;obtain⟨g1,g2⟩:=rest (q':=q+1) (fun j hj=>by have:=hq (j+1) (by simpa using hj);simpa[Nat.add_assoc,Nat.add_comm 1 j]using this) hLr;refine⟨bz.mk ?_ g1,fun p hp=> ?_⟩
      ·cases H with
       |gln a1 a2=>exact .gln hLs (hi.trans a2)
       |gl a1 a2 a3=>
        rw[hf]at a1;cases a1;rw[hdx]at a2;cases a2;have:=VR.gl (G:=G) (E:=E2) (ι:=ι2) hLs (es:=es) (by simpa[X.ev]using hq0) (by rw[hi];exact a3);rw[hi]at this;exact this
      ·simp only[bT,List.mem_cons]at hp;rcases hp with rfl|hp
       ·exact⟨nm,_,_,q,rfl, .inr ⟨n,c,_,by simp,hf,hq0,hdx⟩⟩
       ·exact Ck g2 p hp
     ·cases h1
    case x ex=>
     cases ex
     case q dq=>
      cases dq
      case nil=>
       simp only[ni]at h1;cases h1;obtain⟨dx,rfl,hdx⟩:=je e1;cases hdx;have hq0:E2[q]?=some (.list []):=by have:=hq 0 (by simp);simpa using this
       have hi:=hI1 (nm,none) (by simp);obtain⟨g1,g2⟩:=rest (q':=q+1) (fun j hj=>by have:=hq (j+1) (by simpa using hj);simpa[Nat.add_assoc,Nat.add_comm 1 j]using this) hLr;refine⟨bz.mk ?_ g1,fun p hp=> ?_⟩
       ·obtain⟨a1,_⟩:=H.ca;cases a1;exact .gln hLs hi
       ·simp only[bT,List.mem_cons]at hp;rcases hp with rfl|hp
        ·exact⟨nm,_,_,q,rfl, .inl ⟨by simp,hq0⟩⟩
        ·exact Ck g2 p hp
      all_goals (simp[ni]at h1;done)
     all_goals (simp[ni]at h1;done)
    all_goals (simp[ni]at h1;done)
end
end
section
theorem mG: ∀{l:List Nat},xt l=true→l.Nodup
 | [],_=>List.nodup_nil
 |a::r,h=>by
  simp only[xt,Az,Bool.not_eq_true',List.contains_eq_mem,decide_eq_false_iff_not]at h;exact List.nodup_cons.2 ⟨h.1,mG h.2⟩
theorem pz{α:Type}: ∀{l:List (Nat×α)} {n:Nat} {v:α},(l.map (·.1)).Nodup→(n,v)∈l→find l n=some v
 | [],_,_,_,h=>by simp at h
 |(i,a)::r,n,v,hd,h=>by
  simp only[List.map_cons,List.nodup_cons]at hd;rcases List.mem_cons.1 h with h|h
  ·cases h;simp[find]
  ·have:(i==n)=false:=by
    grind
   simp only[find,this];exact pz hd.2 h
theorem lH{h:List (Nat×SO)}: ∀{r:Row} {vs:List SV} {xs:List X} {rn:Ren},gp h r vs=some (xs,rn)→(rn.map (·.1)).Sublist (r.map (·.1))
 | [],[],xs,rn,hm=>by simp[gp]at hm;obtain⟨rfl,rfl⟩:=hm;exact List.Sublist.refl _
 | [],_::_,_,_,hm=>by simp[gp]at hm
 |_::_,[],_,_,hm=>by simp[gp]at hm
 |(nm,p)::r,v::vs,xs,rn,hm=>by
  simp only[gp,Bz,Mz]at hm;obtain⟨⟨xs1,UD⟩,h1,⟨xs2,UE⟩,h3,h4⟩:=hm;have ih:=lH h3
  have h1':UD= []∨ ∃o,UD= [(nm,o)]:=by
   cases p with
   |drop=>simp only[ni]at h1;cases h1;exact .inl rfl
   |same v'=>simp only[ni]at h1;split at h1<;>cases h1;exact .inl rfl
   |var=>simp only[ni]at h1;obtain⟨x,_,hx⟩:=Mz.1 h1;cases hx;exact .inl rfl
   |au e sz=>
    cases v
    case gl n sz'=>
     simp only[ni]at h1
     grind
    case x ex=>
     cases ex
     case q dq=>
      cases dq
      case nil=>simp only[ni]at h1;cases h1;exact .inr ⟨_,rfl⟩
      all_goals (simp[ni]at h1;done)
     all_goals (simp[ni]at h1;done)
    all_goals (simp[ni]at h1;done)
  grind
theorem fK: ∀{k:Nat} {r:Row},((bT k r).map (·.1)).Sublist (r.map (·.1))
 |_,[]=>List.Sublist.refl _
 |_,(nm, .drop)::r=>by simp only[bT];exact fK.cons nm
 |_,(nm, .same _)::r=>by simp only[bT];exact fK.cons nm
 |_,(nm, .var)::r=>by simp only[bT];exact fK.cons nm
 |_,(nm, .au ..)::r=>by simp only[bT];exact fK.cons_cons nm
theorem ua{α:Type}: ∀{l:List (Nat×α)} {n:Nat},¬n∈l.map (·.1)→find l n=none
 | [],_,_=>rfl
 |(i,a)::r,n,h=>by
  simp only[List.map_cons,List.mem_cons,not_or]at h;have:(i==n)=false:=by simpa using fun e=>h.1 e.symm
  simp only[find,this];exact ua h.2
section
variable {Ω : bO} {G : FP} {E E2 : List D} {ι γ : Nat → Tok} {Y : Sy} {J : St}
theorem nS(M:Mt Ω G E ι γ Y J): ∀(ids:List Nat),bz G E ι Y.h (sV Y ids) (ids.map J.s)
 | []=>bz.nil
 |i::r=>bz.mk (by
   cases hf:find Y.s i with
   |none=>exact .un
   |some v=>exact M.slot i v hf) (nS M r)
theorem vQ {ι2 : Nat → Tok} {h2 : List (Nat × SO)} : ∀ {ids : List Nat} {s : List SV}, bz G E2 ι2 h2 s (ids.map J.s) → ∀ {i : Nat} {v : SV}, find (Nw ids s) i = some v → VR G E2 ι2 h2 v (J.s i)
  | [], s, _, i, v, h => by cases s <;> cases h
  | j :: r, [], H, _, _, _ => absurd (show 0 = (List.map J.s (j :: r)).length from H.1) (by rw [List.length_map, List.length_cons]; omega)
  | j :: r, u :: s, H, i, v, h => by
    obtain ⟨d, ds, he, h1, h3⟩ := H.cons
    obtain ⟨rfl, rfl⟩ := he
    simp only [Nw, find] at h
    cases hi : j == i with
    | true => rw [hi] at h; cases h; have : j = i := by simpa using hi
              grind
    | false => rw [hi] at h; exact vQ h3 h
theorem nT(M:Mt Ω G E ι γ Y J): ∀{ts:List (Nat×Nat)} {t:List SV},pj Y ts=some t→ ∃dt,bz G E ι Y.h t dt∧t.length=Bu ts∧
  ∀{E2:List D} {ι2:Nat→Tok} {h2:List (Nat×SO)} {s:List SV},bz G E2 ι2 h2 s dt→ ∀{i:Nat} {v:SV},find (D8 ts s) i=some v→VR G E2 ι2 h2 v (J.s i)
 | [],t,h=>by
  simp[pj]at h;subst h;exact⟨[],bz.nil,rfl,fun{E2 ι2 h2 s} _ {i v} hf=>by cases hf⟩
 |(j,l)::r,t,h=>by
  simp only[pj]at h;split at h
  ·rename_i vs hf;split at h
   ·rename_i hl;obtain⟨t',ht,rfl⟩:=Mz.1 h;obtain⟨dt,h1,h2,h3⟩:=nT M ht;have hs:=M.slot j _ hf;generalize hd:J.s j=d at hs;cases hs with
    |tup hl2 hh=>
     rename_i ds;have k3:bz G E ι Y.h vs ds:=⟨hl2,hh⟩;have hdl:ds.length=l:=by omega
     refine⟨ds++dt,k3.append h1,by simp[Bu,h2,hl],fun{E2 ι2 h2' s} H {i v} hfo=> ?_⟩;have ht:=H.take l;have hdr:=H.drop l;rw[←hdl,List.take_left,hdl]at ht;rw[←hdl,List.drop_left,hdl]at hdr;simp only[D8,find]at hfo;cases hi:j==i with
     |true=>
      rw[hi]at hfo;cases hfo;have:j=i:=by simpa using hi
      subst this;rw[hd];exact .tup ht.1 ht.2
     |false=>rw[hi]at hfo;exact h3 hdr hfo
   ·cases h
  ·cases h
theorem Mi{e sz:Nat}{s:List SV}{o:SO}(h:Sk.T7 (.au e sz) s=some o): ∃c,s= [.x c]∧o= .au e sz c:=by
 rcases s with _|⟨v,_|⟨u,r⟩⟩
 ·cases h
 ·cases v<;>first|(cases h;done)|(cases h;exact⟨_,rfl,rfl⟩)
 ·cases v<;>cases h
theorem Mj{s:List SV}{o:SO}(h:Sk.T7 .map s=some o): ∃c,s= [.x c]∧o= .map c:=by
 rcases s with _|⟨v,_|⟨u,r⟩⟩
 ·cases h
 ·cases v<;>first|(cases h;done)|(cases h;exact⟨_,rfl,rfl⟩)
 ·cases v<;>cases h
theorem Ml{e sz:Nat}{s:List SV}{o:SO}(h:Sk.T7 (.mpl e sz) s=some o): ∃c,s= [.x c]∧o= .mpl e sz c:=by
 rcases s with _|⟨v,_|⟨u,r⟩⟩
 ·cases h
 ·cases v<;>first|(cases h;done)|(cases h;exact⟨_,rfl,rfl⟩)
 ·cases v<;>cases h
theorem Mm{s:List SV}{o:SO}{k:RS}(h:Sk.T7 (.raw k) s=some o):o= .raw k:=by
 cases s with
 |nil=>cases h;rfl
 |cons v r=>cases h
def Ob(Ω:bO)(G:FP)(E2:List D)(ι γ ι2:Nat→Tok)(h2:List (Nat×SO))(Yh:List (Nat×SO))(J:St)(m:Mem)(n:Nat):SO→Prop
 | .box vs=> ∃ds,ι n≠ []∧m (ι n)=some (.box ds)∧bz G E2 ι2 h2 vs ds
 | .au e sz c=> ∃es,X.ev G E2 c=some (.list es)∧aO sz es=true∧(ι n= []∧es= []∨ι n≠ []∧m (ι n)=some (.row (γ n) e es))
 | .map c=> ∃es,X.ev G E2 c=some (.list (ao es))∧ι n≠ []∧m (ι n)=some (.map es)
 | .mpl e sz c=> ∃L:List OE,X.ev G E2 c=some (.list (ao (L.map OE.pr)))∧ι n≠ []∧m (ι n)=some (.map (L.map (OE.en sz)))∧KL Yh ι γ J e sz L
 | .raw k=>ι n=Ω.t n∧ι n≠ []∧m (ι n)=some (.raw (Ω.f n k))∧ ¬Ω.c (ι n)
theorem nR(M:Mt Ω G E ι γ Y J): ∀{os:List (Nat×Sk)} {b:List SV},ph Y os=some b→ ∃db,bz G E ι Y.h b db∧b.length=L6 os∧
  ∀{E2:List D} {s:List SV} {BH:List (Nat×SO)},s.length=db.length→(∀(i:Nat) (e:X) (d:D),s[i]?=some (.x e)→db[i]?=some d→X.ev G E2 e=some d)→KA os s=some BH→
   BH.map (·.1)=os.map (·.1)∧ ∀{n:Nat} {o:SO},find BH n=some o→(∃o0,find Y.h n=some o0∧SO.cZ G E E2 o0 o)∧ ∀{ι2:Nat→Tok} {h2:List (Nat×SO)},bz G E2 ι2 h2 s db→Ob Ω G E2 ι γ ι2 h2 Y.h J J.m n o
 | [],b,h=>by
  simp[ph]at h;subst h;exact⟨[],bz.nil,rfl,fun _ _ hz=>by cases hz;exact⟨rfl,fun{n o} hf=>by cases hf⟩⟩
 |(j,k)::r,b,h=>by
  simp only[ph,Bz]at h;obtain⟨o0,hf,h⟩:=h;split at h
  ·rename_i hsk;obtain⟨b',hb,rfl⟩:=Mz.1 h;obtain⟨db,h1,h2,h3⟩:=nR M hb
   have one: ∃dc,bz G E ι Y.h o0.cells dc∧o0.cells.length=k.len∧ ∀{E2:List D} {s:List SV} {o:SO},s.length=dc.length→(∀(i:Nat) (e:X) (d:D),s[i]?=some (.x e)→dc[i]?=some d→X.ev G E2 e=some d)→k.T7 s=some o→
     SO.cZ G E E2 o0 o∧ ∀{ι2:Nat→Tok} {h2:List (Nat×SO)},bz G E2 ι2 h2 s dc→Ob Ω G E2 ι γ ι2 h2 Y.h J J.m j o:=by
    cases o0 with
    |box us=>
     simp only[SO.sk]at hsk;subst hsk;obtain⟨ds,k1,k2,k3⟩:=M.box j us hf;refine⟨ds,k3,rfl,fun{E2 s o} hl _ hmk=> ?_⟩;simp only[Sk.T7]at hmk;split at hmk<;>cases hmk;rename_i hlen;exact⟨hlen,fun H=>⟨ds,k1,k2,H⟩⟩
    |au e sz c=>
     simp only[SO.sk]at hsk;subst hsk;obtain⟨es,k1,k2,k3⟩:=M.au j e sz c hf;refine⟨[.list es],bz.mk (.x k1 rfl) bz.nil,rfl,fun{E2 s o} hl hX hmk=> ?_⟩;obtain⟨c',rfl,rfl⟩:=Mi hmk;have hc:=hX 0 c' _ rfl rfl;exact⟨⟨rfl,rfl,fun es' he'=>⟨es,hc,by rw[k1]at he';cases he';rfl⟩⟩,fun _=>⟨es,hc,k2,k3⟩⟩
    |map c=>
     simp only[SO.sk]at hsk;subst hsk;obtain⟨es,k1,k2,k3⟩:=M.mpo j c hf;refine⟨[.list (ao es)],bz.mk (.x k1 rfl) bz.nil,rfl,fun{E2 s o} hl hX hmk=> ?_⟩;obtain⟨c',rfl,rfl⟩:=Mj hmk;exact⟨trivial,fun _=>⟨es,hX 0 c' _ rfl rfl,k2,k3⟩⟩
    |mpl e sz c=>
     simp only[SO.sk]at hsk;subst hsk;obtain⟨L,k1,k2,k3,k4⟩:=M.own j e sz c hf;refine⟨[.list (ao (L.map OE.pr))],bz.mk (.x k1 rfl) bz.nil,rfl,fun{E2 s o} hl hX hmk=> ?_⟩;obtain⟨c',rfl,rfl⟩:=Ml hmk;exact⟨trivial,fun _=>⟨L,hX 0 c' _ rfl rfl,k2,k3,k4⟩⟩
    |raw kk=>
     simp only[SO.sk]at hsk;subst hsk;have k2:=M.rwo j kk hf;refine⟨[],bz.nil,rfl,fun{E2 s o} hl hX hmk=> ?_⟩;obtain rfl:=Mm hmk;exact⟨trivial,fun _=>k2⟩
   obtain⟨dc,c1,c2,c3⟩:=one;have hdl:dc.length=k.len:=by rw[←c1.1];exact c2
   refine⟨dc++db,c1.append h1,by simp[L6,h2,c2],fun{E2 s BH} hl hX hz=> ?_⟩;simp only[KA,Bz,Mz]at hz;obtain⟨o,ho,afD,hz',rfl⟩:=hz;simp only[List.length_append]at hl
   have hX1: ∀(i:Nat) (e:X) (d:D),(s.take k.len)[i]?=some (.x e)→dc[i]?=some d→X.ev G E2 e=some d:=fun i e d hi hd=>by
    grind
   have hX2: ∀(i:Nat) (e:X) (d:D),(s.drop k.len)[i]?=some (.x e)→db[i]?=some d→X.ev G E2 e=some d:=fun i e d hi hd=>by
    grind
   obtain⟨g1,g2⟩:=c3 (by simp;omega) hX1 ho;obtain⟨g3,g4⟩:=h3 (by simp;omega) hX2 hz';refine⟨by simp[g3],fun{n q} hfo=> ?_⟩;simp only[find]at hfo;cases hi:j==n with
   |true=>
    rw[hi]at hfo;cases hfo;have:j=n:=by simpa using hi
    subst this;refine⟨⟨o0,hf,g1⟩,fun{ι2 h2'} H=>g2 ?_⟩;have:=H.take k.len;rw[←hdl,List.take_left,hdl]at this;exact this
   |false=>
    rw[hi]at hfo;obtain⟨e1,e2⟩:=g4 hfo;refine⟨e1,fun{ι2 h2'} H=>e2 ?_⟩;have:=H.drop k.len;rw[←hdl,List.drop_left,hdl]at this;exact this
  ·cases h
theorem u7{k0:Nat}{bs:List Nat}(hE: ∀i,i<k0→E[i]?=E2[i]?):
  ∀{r:Row} {q:Nat} {vs:List SV} {dt ds:List D} {xs:List X} {rn:Ren},bz G E ι Y.h vs dt→gp Y.h r vs=some (xs,rn)→X.ba G E xs=some ds→(∀j,j<ds.length→E2[q+j]?=ds[j]?)→
   (∀p∈r,(match p.2 with| .same v=>cM k0 bs v|_=>true)=true)→ ∀(i:Nat) (e:X) (d:D),(eG q r)[i]?=some (.x e)→dt[i]?=some d→X.ev G E2 e=some d
 | [],q,vs,dt,ds,xs,rn,hv,hm,_,_,_,i,e,d,hi,_=>by simp[eG]at hi
 |(nm,p)::r,q,vs,dt,ds,xs,rn,hv,hm,he,hq,hok,i,e,d,hi,hd=>by
  cases vs with
  |nil=>simp[gp]at hm
  |cons v vs=>
   simp only[gp,Bz,Mz]at hm;obtain⟨⟨xs1,UD⟩,h1,⟨xs2,UE⟩,h3,h4⟩:=hm;cases h4;simp only[]at he;obtain⟨d0,dt',rfl,H,K⟩:=hv.cons
   have C9: ∃ds1 ds2,ds=ds1++ds2∧X.ba G E xs1=some ds1∧X.ba G E xs2=some ds2:=by
    have hl:=dh he;refine⟨ds.take xs1.length,ds.drop xs1.length,(List.take_append_drop ..).symm, ?_, ?_⟩
    ·refine tV (by simp at hl⊢;omega) fun i x dd hx hd=> ?_;have hi:=(Gz.1 hx).1;rw[List.getElem?_take_of_lt hi]at hd;exact fy he i x dd (by rw[Yz hi];exact hx) hd
    ·refine tV (by simp at hl⊢;omega) fun i x dd hx hd=> ?_;rw[List.getElem?_drop]at hd;exact fy he (xs1.length+i) x dd (by rw[Xz (by omega)];simpa using hx) hd
   obtain⟨ds1,ds2,rfl,e1,e2⟩:=C9;have IH: ∀p∈r,(match p.2 with| .same v=>cM k0 bs v|_=>true)=true:=fun p hp=>hok p (Cz _ hp);have rest: ∀{q':Nat},(∀j,j<ds2.length→E2[q'+j]?=ds2[j]?)→ ∀(i:Nat) (e:X) (d:D),(eG q' r)[i]?=some (.x e)→dt'[i]?=some d→X.ev G E2 e=some d:=fun g1=>u7 hE K h3 e2 g1 IH
   have zero:xs1= []→ ∀j,j<ds2.length→E2[q+j]?=ds2[j]?:=fun h0 j hj=>by
    subst h0;cases e1;simpa using hq j (by simpa using hj)
   have one: ∀{x:X},xs1= [x]→(∃dx,X.ev G E x=some dx∧E2[q]?=some dx)∧ ∀j,j<ds2.length→E2[q+1+j]?=ds2[j]?:=fun{x} h0=>by
    subst h0;obtain⟨dx,rfl,hdx⟩:=je e1;refine⟨⟨dx,hdx,by have:=hq 0 (by simp);simpa using this⟩,fun j hj=> ?_⟩;have:=hq (j+1) (by simpa using hj);simpa[Nat.add_assoc,Nat.add_comm 1 j]using this
   cases p with
   |drop=>
    simp only[ni]at h1;cases h1;cases i with
    |zero=>simp[eG]at hi
    |succ i=>exact rest (zero rfl) i e d (by simpa[eG]using hi) (by simpa using hd)
   |same v'=>
    simp only[ni]at h1;split at h1<;>cases h1;rename_i hbe;obtain rfl:=mb _ _ hbe;cases i with
    |zero=>
     simp only[eG,List.getElem?_cons_zero,Jz]at hi hd;subst hi;subst hd;have:=hok _ (List.mem_cons_self ..);simp only[cM]at this;rw[←wY hE _ this];exact H.ca.1
    |succ i=>exact rest (zero rfl) i e d (by simpa[eG]using hi) (by simpa using hd)
   |var=>
    simp only[ni]at h1;obtain⟨x,hx,h5⟩:=Mz.1 h1;cases h5;obtain⟨⟨dx,hdx,hqx⟩,h6⟩:=one rfl;cases i with
    |zero=>
     simp only[eG,List.getElem?_cons_zero,Jz,SV.x.injEq]at hi hd;subst hi;subst hd;obtain rfl:=bJ H hx hdx;simpa only[X.ev]using hqx
    |succ i=>exact rest h6 i e d (by simpa[eG]using hi) (by simpa using hd)
   |au e0 sz0=>
    have h6: ∃x,xs1= [x]:=by
     cases v
     case gl n sz'=>
      simp only[ni]at h1;split at h1
      ·split at h1<;>cases h1;exact⟨_,rfl⟩
      ·cases h1
     case x ex=>
      cases ex
      case q dq=>
       cases dq
       case nil=>simp only[ni]at h1;cases h1;exact⟨_,rfl⟩
       all_goals (simp[ni]at h1;done)
      all_goals (simp[ni]at h1;done)
     all_goals (simp[ni]at h1;done)
    obtain⟨x,hx⟩:=h6;cases i with
    |zero=>simp[eG]at hi
    |succ i=>exact rest (one hx).2 i e d (by simpa[eG]using hi) (by simpa using hd)
theorem my{α:Type}: ∀{l:List (Nat×α)} {n:Nat},n∈l.map (·.1)→ ∃o,find l n=some o
 | [],n,h=>by simp at h
 |(i,a)::r,n,h=>by
  simp only[find];cases hi:i==n with
  |true=>exact⟨_,rfl⟩
  |false=>
   simp only[List.map_cons,List.mem_cons]at h;rcases h with rfl|h
   ·grind
   ·exact my h
theorem Hd.sound(M:Mt Ω G E ι γ Y J){hd:Hd}{k:Nat}(ok:hd.ok k=true){xs:List X}{rn:Ren}(hm:hd.mt Y=some (xs,rn)){ds:List D}(he:X.ba G E xs=some ds){E0:List D}(hk:E0.length=k)
  (hE: ∀i,i<k→E[i]?=E0[i]?) (dd nn:Nat): ∃ι2 γ2,Mt Ω G (E0++ds) ι2 γ2 (hd.mk' k ds.length dd nn) J:=by
 simp only[Hd.ok,Az,beq_iff_eq]at ok;obtain⟨⟨⟨⟨⟨ok1,ok2⟩,ok3⟩,ok4⟩,ok5⟩,ok6⟩:=ok;obtain⟨BH,NZ⟩:=Option.isSome_iff_exists.1 ok6;simp only[Hd.mt]at hm;split at hm
 rotate_left
 ·cases hm
 simp only[Bz]at hm;obtain⟨t,ht,b,hb,q,hq,hm⟩:=hm;split at hm
 ·rename_i hnd;cases hm;obtain⟨dt,hvt,htl,ada⟩:=nT M ht;obtain⟨db,hvb,hbl,ack⟩:=nR M hb;have hvs:=(nS M hd.ids).append (hvt.append hvb);have ndr:=mG ok2;have ndn:(rn.map (·.1)).Nodup:=ndr.sublist (lH hq);have ndl:((bT k hd.row).map (·.1)).Nodup:=ndr.sublist fK
  have Dt: ∀nm,nm∈hd.row.map (·.1)→ ¬nm∈hd.ns:=fun nm h=>by
   obtain⟨p,hp,rfl⟩:=List.mem_map.1 h;have:=Tz.1 ok3 p hp;simpa using this
  let ι2:Nat→Tok:=fun m=>if m∈hd.ns then ι m else Ren.at ι ((find rn m).getD none)
  let γ2:Nat→Tok:=fun m=>if m∈hd.ns then γ m else Ren.at γ ((find rn m).getD none)
  have hI: ∀p∈rn,ι2 p.1=Ren.at ι p.2:=fun p hp=>by
   have h1: ¬p.1∈hd.ns:=Dt _ ((lH hq).subset (List.mem_map.2 ⟨p,hp,rfl⟩));simp only[ι2,if_neg h1,pz ndn (show(p.1,p.2)∈rn from hp),Option.getD_some]
  have hGm: ∀p∈rn,γ2 p.1=Ren.at γ p.2:=fun p hp=>by
   have h1: ¬p.1∈hd.ns:=Dt _ ((lH hq).subset (List.mem_map.2 ⟨p,hp,rfl⟩));simp only[γ2,if_neg h1,pz ndn (show(p.1,p.2)∈rn from hp),Option.getD_some]
  have hk2: ∀m,m∈hd.ns→ι2 m=ι m:=fun m hm=>by simp only[ι2,if_pos hm]
  have hg2: ∀m,m∈hd.ns→γ2 m=γ m:=fun m hm=>by simp only[γ2,if_pos hm]
  have hE2: ∀i,i<k→E[i]?=(E0++ds)[i]?:=fun i hi=>by rw[Yz (by omega)];exact hE i hi
  have hqd: ∀j,j<ds.length→(E0++ds)[k+j]?=ds[j]?:=fun j hj=>by rw[Xz (by omega),hk,Nat.add_sub_cancel_left]
  have okr: ∀p∈hd.row,(match p.2 with| .same v=>cM k hd.ns v|_=>true)=true:=fun p hp=>Tz.1 ok1 p hp;have gx:=u7 (E2:=E0++ds) (bs:=hd.ns) hE2 hvs hq he hqd okr
  have hrl:(eG k hd.row).length=hd.ids.length+(dt.length+db.length):=by
   rw[kS,ok4,←hvt.1,←hvb.1,htl,hbl]
  have LA:dt.length=Bu hd.ts:=by rw[←hvt.1,htl]
  have hcO: ∀(i:Nat) (e:X) (d:D),(hd.cO k)[i]?=some (.x e)→db[i]?=some d→X.ev G (E0++ds) e=some d:=fun i e d hi hd'=>by
   simp only[Hd.cO,Hd.cT,List.getElem?_drop]at hi;refine gx _ e d hi ?_;rw[Xz (by simp),List.length_map,Nat.add_sub_cancel_left,Xz (by omega),LA,Nat.add_sub_cancel_left];exact hd'
  obtain⟨Ta,NW⟩:=ack (E2:=E0++ds) (s:=hd.cO k) (by simp[Hd.cO,Hd.cT,hrl,LA];omega) hcO NZ;have LF: ∀m,m∈hd.ns↔m∈BH.map (·.1):=fun m=>by rw[Ta];exact Iff.rfl
  let h2:=BH++bT k hd.row;have hfO: ∀{n:Nat} {o:SO},find BH n=some o→find h2 n=some o:=fun{n o} hf=>by simp only[h2,eR,hf,Option.some_or]
  have hfL: ∀p∈bT k hd.row,find h2 p.1=some p.2:=fun p hp=>by
   have h1: ¬p.1∈hd.ns:=Dt _ (fK.subset (List.mem_map.2 ⟨p,hp,rfl⟩));simp only[h2,eR,ua (fun h=>h1 ((LF _).2 h)),Option.none_or];exact pz ndl hp
  have hbk:Kp G E (E0++ds) ι ι2 Y.h h2 hd.ns:=fun n hn=>by
   have hn':n∈hd.ns:=by simpa using hn
   obtain⟨o,ho⟩:=my ((LF n).1 hn');obtain⟨⟨o0,g1,g2⟩,_⟩:=NW ho;exact⟨hk2 n hn',fun q hq=>⟨o,hfO ho,by rw[g1]at hq;cases hq;exact g2⟩⟩
  obtain⟨g1,g2⟩:=xD (E2:=E0++ds) (ι2:=ι2) (h2:=h2) M hE2 hbk hvs hq he hqd okr hfL hI;have gs:=g1.take hd.ids.length;have gr:=g1.drop hd.ids.length;rw[show hd.ids.length=(hd.ids.map J.s).length by simp,List.take_left]at gs;rw[show hd.ids.length=(hd.ids.map J.s).length by simp,List.drop_left]at gr;simp only[List.length_map]at gs gr;have gb:=gr.drop dt.length;rw[List.drop_left,LA]at gb
  have gt:bz G (E0++ds) ι2 h2 ((hd.cT k).take dt.length) dt:=by
   have:=gr.take dt.length;rw[List.take_left]at this;exact this
  have He: ∀{ts:List (Nat×Nat)} {s:List SV} {N:Nat},Bu ts≤N→ ∀i,find (D8 ts (s.take N)) i=find (D8 ts s) i:=by
   intro ts
   induction ts with
   |nil=>intro s N _ i;rfl
   |cons p r ih=>
    intro s N hN i;obtain⟨j,l⟩:=p;simp only[Bu]at hN;simp only[D8,find,List.take_take,show min l N=l by omega,List.drop_take];cases j==i with
    |true=>rfl
    |false=>exact ih (by omega) i
  have look: ∀n o,find h2 n=some o→(n∈hd.ns∧ ∃o0,find Y.h n=some o0∧SO.cZ G E (E0++ds) o0 o∧Ob Ω G (E0++ds) ι γ ι2 h2 Y.h J J.m n o)∨
    (∃e sz i,¬n∈hd.ns∧o= .au e sz (.t i)∧(((n,none)∈rn∧(E0++ds)[i]?=some (.list []))∨ ∃n0 c d,(n,some n0)∈rn∧find Y.h n0=some (.au e sz c)∧(E0++ds)[i]?=some d∧X.ev G E c=some d)):=fun n o hf=>by
   by_cases hn:n∈hd.ns
   ·left;obtain⟨o',ho'⟩:=my ((LF n).1 hn);rw[hfO ho']at hf;cases hf;obtain⟨⟨o0,e1,e2⟩,e3⟩:=NW ho';exact⟨hn,o0,e1,e2,e3 gb⟩
   ·right;simp only[h2,eR,ua (fun h=>hn ((LF n).2 h)),Option.none_or]at hf;obtain⟨nm,e,sz,i,k1,k2⟩:=g2 _ (pe hf);cases k1;exact⟨e,sz,i,hn,rfl,k2⟩
  have nda:=mG hnd;have ndo:(rn.filterMap (·.2)).Nodup:=(List.nodup_append.1 nda).1
  have apart: ∀n n0,(n,some n0)∈rn→ ¬n0∈hd.ns:=fun n n0 h1 h3=>by
   have:=(List.nodup_append.1 nda).2.2 n0 (List.mem_filterMap.2 ⟨(n,some n0),h1,rfl⟩) n0 h3;exact this rfl
  have old: ∀n n' n0,(n,some n0)∈rn→(n',some n0)∈rn→n=n':=fun n n' n0 h1 h3=>by
   have key: ∀{l:Ren},(l.filterMap (·.2)).Nodup→(n,some n0)∈l→(n',some n0)∈l→n=n':=by
    intro l
    induction l with
    |nil=>intro _ h;simp at h
    |cons p l ih=>
     intro hnd a1 a2;obtain⟨m,o⟩:=p;cases o with
     |none=>
      simp only[List.filterMap_cons]at hnd;simp only[List.mem_cons,Prod.mk.injEq,reduceCtorEq,and_false,false_or]at a1 a2;exact ih hnd a1 a2
     |some m0=>
      simp only[List.filterMap_cons,List.nodup_cons]at hnd;simp only[List.mem_cons,Prod.mk.injEq,Jz]at a1 a2;rcases a1 with⟨rfl,rfl⟩|a1<;>rcases a2 with⟨rfl,h⟩|a2
      ·rfl
      ·exact absurd (List.mem_filterMap.2 (⟨(n',some _),a2,rfl⟩: ∃a,a∈l∧a.2=some _)) hnd.1
      ·subst h;exact absurd (List.mem_filterMap.2 (⟨(n,some _),a1,rfl⟩: ∃a,a∈l∧a.2=some _)) hnd.1
      ·exact ih hnd.2 a1 a2
   exact key ndo h1 h3
  have hmk:(hd.mk' k ds.length dd nn).h=h2:=by simp only[Hd.mk',NZ,Option.getD_some,h2]
  have src: ∀n o,find h2 n=some o→ι2 n≠ []→ ∃m q,find Y.h m=some q∧ι2 n=ι m∧γ2 n=γ m∧((n∈hd.ns∧m=n)∨(¬n∈hd.ns∧(n,some m)∈rn))∧ ∀e sz c,o= .au e sz c→ ∃c0,q= .au e sz c0:=fun n o hf hi=>by
   rcases look n o hf with⟨hn,o0,e1,e2,_⟩|⟨e,sz,i,hn,rfl,k2⟩
   ·refine⟨n,o0,e1,hk2 n hn,hg2 n hn, .inl ⟨hn,rfl⟩,fun e sz c ho=> ?_⟩;subst ho;cases o0<;>simp only[SO.cZ]at e2;obtain⟨rfl,rfl,_⟩:=e2;exact⟨_,rfl⟩
   ·rcases k2 with⟨a1,_⟩|⟨n0,c0,d,a1,a2,_⟩
    ·exact absurd (hI _ a1) hi
    ·exact⟨n0,_,a2,hI _ a1,hGm _ a1, .inr ⟨hn,a1⟩,fun e' sz' c' ho=>by cases ho;exact⟨c0,rfl⟩⟩
  have uniq: ∀{n n' m:Nat},((n∈hd.ns∧m=n)∨(¬n∈hd.ns∧(n,some m)∈rn))→((n'∈hd.ns∧m=n')∨(¬n'∈hd.ns∧(n',some m)∈rn))→n=n':=fun{n n' m} h1 h3=>by
   rcases h1 with⟨a1,rfl⟩|⟨a1,a2⟩<;>rcases h3 with⟨b1,b2⟩|⟨b1,b2⟩
   ·exact b2
   ·exact absurd a1 (apart _ _ b2)
   ·subst b2;exact absurd b1 (apart _ _ a2)
   ·exact old _ _ _ a2 b2
  refine⟨ι2,γ2,⟨fun i v hv=> ?_,fun n vs hn=> ?_,fun n e sz c hn=> ?_,fun n c hn=> ?_,fun n e sz c hn=> ?_,fun n n' _ _ _ _ _ _ h1 h3=> ?_,fun n kk hn=> ?_,fun n n' o o' h1 h3 e1 e2=> ?_,fun n n' e e' sz sz' c c' h1 h3 e1 e2 eg=> ?_,M.wf,fun n e sz c hn hi y kk r hg=> ?_,by simp[Hd.mk',hk],M.con⟩⟩
  ·rw[hmk];simp only[Hd.mk',eR,Option.or_eq_some_iff]at hv;rcases hv with hv|⟨_,hv⟩
   ·exact vQ gs hv
   ·rw[←He (Nat.le_of_eq LA.symm)]at hv;exact ada gt hv
  ·rw[hmk]at hn⊢;rcases look n _ hn with⟨hn',o0,_,_,e3⟩|⟨e,sz,i,_,k1,_⟩
   ·obtain⟨xs',k1,k2,k3⟩:=e3;exact⟨xs',by rw[hk2 n hn'];exact k1,by rw[hk2 n hn'];exact k2,k3⟩
   ·cases k1
  ·rw[hmk]at hn;rcases look n _ hn with⟨hn',o0,_,_,e3⟩|⟨e',sz',i,hnk,k1,k2⟩
   ·obtain⟨es,k1,k2,k3⟩:=e3;exact⟨es,k1,k2,by rw[hk2 n hn',hg2 n hn'];exact k3⟩
   ·cases k1;rcases k2 with⟨a1,a2⟩|⟨n0,c0,d,a1,a2,a3,a4⟩
    ·exact⟨[],by simpa[X.ev]using a2,rfl, .inl ⟨by rw[hI _ a1];rfl,rfl⟩⟩
    ·obtain⟨es,b1,b2,b3⟩:=M.au n0 _ _ _ a2;rw[a4]at b1;cases b1;have e1:ι2 n=ι n0:=hI _ a1;have e2:γ2 n=γ n0:=hGm _ a1;refine⟨es,by simpa[X.ev]using a3,b2, ?_⟩;rw[e1,e2];exact b3
  ·rw[hmk]at hn;rcases look n _ hn with⟨hn',o0,_,_,e3⟩|⟨e,sz,i,_,k1,_⟩
   ·obtain⟨es,k1,k2,k3⟩:=e3;exact⟨es,k1,by rw[hk2 n hn'];exact k2,by rw[hk2 n hn'];exact k3⟩
   ·cases k1
  ·rw[hmk]at hn;rcases look n _ hn with⟨hn',o0,_,_,e3⟩|⟨e,sz,i,_,k1,_⟩
   ·obtain⟨L,k1,k2,k3,k4⟩:=e3;refine⟨L,k1,by rw[hk2 n hn'];exact k2,by rw[hk2 n hn'];exact k3,fun q hq=>(k4.1 q hq).lE rfl (fun k o hk=> ?_) (fun k e sz c hk hi=> ?_) fun _=>Nat.le_refl _,k4.2⟩
    ·rw[hmk]at hk;by_cases hi:ι2 k= []
     ·rw[hi];exact Ne.symm (k4.1 q hq).1
     ·obtain⟨m,q1,a1,a2,_⟩:=src k o hk hi;rw[a2];exact(k4.1 q hq).2.2.2.1 m q1 a1
    ·rw[hmk]at hk;obtain⟨m,q1,a1,a2,a3,a4,a5⟩:=src k _ hk hi;obtain⟨c0,rfl⟩:=a5 _ _ _ rfl;rw[a3];exact(k4.1 q hq).2.2.2.2.1 m _ _ _ a1 (by rw[←a2];exact hi)
   ·cases k1
  ·rw[hmk]at h1 h3
   have mp: ∀{n e sz c},find h2 n=some (.mpl e sz c)→n∈hd.ns∧ ∃e' sz' c',find Y.h n=some (.mpl e' sz' c'):=fun{n e sz c} h=>by
    rcases look n _ h with⟨hn',o0,g1,g2,_⟩|⟨_,_,_,_,k1,_⟩
    ·cases o0<;>simp only[SO.cZ]at g2;exact⟨hn',_,_,_,g1⟩
    ·cases k1
   obtain⟨_,_,_,_,g1⟩:=mp h1;obtain⟨_,_,_,_,g3⟩:=mp h3;exact M.one n n' _ _ _ _ _ _ g1 g3
  ·rw[hmk]at hn;rcases look n _ hn with⟨hn',o0,_,_,e3⟩|⟨e,sz,i,_,k1,_⟩
   ·obtain⟨k1,k2,k3⟩:=e3;exact⟨by rw[hk2 n hn'];exact k1,by rw[hk2 n hn'];exact k2,by rw[hk2 n hn'];exact k3⟩
   ·cases k1
  ·rw[hmk]at h1 h3;obtain⟨m,q1,a1,a2,_,a4,_⟩:=src n o h1 e2;obtain⟨m',q2,b1,b2,_,b4,_⟩:=src n' o' h3 (e1▸e2);have:m=m':=M.inj m m' _ _ a1 b1 (by rw[←a2,←b2];exact e1) (by rw[←a2];exact e2);subst this;exact uniq a4 b4
  ·rw[hmk]at h1 h3;obtain⟨m,q1,a1,a2,a3,a4,a5⟩:=src n _ h1 e1;obtain⟨m',q2,b1,b2,b3,b4,b5⟩:=src n' _ h3 e2;obtain⟨c0,rfl⟩:=a5 _ _ _ rfl;obtain⟨c1,rfl⟩:=b5 _ _ _ rfl;have:m=m':=M.gZ m m' _ _ _ _ _ _ a1 b1 (by rw[←a2];exact e1) (by rw[←b2];exact e2) (by rw[←a3,←b3];exact eg);subst this;exact uniq a4 b4
  ·rw[hmk]at hn;obtain⟨m,q1,a1,a2,a3,a4,a5⟩:=src n _ hn hi;obtain⟨c0,rfl⟩:=a5 _ _ _ rfl;rw[a3]at hg;exact M.old m _ _ _ a1 (by rw[←a2];exact hi) y kk r hg
 ·cases hm
end
end
section
def ig(a b n:Nat):Nat:=bif n==a then b else bif n==b then a else n
theorem lN(a b n:Nat):ig a b (ig a b n)=n:=by
 unfold ig
 grind
mutual
def KG(a b:Nat):SV→SV
 | .un=> .un
 | .x e=> .x e
 | .agg vs=> .agg (DP a b vs)
 | .tup vs=> .tup (DP a b vs)
 | .clo f vs=> .clo f (DP a b vs)
 | .ptr n o=> .ptr (ig a b n) o
 | .dp n o c s i j=> .dp (ig a b n) o c s i j
 | .gl n s=> .gl (ig a b n) s
 | .gs n s k=> .gs (ig a b n) s k
 | .gc n s k=> .gc (ig a b n) s k
 | .gt n s k=> .gt (ig a b n) s k
 | .ep n s i j=> .ep (ig a b n) s i j
 | .sb n o l=> .sb (ig a b n) o l
 | .rb n o=> .rb (ig a b n) o
 | .mp n=> .mp (ig a b n)
 | .yl n=> .yl (ig a b n)
 | .gd g v=> .gd g (KG a b v)
def DP(a b:Nat):List SV→List SV
 | []=> []
 |v::r=>KG a b v::DP a b r
end
theorem pS(a b:Nat): ∀(vs:List SV),DP a b vs=vs.map (KG a b)
 | []=>by simp[DP]
 |v::r=>by simp[DP,pS a b r]
def PQ(a b:Nat):SO→SO
 | .box vs=> .box (vs.map (KG a b))
 |o=>o
def UL(a b:Nat):List (Nat×SO)→List (Nat×SO)
 | []=> []
 |(i,o)::r=>(ig a b i,PQ a b o)::UL a b r
theorem pf(a b n:Nat): ∀(h:List (Nat×SO)),find (UL a b h) n=(find h (ig a b n)).map (PQ a b)
 | []=>rfl
 |(i,o)::r=>by
  simp only[UL,find,pf a b n r]
  have:(ig a b i==n)=(i==ig a b n):=by
   by_cases h:ig a b i=n
   ·subst h;rw[lN];simp
   ·have h2:i≠ig a b n:=fun e=>h (by rw[e,lN])
    grind
  grind
def Sy.swap(Y:Sy)(a b:Nat):Sy:={Y with s:=mapA (KG a b) Y.s,h:=UL a b Y.h}
section
variable {Ω : bO} {G : FP} {E : List D} {ι γ : Nat → Tok} {Y : Sy} {J : St}
theorem VR.swap{h:List (Nat×SO)}{v:SV}{d:D}(H:VR G E ι h v d)(a b:Nat):VR G E (fun n=>ι (ig a b n)) (UL a b h) (KG a b v) d:=by
 have fb: ∀{n:Nat} {vs:List SV},find h n=some (.box vs)→find (UL a b h) (ig a b n)=some (.box (vs.map (KG a b))):=fun hf=>by rw[pf,lN,hf];rfl
 have fo: ∀{n:Nat} {o:SO},(∀vs,o≠ .box vs)→find h n=some o→find (UL a b h) (ig a b n)=some o:=fun{n o} ho hf=>by
  rw[pf,lN,hf];cases o<;>first|rfl|exact absurd rfl (ho _)
 have hi: ∀n,ι (ig a b (ig a b n))=ι n:=fun n=>by rw[lN]
 induction H with
 |un=>exact .un
 |x h1 h2=>exact .x h1 h2
 |agg hl hh ih=>
  simp only[KG,pS]
  exact .agg (by simpa using hl) fun i v d hv hd=>by
   grind
 |tup hl hh ih=>
  simp only[KG,pS]
  exact .tup (by simpa using hl) fun i v d hv hd=>by
   grind
 |clo hl hh ih=>
  simp only[KG,pS]
  exact .clo (by simpa using hl) fun i v d hv hd=>by
   grind
 | @ptr n o vs hf=>
  have:=VR.ptr (G:=G) (E:=E) (ι:=fun n=>ι (ig a b n)) (o:=o) (fb hf);simp only[hi]at this;exact this
 | @dp n o cnt s j i vs k z hf hv h0 hz hl=>
  have:=VR.dp (G:=G) (E:=E) (ι:=fun n=>ι (ig a b n)) (o:=o) (j:=j) (fb hf) hv h0 hz (by simpa using hl);simp only[hi]at this;exact this
 | @gln n sz e c hf h1=>exact .gln (fo (by simp) hf) (by rw[hi];exact h1)
 | @gl n sz e c es hf hc h1=>
  have:=VR.gl (G:=G) (E:=E) (ι:=fun n=>ι (ig a b n)) (fo (by simp) hf) hc (by rw[hi];exact h1);simp only[hi]at this;exact this
 | @gsn n sz e c k q hf h1 hk=>exact .gsn (fo (by simp) hf) (by rw[hi];exact h1) hk
 | @gs n sz e c k es q z hf hc h1 hk h0 hz=>
  have:=VR.gs (G:=G) (E:=E) (ι:=fun n=>ι (ig a b n)) (fo (by simp) hf) hc (by rw[hi];exact h1) hk h0 hz;simp only[hi]at this;exact this
 | @gcn n sz e c k q hf h1 hk=>exact .gcn (fo (by simp) hf) (by rw[hi];exact h1) hk
 | @gc n sz e c k es q z m hf hc h1 hk h0 hz=>
  have:=VR.gc (m:=m) (G:=G) (E:=E) (ι:=fun n=>ι (ig a b n)) (fo (by simp) hf) hc (by rw[hi];exact h1) hk h0 hz;simp only[hi]at this;exact this
 | @gtn n sz e c k q hf h1 hk=>exact .gtn (fo (by simp) hf) (by rw[hi];exact h1) hk
 | @gt n sz e c k es q z hf hc h1 hk h0 hz=>
  have:=VR.gt (G:=G) (E:=E) (ι:=fun n=>ι (ig a b n)) (fo (by simp) hf) hc (by rw[hi];exact h1) hk h0 hz;simp only[hi]at this;exact this
 | @ep n sz e j c i k z es hf hc h1 hv h0 hz=>
  have:=VR.ep (G:=G) (E:=E) (ι:=fun n=>ι (ig a b n)) (j:=j) (fo (by simp) hf) hc (by rw[hi];exact h1) hv h0 hz;simp only[hi]at this;exact this
 | @sb n o len lim vs hf hl=>
  have:=VR.sb (G:=G) (E:=E) (ι:=fun n=>ι (ig a b n)) (lim:=lim) (fb hf) (by simpa using hl);simp only[hi]at this;exact this
 | @rb n o vs hf hl=>
  have:=VR.rb (G:=G) (E:=E) (ι:=fun n=>ι (ig a b n)) (fb hf) (by simpa using hl);simp only[hi]at this;exact this
 | @mp n o hf hmp=>
  have:=VR.mp (G:=G) (E:=E) (ι:=fun n=>ι (ig a b n)) (fo (fun vs e=>by subst e;cases hmp) hf) hmp;simp only[hi]at this;exact this
 | @yl n k hf=>
  have:=VR.yl (G:=G) (E:=E) (ι:=fun n=>ι (ig a b n)) (fo (by simp) hf);simp only[hi]at this;exact this
 |gd hg h1 h2 ih=>exact .gd hg ih h2
def xw(Y:Sy)(n:Nat):Bool:=match find Y.h n with
 |some (.raw _)=>false
 |_=>true
theorem Mt.swap(M:Mt Ω G E ι γ Y J){a b:Nat}(ha:xw Y a=true)(hb:xw Y b=true):Mt Ω G E (fun n=>ι (ig a b n)) (fun n=>γ (ig a b n)) (Y.swap a b) J:=by
 have back: ∀{n:Nat} {o:SO},find (Y.swap a b).h n=some o→ ∃o0,find Y.h (ig a b n)=some o0∧o=PQ a b o0:=fun{n o} h=>by
  simp only[Sy.swap,pf]at h;obtain⟨o0,h1,h2⟩:=Mz.1 h
  grind
 have bl: ∀{n e sz:Nat} {c:X},find (Y.swap a b).h n=some (.au e sz c)→find Y.h (ig a b n)=some (.au e sz c):=fun{n e sz c} h=>by
  obtain⟨o0,h1,h2⟩:=back h;cases o0<;>simp only[PQ,reduceCtorEq]at h2;rw[h1,h2]
 have bp: ∀{n e sz:Nat} {c:X},find (Y.swap a b).h n=some (.mpl e sz c)→find Y.h (ig a b n)=some (.mpl e sz c):=fun{n e sz c} h=>by
  obtain⟨o0,h1,h2⟩:=back h;cases o0<;>simp only[PQ,reduceCtorEq]at h2;rw[h1,h2]
 have inj: ∀{n n':Nat},ig a b n=ig a b n'→n=n':=fun{n n'} h=>by have:=congrArg (ig a b) h;rwa[lN,lN]at this
 refine⟨fun i v hv=> ?_,fun n vs hn=> ?_,fun n e sz c hn=>M.au _ e sz c (bl hn),fun n c hn=> ?_,fun n e sz c hn=> ?_,fun n n' _ _ _ _ _ _ h1 h2=>inj (M.one _ _ _ _ _ _ _ _ (bp h1) (bp h2)),fun n k hn=> ?_,fun n n' o o' h1 h2 he hi=> ?_,fun n n' e e' sz sz' c c' h1 h2 g1 g2 hg=>inj (M.gZ _ _ e e' sz sz' c c' (bl h1) (bl h2) g1 g2 hg),M.wf,fun n e sz c hn hi=>M.old _ e sz c (bl hn) hi,M.nv,M.con⟩
 ·simp only[Sy.swap,d_]at hv;obtain⟨u,hu,rfl⟩:=Mz.1 hv;exact(M.slot i u hu).swap a b
 ·obtain⟨o0,h1,h2⟩:=back hn;cases o0<;>simp only[PQ,reduceCtorEq,SO.box.injEq]at h2;subst h2;obtain⟨ds,k1,k2,k3⟩:=M.box _ _ h1;refine⟨ds,k1,k2,by simpa using k3.1,fun i v d hv hd=> ?_⟩;rw[Dz,Mz]at hv;obtain⟨u,hu,rfl⟩:=hv;exact(k3.2 i u d hu hd).swap a b
 ·obtain⟨o0,h1,h2⟩:=back hn;cases o0<;>simp only[PQ,reduceCtorEq,SO.map.injEq]at h2;subst h2;exact M.mpo _ c h1
 ·obtain⟨L,k1,k2,k3,k4⟩:=M.own _ _ _ _ (bp hn);refine⟨L,k1,k2,k3,fun q hq=>(k4.1 q hq).lE rfl (fun k o hk=> ?_) (fun k e sz c hk=> ?_) fun _=>Nat.le_refl _,k4.2⟩
  ·grind
  ·exact(k4.1 q hq).2.2.2.2.1 _ e sz c (bl hk)
 ·obtain⟨o0,h1,h2⟩:=back hn;cases o0<;>simp only[PQ,reduceCtorEq,SO.raw.injEq]at h2;subst h2
  have lV:ig a b n=n:=by
   unfold ig;by_cases e1:n=a
   ·subst e1;have:ig n b n=b:=by simp[ig]
    rw[this]at h1;simp[xw,h1]at hb
   ·by_cases e2:n=b
    ·subst e2;have h0:(n==a)=false:=by simpa using e1
     have:ig a n n=a:=by simp[ig,h0]
     rw[this]at h1;simp[xw,h1]at ha
    ·have h0:(n==a)=false:=by simpa using e1
     have h3:(n==b)=false:=by simpa using e2
     simp[h0,h3]
  rw[lV]at h1;simp only[lV];exact M.rwo n k h1
 ·obtain⟨o1,g1,_⟩:=back h1;obtain⟨o2,g2,_⟩:=back h2;exact inj (M.inj _ _ o1 o2 g1 g2 he hi)
end
def vU:SO→SO
 | .mpl _ _ c=> .map c
 |o=>o
def Sy.freeze(Y:Sy):Sy:={Y with h:=mapA vU Y.h}
def Sy.VA(Y:Sy)(k:Nat):Sy:=if k=1000000 then Y.freeze else Y
mutual
def nH(h:List (Nat×SO)):SV→SV
 | .gl n _=>match find h n with
  |some (.au _ _ c)=> .x c
  |_=> .un
 | .gs n _ k=>match find h n with
  |some (.au _ _ c)=> .x (.mk .take [c,k])
  |_=> .un
 | .gc n _ k=>match find h n with
  |some (.au _ _ c)=> .x (.mk .take [c,k])
  |_=> .un
 | .gt n _ k=>match find h n with
  |some (.au _ _ c)=> .x (.mk .drp [c,k])
  |_=> .un
 | .ep .. => .un
 | .agg vs=> .agg (iP h vs)
 | .tup vs=> .tup (iP h vs)
 | .clo f vs=> .clo f (iP h vs)
 | .gd g v=> .gd g (nH h v)
 | .un=> .un
 | .x e=> .x e
 | .ptr n o=> .ptr n o
 | .dp n o cnt s i j=> .dp n o cnt s i j
 | .sb n o l=> .sb n o l
 | .rb n o=> .rb n o
 | .mp n=> .mp n
 | .yl n=> .yl n
def iP(h:List (Nat×SO)):List SV→List SV
 | []=> []
 |v::r=>nH h v::iP h r
end
def qy(h:List (Nat×SO)):SO→SO
 | .box vs=> .box (iP h vs)
 |o=>o
def xu:List (Nat×SO)→List (Nat×SO)
 | []=> []
 |(i, .au ..)::r=>ru i (xu r)
 |(i,o)::r=>(i,o)::xu r
def Sy.oD(Y:Sy):Sy:={Y with s:=mapA (nH Y.h) Y.s,h:=mapA (qy Y.h) (xu Y.h)}
def Sy.yz(Y:Sy)(k:Nat):Sy:=if k=1 then Y.oD else Y
def uP:List (Nat×SV)→List (Nat×Nat)
 | []=> []
 |(i, .ptr n 0)::r=>(i,n)::uP r
 |_::r=>uP r
def Sy.align(Y:Sy):List (Nat×Nat)→Sy
 | []=>Y
 |(i,a)::r=>match find Y.s i with
  |some (.ptr n 0)=>if n≠a∧xw Y n=true∧xw Y a=true then(Y.swap n a).align r else Y.align r
  |_=>Y.align r
theorem Mt.align{Ω:bO}{G:FP}{E:List D}: ∀(l:List (Nat×Nat)) {ι γ:Nat→Tok} {Y:Sy} {J:St},Mt Ω G E ι γ Y J→ ∃ι' γ',Mt Ω G E ι' γ' (Y.align l) J
 | [],ι,γ,Y,J,M=>⟨ι,γ,M⟩
 |(i,a)::r,ι,γ,Y,J,M=>by
  simp only[Sy.align];split
  ·split
   ·rename_i n _ hc;exact Mt.align r (M.swap hc.2.1 hc.2.2)
   ·exact Mt.align r M
  ·exact Mt.align r M
def EJ:Nat→Row→List SV→Row
 |_,[],_=> []
 |k,(_,p)::r,vs=>(k,match p with
  | .same .un=> .same (vs.headD .un)
  |p=>p)::EJ (k+1) r vs.tail
def A4(Y:Sy):List (Nat×Nat)→List SV
 | []=> []
 |(i,l)::r=>(match find Y.s i with
  |some (.tup vs)=>bif vs.length==l then vs else List.replicate l .un
  |_=>List.replicate l .un)++A4 Y r
def A3(Y:Sy):List (Nat×Sk)→List SV
 | []=> []
 |(n,k)::r=>(match find Y.h n with
  |some o=>bif o.cells.length==k.len then o.cells else List.replicate k.len .un
  |none=>List.replicate k.len .un)++A3 Y r
def Hd.fill(h:Hd)(b:Nat)(Y:Sy):Hd:={h with row:=EJ b h.row (sV Y h.ids++(A4 Y h.ts++A3 Y h.os))}
end
section
inductive FT where
 |ret (x:X)
 |fM (xs:List X) (k:FT)
 |lets (xs:List X) (k:FT)
 |ite (c:X) (a b:FT)
 |loop (init:List X) (body:FT)
 |next (j:Nat) (xs:List X)
 |jp (k body:FT)
 |st (Y:Sy)
 |bad (why:Nat) (Y:Option Sy:=none)
def iy:X→D→Bool
 |_, .list []=>true
 | .mk .own _, .list es=>es.all fun c=>c.all D.aW
 |_, .agg xs=>xs.all D.aW
 |_,d=>d.aW
def uI:List X→List D→Bool
 |x::xs,d::ds=>iy x d&&uI xs ds
 | [],[]=>true
 |_,_=>false
def l6:X→D→Bool
 | .mk .tup xs, .tup ds=>uI xs ds
 |x,d=>iy x d
def bY(x:X)(d:D):D:=if d.flat then d else if l6 x d then d.own else d
def ae(G:FP)(N:Nat):FT→List (List D→Option D)→List D→Option D
 | .ret x,_,E=>(X.ev G E x).bind fun d=>if d.aF then some (bY x d)else none
 | .fM xs k,L,E=>(X.ba G E xs).bind fun _=>ae G N k L E
 | .lets xs k,L,E=>(X.ba G E xs).bind fun ds=>ae G N k L (E++ds)
 | .ite c a b,L,E=>(X.ev G E c).bind fun v=>v.asBool.bind fun x=>bif x then ae G N a L E else ae G N b L E
 | .loop xs body,L,E=>(X.ba G E xs).bind fun ds=>iter (fun rec vs=>ae G N body (rec::L) (E++vs)) N ds
 | .next j xs,L,E=>(X.ba G E xs).bind fun ds=>(L[j]?).bind fun f=>f ds
 | .jp k body,L,E=>ae G N body ((fun vs=>ae G N k L (E++vs))::L) E
 | .st _,_,_=>none
 | .bad _ _,_,_=>none
def BD(xs:List X)(k:FT):FT:=match xs with
 | []=>k
 |xs=> .fM xs k
def oG(xs:List X)(k:FT):FT:=match xs with
 | []=>k
 |xs=> .lets xs k
theorem o8{G:FP}{N:Nat}{xs:List X}{k:FT}{L:List (List D→Option D)}{E:List D}:ae G N (BD xs k) L E=(X.ba G E xs).bind fun _=>ae G N k L E:=by cases xs<;>rfl
theorem qp{G:FP}{N:Nat}{xs:List X}{k:FT}{L:List (List D→Option D)}{E:List D}:ae G N (oG xs k) L E=(X.ba G E xs).bind fun ds=>ae G N k L (E++ds):=by
 cases xs
 ·simp[oG,X.ba]
 ·rfl
def asg:Code→List Nat
 | .region _ ops _=>ops.toList.filterMap (·.dst)
 | .seq a b| .cond _ a b=>asg a++asg b
 | .block _ c| .loop c=>asg c
 |_=> []
structure Hs where
 s:List (Nat×Ad)
 t:List (Nat×List Ad)
 o:List (Nat×Sk×List Ad)
def rowOf(B:Nat):Nat→List Ad→Row
 |_,[]=> []
 |i,p::r=>(B+i,p)::rowOf B (i+1) r
def Hs.hd(B:Nat)(h:Hs):Hd:=
 {ids:=h.s.map (·.1),ts:=h.t.map fun p=>(p.1,p.2.length),os:=h.o.map fun p=>(p.1,p.2.1),row:=rowOf B 0 (h.s.map (·.2)++(h.t.flatMap (·.2)++h.o.flatMap (·.2.2)))}
def hZ:Row→Nat
 | []=>0
 |(_, .var)::r|(_, .au ..)::r=>hZ r+1
 |_::r=>hZ r
def T2(h:List (Nat×SO))(n:Nat):Ad:=match find h n with
 |some (.au e sz _)=> .au e sz
 |_=> .drop
def Ul(k:Nat)(ns:List Nat)(h:List (Nat×SO))(chg:Bool)(v:SV):Ad:=
 match v with
 | .gl n _=>if chg then T2 h n else if ns.contains n then .same v else T2 h n
 | .x (.q d)=>if chg&& !(match d with| .nil=>true|_=>false)then .var else .same (.x (.q d))
 |v=>if chg&&v.nM.isSome then .var else if cM k ns v then .same v else if v.nM.isSome then .var else .drop
def acb(k:Nat)(ns:List Nat)(h:List (Nat×SO)):Ad→Ad
 | .same v=>if cM k ns v then .same v else match v with
  | .gl n _=>T2 h n
  |v=>if v.nM.isSome then .var else .drop
 |p=>p
def K9(Y:Sy)(ls:List Sy):List (Nat×SO):=Y.h.filter fun p=>ls.all fun(Z:Sy)=>match find Z.h p.1 with
 |some o=>decide (o.sk=p.2.sk)
 |none=>false
def dedup(l:List (Nat×SO)):List (Nat×SO):=l.foldl (fun acc p=>if acc.any (·.1==p.1)then acc else acc++ [p]) []
def Xx(k:Nat)(as:List Nat)(Y:Sy)(os:List (Nat×SO)):Hs:=
 let ns:=os.map (·.1)
 {s:=(Y.s.filter fun p=>match p.2 with| .tup _=>false|_=>true).map fun p=>(p.1,Ul k ns Y.h (as.contains p.1) p.2),
  t:=Y.s.filterMap fun p=>match p.2 with| .tup vs=>some (p.1,vs.map (Ul k ns Y.h (as.contains p.1)))|_=>none,
  o:=os.map fun p=>(p.1,p.2.sk,p.2.cells.map (Ul k ns Y.h false))}
def Ux(p:Ad)(ls:List (List (Nat×SO)×SV)):Ad:=
 match p with
 | .drop=> .drop
 | .same v=>if ls.all (fun l=>eP v l.2)then .same v else
  match ls.findSome? (fun l=>match l.2 with| .gl n _=>(match find l.1 n with|some (.au e sz _)=>some (e,sz)|_=>none)|_=>none)with
  |some (e,sz)=>if(match v with| .x (.q .nil)=>true| .gl .. =>true|_=>false)&&ls.all (fun l=>match l.2 with| .gl .. =>true| .x (.q .nil)=>true|_=>false)then .au e sz else .drop
  |none=>if v.nM.isSome&&ls.all (fun l=>l.2.nM.isSome)then .var else .drop
 | .var=>if ls.all (fun l=>l.2.nM.isSome)then .var else .drop
 | .au e sz=>if ls.all (fun l=>match l.2 with| .gl .. =>true| .x (.q .nil)=>true|_=>false)then .au e sz else .drop
def atT(Y:Sy)(i j:Nat):SV:=match find Y.s i with
 |some (.tup vs)=>vs.getD j .un
 |_=> .un
def atO(Y:Sy)(n j:Nat):SV:=match find Y.h n with
 |some o=>o.cells.getD j .un
 |none=> .un
def refine(k:Nat)(h0:List (Nat×SO))(h:Hs)(ls:List Sy):Hs:=
 let o:=h.o.filter fun p=>ls.all fun(Y:Sy)=>match find Y.h p.1 with|some o=>decide (o.sk=p.2.1)|none=>false
 let ns:=o.map (·.1);let f:=acb k ns h0
 {s:=h.s.map fun p=>(p.1,f (Ux p.2 (ls.map fun(Y:Sy)=>(Y.h,(find Y.s p.1).getD SV.un)))),
  t:=(h.t.filter fun p=>ls.all fun(Y:Sy)=>match find Y.s p.1 with|some (SV.tup vs)=>vs.length==p.2.length|_=>false).map fun p=>
   (p.1,p.2.zipIdx.map fun q=>f (Ux q.1 (ls.map fun(Y:Sy)=>(Y.h,atT Y p.1 q.2)))),
  o:=o.map fun p=>(p.1,p.2.1,p.2.2.zipIdx.map fun q=>f (Ux q.1 (ls.map fun(Y:Sy)=>(Y.h,atO Y p.1 q.2))))}
def Yl(B:Nat)(l:List Sy):Nat:=l.foldl (fun a Y=>if a<Y.nx then Y.nx else a) B
def ui(k:Nat):List Sy→Option (Hd×Nat)
 |Y::Z::r=>
  let ls:=Y::Z::r;let B:=Yl 0 ls;let hd:=(refine k Y.h (Xx k [] Y (dedup (K9 Y ls))) ls).hd B
  if hd.ok k&&ls.all fun(W:Sy)=>(hd.mt W).isSome&&W.h.all (fun p=>match p.2 with| .raw _=>hd.ns.contains p.1|_=>true)then some (hd,B+hd.row.length)else none
 |_=>none
theorem xi{k:Nat}{l:List Sy}{hd:Hd×Nat}(h:ui k l=some hd):hd.1.ok k=true:=by
 unfold ui at h
 grind
def uN:Operand→List Nat
 | .tmp t=> [t]
 |_=> []
def Kk:List Nat→List Oper→List Nat
 |_,[]=> []
 |dn,o::r=>(o.op.operands.toList.flatMap uN).filter (fun i=> !dn.contains i)++Kk ((match o.dst with|some x=> [x]|none=> [])++dn) r
def cE:Code→List Nat
 | .region _ ops _=>Kk [] ops.toList
 | .seq a b=>cE a++cE b
 | .cond c a b=>uN c++cE a++cE b
 | .block _ c| .loop c=>cE c
 | .rangeFunc g _ a b=>uN g++cE a++cE b
 |_=> []
def uniq:List Nat→List Nat→List Nat
 |acc,[]=>acc
 |acc,a::r=>if acc.contains a then uniq acc r else uniq (a::acc) r
mutual
def SV.nms:SV→List Nat
 | .un| .x _=> []
 | .agg vs| .tup vs=>SV.Jq vs
 | .clo _ vs=>SV.Jq vs
 | .ptr k _| .dp k _ _ _ _ _| .gl k _| .gs k _ _| .gc k _ _| .gt k _ _| .ep k _ _ _| .sb k _ _| .rb k _| .mp k| .yl k=> [k]
 | .gd _ v=>SV.nms v
def SV.Jq:List SV→List Nat
 | []=> []
 | .x _::r=>SV.Jq r
 |v::r=>SV.nms v++SV.Jq r
end
def Dq:List (Nat×SV)→List Nat
 | []=> []
 |(_, .x _)::r=>Dq r
 |(_,v)::r=>v.nms++Dq r
def ze(h:List (Nat×SO)):Nat→List Nat→List Nat→List Nat
 |0,_,acc=>acc
 |_+1,[],acc=>acc
 |f+1,a::r,acc=>bif Ma acc a then ze h f r acc else match find h a with
  |some (.box us)=>ze h f (SV.Jq us++r) (a::acc)
  |_=>ze h f r (a::acc)
def SO.XF:SO→Bool
 | .raw _=>true
 |_=>false
def Sy.gc(Y:Sy):Sy:=(((Y.h.filter fun p=> !p.2.XF).map (·.1)).filter fun n=> !Ma (ze Y.h 4000 (Dq Y.s) []) n).foldl Sy.kill Y
def qW{α:Type}(n:Nat):List (Nat×α)→List (Nat×α)
 | []=> []
 |(i,a)::r=>(i+n,a)::qW n r
def i_{α:Type}(n:Nat):List (Nat×α)→List (Nat×α)
 | []=> []
 |(i,a)::r=>bif decide (i<n)then i_ n r else(i-n,a)::i_ n r
def Ak:Nat→List SV→List (Nat×SV)
 |_,[]=> []
 |i,v::r=>(i,v)::Ak (i+1) r
def Sy.enter(Y:Sy)(n' n:Nat)(vs:List SV):Sy:={Y with s:=Ak 0 vs++qW n' Y.s,nx:=Y.nx+n}
def Sy.leave(Y:Sy)(n':Nat):Sy:={Y with s:=i_ n' Y.s}
def xJ{α:Type}(n:Nat):List (Nat×α)→List (Nat×α)
 | []=> []
 |(i,a)::r=>bif decide (i<n)then(i,a)::xJ n r else xJ n r
def JE:List Nat→List SV→List (Nat×SV)→List (Nat×SV)
 |p::ps,v::vs,l=>JE ps vs (b_ p v l)
 |_,_,l=>l
def Sy.round(Z:Sy)(n off:Nat)(ps:List Nat)(vs:List SV)(n0:Nat):Sy:={Z with s:=JE ps vs (xJ n (i_ off Z.s)++qW n Z.s),nx:=Z.nx+n0}
def Sy.raw(Y:Sy)(nm:Nat)(k:RS):Sy:={Y with h:=b_ nm (.raw k) Y.h}
def Sy.jQ(Y:Sy)(nm:Nat):Sy:={(Y.kill nm).raw nm .ready with nx:=Y.nx+1}
def JQ:VE→RS
 | .normal=> .ready
 |e=> .done e
def Sy.kX(Y:Sy)(x:Option Nat)(v:SV):Sy:=match x with
 |some x=>Y.set x v
 |none=>Y
def Sy.bump(Y:Sy)(n:Nat):Sy:={Y with nx:=Y.nx+n}
inductive fC where
 |t (i:Nat)
 |cell (i n:Nat) (agg:Bool)
 deriving Inhabited
def vT(P:Program)(n:Nat):ResultVar→Option fC
 | .tmp t=>if t<n then some (.t t)else none
 | .cell a t=>if a<n then(dM P t).bind fun g=>if(P.info? t).isSome∧(g=true∨P.cellsOf t=1)then some (.cell a (P.cellsOf t) g)else none else none
def uR(Y:Sy):fC→Option SV
 | .t i=>some (bL Y (.t i))
 | .cell i n g=>(vu Y.h (.load n g) [bL Y (.t i)]).bind fun q=>if q.2.isEmpty then some q.1 else none
def BT(rs:List fC)(Y:Sy):Option SV:=
 match rs with
 | [r]=>uR Y r
 |rs=>(rs.mapM (uR Y)).map .tup
def ω:ResultVar→Nat
 | .tmp t=>t
 | .cell a _=>a
def uk(fn:Func):List Nat:=uniq [] (fn.results.toList.map ω)
structure Ya where
 S:List Nat
 run:List Nat→Nat→Nat→List SV→Option Nat→Nat→Sy→List Sy
def Ya.push(ya:Ya)(k:Nat):Ya:=⟨ya.S,fun S nm off=>ya.run S nm (off+k)⟩
def Ya.under(ya:Ya)(S:List Nat)(k:Nat):Ya:=⟨S,fun S' nm off=>if ya.S.contains nm then ya.run S' nm (off+k)else fun _ _ _ _=> []⟩
abbrev InA:=Ya→Nat→List SV→Option Nat→Nat→Sy→List Sy
structure Cx where
 P:Program
 cfg:Nat→p8
 un:Nat→Nat→Nat
 it:Nat→Option (Nat×Nat)
 ia:InA
 fj:Nat→Bool
 rt:Nat:=0
 hint:Nat→Nat→Option (Option (Hd×Nat)):=fun _ _=>none
def ND:Code→Nat
 | .region id _ _=>2*id+1
 | .block id _=>2*id+2
 | .seq a _=>ND a
 | .cond _ a b=>match ND a with
  |0=>ND b
  |k=>k
 | .loop c=>ND c
 | .rangeFunc _ _ _ b=>ND b
 |_=>0
def C6(k cf a b:Nat)(Y:Sy):List Nat:= [k,cf,a,b,Y.nv,Y.nx-1000000,Y.d,Y.s.length,Y.h.length]
def Te:Nat→List Nat→Nat
 |acc,[]=>acc
 |acc,a::r=>Te (acc*10000000+a) r
def Cx.EY(C:Cx)(key:List Nat)(Y:Sy)(nv:Nat)(l:Unit→Option (Hd×Nat)):Option (Hd×Nat):=match C.hint C.rt (Te 1 key)with
 |some (some h)=>if(h.1.fill (Y.nx+h.2-h.1.row.length) Y).ok nv then some (h.1.fill (Y.nx+h.2-h.1.row.length) Y,Y.nx+h.2)else none
 |some none=>none
 |none=>l ()
def Cx.NU(C:Cx)(key:List Nat)(Y:Sy)(l:Unit→Hd):Hd:=match C.hint C.rt (Te 1 key)with
 |some (some h)=>h.1.fill Y.nx Y
 |_=>l ()
theorem Bm{C:Cx}{key:List Nat}{Y:Sy}{nv:Nat}{l:Unit→Option (Hd×Nat)}{h:Hd×Nat}(hl: ∀h,l ()=some h→h.1.ok nv=true)(hs:C.EY key Y nv l=some h):h.1.ok nv=true:=by
 unfold Cx.EY at hs;split at hs
 ·split at hs
  ·cases hs;assumption
  ·cases hs
 ·cases hs
 ·exact hl h hs
structure Yh where
 S:List Nat
 run:List Nat→Nat→Nat→List SV→Option Nat→Nat→Sy→(Sy→FT)→FT
 a:Ya
def Yh.push(yl:Yh)(k:Nat):Yh:=⟨yl.S,fun S nm off=>yl.run S nm (off+k),yl.a.push k⟩
def Yh.under(yl:Yh)(S:List Nat)(k:Nat):Yh:=⟨S,fun S' nm off=>if yl.S.contains nm then yl.run S' nm (off+k)else fun _ _ _ _ _=> .bad 100048,yl.a.under S k⟩
abbrev KC:=Yh→Nat→List SV→Option Nat→Nat→Sy→(Sy→FT)→FT
inductive Tg where
 |fn (f:Nat)
 |yld (nm:Nat)
def qj(fr:p8)(n:Nat)(o:Oper)(Y:Sy):Option (Tg×List SV):=
 match o.op with
 | .call c=>if o.dst.all (· <n)then(match c.callee with
  | .value (.func f)=>if fr.fr f=1 then(c.args.toList.mapM (eu n)).map fun gs=>(.fn f,gs.map (bL Y))else none
  | .value (.tmp t)=>if t<n then(match find Y.s t with
   |some (.clo f eM)=>if f<1000000 then(if fr.fr f=1 then(c.args.toList.mapM (eu n)).map fun gs=>(.fn f,gs.map (bL Y)++eM)else none)else if fr.fr (f-1000000)=1 then(c.args.toList.mapM (eu n)).map fun gs=>(.fn (f-1000000),eM++gs.map (bL Y))else none
   |some (.yl nm)=>(c.args.toList.mapM (eu n)).map fun gs=>(.yld nm,gs.map (bL Y))
   |_=>none)else none
  |_=>none)else none
 |_=>none
def Lw(yl:Yh)(inl:KC):Tg→List SV→Option Nat→Nat→Sy→(Sy→FT)→FT
 | .fn f=>inl yl f
 | .yld nm=>if yl.S.contains nm then yl.run yl.S nm 0 else fun _ _ _ _ _=> .bad 100047
def Ft(it:Option (Nat×Nat))(n:Nat)(g:Operand)(Y:Sy):Option ((Nat×List SV)×List X):=
 match g with
 | .func f=>some ((f,[]),[])
 | .tmp t=>if t<n then(match find Y.s t with
  |some (.clo f eM)=>if f<1000000 then some ((f,eM),[])else none
  |some (.x e)=>it.bind fun q=>if q.1<1000000 then some ((q.1,(List.range q.2).map fun i=> .x (.mk (.capc q.1 i q.2) [e])),[.mk (.isc q.1 q.2) [e]])else none
  |_=>none)else none
 |_=>none
def sX(fr:p8):Op→Bool
 | .call c=>match c.callee with
  | .value (.func f)=>decide (fr.fr f=1)
  | .value (.tmp _)=>true
  |_=>false
 |_=>false
def Ew(fr:p8)(ops:Array Oper):Bool:=ops.toList.any fun o=>sX fr o.op
def Sy.qY(Y:Sy)(e:X):Sy:={Y with s:=mapA (strip e) Y.s}
def N5:BinOp→Bool
 | .eql| .neq| .lss| .leq| .gtr| .geq=>true
 |_=>false
def fW:X→Bool
 | .q (.v (.bool _))=>true
 | .mk (.gv _) _=>true
 | .mk (.pk k) _=>match k with
  | .ibin op=>N5 op
  | .inot=>true
  | .beq _| .seq _| .aeq .. | .snil _=>true
  |_=>false
 | .ite _ a b=>fW a&&fW b
 |_=>false
def mQ(w:Bool)(g:X):SV→SV
 | .x e=>if dH e g then .x (.q (.v (.bool (!w))))else .x e
 |v=>v
def Sy.mQ(Y:Sy):X→Sy
 | .mk (.gv w) [g]=>if fW g then{Y with s:=mapA (Go.Proofs.YtkcfpgaepmllhaaGreatDoor.mQ w g) Y.s}else Y
 |_=>Y
inductive GV where
 |go (b:Bool)
 |ask (e:X)
def guardOf(Y:Sy):Option (Option (Nat×Bool))→Option GV
 |none=>none
 |some none=>some (.go true)
 |some (some (j,w))=>match find Y.s j with
  |some (.x (.q (.v (.bool b))))=>some (.go (b==w))
  |some (.x g)=>some (.ask (.mk (.gv w) [g]))
  |_=>none
def zS(body:Sy→(VE→Sy→FT)→FT):Nat→Sy→(VE→Sy→FT)→FT
 |0,_,_=> .bad 100031
 |k+1,Y,κ=>body Y fun e Y'=>match e with
  | .normal=>zS body k Y' κ
  |e=>κ e Y'
def settle(ks:List Nat)(n:Nat)(Y:Sy):Sy×List X:=((Y.trim n ks).gc.bump n).atom
def Ad.kind:Ad→Nat
 | .drop=>0
 | .same _=>1
 | .var=>2
 | .au .. =>3
def Hs.kinds(h:Hs):List Nat:=h.s.map (·.2.kind)++(h.t.flatMap fun p=>p.1::p.2.map Ad.kind)++h.o.flatMap fun p=>p.1::p.2.2.map Ad.kind
def SA:List Nat→List Nat→Bool
 | [],[]=>true
 |a::r,b::s=>a==b&&SA r s
 |_,_=>false
def jy:List (VE×Sy)→List Sy
 | []=> []
 |(.normal,Y)::r=>Y::jy r
 |_::r=>jy r
def others:List (VE×Sy)→List (VE×Sy)
 | []=> []
 |(.normal,_)::r=>others r
 |p::r=>p::others r
def Dj(k:Nat)(l:List Sy):List Sy:=match ui k l with
 |some hd=> [hd.1.mk' k (hZ hd.1.row) 0 hd.2]
 |none=>l
def T6(b:Bool)(k:Nat)(l:List Sy):List Sy:=bif b then l else Dj k l
def NT(run:Hs→List (VE×Sy))(Y:Sy)(c:Code):Hs×List (VE×Sy):=
 let al:=uP Y.s;let h0:=Xx Y.nv (asg c) Y (dedup Y.h);let l0:=run h0;let h1:=refine Y.nv Y.h h0 ((jy l0).map fun Z=>Z.align al)
 if SA h1.kinds h0.kinds then(h1,l0)else
 let l1:=run h1;let h2:=refine Y.nv Y.h h1 ((jy l1).map fun Z=>Z.align al)
 if SA h2.kinds h1.kinds then(h2,l1)else(h2,run h2)
def FF(body:Sy→List (VE×Sy)):Nat→Sy→List (VE×Sy)
 |0,_=> []
 |k+1,Y=>others (body Y)++(jy (body Y)).flatMap (FF body k)
def Ya.VD(n:Nat)(fa fb:Ya→List Nat→Sy→List (VE×Sy))(ya:Ya)(nm0:Nat)(ps:Array Nat)(body:Code):Ya:=
 ⟨nm0::ya.S,fun S nm off vs x n0 Z=>if nm=nm0 then(match find Z.h nm with
  |some (.raw .ready)=>if vs.length=ps.size then
    (fa (ya.under S (n+off)) (cE body) (Z.round n off ps.toList vs n0)).flatMap fun p=>match p.1,find p.2.h nm with
     | .normal,some (.raw .ready)=>(fb (ya.under S (n+off)) [] (p.2.raw nm .busy)).filterMap fun p2=>match find p2.2.h nm with
      |some (.raw .busy)=>some (((p2.2.raw nm (JQ p2.1)).leave n).kX x (.x (.q (bv (decide (p2.1= .normal))))))
      |_=>none
     |_,_=> []
   else []
  |_=> [])else ya.run S nm off vs x n0 Z⟩
def lC:Code→Bool
 | .loop _| .rangeFunc .. =>true
 | .seq a b| .cond _ a b=>lC a||lC b
 | .block _ c=>lC c
 |_=>false
def Om(P:Program)(f:Nat):Bool:=match P.funcs[f]? with
 |some fn=>match fn.body with
  |some c=>lC c
  |none=>false
 |none=>false
def Uo(fr:p8)(fj:Bool):Code→Bool
 | .region _ ops _=>ops.toList.all fun o=> !(sX fr o.op&&o.guard.isSome)
 | .skip| .exit _| .ret=>true
 |c=>lC c&& !fj
section
variable (C : Cx) (ia : InA) (cf n : Nat)
def GF(ya:Ya)(ops:Array Oper):List Oper→Sy→List Sy
 | [],Y=> [Y]
 |o::r,Y=>
  let go:=fun(Y0:Sy)=>(qj (C.cfg cf) n o Y0.gc.atom.1).map fun q=>match q.1 with
   | .fn f=>if Om C.P f&& !C.fj f then ia ya f q.2 o.dst n Y0.gc.atom.1 else Dj Y0.gc.atom.1.nv (ia ya f q.2 o.dst n Y0.gc.atom.1)
   | .yld nm=>if ya.S.contains nm then ya.run ya.S nm 0 q.2 o.dst n Y0.gc.atom.1 else []
  match(if sX (C.cfg cf) o.op&&o.dst.all (· <n)then(match guardOf Y (mr n ops o)with
   |some (.go true)=>(go Y).map fun l=>l.flatMap (GF ya ops r)
   |some (.go false)=>some (GF ya ops r (Y.kX o.dst (.x pZ)))
   |some (.ask e)=>(go (Y.qY e)).map fun l=>l.flatMap (GF ya ops r)++GF ya ops r ((Y.mQ e).kX o.dst (.x pZ))
   |none=>none)else none)with
  |some l=>l
  |none=>match mR (CG C.P (C.cfg cf) n ops o) Y with
   |some q=>GF ya ops r q.1
   |none=> []
def oh:Ya→Bool→Nat→List Nat→Code→Sy→List (VE×Sy)
 |_,_,_,_, .skip,Y=> [(.normal,Y)]
 |ya,_,_,ks, .region id ops draw,Y=>match(if draw=false∧Ew (C.cfg cf) ops then none else gI C.P (C.cfg cf) n ops draw (Y.yz (C.un cf (2000000+id))))with
  |some q=> [(.normal,(settle ks n q.1).1)]
  |none=>if draw then []else(GF C ia cf n ya ops ops.toList (Y.yz (C.un cf (2000000+id)))).map fun Y'=>(.normal,(settle ks n Y').1)
 |ya,rd,_,ks, .seq a b,Y=>
  let l:=oh ya rd 0 (uniq ks (cE b)) a Y
  others l++(if lC a&& !C.fj cf then jy l else Dj Y.nv (jy l)).flatMap fun Y'=>oh ya rd 0 ks b Y'
 |ya,rd,_,ks, .cond c a b,Y=>match(eu n c).map (bL Y)with
  |some (.x (.q (.v (.bool true))))=>oh ya rd 0 ks a Y
  |some (.x (.q (.v (.bool false))))=>oh ya rd 0 ks b Y
  |some (.x _)=>oh ya rd 0 ks a Y++oh ya rd 0 ks b Y
  |_=> []
 |ya,rd,_,ks, .block id c,Y=>(oh ya rd (id+1) ks c (Y.VA (C.un cf (id+1)))).map fun p=>match p.1 with
  | .exit i=>if i=id then(.normal,p.2)else(.exit i,p.2)
  |e=>(e,p.2)
 |ya,rd,bi,ks, .loop c,Y=>
  if 0<C.un cf bi∧C.un cf bi<1000000 then FF (fun Y=>oh ya rd 0 (uniq ks (cE c)) c Y) (C.un cf bi) Y else
  others (NT (fun h=>oh ya rd 0 (uniq ks (cE c)) c ((h.hd Y.nx).mk' Y.nv (hZ (h.hd Y.nx).row) Y.d (Y.nx+(h.hd Y.nx).row.length))) Y c).2
 |ya,rd,_,_, .rangeFunc g ps assign body,Y=>
  if rd=false∧ya.S.contains Y.nx=false∧ps.all (· <n)=true then match Ft (C.it cf) n g (Y.jQ Y.nx)with
   |some q=>(T6 (Om C.P q.1.1&& !C.fj q.1.1) Y.nv (ia (Ya.VD n (fun ya ks Y=>oh ya true 0 ks assign Y) (fun ya ks Y=>oh ya true 0 ks body Y) ya Y.nx ps body) q.1.1 (.yl Y.nx::q.1.2) none n (Y.jQ Y.nx))).flatMap fun(Y2:Sy)=>match find Y2.h Y.nx with
    |some (.raw .ready)=> [(.normal,Y2.kill Y.nx)]
    |some (.raw (.done e))=> [(e,Y2.kill Y.nx)]
    |_=> []
   |none=> []
  else []
 |_,_,_,_, .exit id,Y=> [(.exit id,Y)]
 |_,_,_,_, .ret,Y=> [(.ret,Y)]
 |_,_,_,_,_,_=> []
end
section
variable (C : Cx) (inl : KC) (cf n : Nat)
def fS(yl:Yh)(id:Nat)(ops:Array Oper):List Oper→Sy→(Sy→FT)→FT
 | [],Y,κ=>κ Y
 |o::r,Y,κ=>match(if sX (C.cfg cf) o.op&&o.dst.all (· <n)then(match guardOf Y (mr n ops o)with
   |some (.go true)=>(qj (C.cfg cf) n o Y.gc.atom.1).map fun q=>oG Y.gc.atom.2 (Lw yl inl q.1 q.2 o.dst n Y.gc.atom.1 fun Y'=>fS yl id ops r Y' κ)
   |some (.go false)=>some (fS yl id ops r (Y.kX o.dst (.x pZ)) κ)
   |some (.ask e)=>(qj (C.cfg cf) n o (Y.qY e).gc.atom.1).map fun q=> .ite e (oG (Y.qY e).gc.atom.2 (Lw yl inl q.1 q.2 o.dst n (Y.qY e).gc.atom.1 fun Y'=>fS yl id ops r Y' κ)) (fS yl id ops r ((Y.mQ e).kX o.dst (.x pZ)) κ)
   |none=>none)else none)with
  |some t=>t
  |none=>match mR (CG C.P (C.cfg cf) n ops o) Y with
   |some q=>BD q.2 (fS yl id ops r q.1 κ)
   |none=> .bad id (some Y)
def dg:Yh→Bool→Nat→List Nat→Code→Sy→(VE→Sy→FT)→FT
 |_,_,_,_, .skip,Y,κ=>κ .normal Y
 |yl,_,_,ks, .region id ops draw,Y,κ=>match(if draw=false∧Ew (C.cfg cf) ops then none else gI C.P (C.cfg cf) n ops draw (Y.yz (C.un cf (2000000+id))))with
  |some q=>BD (prune (settle ks n q.1).2 q.2) (oG (settle ks n q.1).2 (κ .normal (settle ks n q.1).1))
  |none=>if draw then .bad id (some Y)else fS C inl cf n yl id ops ops.toList (Y.yz (C.un cf (2000000+id))) fun Y'=>oG (settle ks n Y').2 (κ .normal (settle ks n Y').1)
 |yl,rd,_,ks, .seq a b,Y,κ=>match(if Uo (C.cfg cf) (C.fj cf) a then none else C.EY (C6 1 cf (ND a) (ND b) Y) Y Y.nv fun _=>ui Y.nv (jy (oh C C.ia cf n yl.a rd 0 (uniq ks (cE b)) a Y)))with
  |some hd=> .jp (dg yl rd 0 ks b (hd.1.mk' Y.nv (hZ hd.1.row) Y.d hd.2) κ) (dg yl rd 0 (uniq ks (cE b)) a {Y with d:=Y.d+1} fun e Y'=>match e with
   | .normal=>match hd.1.mt Y' with
    |some p=> .next (Y'.d-(Y.d+1)) p.1
    |none=> .bad (100000+1)
   |e=>κ e Y')
  |none=>dg yl rd 0 (uniq ks (cE b)) a Y fun e Y'=>match e with
   | .normal=>dg yl rd 0 ks b Y' κ
   |e=>κ e Y'
 |yl,rd,_,ks, .cond c a b,Y,κ=>match(eu n c).map (bL Y)with
  |some (.x (.q (.v (.bool true))))=>dg yl rd 0 ks a Y κ
  |some (.x (.q (.v (.bool false))))=>dg yl rd 0 ks b Y κ
  |some (.x e)=> .ite e (dg yl rd 0 ks a Y κ) (dg yl rd 0 ks b Y κ)
  |_=> .bad (100000+2)
 |yl,rd,_,ks, .block id c,Y,κ=>dg yl rd (id+1) ks c (Y.VA (C.un cf (id+1))) fun e Y'=>match e with
  | .exit i=>if i=id then κ .normal Y' else κ (.exit i) Y'
  |e=>κ e Y'
 |yl,rd,bi,ks, .loop c,Y,κ=>
  if 0<C.un cf bi∧C.un cf bi<1000000 then zS (fun Y κ=>dg yl rd 0 (uniq ks (cE c)) c Y κ) (C.un cf bi) Y κ else
  let al:=uP Y.s;let hd:=C.NU (C6 2 cf bi (ND c) Y) Y fun _=>(NT (fun h=>oh C C.ia cf n yl.a rd 0 (uniq ks (cE c)) c ((h.hd Y.nx).mk' Y.nv (hZ (h.hd Y.nx).row) Y.d (Y.nx+(h.hd Y.nx).row.length))) Y c).1.hd Y.nx
  if hd.ok Y.nv then match hd.mt Y with
   |some q=> .loop q.1 (dg yl rd 0 (uniq ks (cE c)) c (hd.mk' Y.nv q.1.length (Y.d+1) (Y.nx+hd.row.length)) fun e Y'=>match e with
    | .normal=>match hd.mt (Y'.align al)with
     |some p=> .next (Y'.d-(Y.d+1)) p.1
     |none=> .bad (100000+3)
    |e=>κ e Y')
   |none=> .bad (100000+4)
  else .bad (100000+5)
 |yl,rd,_,_, .rangeFunc g ps assign body,Y,κ=>
  if rd=false∧yl.S.contains Y.nx=false∧ps.all (· <n)=true then match Ft (C.it cf) n g (Y.jQ Y.nx)with
   |some q=>BD q.2 (inl ⟨Y.nx::yl.S,fun S nm off vs x n0 Z κ'=>if nm=Y.nx then(match find Z.h nm with
     |some (.raw .ready)=>if vs.length=ps.size then
       dg (yl.under S (n+off)) true 0 (cE body) assign (Z.round n off ps.toList vs n0) fun e Z1=>match e,find Z1.h nm with
        | .normal,some (.raw .ready)=>dg (yl.under S (n+off)) true 0 [] body (Z1.raw nm .busy) fun e2 Z2=>match find Z2.h nm with
         |some (.raw .busy)=>κ' (((Z2.raw nm (JQ e2)).leave n).kX x (.x (.q (bv (decide (e2= .normal))))))
         |_=> .bad 100042
        |_,_=> .bad 100043
      else .bad 100044
     |_=> .bad 100045)else yl.run S nm off vs x n0 Z κ',Ya.VD n (fun ya ks Y=>oh C C.ia cf n ya true 0 ks assign Y) (fun ya ks Y=>oh C C.ia cf n ya true 0 ks body Y) yl.a Y.nx ps body⟩ q.1.1 (.yl Y.nx::q.1.2) none n (Y.jQ Y.nx) fun Y2=>match find Y2.h Y.nx with
    |some (.raw .ready)=>κ .normal (Y2.kill Y.nx)
    |some (.raw (.done e))=>κ e (Y2.kill Y.nx)
    |_=> .bad 100046)
   |none=> .bad 100041
  else .bad 100040
 |_,_,_,_, .exit id,Y,κ=>κ (.exit id) Y
 |_,_,_,_, .ret,Y,κ=>κ .ret Y
 |_,_,_,_,_,_,_=> .bad (100000+6)
end
section
variable (C : Cx)
def Tp(inl:KC)(yl:Yh)(f:Nat)(vs:List SV)(x:Option Nat)(n:Nat)(Y:Sy)(κ:Sy→FT):FT:=
 match C.P.funcs[f]? with
 |some fn=>match fn.body,fn.results.toList.mapM (vT C.P fn.ntmps)with
  | some c, some rs => if (fn.name == "runtime.NumGoroutine") = false ∧ vs.length ≤ fn.ntmps then
    let ks:=uk fn
    let fin:(Sy→FT)→VE→Sy→FT:=fun κ e Y2=>match e with
     | .exit _=> .bad 100032
     |_=>match BT rs Y2 with
      |some v=>κ ((Y2.leave fn.ntmps).kX x v)
      |none=> .bad 100033
    match(if lC c&& !C.fj f then none else C.EY (C6 3 f 0 0 Y) Y Y.nv fun _=>ui Y.nv (C.ia yl.a f vs x n Y))with
    |some hd=> .jp (κ (hd.1.mk' Y.nv (hZ hd.1.row) Y.d hd.2)) (dg C inl f fn.ntmps (yl.push fn.ntmps) false 0 ks c {Y.enter fn.ntmps n vs with d:=Y.d+1} (fin fun Y'=>match hd.1.mt Y' with
     |some p=> .next (Y'.d-(Y.d+1)) p.1
     |none=> .bad 100034))
    |none=>dg C inl f fn.ntmps (yl.push fn.ntmps) false 0 ks c (Y.enter fn.ntmps n vs) (fin κ)
   else .bad 100035
  |_,_=> .bad 100036
 |none=> .bad 100037
def wV:Nat→KC
 |0=>fun _ _ _ _ _ _ _=> .bad 100030
 |k+1=>Tp C (wV k)
end
def VS:Yh:=⟨[],fun _ _ _ _ _ _ _ _=> .bad 100048,⟨[],fun _ _ _ _ _ _ _=> []⟩⟩
def lD:X→Bool
 | .mk .own _=>true
 |_=>false
def N6:SV→Bool
 | .gl .. | .gs .. | .gc .. | .gt .. =>true
 |_=>false
def GH(v:SV)(e:X):Option X:=if N6 v then some (.mk .own [e])else if lD e then none else some e
def oO(Y:Sy):fC→Option X
 | .t i=>(bM Y.h (bL Y (.t i))).bind (GH (bL Y (.t i)))
 | .cell i n g=>(vu Y.h (.load n g) [bL Y (.t i)]).bind fun q=>if q.2.isEmpty then(bM Y.h q.1).bind (GH q.1)else none
def MK(rs:List fC)(Y:Sy):Option X:=
 match rs with
 | [r]=>oO Y r
 |rs=>(rs.mapM (oO Y)).map (.mk .tup)
def kR(rs:List fC)(e:VE)(Y:Sy):FT:=
 match e with
 | .exit _=> .bad 100021
 |_=>match MK rs Y with
  |some x=> .ret x
  |none=> .bad 100022
def DQ(k:Nat):Sy:={s:=(List.range k).map fun i=>(i, .x (.t i)),h:= [],nv:=k,d:=0,nx:=1000000,pd:=none}
def mj(C:Cx)(f:Nat):Option (Nat×FT):=
 match C.P.funcs[f]? with
 |some fn=>match fn.body,fn.results.toList.mapM (vT C.P fn.ntmps)with
  | some c, some rs => if (fn.name == "runtime.NumGoroutine") = false ∧ fn.params.size + fn.nfree ≤ fn.ntmps then some (fn.params.size + fn.nfree, dg { C with rt := f } (wV { C with rt := f } 8) f fn.ntmps VS false 0 (uk fn) c (DQ (fn.params.size + fn.nfree)) (kR rs)) else none
  |_,_=>none
 |none=>none
end
section
structure Cs where
 rs:List Nat
 av:List (X×Nat)
 n:Nat
 ar:List Nat
def EV:XK→Bool
 | .call .. | .ccall _| .ecall .. =>true
 |_=>false
def EI:X:= .mk (.isc 0 0) []
def Bw:List (X×Nat)→X→Option Nat
 | [],_=>none
 |(e,j)::r,x=>if dH e x then some j else Bw r x
def LL:X→Bool
 | .mk k _=>EV k
 |_=>false
def UG(s:Cs)(y:X):X:=if LL y then(match Bw s.av y with
  |some j=> .t j
  |none=>y)else y
mutual
def oU(s:Cs):X→X
 | .t i=>match s.rs[i]? with
  |some j=> .t j
  |none=>EI
 | .q d=> .q d
 | .mk k xs=>UG s (.mk k (D' s xs))
 | .ite c a b=> .ite (oU s c) (oU s a) (oU s b)
def D'(s:Cs):List X→List X
 | []=> []
 |x::r=>oU s x::D' s r
end
def Cs.name(s:Cs)(y:X):Cs:={s with av:=(y,s.n)::s.av,n:=s.n+1}
mutual
def lZ(s:Cs):X→(List X×Cs)×X
 | .t i=>(([],s),oU s (.t i))
 | .q d=>(([],s), .q d)
 | .mk k xs=>match ic s xs with
  |((p,s1),ys)=>if EV k then(match Bw s1.av (.mk k ys)with
   |some j=>((p,s1), .t j)
   |none=>((p++ [.mk k ys],s1.name (.mk k ys)), .t s1.n))else((p,s1), .mk k ys)
 | .ite c a b=>match lZ s c with
  |((p,s1),c')=>((p,s1), .ite c' (oU s1 a) (oU s1 b))
def ic(s:Cs):List X→(List X×Cs)×List X
 | []=>(([],s),[])
 |x::r=>match lZ s x with
  |((p,s1),y)=>match ic s1 r with
   |((q,s2),ys)=>((p++q,s2),y::ys)
end
def p7:List X→FT→FT
 | [],k=>k
 |x::r,k=> .lets [x] (p7 r k)
def Uc:X→Bool
 | .t _| .q _=>false
 |_=>true
def CC(j:Nat):FT→Option Nat
 | .fM _ k| .lets _ k=>CC j k
 | .ite _ a b=>(CC j a).or (CC j b)
 | .loop _ b=>CC (j+1) b
 | .next i xs=>if i=j then some xs.length else none
 | .jp k b=>(CC (j+1) b).or (CC j k)
 |_=>none
def Cs.vars(s:Cs)(m:Nat):Cs:={s with rs:=s.rs++List.range' s.n m,n:=s.n+m}
def cse:Cs→FT→FT
 |s, .ret x=>match lZ s x with
  |((p,_),y)=>p7 p (.ret y)
 |s, .fM xs k=>match ic s xs with
  |((p,s1),ys)=>p7 p (BD (ys.filter Uc) (cse s1 k))
 |s, .lets xs k=>match ic s xs with
  |((p,s1),ys)=>p7 p (letsY s1 ys fun s2=>cse s2 k)
 |s, .ite c a b=>match lZ s c with
  |((p,s1),c')=>p7 p (.ite c' (cse s1 a) (cse s1 b))
 |s, .loop xs b=>match ic s xs with
  |((p,s1),ys)=>p7 p (.loop ys (cse {s1.vars ys.length with ar:=ys.length::s1.ar} b))
 |s, .next j xs=>match ic s xs with
  |((p,s1),ys)=>if s1.ar[j]?=some ys.length then p7 p (.next j ys)else .bad 100060
 |s, .jp k b=>match CC 0 b with
  |some m=> .jp (cse (s.vars m) k) (cse {s with ar:=m::s.ar} b)
  |none=> .jp (.bad 100062) (cse {s with ar:=0::s.ar} b)
 |_, .st _=> .bad 100061
 |_, .bad w _=> .bad w
 where
 letsY (s:Cs):List X→(Cs→FT)→FT
  | [],κ=>κ s
  | .t j::r,κ=>letsY {s with rs:=s.rs++ [j]} r κ
  |y::r,κ=> .lets [y] (letsY {s with rs:=s.rs++ [s.n],n:=s.n+1} r κ)
def K_(n:Nat):Cs:=⟨List.range n,[],n,[]⟩
def ab9(q:Nat×FT):Nat×FT:=(q.1,cse (K_ q.1) q.2)
end
section
def fC.val(s:St):fC→Option D
 | .t i=>some (s.s i)
 | .cell i n g=>iU s.m n g [s.s i]
def GP(rs:List fC)(s:St):Option D:=
 match rs with
 | [r]=>r.val s
 |rs=>(rs.mapM (fC.val s)).map .tup
section
variable {P : Program} {w0 w : World} {pr : aV} {A : iI} {n : Nat} {tk : ai} {cs : Array Value} {s : St}
def uZ(cs:Array Value):ResultVar→Sem Value
 | .tmp t=>pure (cs.getD t undef)
 | .cell a t=>do loadVar t (←asAddr (cs.getD a undef))
theorem ML(R:Rel P w0 pr A n w cs s tk){rv:ResultVar}{r:fC}{d:D}(hr:vT P n rv=some r)(hd:r.val s=some d):
  ∃v,(uZ cs rv).run P w= .ok v w∧aj w pr tk v d:=by
 cases rv with
 |tmp t=>
  simp only[vT]at hr;split at hr<;>cases hr;have ht:t<n:=by assumption
  cases hd;exact⟨_,rfl,R.slot t ht⟩
 |cell a t=>
  simp only[vT]at hr;split at hr
  ·have ha:a<n:=by assumption
   obtain⟨g,hg,hr⟩:=Bz.1 hr;split at hr<;>cases hr;have hc:(P.info? t).isSome=true∧(g=true∨P.cellsOf t=1):=by assumption
   have hs:=R.slot a ha;obtain⟨u,h1,h2⟩:=uy R.mem hg hc.1 hc.2 hs hd;refine⟨u, ?_,h2⟩;simp only[uZ];generalize cs.getD a undef=c at h1;cases c<;>simp[Instr.loadAt,Instr.sureAddr]at h1;rename_i p;cases p<;>simp at h1;simpa[asAddr]using h1
  ·cases hr
theorem DC(fn:Func)(cs:Array Value):results fn cs=(do let vs←fn.results.toList.mapM (uZ cs);pure (match vs with| [v]=>v|vs=> .tuple vs.toArray):Sem Value):=by
 unfold results;rw[Array.mapM_eq_mapM_toList];simp only[map_eq_pure_bind,bind_assoc];congr 1;funext vs
 match vs with
 | []=>simp
 | [v]=>simp
 |_::_::_=>simp
theorem jS(R:Rel P w0 pr A n w cs s tk){fn:Func}{rs:List fC}{d:D}
  (hr:fn.results.toList.mapM (vT P n)=some rs) (hd:GP rs s=some d): ∃v,(results fn cs).run P w= .ok v w∧aj w pr tk v d:=by
 have many: ∀(l:List ResultVar) (rs:List fC) (ds:List D),l.mapM (vT P n)=some rs→rs.mapM (fC.val s)=some ds→
   ∃vs:List Value,(l.mapM (uZ cs)).run P w= .ok vs w∧aX w pr tk vs ds:=by
  intro l
  induction l with
  |nil=>intro rs ds h1 h2;simp at h1;subst h1;simp at h2;subst h2;exact⟨[],rfl,trivial⟩
  |cons rv l ih=>
   intro rs ds h1 h2;simp only[List.mapM_cons,Option.bind_eq_bind,Bz,Option.pure_def,Jz]at h1;obtain⟨r,hr,rs',hrs,rfl⟩:=h1;simp only[List.mapM_cons,Option.bind_eq_bind,Bz,Option.pure_def,Jz]at h2;obtain⟨d,hd,ds',hds,rfl⟩:=h2;obtain⟨v,g1,g2⟩:=ML R hr hd;obtain⟨vs,g3,g4⟩:=ih rs' ds' hrs hds;refine⟨v::vs, ?_,g2,g4⟩;rw[List.mapM_cons,Sem.run_bind,g1];simp only[Result.andThen_ok,Sem.run_bind,g3,Sem.run_pure]
 have aeS: ∀(vs:List Value) (ds:List D),aX w pr tk vs ds→aj w pr tk (.tuple vs.toArray) (.tup ds):=fun vs ds h=>
  .tup (by simpa using h.length) fun i c x hc hx=>kU h i c x (by simpa using hc) hx
 rw[DC]
 have gen:(rs.mapM (fC.val s)).map D.tup=some d→rs.length≠1→ ∃v,((do let vs←fn.results.toList.mapM (uZ cs);pure (match vs with| [v]=>v|vs=> .tuple vs.toArray):Sem Value)).run P w= .ok v w∧aj w pr tk v d:=by
  intro hd hl;obtain⟨ds,h1,rfl⟩:=Mz.1 hd;obtain⟨vs,g1,g2⟩:=many _ rs ds hr h1
  have hlen:vs.length≠1:=by
   rw[g2.length]
   have: ∀(rs:List fC) (ds:List D),rs.mapM (fC.val s)=some ds→ds.length=rs.length:=by
    intro rs
    induction rs with
    |nil=>intro ds h;simp at h;subst h;rfl
    |cons r rs ih=>
     intro ds h;simp only[List.mapM_cons,Option.bind_eq_bind,Bz,Option.pure_def]at h
     grind
   grind
  rw[Sem.run_bind,g1];simp only[Result.andThen_ok,Sem.run_pure]
  grind
 match rs,hr,hd,gen with
 | [],hr,hd,gen=>exact gen hd (by simp)
 |_::_::_,hr,hd,gen=>exact gen hd (by simp)
 | [r],hr,hd,_=>
  simp only[GP]at hd;obtain⟨vs,g1,g2⟩:=many _ [r] [d] hr (by simp[hd])
  match vs,g2 with
  | [v],g2=>exact⟨v,by rw[Sem.run_bind,g1];rfl,g2.1⟩
variable {m : Mem}
theorem lR(M:dQ P w pr tk m){pr':aV}(hpr: ∀b o,pr b o→pr' b o)(hbl: ∀b,b8 tk m b→ ∀o,pr' b o): ∀(n:Nat) (v:Value) (d d':D),aq m n d=some d'→aj w pr tk v d→aj w pr' aA v d'
 |0,_,_,_,h,_=>by simp[aq]at h
 |n+1,v,d,d',h,hr=>by
  have K:dz w w pr pr' tk tk:=⟨fun b o h=>⟨rfl,hpr b o h⟩,fun _ _ h=>h⟩
  have step: ∀{v:Value} {x x':D},aj w pr tk v x→(x.aW=true∧x'=x∨aq m n x=some x')→aj w pr' aA v x':=fun{v x x'} hv h=>by
   rcases h with⟨h1,rfl⟩|h1
   ·exact cL hv h1
   ·exact lR M hpr hbl n v x x' h1 hv
  cases d<;>simp only[aq]at h<;>try (cases h;done)
  case v x=>cases h;cases hr;exact .v ‹_›
  case nil=>cases h;cases hr;exact .nil'
  case mt=>cases h;exact aY ((sY hr).keeps K) rfl
  case list es=>cases h;exact aY (hr.keeps K) rfl
  case lptr xs=>cases h;exact aY (hr.keeps K) rfl
  case nilmap=>cases h;exact aY (hr.keeps K) rfl
  case fm es=>cases h;exact aY (hr.keeps K) rfl
  case mp t=>
   split at h
   ·rename_i es hm;split at h<;>cases h;rename_i bQ;exact Oq M hm bQ hr K fun b _ _ hbb=>hbl b hbb 0
   ·cases h
  case sl t size off len lim=>
   rw[Bz]at h;obtain⟨es,he,h⟩:=h;obtain⟨es',hv,rfl⟩:=Mz.1 h;obtain⟨hl,hg⟩:=lS hv;have inv: ∀{v:Value},aj w pr tk v (.sl t size off len lim)→ ∃b1 c1 o1 k1,tk t=some (b1,c1)∧v= .slice (some ⟨b1,o1,none⟩) len k1:=fun{v} h=>by cases h with|sl ht=>exact⟨_,_,_,_,ht,rfl⟩
   have hm0: ∃q,m t=some q:=by
    simp only[D.elems]at he
    grind
   rcases eQ M hr he with⟨hv0,rfl⟩|⟨b,o,cap,sz,us,rfl,h1,h2,h3,h4⟩
   ·have:es'= []:=List.eq_nil_of_length_eq_zero (by simpa using hl);subst this;rcases hv0 with rfl|⟨a,cap,rfl⟩
    ·grind
    ·exact .emp
   ·have kM:es'.length≤cap:=by omega
    have:=aj.list (w:=w) (pr:=pr') (tk:=aA) (b:=b) (off:=o) (cap:=cap) (es:=es') (size:=sz) us (fun c' hc'=>by
      obtain⟨i,hi,rfl⟩:=List.getElem_of_mem hc';obtain⟨c,hc,hlc,_⟩:=hg i _ (Ez hi)
      rw[hlc,h2 c (Lz hc)]) kM (fun j hj=>by
       rw[hl]at hj
       exact⟨(h3 j hj).1,(by
        obtain⟨b1,c1,o1,k1,g1,g2⟩:=inv hr;obtain⟨q,hq⟩:=hm0;have e1:b=b1:=by injection g2 with g3;injection g3 with g4;injection g4
        rw[e1];exact hbl _ ⟨t,q,_,hq,g1⟩ _),(h3 j hj).2⟩) (fun i c' hc' j x' hx'=>by
        obtain⟨c,hc,_,hg2⟩:=hg i c' hc';obtain⟨x,hx,hfx⟩:=hg2 j x' hx'
        exact step (h4 i c hc j x hx) hfx)
    grind
  case ptr t off=>
   split at h
   ·rename_i xs hm;split at h
    ·obtain⟨c',hv,rfl⟩:=Mz.1 h;obtain⟨hl,hg⟩:=bZ hv;cases hr with
     |ptr ht=>
      obtain⟨us,h1,h2⟩:=jl M hm ht off;refine .lptr us (fun j hj=> ?_) fun j x' hx'=> ?_
      ·rw[hl]at hj;exact⟨(h1 j hj).1,hbl _ ⟨t,_,_,hm,ht⟩ _,(h1 j hj).2⟩
      ·grind
    ·cases h
   ·cases h
  case rptr t size i j=>
   split at h
   ·rename_i g e es hm;rw[Bz]at h;obtain⟨c,hc,h⟩:=h;split at h
    ·rename_i bc;obtain⟨rfl,_⟩:=bc;obtain⟨c',hv,rfl⟩:=Mz.1 h;obtain⟨hl,hg⟩:=bZ hv;cases hr with
     |rptr ht=>
      obtain⟨us,h1,h2⟩:=mg M hm ht hc j;refine .lptr us (fun k hk=> ?_) fun k x' hx'=> ?_
      ·rw[hl]at hk;exact⟨(h1 k hk).1,hbl _ ⟨t,_,_,hm,ht⟩ _,(h1 k hk).2⟩
      ·obtain⟨x,hx,hfx⟩:=hg k x' hx';exact step (h2 k x hx) hfx
    ·cases h
   ·cases h
  case clo f xs=>
   obtain⟨c',hv,rfl⟩:=Mz.1 h;obtain⟨hl,hg⟩:=bZ hv;cases hr with
   |clo hf h1 h3=>
    refine .clo hf (by rw[hl];exact h1) fun i c x' hc hx'=> ?_;obtain⟨x,hx,hfx⟩:=hg i x' hx';exact step (h3 i c x hc hx) hfx
   |bclo h1 h3=>
    refine .bclo (by rw[hl];exact h1) fun i c x' hc hx'=> ?_;obtain⟨x,hx,hfx⟩:=hg i x' hx';exact step (h3 i c x hc hx) hfx
theorem lP(M:dQ P w pr tk m){pr':aV}(hpr: ∀b o,pr b o→pr' b o)(hbl: ∀b,b8 tk m b→ ∀o,pr' b o){v:Value}{d d':D}(h:bo m d=some d')(hr:aj w pr tk v d):aj w pr' aA v d':=by
 cases d
 case agg xs=>
  obtain⟨c',hv,rfl⟩:=Mz.1 h;obtain⟨hl,hg⟩:=bZ hv;cases hr with
  |agg h1 h2 h3=>
   refine .agg (by rw[hl];exact h1) h2 fun i c x' hc hx'=> ?_;obtain⟨x,hx,hfx⟩:=hg i x' hx';rcases hfx with⟨hf,rfl⟩|hf
   ·exact cL (h3 i c _ hc hx) hf
   ·exact lR M hpr hbl 6 c x x' hf (h3 i c x hc hx)
 all_goals exact lR M hpr hbl 6 v _ d' (by simpa only[bo]using h) hr
end
section
variable {P : Program} {w : World} {pr : aV} {tk : ai} {m : Mem}
theorem Na {n : Nat} {x d : D} (h : aq m n x = some d) (hd : d.aW = true) : x = d := by
  cases n with
  | zero => cases h
  | succ n =>
    cases x <;> simp only [aq] at h <;> first
      | (cases h; done)
      | (cases h; first | rfl | (cases hd; done))
      | (exfalso; revert h; repeat' split
         all_goals intro h
         all_goals first
           | (cases h; done)
           | (cases h; cases hd; done)
           | (obtain ⟨_, _, rfl⟩ := Mz.1 h; cases hd; done)
           | (obtain ⟨_, _, h⟩ := Bz.1 h; first | (obtain ⟨_, _, rfl⟩ := Mz.1 h; cases hd; done) | (split at h <;> first | (cases h; done) | (obtain ⟨_, _, rfl⟩ := Mz.1 h; cases hd; done))))
theorem MA(M:dQ P w pr tk m){v:Value}{d0:D}{es:List (List D)}(ho:(∃t size off len lim,d0= .sl t size off len lim)∨d0= .nil∨d0= .list [])(h:bo m d0=some (.list es))(hes:(es.all fun c=>c.all D.aW)=true)(hr:aj w pr tk v d0):
  aj w (fun b _=>b8 tk m b) aA v (.list es):=by
 rcases ho with⟨t,size,off,len,lim,rfl⟩|rfl|rfl
 ·replace h:((D.sl t size off len lim).elems m).bind (fun es=>(cQ (aq m 5) es).map D.list)=some (.list es):=h
  rw[Bz]at h;obtain⟨es0,he,h⟩:=h;obtain⟨es',hv,h⟩:=Mz.1 h;cases h;obtain⟨hl,hg⟩:=lS hv;have inv: ∀{v:Value},aj w pr tk v (.sl t size off len lim)→ ∃b1 c1 o1 k1,tk t=some (b1,c1)∧v= .slice (some ⟨b1,o1,none⟩) len k1:=fun{v} h=>by cases h with|sl ht=>exact⟨_,_,_,_,ht,rfl⟩
  have hm0: ∃q,m t=some q:=by
   simp only[D.elems]at he;cases hmt:m t with
   |none=>rw[hmt]at he;cases he
   |some q=>exact⟨q,rfl⟩
  rcases eQ M hr he with⟨hv0,rfl⟩|⟨b,o,cap,sz,us,rfl,h1,h2,h3,h4⟩
  ·have:es= []:=List.eq_nil_of_length_eq_zero (by simpa using hl);subst this;rcases hv0 with rfl|⟨a,cap,rfl⟩
   ·exact .nil'
   ·exact .emp
  ·have kM:es.length≤cap:=by omega
   have:=aj.list (w:=w) (pr:=fun b _=>b8 tk m b) (tk:=aA) (b:=b) (off:=o) (cap:=cap) (es:=es) (size:=sz) us (fun c' hc'=>by
     obtain⟨i,hi,rfl⟩:=List.getElem_of_mem hc';obtain⟨c,hc,hlc,_⟩:=hg i _ (Ez hi)
     rw[hlc,h2 c (Lz hc)]) kM (fun j hj=>by
      rw[hl]at hj
      exact⟨(h3 j hj).1,(by
       obtain⟨b1,c1,o1,k1,g1,g2⟩:=inv hr;obtain⟨q,hq⟩:=hm0;have e1:b=b1:=by injection g2 with g3;injection g3 with g4;injection g4
       rw[e1];exact⟨t,q,_,hq,g1⟩),(h3 j hj).2⟩) (fun i c' hc' j x' hx'=>by
       obtain⟨c,hc,_,hg2⟩:=hg i c' hc';obtain⟨x,hx,hfx⟩:=hg2 j x' hx';have hf:x'.aW=true:=Tz.1 (Tz.1 hes c' (Lz hc')) x' (Lz hx');rcases hfx with⟨_,rfl⟩|hfx
       ·exact cL (h4 i c hc j _ hx) hf
       ·obtain rfl:=Na hfx hf
        exact cL (h4 i c hc j _ hx) hf)
   rw[hl]at this;exact this
 ·cases h;cases hr;exact .nil'
 ·cases h;cases hr with
  |nil'=>exact .nil'
  |emp=>exact .emp
  |list us _ kM _ _=>exact .list (size:=0) us (by simp) kM (fun j hj=>by simp at hj) (fun i e h=>by simp at h)
end
def xQ(m:Mem):D→Option D
 | .tup xs=>(xs.mapM (bo m)).map .tup
 |d=>bo m d
section
variable {Ω : bO} {G : FP} {E : List D} {ι γ : Nat → Tok} {Y : Sy} {J : St}
def VV(d:D):Prop:=(∃t size off len lim,d= .sl t size off len lim)∨d= .nil∨d= .list []
theorem VR.aes{h:List (Nat×SO)}{v:SV}{d:D}(H:VR G E ι h v d)(hv:N6 v=true):VV d:=by
 cases H<;>first|(cases hv;done)|exact .inr (.inl rfl)|exact .inr (.inr rfl)|exact .inl ⟨_,_,_,_,_,rfl⟩
def tq(x:X)(d0 d:D):Prop:=iy x d=true→(d.flat=true∨d= .list [])∨VV d0∧ ∃es,d= .list es∧(es.all fun c=>c.all D.aW)=true
theorem Ff{v:SV}{e x:X}{d0 d:D}(H:VR G E ι Y.h v d0)(h:GH v e=some x):tq x d0 d:=by
 intro hn
 have flat:lD x=false→iy x d=true→d.flat=true∨d= .list []:=fun h1 h2=>by
  unfold iy at h2;split at h2
  ·grind
  ·cases h1
  ·exact .inl h2
  ·left;cases d<;>first|exact h2|(simp[D.aW]at h2;done)
 unfold GH at h;split at h
 ·rename_i hv;cases h;cases d with
  |list es=>
   cases es with
   |nil=>exact .inl (.inr rfl)
   |cons a r=>exact .inr ⟨H.aes hv,_,rfl,hn⟩
  |agg xs=>exact .inl (.inl hn)
  |_=>first|exact .inl (.inl hn)|cases hn
 ·grind
theorem Fe{v:SV}{e x:X}(h:GH v e=some x){d:D}(he:X.ev G E x=some d):X.ev G E e=some d:=by
 unfold GH at h;split at h
 ·cases h;obtain⟨ds,h1,h2⟩:=aP he;simp only[X.ba,Bz,Mz]at h1;obtain⟨d1,g1,_,k1,rfl⟩:=h1;cases k1;cases h2;exact g1
 ·grind
theorem pV(M:Mt Ω G E ι γ Y J){r:fC}{x:X}{d:D}(h:oO Y r=some x)(he:X.ev G E x=some d): ∃d0,r.val J=some d0∧bo J.m d0=some d∧tq x d0 d:=by
 cases r with
 |t i=>
  simp only[oO,Bz]at h;obtain⟨e,h1,h2⟩:=h;exact⟨_,rfl,lT M (az M (.t i)) h1 (Fe h2 he),Ff (az M (.t i)) h2⟩
 |cell i n g=>
  simp only[oO,Bz]at h;obtain⟨⟨v,O⟩,h1,h2⟩:=h;split at h2
  ·rename_i ho;have hO:O= []:=List.isEmpty_iff.1 ho;subst hO;obtain⟨d0,h3,h4⟩:=gW M (bz.mk (az M (.t i)) bz.nil) h1 (fun e he=>by cases he);obtain⟨e,h5,h6⟩:=Bz.1 h2;exact⟨d0,h3,lT M h4 h5 (Fe h6 he),Ff h4 h6⟩
  ·cases h2
inductive qd:List X→List D→List D→Prop
 |nil:qd [] [] []
 |cons {x:X} {d0 d:D} {xs:List X} {ds0 ds:List D} (h:tq x d0 d) (r:qd xs ds0 ds):qd (x::xs) (d0::ds0) (d::ds)
theorem nX(M:Mt Ω G E ι γ Y J): ∀{rs:List fC} {xs:List X} {ds':List D},rs.mapM (oO Y)=some xs→X.ba G E xs=some ds'→ ∃ds,rs.mapM (fC.val J)=some ds∧ds.mapM (bo J.m)=some ds'∧qd xs ds ds'
 | [],xs,ds',h1,h2=>by simp at h1;subst h1;simp[X.ba]at h2;subst h2;exact⟨[],rfl,rfl, .nil⟩
 |r::rs,xs,ds',h1,h2=>by
  simp only[List.mapM_cons,Option.bind_eq_bind,Bz,Option.pure_def,Jz]at h1;obtain⟨y,g1,ys,g2,rfl⟩:=h1;simp only[X.ba,Bz,Mz]at h2;obtain⟨dy,g3,dys,g4,rfl⟩:=h2;obtain⟨d0,k1,k2,k5⟩:=pV M g1 g3;obtain⟨ds,k3,k4,k6⟩:=nX M g2 g4;exact⟨d0::ds,by simp[k1,k3],by simp[k2,k4], .cons k5 k6⟩
def Cy(m:Mem)(x:X)(d0 d:D):Prop:=bo m d0=some d∧tq x d0 d∨ ∃xs ds0 ds,x= .mk .tup xs∧d0= .tup ds0∧d= .tup ds∧qd xs ds0 ds
theorem DB(M:Mt Ω G E ι γ Y J){rs:List fC}{x:X}{d:D}(h:MK rs Y=some x)(he:X.ev G E x=some d): ∃d0,GP rs J=some d0∧xQ J.m d0=some d∧Cy J.m x d0 d:=by
 have many:(rs.mapM (oO Y)).map (X.mk .tup)=some x→ ∃ds,(rs.mapM (fC.val J))=some ds∧xQ J.m (.tup ds)=some d∧Cy J.m x (.tup ds) d:=fun h=>by
  obtain⟨xs,h1,rfl⟩:=Mz.1 h;obtain⟨ds',h2,h3⟩:=aP he;cases h3;obtain⟨ds,k1,k2,k3⟩:=nX M h1 h2;exact⟨ds,k1,by simp[xQ,k2], .inr ⟨xs,ds,ds',rfl,rfl,rfl,k3⟩⟩
 unfold MK at h;split at h
 ·rename_i r;obtain⟨d0,h1,h2,h3⟩:=pV M h he;refine⟨d0,h1, ?_, .inl ⟨h2,h3⟩⟩;cases d0<;>first|exact h2|cases h2
 ·rename_i hne;unfold GP
  grind
theorem ub {f : Nat → SV} : ∀ {k i : Nat} {v : SV} {b : Nat}, find ((List.range' b k).map fun i => (i, f i)) i = some v → i < b + k ∧ v = f i
  | 0, i, v, b, h => by simp [find] at h
  | k + 1, i, v, b, h => by
    rw [List.range'_succ] at h
    simp only [List.map_cons, find] at h
    cases hi : b == i with
    | true => rw [hi] at h; cases h; have : b = i := by simpa using hi
              grind
    | false =>
      rw [hi] at h
      obtain ⟨h1, h2⟩ := ub (b := b + 1) h
      grind
def uS:bO:=⟨fun _=> [],fun _ _=>default,fun _=>False⟩
theorem mt0{ds:List D}(hn:ds.all D.aF=true):Mt uS G ds (fun _=> []) (fun _=> []) (DQ ds.length) ⟨fun i=>ds.getD i .undef,dO,fun _=>0⟩:=by
 refine⟨fun i v hv=> ?_,fun n vs h=>by simp[DQ,find]at h,fun n e sz c h=>by simp[DQ,find]at h,fun n c h=>by simp[DQ,find]at h,fun n e sz c h=>by simp[DQ,find]at h,fun n n' e e' sz sz' c c' h=>by simp[DQ,find]at h,fun n k h=>by simp[DQ,find]at h,fun n n' o o' h=>by simp[DQ,find]at h,fun n n' e e' sz sz' c c' h=>by simp[DQ,find]at h,fun _ _ _ _=>rfl,fun n e sz c h=>by simp[DQ,find]at h,rfl,fun _ h=>h.elim⟩;simp only[DQ,List.range_eq_range']at hv;obtain⟨h1,rfl⟩:=ub hv;have hi:i<ds.length:=by omega
 refine .x (d:=ds.getD i .undef) ?_ ?_
 ·simp[X.ev,hi]
 ·grind
end
theorem Bj{P:Program}{w:World}{pr:aV}{fn:Func}{cargs:Array Value}{ds:List D}(hpr: ∀b o,pr b o→b<w.heap.size)(hg:Co w pr)(jr:aX w pr aA cargs.toList ds)(hlen:ds.length≤fn.ntmps):
  dB P ⟨w,pr,qO⟩ fn.ntmps w (cargs++Array.replicate (fn.ntmps-cargs.size) undef) ⟨fun i=>ds.getD i .undef,dO,fun _=>0⟩:=by
 have hsz:cargs.size=ds.length:=by simpa using jr.length
 refine⟨w,pr,qO,aA,⟨by simp;omega,dP.refl _ _,hpr,fun _ _ _ h=>(show False from h).elim,hg,⟨fun t o h=>(by cases h),fun t t' o o' b c c' h=>(by cases h)⟩,fun t o b c h=>(by cases h),fun _ _ _ _=>rfl,fun _=>rfl,fun _ _ h=>(by cases h),fun i hi=> ?_,fun i hi=>by
   have e:ds.getD i .undef= .undef:=by simp[List.getElem?_eq_none (show ds.length≤i by omega)]
   show aj w pr aA _ (ds.getD i .undef)
   rw[e];exact .undef⟩,
  ⟨dP.refl _ _,fun _ _ h=>h,rfl,rfl,fun _ _ h=>h,fun _ _ h=> .inl h⟩⟩
 by_cases hlt:i<cargs.size
 ·have e:(cargs++Array.replicate (fn.ntmps-cargs.size) undef).getD i undef=cargs[i]:=by
   simp[Array.getElem?_append_left hlt,hlt]
  have hd:i<ds.length:=by omega
  show aj w pr aA _ (ds.getD i .undef);rw[e];exact kU jr i _ _ (by simp[hlt]) (by simp[hd])
 ·have e:ds.getD i .undef= .undef:=by simp[List.getElem?_eq_none (show ds.length≤i by omega)]
  show aj w pr aA _ (ds.getD i .undef);rw[e];exact .undef
theorem Cf{P:Program}{w:World}{pr pr':aV}{tk:ai}{m:Mem}(M:dQ P w pr tk m)(hpr: ∀b o,pr b o→pr' b o)(hbl: ∀b,b8 tk m b→ ∀o,pr' b o){v:Value}{d d':D}(h:xQ m d=some d')(hr:aj w pr tk v d):aj w pr' aA v d':=by
 cases d
 case tup xs=>
  obtain⟨ys,hy,rfl⟩:=Mz.1 h;obtain⟨hl,hg⟩:=gV hy;cases hr with
  |tup h1 h3=>
   refine .tup (by rw[hl];exact h1) fun i c x' hc hx'=> ?_;obtain⟨x,hx,hfx⟩:=hg i x' hx';exact lP M hpr hbl hfx (h3 i c x hc hx)
 all_goals exact lP M hpr hbl (by simpa only[xQ]using h) hr
theorem GO{P:Program}{w:World}{pr:aV}{tk:ai}{m:Mem}(M:dQ P w pr tk m){x:X}{d0 d:D}{v:Value}(hk:tq x d0 d)(hn:iy x d=true)(h:bo m d0=some d)(hr:aj w pr tk v d0)(hr': ∃pr',aj w pr' aA v d):
  aj w (fun b _=>b8 tk m b) aA v d:=by
 rcases hk hn with(hf|rfl)|⟨ho,es,rfl,hes⟩
 ·obtain⟨_,hr'⟩:=hr';exact uW hr' hf
 ·obtain⟨_,hr'⟩:=hr';cases hr' with
  |nil'=>exact .nil'
  |emp=>exact .emp
  |list us _ kM _ _=>exact .list (size:=0) us (by simp) kM (fun j hj=>by simp at hj) (fun i e h=>by simp at h)
 ·exact MA M ho h hes hr
theorem u6: ∀{xs:List X} {ds0 ds:List D},qd xs ds0 ds→uI xs ds=true→ ∀(i:Nat) (d0 d:D),ds0[i]?=some d0→ds[i]?=some d→ ∃x,tq x d0 d∧iy x d=true
 |_,_,_, .nil,_,i,d0,d,h,_=>by simp at h
 |_,_,_, .cons hh r,hn,i,d0,d,h1,h2=>by
  simp only[uI,Az]at hn;cases i with
  |zero=>simp at h1 h2;subst h1;subst h2;exact⟨_,hh,hn.1⟩
  |succ i=>exact u6 r hn.2 i d0 d (by simpa using h1) (by simpa using h2)
theorem Ce {m : Mem} {d0 : D} {xs : List D} (h : bo m d0 = some (.tup xs)) : False := by
  have hc : ∀ (n : Nat) (d0 : D), aq m n d0 = some (.tup xs) → False := fun n d0 h => by
    cases n with
    | zero => cases h
    | succ n =>
      cases d0 <;> simp only [aq] at h <;> first
        | (cases h; done)
        | (revert h; repeat' split
           all_goals intro h
           all_goals first
             | (cases h; done)
             | (obtain ⟨_, _, h⟩ := Mz.1 h; cases h; done)
             | (obtain ⟨_, _, h⟩ := Bz.1 h; first | (obtain ⟨_, _, h⟩ := Mz.1 h; cases h; done) | (split at h <;> first | (cases h; done) | (obtain ⟨_, _, h⟩ := Mz.1 h; cases h; done))))
  cases d0
  case agg ys => obtain ⟨_, _, h⟩ := Mz.1 h; cases h
  all_goals exact hc 6 _ (by simpa only [bo] using h)
theorem G7{P:Program}{w:World}{pr:aV}{tk:ai}{m:Mem}(M:dQ P w pr tk m){x:X}{d0 d:D}{v:Value}(hk:Cy m x d0 d)(hn:l6 x d=true)(h:xQ m d0=some d)(hr:aj w pr tk v d0):
  aj w (fun b _=>b8 tk m b) aA v d:=by
 have one: ∀{x:X} {d0 d:D} {v:Value},tq x d0 d→iy x d=true→bo m d0=some d→aj w pr tk v d0→aj w (fun b _=>b8 tk m b) aA v d:=fun hk hn h hr=>
  GO M hk hn h hr ⟨_,lP (pr':=fun b o=>pr b o∨b8 tk m b) M (fun _ _ h=> .inl h) (fun _ h _=> .inr h) h hr⟩
 rcases hk with⟨hv,hk⟩|⟨xs,ds0,ds,rfl,rfl,rfl,hk⟩
 ·refine one hk ?_ hv hr;unfold l6 at hn;split at hn
  ·exact(Ce hv).elim
  ·exact hn
 ·obtain⟨ys,hy,h⟩:=Mz.1 h;cases h;obtain⟨hl,hg⟩:=gV hy;cases hr with
  |tup h1 h3=>
   refine .tup (by rw[hl];exact h1) fun i c x' hc hx'=> ?_;obtain⟨x,hx,hfx⟩:=hg i x' hx';obtain⟨y,k1,k2⟩:=u6 hk hn i x x' hx hx';exact one k1 k2 hfx (h3 i c x hc hx)
end
section
section
variable {P : Program} {w0 w : World} {pr : aV} {A : iI} {n : Nat} {tk : ai} {J : St} {a : Act}
def St.raw(J:St)(b:Nat)(o:Obj):St:=⟨J.s,fun t=>if t= [b+1]then some (.raw o)else J.m t,J.c⟩
theorem Rel.Jn(R:Rel P w0 pr A n w a.tmps J tk)(o:Obj):J.m [w.heap.size+1]=none∧ ∃tk',Rel P w0 pr A n (w.alloc o) a.tmps (J.raw w.heap.size o) tk'∧(∀t p,tk t=some p→tk' t=some p)∧tk' [w.heap.size+1]=some (w.heap.size,0):=by
 have hc:=dP.alloc (fun _=>False) w o;let tk':ai:=fun t=>if t= [w.heap.size+1]then some (w.heap.size,0)else tk t
 have cB:tk' [w.heap.size+1]=some (w.heap.size,0):=if_pos rfl
 have Bf: ∀t p,tk t=some p→tk' t=some p:=fun t p h=>by
  by_cases e:t= [w.heap.size+1]
  ·subst e;rw[cB,R.one _ _ h]
  ·grind
 have Bg:J.m [w.heap.size+1]=none:=by
  cases hm:J.m [w.heap.size+1]with
  |none=>rfl
  |some q=>
   obtain⟨b,c,h1,h2⟩:=(R.mem.obj _ q hm).place
   grind
 have K:=R.jP hc Bf
 have hm: ∀t q,(J.raw w.heap.size o).m t=some q→(t= [w.heap.size+1]∧q= .raw o)∨(t≠ [w.heap.size+1]∧J.m t=some q):=fun t q h=>by
  simp only[St.raw]at h
  grind
 have hold: ∀t q b c,t≠ [w.heap.size+1]→J.m t=some q→tk' t=some (b,c)→tk t=some (b,c)∧b<w.heap.size:=fun t q b c hne h ht=>by
  simp only[tk',if_neg hne]at ht;obtain⟨b1,c1,h1,h2⟩:=(R.mem.obj t q h).place
  grind
 have hsz:=R.chg.size;refine⟨Bg,tk',⟨R.size,R.chg.trans hc (fun _ _ h=>h.elim),R.prlt,R.prA,R.glob.keeps K.cell,⟨fun t q h=> ?_,fun t t' q q' b c c' h h' ht ht'=> ?_⟩,fun t q b c h ht=> ?_,fun y k r hk=> ?_,fun t=> ?_,fun l p h=> ?_,fun i hi=>(R.slot i hi).keeps K,fun i hi=>(R.sav i hi).keeps K⟩,Bf,cB⟩
 ·rcases hm t q h with⟨rfl,rfl⟩|⟨hne,h⟩
  ·exact⟨_,_,cB,(Go.MapKept.heap_alloc w o).1⟩
  ·exact(R.mem.obj t q h).keeps K fun b c hb=>by
    obtain⟨b1,c1,h1,h2⟩:=(R.mem.obj t q h).place;rw[hb]at h1;cases h1;exact hc.block b h2 id
 ·rcases hm t q h with⟨e1,e2⟩|⟨hne,k1⟩<;>rcases hm t' q' h' with⟨e3,e4⟩|⟨C7,k2⟩
  ·grind
  ·grind
  ·rw[e3,cB]at ht';cases ht';have:=hold t q _ c hne k1 ht;omega
  ·exact R.mem.inj t t' q q' b c c' k1 k2 (hold t q b c hne k1 ht).1 (hold t' q' b c' C7 k2 ht').1
 ·rcases hm t q h with⟨rfl,rfl⟩|⟨hne,h⟩
  ·rw[cB]at ht;cases ht;omega
  ·exact R.live t q b c h (hold t q b c hne h ht).1
 ·have hne:(y+1)::k::r≠ [w.heap.size+1]:=by simp
  simp only[tk',if_neg hne];exact R.fresh y k r hk
 ·have hne:(0::t:Tok)≠ [w.heap.size+1]:=by simp
  exact R.zero t
 ·by_cases e:l=w.heap.size
  ·subst e;rw[cB]at h;cases h;rfl
  ·have hne:([l+1]:Tok)≠ [w.heap.size+1]:=by simp;exact e
   simp only[tk',if_neg hne]at h;exact R.one l p h
theorem Rel.xC(R:Rel P w0 pr A n w a.tmps J tk){b:Nat}{o:Obj}(hm:J.m [b+1]=some (.raw o)):tk [b+1]=some (b,0)∧w.heap[b]?=some o:=by
 obtain⟨b1,c1,h1,h2⟩:=R.mem.obj _ _ hm;have:=R.one _ _ h1
 grind
theorem dP.putObj(w:World)(b:Nat)(o:Obj):dP (fun k=>k=b) w (w.putObj b o):=
 ⟨rfl,rfl,rfl,Nat.le_of_eq World.putObj_size.symm,fun k _ hk=>World.putObj_heap_other hk,Nat.le_refl _⟩
theorem Rel.y_(R:Rel P w0 pr A n w a.tmps J tk){b:Nat}{o:Obj}(hm:J.m [b+1]=some (.raw o))(o':Obj):Rel P w0 pr A n (w.putObj b o') a.tmps (J.raw b o') tk:=by
 obtain⟨h1,h2⟩:=R.xC hm;refine R.write (t:= [b+1]) (o:= .raw o) (o':= .raw o') hm h1 (dP.putObj w b o') rfl (m':=(J.raw b o').m) (if_pos rfl) (fun t' q hne h=>by simpa only[St.raw,if_neg hne]using h) ⟨b,0,h1,World.putObj_heap_same (Array.getElem?_eq_some_iff.1 h2).1⟩ fun t' q c' hne h ht _=> ?_;simp only[St.raw,if_neg hne]at h;rcases R.mem.inj _ _ _ _ _ _ _ hm h h1 ht with e|⟨e,_⟩
 ·grind
 ·cases e
theorem WF.raw{J:St}(W:WF J)(b:Nat)(o:Obj):WF (J.raw b o):=fun x k r hk=>by
 have hne:(x+1)::k::r≠ [b+1]:=by simp
 simp only[St.raw,if_neg hne];exact W x k r hk
def uQ:List Nat→List Value→Array Value→Array Value
 |p::ps,v::vs,cs=>uQ ps vs (cs.setIfInBounds p v)
 |_,_,cs=>cs
theorem Cm: ∀(ps:List Nat) (vs:List Value) (cs:Array Value),(ps.zip vs).foldl (fun tmps (t,a)=>tmps.setIfInBounds t a) cs=uQ ps vs cs
 | [],_,cs=>by simp[uQ]
 |_::_,[],cs=>by simp[uQ]
 |p::ps,v::vs,cs=>by simp only[List.zip_cons_cons];exact Cm ps vs _
def wg:List Nat→List D→(Nat→D)→Nat→D
 |p::ps,d::ds,s=>wg ps ds (fun i=>if i=p then d else s i)
 |_,_,s=>s
end
end
section
def Sy.cZ(Y Y':Sy):Prop:=Y'.d=Y.d∧Y'.pd=Y.pd
theorem Sy.cZ.nK{Y:Sy}:Y.cZ Y:=⟨rfl,rfl⟩
theorem Sy.cZ.trans{Y Y' Z:Sy}(h:Y.cZ Y')(k:Y'.cZ Z):Y.cZ Z:=⟨k.1.trans h.1,k.2.trans h.2⟩
theorem wC{n:Nat}{g:Bool}{va vv:SV}{Y Y':Sy}{O:List X}(h:kZ n g va vv Y=some (Y',O)):Y.cZ Y':=by
 unfold kZ at h;split at h
 ·split at h
  ·rw[Bz]at h;obtain⟨p,_,h⟩:=h;split at h<;>cases h;exact⟨rfl,rfl⟩
  ·cases h
 ·split at h
  ·rw[Bz]at h;obtain⟨p,_,h⟩:=h;split at h<;>cases h;exact⟨rfl,rfl⟩
  ·cases h
 ·split at h
  ·rw[Bz]at h;obtain⟨p,_,h⟩:=h;rw[Bz]at h;obtain⟨p,_,h⟩:=h;split at h<;>cases h;exact⟨rfl,rfl⟩
  ·cases h
 ·split at h
  ·split at h
   ·obtain⟨p,_,h2⟩:=Mz.1 h;cases h2;exact⟨rfl,rfl⟩
   ·cases h
  ·cases h
 ·cases h
theorem B9{x t size nm:Nat}{va vb:SV}{Y Y':Sy}{O:List X}(h:q9 x t size va vb Y nm=some (Y',O)):Y.cZ Y':=by
 unfold q9 at h;rw[Bz]at h;obtain⟨p,_,h⟩:=h;split at h
 ·cases h;exact⟨rfl,rfl⟩
 ·split at h
  ·split at h<;>cases h;exact⟨rfl,rfl⟩
  ·cases h
 ·cases h
theorem rY {e : cg} {Y Y' : Sy} {O : List X} (h : fh e Y = some (Y', O)) : Y.cZ Y' := by
  cases e with
  | box n g x a => simp only [fh] at h; obtain ⟨p, _, h2⟩ := Mz.1 h; cases h2; exact ⟨rfl, rfl⟩
  | store n g a v => exact wC (show kZ _ _ _ _ _ = _ from h)
  | app x t size a b => exact (show Y.cZ (Y.nw x) from ⟨rfl, rfl⟩).trans (B9 (show q9 _ _ _ _ _ _ _ = _ from h))
  | mks x t size zero a b =>
    simp only [fh] at h
    split at h
    · cases h; exact ⟨rfl, rfl⟩
    · cases h
  | lit x t size len zero places args => simp only [fh] at h; obtain ⟨p, _, h2⟩ := Mz.1 h; cases h2; exact ⟨rfl, rfl⟩
  | acall x t size f args => simp only [fh] at h; split at h <;> try (cases h; done)
                             obtain ⟨p, _, h2⟩ := Mz.1 h; cases h2; exact ⟨rfl, rfl⟩
  | mkm x => cases h; exact ⟨rfl, rfl⟩
  | mkml x e sz => simp only [fh] at h; split at h <;> cases h; exact ⟨rfl, rfl⟩
  | clr s z a =>
    simp only [fh] at h
    split at h
    · split at h
      · split at h <;> cases h
        exact ⟨rfl, rfl⟩
      · cases h
    · cases h
  | ecall x k f args =>
    simp only [fh] at h
    split at h
    · split at h
      · split at h
        · obtain ⟨p, _, h2⟩ := Mz.1 h; cases h2; exact ⟨rfl, rfl⟩
        · cases h
      · cases h
    · cases h
  | copy x a b =>
    simp only [fh] at h
    split at h
    · split at h
      · split at h <;> cases h
        cases x <;> exact ⟨rfl, rfl⟩
      · cases h
    · cases h
  | ment ks z x a k =>
    simp only [fh] at h
    split at h
    · split at h
      · obtain ⟨p, _, h2⟩ := Mz.1 h; cases h2; exact ⟨rfl, rfl⟩
      · cases h
    · cases h
  | mest a s v =>
    simp only [fh] at h
    split at h
    · split at h
      · split at h
        · obtain ⟨p, _, h2⟩ := Mz.1 h; cases h2; exact ⟨rfl, rfl⟩
        · cases h
      · cases h
    · cases h
  | mupd ks a k v =>
    simp only [fh] at h
    split at h
    · split at h
      · rw [Bz] at h
        obtain ⟨p, _, h⟩ := h
        obtain ⟨p, _, h2⟩ := Mz.1 h; cases h2; exact ⟨rfl, rfl⟩
      · cases h
    · cases h
theorem rZ{st:an}{Y Y':Sy}{O:List X}(h:mR st Y=some (Y',O)):Y.cZ Y':=by
 unfold mR at h;split at h
 ·obtain⟨p,_,h2⟩:=Mz.1 h;cases h2;exact⟨rfl,rfl⟩
 ·split at h
  ·split at h
   ·obtain⟨p,_,h2⟩:=Mz.1 h;cases h2;exact⟨rfl,rfl⟩
   ·cases h;exact⟨rfl,rfl⟩
  ·obtain⟨p,_,h2⟩:=Mz.1 h;cases h2;exact⟨rfl,rfl⟩
  ·cases h
 ·exact rY h
 ·split at h
  ·split at h
   ·exact rY h
   ·split at h<;>cases h<;>exact⟨rfl,rfl⟩
  ·cases h
 ·cases h
theorem eo: ∀{sts:List an} {Y Y':Sy} {O:List X},ei sts Y=some (Y',O)→Y.cZ Y'
 | [],Y,Y',O,h=>by cases h;exact .nK
 |st::r,Y,Y',O,h=>by
  simp only[ei,Bz,Mz]at h;obtain⟨⟨Y1,O1⟩,h1,⟨Y2,O2⟩,h2,h3⟩:=h;cases h3;exact(rZ h1).trans (eo h2)
theorem pW{sts:List an}{Y Y':Sy}{O:List X}(h:lO sts Y=some (Y',O)):Y.cZ Y':=by
 unfold lO at h;split at h
 ·simp only[Bz,Mz]at h;obtain⟨⟨Y1,O1⟩,h1,⟨Y2,O2⟩,h2,⟨Y3,O3⟩,h3,h4⟩:=h;cases h4;refine(eo h1).trans (Sy.cZ.trans ?_ (eo h3));unfold zx at h2;split at h2
  ·rw[Bz]at h2;obtain⟨⟨Y4,O4⟩,g1,h2⟩:=h2;rw[Bz]at h2;obtain⟨⟨Y5,O5⟩,g2,h2⟩:=h2;have k1:=eo g1;have k2:=eo g2;split at h2
   ·split at h2
    ·simp only[Bz]at h2;obtain⟨_,_,_,_,_,_,h2⟩:=h2;split at h2<;>cases h2;exact Sy.cZ.trans (show Y1.cZ (Y1.xO _)from⟨rfl,rfl⟩) (k1.trans (Sy.cZ.trans (show Y4.cZ (Y4.xO _)from⟨rfl,rfl⟩) (k2.trans ⟨rfl,rfl⟩)))
    ·cases h2
   ·cases h2
  ·cases h2
 ·exact eo h
theorem vw{P:Program}{fr:p8}{n:Nat}{ops:Array Oper}{draw:Bool}{Y Y':Sy}{O:List X}(hs:gI P fr n ops draw Y=some (Y',O)):Y.cZ Y':=by
 unfold gI at hs;split at hs
 ·split at hs
  ·rw[Bz]at hs;obtain⟨q',h3,hs⟩:=hs;split at hs<;>cases hs;exact pW h3
  ·cases hs
 ·exact pW hs
theorem EN{Y:Sy}:Y.cZ Y.gc:=by
 unfold Sy.gc;generalize(((Y.h.filter _).map (·.1)).filter _:List Nat)=l
 induction l generalizing Y with
 |nil=>exact .nK
 |cons a l ih=>exact(show Y.cZ (Y.kill a)from⟨rfl,rfl⟩).trans ih
theorem rT{ks:List Nat}{n:Nat}{Y:Sy}:Y.cZ (settle ks n Y).1:=by
 have h:=EN (Y:=Y.trim n ks);exact⟨h.1,h.2⟩
def St.kX(J:St)(x:Option Nat)(d:D):St:=match x with
 |some x=>J.set x d
 |none=>J
section
variable {Ω : bO} {G : FP} {E : List D} {ι γ : Nat → Tok} {Y : Sy} {J : St}
theorem Mt.gc(M:Mt Ω G E ι γ Y J):Mt Ω G E ι γ Y.gc J:=by
 unfold Sy.gc;generalize(((Y.h.filter _).map (·.1)).filter _:List Nat)=l
 induction l generalizing Y with
 |nil=>exact M
 |cons a l ih=>exact ih (M.kill a).1
theorem Mt.settle(M:Mt Ω G E ι γ Y J){ks:List Nat}{n:Nat}{ds:List D}(h:X.ba G E (settle ks n Y).2=some ds):Mt Ω G (E++ds) ι γ (settle ks n Y).1 J:=by
 have M1:Mt Ω G E ι γ ((Y.trim n ks).gc.bump n) J:=(M.trim n ks).gc.sub (fun _ _ h=>h) (fun _=>rfl) rfl;exact M1.atom h
theorem Mt.kX(M:Mt Ω G E ι γ Y J){x:Option Nat}{v:SV}{d:D}(h: ∀i,x=some i→VR G E ι Y.h v d):Mt Ω G E ι γ (Y.kX x v) (J.kX x d):=by
 cases x with
 |none=>exact M
 |some i=>exact M.set (h i rfl)
theorem Mt.u0(M:Mt Ω G E ι γ Y J){Z:Sy}{s:Nat→D}(hh:Z.h=Y.h)(hn:Z.nv=Y.nv)(hs: ∀i v,find Z.s i=some v→VR G E ι Y.h v (s i)):Mt Ω G E ι γ Z ⟨s,J.m,J.c⟩:=by
 obtain⟨m1,m2,m3,m4,mo,mq,m5,m6,m7,m8,m9,m10,m11⟩:=M;exact⟨by rw[hh];exact hs,by rw[hh];exact m2,by rw[hh];exact m3,by rw[hh];exact m4,by rw[hh];exact mo,by rw[hh];exact mq,by rw[hh];exact m5,by rw[hh];exact m6,by rw[hh];exact m7,fun x k r=>m8 x k r,by rw[hh];exact m9,by rw[hn];exact m10,m11⟩
theorem oB{α:Type}{n i:Nat}: ∀{l:List (Nat×α)},find (qW n l) i=if n≤i then find l (i-n)else none
 | []=>by simp[qW,find]
 |(j,a)::r=>by
  simp only[qW,find,oB (l:=r)]
  grind
theorem ir{α:Type}{n i:Nat}: ∀{l:List (Nat×α)},find (i_ n l) i=find l (i+n)
 | []=>by simp[i_,find]
 |(j,a)::r=>by
  simp only[i_];by_cases h:j<n
  ·have h1:decide (j<n)=true:=by simpa using h
   have h2:(j==i+n)=false:=by simp;omega
   simp only[h1,cond_true,find,h2,cond_false,ir (l:=r)]
  ·have h1:decide (j<n)=false:=by simpa using h
   simp only[h1,cond_false,find,ir (l:=r)]
   grind
theorem w_{i:Nat}: ∀{vs:List SV} {b:Nat},find (Ak b vs) i=if b≤i then vs[i-b]? else none
 | [],b=>by simp[Ak,find]
 |v::r,b=>by
  simp only[Ak,find,w_ (vs:=r)]
  grind
def ox(n:Nat)(ds:List D)(s:Nat→D):Nat→D:=fun i=>if i<n then ds.getD i .undef else s (i-n)
theorem Mt.enter(M:Mt Ω G E ι γ Y J){n n0:Nat}{vs:List SV}{ds:List D}(hv:bz G E ι Y.h vs ds)(hl:vs.length≤n):Mt Ω G E ι γ (Y.enter n n0 vs) ⟨ox n ds J.s,J.m,J.c⟩:=by
 refine M.u0 rfl rfl fun i v hf=> ?_;simp only[Sy.enter,eR,w_,oB,Nat.zero_le,if_true,Nat.sub_zero]at hf;have hlen:=hv.1;by_cases hi:i<vs.length
 ·rw[Ez hi]at hf;cases hf
  have hd:ds[i]?=some (ds.getD i .undef):=by
   grind
  simp only[ox,if_pos (show i<n by omega)];exact hv.2 i _ _ (Ez hi) hd
 ·rw[List.getElem?_eq_none (by omega)]at hf;split at hf
  ·rename_i hn;simp only[ox,if_neg (show¬i<n by omega)];exact M.slot _ _ hf
  ·cases hf
theorem Mt.leave(M:Mt Ω G E ι γ Y J)(n:Nat):Mt Ω G E ι γ (Y.leave n) ⟨fun i=>J.s (i+n),J.m,J.c⟩:=
 M.u0 rfl rfl fun i v hf=>by
  simp only[Sy.leave,ir]at hf;exact M.slot _ _ hf
theorem pF(M:Mt Ω G E ι γ Y J){r:fC}{v:SV}(h:uR Y r=some v): ∃d,r.val J=some d∧VR G E ι Y.h v d:=by
 cases r with
 |t i=>cases h;exact⟨_,rfl,az M (.t i)⟩
 |cell i n g=>
  simp only[uR,Bz]at h;obtain⟨⟨v',O⟩,h1,h2⟩:=h;split at h2<;>cases h2;rename_i ho;have hO:O= []:=List.isEmpty_iff.1 ho;subst hO;exact gW M (bz.mk (az M (.t i)) bz.nil) h1 (fun e he=>by cases he)
theorem nW(M:Mt Ω G E ι γ Y J): ∀{rs:List fC} {vs:List SV},rs.mapM (uR Y)=some vs→ ∃ds,rs.mapM (fC.val J)=some ds∧bz G E ι Y.h vs ds
 | [],vs,h=>by simp at h;subst h;exact⟨[],rfl,bz.nil⟩
 |r::rs,vs,h=>by
  simp only[List.mapM_cons,Option.bind_eq_bind,Bz,Option.pure_def,Jz]at h;obtain⟨y,g1,ys,g2,rfl⟩:=h;obtain⟨d,k1,k2⟩:=pF M g1;obtain⟨ds,k3,k4⟩:=nW M g2;exact⟨d::ds,by simp[k1,k3],bz.mk k2 k4⟩
theorem BU(M:Mt Ω G E ι γ Y J){rs:List fC}{v:SV}(h:BT rs Y=some v): ∃d,GP rs J=some d∧VR G E ι Y.h v d:=by
 unfold BT at h;split at h
 ·exact pF M h
 ·rename_i hne;obtain⟨vs,h1,rfl⟩:=Mz.1 h;obtain⟨ds,k1,k2⟩:=nW M h1;refine⟨.tup ds, ?_, .tup k2.1 k2.2⟩;unfold GP
  grind
end
section
variable {P : Program} {w0 w : World} {pr : aV} {A : iI} {n : Nat} {tk : ai} {J : St} {cs : Array Value}
def h_(n' n:Nat)(cs:Array Value)(sv:Nat→Value):Nat→Value:=fun i=>if i-n'<n then cs.getD (i-n') undef else sv (i-n')
theorem Rel.enter(R:Rel P w0 pr A n w cs J tk){n':Nat}{cargs:Array Value}{ds:List D}(hr:aX w pr tk cargs.toList ds)(hl:ds.length≤n'):
  Rel P w0 pr {A with sv:=h_ n' n cs A.sv} n' w (cargs++Array.replicate (n'-cargs.size) undef) ⟨ox n' ds J.s,J.m,J.c⟩ tk:=by
 have hsz:cargs.size=ds.length:=by simpa using hr.length
 refine⟨by simp;omega,R.chg,R.prlt,R.prA,R.glob,R.mem,R.live,R.fresh,R.zero,R.one,fun i hi=> ?_,fun i hi=> ?_⟩
 ·simp only[ox,if_pos hi];by_cases hlt:i<cargs.size
  ·have e:(cargs++Array.replicate (n'-cargs.size) undef).getD i undef=cargs[i]:=by
    simp[Array.getElem?_append_left hlt,hlt]
   have hd:i<ds.length:=by omega
   rw[e];exact kU hr i _ _ (by simp[hlt]) (by simp[hd])
  ·have e:ds.getD i .undef= .undef:=by simp[List.getElem?_eq_none (show ds.length≤i by omega)]
   rw[e];exact .undef
 ·simp only[ox,if_neg (show¬i<n' by omega),h_];split
  ·rename_i h;exact R.slot _ h
  ·rename_i h;exact R.sav _ (by omega)
theorem iK.enter{B:fe}(U:iK B w0 pr A)(n' n:Nat)(cs:Array Value):iK {B with A:={B.A with sv:=h_ n' n cs B.A.sv}} w0 pr {A with sv:=h_ n' n cs A.sv}:=
 ⟨U.chg,U.sub,U.z,by simp only[U.sv],U.sup,U.inf⟩
theorem dB.leave{B:fe}{n':Nat}{a:Act}{w1:World}{pr1:aV}{A1:iI}{tk1:ai}{cs':Array Value}(R:Rel P w1 pr1 A1 n' w cs' J tk1)(U:iK {B with A:={B.A with sv:=h_ n' n a.tmps B.A.sv}} w1 pr1 A1)
  (hs:a.tmps.size=n) {x:Option Nat} (hx: ∀i,x=some i→i<n) {v:Value} {d:D} (hv:aj w pr1 tk1 v d):dB P B n w (a.put x v).tmps (St.kX ⟨fun i=>J.s (i+n'),J.m,J.c⟩ x d):=by
 have hsv:A1.sv=h_ n' n a.tmps B.A.sv:=U.sv
 have R1:Rel P w1 pr1 {A1 with sv:=B.A.sv} n w a.tmps ⟨fun i=>J.s (i+n'),J.m,J.c⟩ tk1:=by
  refine⟨hs,R.chg,R.prlt,R.prA,R.glob,R.mem,R.live,R.fresh,R.zero,R.one,fun i hi=> ?_,fun i hi=> ?_⟩
  ·have h:=R.sav (i+n') (by omega);rw[hsv]at h;simp only[h_,Nat.add_sub_cancel,if_pos hi]at h;exact h
  ·have h:=R.sav (i+n') (by omega);rw[hsv]at h;simp only[h_,Nat.add_sub_cancel,if_neg (show¬i<n by omega)]at h;exact h
 refine⟨w1,pr1,{A1 with sv:=B.A.sv},tk1, ?_,⟨U.chg,U.sub,U.z,rfl,U.sup,U.inf⟩⟩;cases x with
 |none=>exact R1
 |some i=>exact R1.put (hx i rfl) (dP.refl _ _) hv
end
def bO.le(S:List Nat)(Ω Ω':bO):Prop:=(∀t,Ω.c t→Ω'.c t)∧ ∀nm,nm∈S→Ω'.t nm=Ω.t nm∧Ω'.f nm=Ω.f nm
theorem bO.le.nK{S:List Nat}{Ω:bO}:Ω.le S Ω:=⟨fun _ h=>h,fun _ _=>⟨rfl,rfl⟩⟩
theorem bO.le.trans{S:List Nat}{Ω Ω' Ω2:bO}(h:Ω.le S Ω')(k:Ω'.le S Ω2):Ω.le S Ω2:=
 ⟨fun t ht=>k.1 t (h.1 t ht),fun nm hn=>⟨(k.2 nm hn).1.trans (h.2 nm hn).1,(k.2 nm hn).2.trans (h.2 nm hn).2⟩⟩
theorem bO.le.sub{S S':List Nat}{Ω Ω':bO}(h:Ω.le S Ω')(hs: ∀x,x∈S'→x∈S):Ω.le S' Ω':=⟨h.1,fun nm hn=>h.2 nm (hs nm hn)⟩
abbrev mark(b:Nat):Deferred:={target:= .collected b,args:= #[]}
def DM(Ω0 Ω:bO)(l:List Deferred):Prop:=(∀t,Ω0.c t→Ω.c t)∧l.Nodup∧ ∀d∈l,∃b,d=mark b∧Ω.c [b+1]∧ ¬Ω0.c [b+1]
theorem DM.mono{S:List Nat}{Ω0 Ω Ω':bO}{l:List Deferred}(h:DM Ω0 Ω l)(k:Ω.le S Ω'):DM Ω0 Ω' l:=⟨fun t ht=>k.1 t (h.1 t ht),h.2.1,fun d hd=>let⟨b,h1,h2,h3⟩:=h.2.2 d hd;⟨b,h1,k.1 _ h2,h3⟩⟩
theorem DM.nil{Ω:bO}:DM Ω Ω []:=⟨fun _ h=>h,List.nodup_nil,fun d h=>by cases h⟩
section
variable {Ω : bO} {G : FP} {E : List D} {ι γ : Nat → Tok} {Y : Sy} {J : St}
theorem eJ{J:St}{b:Nat}{o:Obj}{t:Tok}:(J.raw b o).m t=if t= [b+1]then some (.raw o)else J.m t:=rfl
theorem Mt.mem(M:Mt Ω G E ι γ Y J){J':St}{Ω':bO}(hs:J'.s=J.s)(hc:J'.c=J.c)(W:WF J')(hm: ∀n o,find Y.h n=some o→ι n≠ []→J'.m (ι n)=J.m (ι n))(Gc: ∀q,iJ Y.h ι γ J q→J'.m q.u=J.m q.u)
  (hr: ∀n k,find Y.h n=some (.raw k)→Ω'.t n=Ω.t n∧Ω'.f n k=Ω.f n k∧ ¬Ω'.c (ι n)) (mC: ∀t,Ω'.c t→J'.m t=some (.raw (.deferred (some [])))):Mt Ω' G E ι γ Y J':=by
 refine⟨fun i v hv=>by rw[hs];exact M.slot i v hv,fun n vs hn=> ?_,fun n e sz c hn=> ?_,fun n c hn=> ?_,fun n e sz c hn=> ?_,M.one,fun n k hn=> ?_,M.inj,M.gZ,W,fun n e sz c hn=>by rw[hc];exact M.old n e sz c hn,M.nv,mC⟩
 ·obtain⟨ds,h1,h2,h3⟩:=M.box n vs hn;exact⟨ds,h1,by rw[hm n _ hn h1];exact h2,h3⟩
 ·obtain⟨es,h1,h2,h3⟩:=M.au n e sz c hn;refine⟨es,h1,h2, ?_⟩;rcases h3 with h3|⟨h3,h4⟩
  ·exact .inl h3
  ·exact .inr ⟨h3,by rw[hm n _ hn h3];exact h4⟩
 ·obtain⟨es,h1,h2,h3⟩:=M.mpo n c hn;exact⟨es,h1,h2,by rw[hm n _ hn h2];exact h3⟩
 ·obtain⟨L,h1,h2,h3,h4⟩:=M.own n e sz c hn;exact⟨L,h1,h2,by rw[hm n _ hn h2];exact h3,fun q hq=>(h4.1 q hq).lE (Gc q ⟨n,e,sz,c,L,hn,h3,h4,hq⟩) (h4.1 q hq).2.2.2.1 (h4.1 q hq).2.2.2.2.1 (fun y=>by rw[hc];exact Nat.le_refl _),h4.2⟩
 ·obtain⟨h1,h2,h3,_⟩:=M.rwo n k hn;obtain⟨k1,k2,k3⟩:=hr n k hn;exact⟨by rw[k1];exact h1,h2,by rw[hm n _ hn h2,k2];exact h3,k3⟩
theorem Mt.Ol(M:Mt Ω G E ι γ Y J){n:Nat}{o:SO}(h:find Y.h n=some o)(hi:ι n≠ []):J.m (ι n)≠none:=fun e=>by
 obtain⟨q,hq⟩:=M.live h hi;rw[hq]at e;cases e
theorem Mt.JV(M:Mt Ω G E ι γ Y J){nm l:Nat}{k:RS}(hf:find Y.h nm=some (.raw k))(ht:ι nm= [l+1])(k':RS):Mt Ω G E ι γ (Y.raw nm k') (J.raw l (Ω.f nm k')):=by
 obtain⟨r1,r2,r3,r4⟩:=M.rwo nm k hf;have hf': ∀j,find (Y.raw nm k').h j=if j=nm then some (.raw k')else find Y.h j:=fun j=>bC nm j _ Y.h
 have vr: ∀{v:SV} {d:D},VR G E ι Y.h v d→VR G E ι (Y.raw nm k').h v d:=fun H=>H.mono (fun _ _ h=>h) fun j _=>⟨rfl,fun o ho=>by
  by_cases hj:j=nm
  ·subst hj;rw[hf]at ho;cases ho;exact⟨.raw k',by rw[hf',if_pos rfl],trivial⟩
  ·exact⟨o,by rw[hf',if_neg hj];exact ho,by cases o<;>simp only[SO.cZ];exact⟨trivial,trivial,fun es he=>⟨es,he,rfl⟩⟩⟩⟩
 have ne: ∀{j:Nat} {o:SO},j≠nm→find Y.h j=some o→ι j≠ []→ι j≠ [l+1]:=fun hj ho hi e=>hj (M.inj _ _ _ _ ho hf (by rw[e,ht]) hi)
 have back: ∀{j:Nat} {o:SO},(∀q,o≠ .raw q)→find (Y.raw nm k').h j=some o→j≠nm∧find Y.h j=some o:=fun{j o} hq h=>by
  rw[hf']at h;by_cases hj:j=nm
  ·rw[if_pos hj]at h;cases h;exact absurd rfl (hq k')
  ·rw[if_neg hj]at h;exact⟨hj,h⟩
 have vR: ∀{j:Nat} {o:SO},find (Y.raw nm k').h j=some o→ ∃o',find Y.h j=some o':=fun{j o} h=>by
  rw[hf']at h;by_cases hj:j=nm
  ·rw[hj];exact⟨_,hf⟩
  ·rw[if_neg hj]at h;exact⟨_,h⟩
 refine⟨fun i v hv=>vr (M.slot i v hv),fun n vs hn=> ?_,fun n e sz c hn=> ?_,fun n c hn=> ?_,fun n e sz c hn=> ?_,fun a b _ _ _ _ _ _ h1 h2=>M.one a b _ _ _ _ _ _ (back (by simp) h1).2 (back (by simp) h2).2,fun n kk hn=> ?_,fun a b o o' h1 h2=> ?_,fun a b e e' sz sz' c c' h1 h2=> ?_,M.wf.raw l _,fun n e sz c hn=> ?_,M.nv,fun t h=> ?_⟩
 ·obtain⟨hj,hn⟩:=back (by simp) hn;obtain⟨ds,h1,h2,h3⟩:=M.box n vs hn;exact⟨ds,h1,by rw[eJ,if_neg (ne hj hn h1)];exact h2,h3.1,fun i v d hv hd=>vr (h3.2 i v d hv hd)⟩
 ·obtain⟨hj,hn⟩:=back (by simp) hn;obtain⟨es,h1,h2,h3⟩:=M.au n e sz c hn;refine⟨es,h1,h2, ?_⟩;rcases h3 with h3|⟨h3,h4⟩
  ·exact .inl h3
  ·exact .inr ⟨h3,by rw[eJ,if_neg (ne hj hn h3)];exact h4⟩
 ·obtain⟨hj,hn⟩:=back (by simp) hn;obtain⟨es,h1,h2,h3⟩:=M.mpo n c hn;exact⟨es,h1,h2,by rw[eJ,if_neg (ne hj hn h2)];exact h3⟩
 ·obtain⟨hj,hn⟩:=back (by simp) hn;obtain⟨L,h1,h2,h3,h4⟩:=M.own n e sz c hn;refine⟨L,h1,h2,by rw[eJ,if_neg (ne hj hn h2)];exact h3,fun q hq=>(h4.1 q hq).lE ?_ (fun k o hk=> ?_) (fun k e sz c hk=>(h4.1 q hq).2.2.2.2.1 k e sz c (back (by simp) hk).2) (fun _=>Nat.le_refl _),h4.2⟩
  ·rw[eJ,if_neg fun e=>(h4.1 q hq).2.2.2.1 nm _ hf (by rw[ht,e])]
  ·obtain⟨o',ho'⟩:=vR hk;exact(h4.1 q hq).2.2.2.1 k o' ho'
 ·rw[hf']at hn;by_cases hj:n=nm
  ·rw[if_pos hj]at hn;cases hn;subst hj;exact⟨r1,r2,by rw[eJ,if_pos ht],r4⟩
  ·rw[if_neg hj]at hn;obtain⟨h1,h2,h3,h4⟩:=M.rwo n kk hn;exact⟨h1,h2,by rw[eJ,if_neg (ne hj hn h2)];exact h3,h4⟩
 ·obtain⟨_,g1⟩:=vR h1;obtain⟨_,g2⟩:=vR h2;exact M.inj a b _ _ g1 g2
 ·obtain⟨_,g1⟩:=back (by simp) h1;obtain⟨_,g2⟩:=back (by simp) h2;exact M.gZ a b e e' sz sz' c c' g1 g2
 ·obtain⟨_,g1⟩:=back (by simp) hn;exact M.old n e sz c g1
 ·rw[eJ,if_neg (fun e=>r4 (by rw[ht,←e];exact h))];exact M.con t h
theorem Mt.Le(M:Mt Ω G E ι γ Y J){nm l:Nat}{k:RS}(hf:find Y.h nm=some (.raw k))(ht:ι nm= [l+1])(o:Obj):Mt Ω G E ι γ (Y.kill nm) (J.raw l o):=by
 obtain⟨r1,r2,r3,r4⟩:=M.rwo nm k hf;have M1:=(M.kill nm).1;refine M1.mem rfl rfl (M.wf.raw l o) (fun n o' hn hi=> ?_) (fun q hq=> ?_) (fun n kk hn=>⟨rfl,rfl,(M1.rwo n kk hn).2.2.2⟩) fun t h=> ?_
 ·obtain⟨hne,o0,h0,_⟩:=bI hn;rw[eJ,if_neg fun e=>hne (M.inj _ _ _ _ h0 hf (by rw[e,ht]) hi)]
 ·obtain⟨q',hq',h1,_⟩:=hq.kill M;rw[eJ,if_neg fun e=>M.mJ hf hq' (by rw[h1,e,ht])]
 ·rw[eJ,if_neg (fun e=>r4 (by rw[ht,←e];exact h))];exact M.con t h
def oP{α:Type}(f:Nat→α)(n:Nat)(a:α):Nat→α:=fun k=>if k=n then a else f k
theorem FG{α:Type}: ∀(l:List (Nat×α)),∃b,∀x,b≤x→find l x=none
 | []=>⟨0,fun _ _=>rfl⟩
 |(i,a)::r=>by
  obtain⟨b,hb⟩:=FG r;refine⟨max b (i+1),fun x hx=> ?_⟩;have:(i==x)=false:=by simp;omega
  simp only[find]
  grind
theorem Mt.jQ(M:Mt Ω G E ι γ Y J){nm b:Nat}{g:RS→Obj}(h1:J.m [b+1]=none)(h2:J.m [b+1+1]=none):
  Mt ⟨oP Ω.t nm [b+1+1],oP Ω.f nm g,fun t=>Ω.c t∨t= [b+1]⟩ G E (oP ι nm [b+1+1]) (oP γ nm []) (Y.jQ nm) ((J.raw b (.deferred (some []))).raw (b+1) (g .ready)):=by
 obtain⟨M1,F1⟩:=M.kill nm;have hne: ∀{n:Nat} {o:SO},find (Y.kill nm).h n=some o→ι n≠ []→ι n≠ [b+1]∧ι n≠ [b+1+1]:=fun hn hi=>⟨fun e=>M1.Ol hn hi (by rw[e];exact h1),fun e=>M1.Ol hn hi (by rw[e];exact h2)⟩
 have hc2: ∀t,Ω.c t→t≠ [b+1]∧t≠ [b+1+1]:=fun t ht=>by
  have hq:=M.con t ht;refine⟨fun e=> ?_,fun e=> ?_⟩
  ·rw[e,h1]at hq;cases hq
  ·rw[e,h2]at hq;cases hq
 have e12:([b+1]:Tok)≠ [b+1+1]:=by simp
 have M2:Mt ⟨oP Ω.t nm [b+1+1],oP Ω.f nm g,fun t=>Ω.c t∨t= [b+1]⟩ G E ι γ (Y.kill nm) ((J.raw b (.deferred (some []))).raw (b+1) (g .ready)):=by
  refine M1.mem rfl rfl ((M.wf.raw b _).raw _ _) (fun n o hn hi=> ?_) (fun q hq=> ?_) (fun n k hn=> ?_) fun t ht=> ?_
  ·rw[eJ,if_neg (hne hn hi).2,eJ,if_neg (hne hn hi).1]
  ·obtain⟨_,p1,_⟩:=hq.mem;rw[eJ,if_neg (fun e=>by rw[e,h2]at p1;cases p1),eJ,if_neg (fun e=>by rw[e,h1]at p1;cases p1)]
  ·have hnn:n≠nm:=(bI hn).1;obtain⟨_,g2,_,g4⟩:=M1.rwo n k hn;refine⟨if_neg hnn, ?_, ?_⟩
   ·show oP Ω.f nm g n k=_;simp only[oP,if_neg hnn]
   ·rintro(h|h)
    ·exact g4 h
    ·exact(hne hn g2).1 h
  ·rcases ht with ht|rfl
   ·rw[eJ,if_neg (hc2 t ht).2,eJ,if_neg (hc2 t ht).1];exact M.con t ht
   ·rw[eJ,if_neg e12,eJ,if_pos rfl]
 obtain⟨x0,hx0⟩:=FG (Y.kill nm).s
 have hnq: ∀q,iJ (Y.kill nm).h ι γ ((J.raw b (.deferred (some []))).raw (b+1) (g .ready)) q→q.u≠ [b+1+1]:=fun q hq e=>by
  obtain⟨_,p1,_⟩:=hq.mem;rw[e,eJ,if_pos rfl]at p1;cases p1
 have M3:=M2.add (x:=x0) F1 (o:= .raw .ready) (v:= .un) (t:= [b+1+1]) (g:= []) M2.wf (fun _ _=>rfl) (fun _ _ _ _=>rfl) (fun _=>Nat.le_refl _) (fun _ _ h=>h) .un
  ⟨by simp[oP],by simp,by rw[eJ,if_pos rfl];simp[oP],fun h=>by
   rcases h with h|h
   ·exact(hc2 _ h).2 rfl
   ·exact e12 h.symm⟩ (fun _ n o hn e=>(hne hn (by rw[e];simp)).2 e) (fun q hq=>⟨fun e=>hnq q hq e.symm,fun _ h=>(by obtain⟨_,_,_,h⟩:=h;cases h),rfl⟩)
 refine M3.sub (fun i v hv=> ?_) (fun _=>rfl) rfl;simp only[Sy.add,bC];have hv':find (Y.kill nm).s i=some v:=hv;by_cases hi:i=x0
 ·rw[hi,hx0 x0 (Nat.le_refl _)]at hv';cases hv'
 ·rw[if_neg hi];exact hv'
theorem qw{α:Type}{n i:Nat}: ∀{l:List (Nat×α)},find (xJ n l) i=if i<n then find l i else none
 | []=>by simp[xJ,find]
 |(j,a)::r=>by
  simp only[xJ];by_cases h:j<n
  ·have h1:decide (j<n)=true:=by simpa using h
   simp only[h1,cond_true,find,qw (l:=r)]
   grind
  ·have h1:decide (j<n)=false:=by simpa using h
   simp only[h1,cond_false,find,qw (l:=r)]
   grind
def oJ(n off:Nat)(s:Nat→D):Nat→D:=fun i=>if i<n then s (off+i)else s (i-n)
theorem BP{h:List (Nat×SO)}: ∀{ps:List Nat} {vs:List SV} {ds:List D} {l:List (Nat×SV)} {s:Nat→D},bz G E ι h vs ds→(∀i v,find l i=some v→VR G E ι h v (s i))→ ∀i v,find (JE ps vs l) i=some v→VR G E ι h v (wg ps ds s i)
 | [],vs,ds,l,s,_,hl,i,v,hf=>by simp only[JE]at hf;simp only[wg];exact hl i v hf
 |p::ps,[],ds,l,s,hv,hl,i,v,hf=>by
  have:ds= []:=List.eq_nil_of_length_eq_zero hv.1.symm;subst this;simp only[JE]at hf;simp only[wg];exact hl i v hf
 |p::ps,u::vs,ds,l,s,hv,hl,i,v,hf=>by
  obtain⟨d,ds',rfl,h1,h2⟩:=hv.cons;refine BP h2 (fun j w hw=> ?_) i v hf;rw[bC]at hw
  grind
theorem Mt.round(M:Mt Ω G E ι γ Y J){n off n0:Nat}{ps:List Nat}{vs:List SV}{ds:List D}(hv:bz G E ι Y.h vs ds):Mt Ω G E ι γ (Y.round n off ps vs n0) ⟨wg ps ds (oJ n off J.s),J.m,J.c⟩:=by
 refine M.u0 rfl rfl fun i v hf=>BP hv (fun j u hu=> ?_) i v hf;rw[eR,qw,ir,oB]at hu;by_cases hj:j<n
 ·rw[if_pos hj,if_neg (show¬n≤j by omega),Option.or_none]at hu;simp only[oJ,if_pos hj];rw[Nat.add_comm];exact M.slot _ _ hu
 ·rw[if_neg hj,if_pos (by omega)]at hu;simp only[oJ,if_neg hj];exact M.slot _ _ hu
end
section
variable {P : Program} {w0 w : World} {pr : aV} {A : iI} {n : Nat} {tk : ai} {J : St} {cs : Array Value}
theorem xB: ∀{ps:List Nat} {vs:List Value} {cs:Array Value},(uQ ps vs cs).size=cs.size
 | [],_,_=>rfl
 |_::_,[],_=>rfl
 |p::ps,v::vs,cs=>by simp only[uQ,xB,Array.size_setIfInBounds]
theorem BQ: ∀{ps:List Nat} {vs:List Value} {ds:List D} {cs:Array Value} {s:Nat→D},aX w pr tk vs ds→(∀i,i<cs.size→aj w pr tk (cs.getD i undef) (s i))→ ∀i,i<cs.size→aj w pr tk ((uQ ps vs cs).getD i undef) (wg ps ds s i)
 | [],_,_,_,_,_,h,i,hi=>h i hi
 |_::_,[],[],_,_,_,h,i,hi=>h i hi
 |_::_,[],_::_,_,_,hr,_,_,_=>absurd hr (by simp[aX])
 |_::_,_::_,[],_,_,hr,_,_,_=>absurd hr (by simp[aX])
 |p::ps,v::vs,d::ds,cs,s,hr,h,i,hi=>by
  refine BQ hr.2 (fun j hj=> ?_) i (by simpa using hi);by_cases hp:p<cs.size
  ·rw[kK hp];by_cases e:j=p
   ·rw[if_pos e,if_pos e];exact hr.1
   ·grind
  ·grind
theorem Fl{n:Nat}: ∀{ps:List Nat} {ds:List D} {s:Nat→D} {i:Nat},(∀p∈ps,p<n)→n≤i→wg ps ds s i=s i
 | [],_,_,_,_,_=>rfl
 |_::_,[],_,_,_,_=>rfl
 |p::ps,d::ds,s,i,hp,hi=>by
  simp only[wg];rw[Fl (fun q hq=>hp q (Cz _ hq)) hi];have:=hp p (List.mem_cons_self ..)
  grind
theorem Rel.round{n0:Nat}(R:Rel P w0 pr A n0 w cs J tk){off:Nat}{T:Array Value}{ps:List Nat}{cargs:List Value}{ds:List D}(hT:T.size=n)(hA: ∀i,i<n→n0≤off+i∧A.sv (off+i)=T.getD i undef)(hr:aX w pr tk cargs ds)(hp: ∀p∈ps,p<n):
  Rel P w0 pr {A with sv:=h_ n n0 cs A.sv} n w (uQ ps cargs T) ⟨wg ps ds (oJ n off J.s),J.m,J.c⟩ tk:=by
 refine⟨by rw[xB];exact hT,R.chg,R.prlt,R.prA,R.glob,R.mem,R.live,R.fresh,R.zero,R.one,fun i hi=> ?_,fun i hi=> ?_⟩
 ·refine BQ hr (fun j hj=> ?_) i (by omega);obtain⟨h1,h2⟩:=hA j (by omega);simp only[oJ,if_pos (show j<n by omega)];rw[←h2];exact R.sav _ h1
 ·show aj w pr tk (h_ n n0 cs A.sv i) (wg ps ds (oJ n off J.s) i);rw[Fl hp hi];simp only[oJ,if_neg (show¬i<n by omega),h_];split
  ·rename_i h;exact R.slot _ h
  ·rename_i h;exact R.sav _ (by omega)
end
end
end Go.Proofs.YtkcfpgaepmllhaaGreatDoor
