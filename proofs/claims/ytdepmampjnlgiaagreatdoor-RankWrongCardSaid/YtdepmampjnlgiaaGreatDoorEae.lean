/- Part of the proof: symbolic execution of the program, its soundness, and the closing lemmas. No condition. -/
import Derived.Test.YtdepmampjnlgiaaGreatDoorEad
namespace Go.Proofs.YtdepmampjnlgiaaGreatDoor
open Go.RowKit
set_option maxRecDepth 100000
set_option linter.all false
section
abbrev kH:X:= .q (.tup [])
def xU(gx e:X):SV:=match gx with
 | .mk (.gv w) [g]=>if cZ e g then .x (.q (.v (.bool w)))else .x e
 |_=> .x e
def strip(gx:X):SV→SV
 | .gd g v=>if cZ g gx then v else .gd g v
 | .x (.ite g e u)=>if cZ g gx then .x e else xU gx (.ite g e u)
 | .x e=>xU gx e
 |v=>v
def PU(gx:X):SV→SV
 | .x e=> .x (.ite gx e kH)
 |v=> .gd gx v
def gf(st:aw)(Y:Sy):Option (Sy×List X):=
 match st with
 | .op x k args none=>(uk Y.h k (args.map (bH Y))).map fun q=>(Y.set x q.1,q.2)
 | .op x k args (some (j,w))=>match find Y.s j with
  |some (.x (.q (.v (.bool b))))=>if b=w then(uk Y.h k (args.map (bH Y))).map fun q=>(Y.set x q.1,q.2)else some (Y.set x (.x kH),[])
  |some (.x g)=>(uk Y.h k (args.map fun a=>strip (.mk (.gv w) [g]) (bH Y a))).map fun q=>(Y.set x (PU (.mk (.gv w) [g]) q.1), .mk (.gv w) [g]::q.2.map fun e=> .ite (.mk (.gv w) [g]) e kH)
  |_=>none
 | .eff e none=>eQ e Y
 | .eff e (some (j,w))=>match find Y.s j with
  |some (.x (.q (.v (.bool b))))=>if b=w then eQ e Y else some (match e.dst with|some x=>(Y.set x (.x kH),[])|none=>(Y,[]))
  |_=>none
 |_=>none
def dU:List aw→Sy→Option (Sy×List X)
 | [],Y=>some (Y,[])
 |st::r,Y=>(gf st Y).bind fun q=>(dU r q.1).map fun p=>(p.1,q.2++p.2)
structure ph where
 x:Nat
 ks:List Nat
 i:Nat
 k:aM
 B:List aw
 y:Nat
 e:Nat
 sz:Nat
 b:aM
 C:List aw
 ks':List Nat
 i':Nat
 k':aM
def aw.Bl:aw→Bool
 | .op .. =>true
 |st=>st.news
def aw.BE:aw→Bool
 | .op .. =>true
 |_=>false
def om(f:List aw→List Nat→Nat→aM→ph)(y:Nat):List aw→List aw→Option (ph×List aw)
 |C, .eff (.mupd ks' (.t i') k' (.t y')) none::R=>if y'=y then some (f C.reverse ks' i' k',R)else none
 |C,st::r=>if st.BE then om f y (st::C) r else none
 |_,[]=>none
def oh(x:Nat)(ks:List Nat)(i:Nat)(k:aM):List aw→List aw→Option (ph×List aw)
 |B, .eff (.app y e sz (.t x') b) none::R=>if x'=x then om (fun C ks' i' k'=>⟨x,ks,i,k,B.reverse,y,e,sz,b,C,ks',i',k'⟩) y [] R else none
 |B,st::r=>if st.Bl then oh x ks i k (st::B) r else none
 |_,[]=>none
def G_:D→Bool
 | .nil=>true
 |_=>false
def mu:List aw→Option (List aw×ph×List aw)
 | []=>none
 | .op x (.lkp ks z ok) [.t i,k] none::r=>match(if G_ z&& !ok then oh x ks i k [] r else none)with
  |some q=>some ([],q)
  |none=>(mu r).map fun p=>(.op x (.lkp ks z ok) [.t i,k] none::p.1,p.2)
 |st::r=>(mu r).map fun p=>(st::p.1,p.2)
def ph.S1(q:ph):aw:= .op q.x (.lkp q.ks .nil false) [.t q.i,q.k] none
def ph.S2(q:ph):aw:= .eff (.app q.y q.e q.sz (.t q.x) q.b) none
def ph.S3(q:ph):aw:= .eff (.mupd q.ks' (.t q.i') q.k' (.t q.y)) none
def ph.all(q:ph):List aw:=q.S1::(q.B++(q.S2::(q.C++ [q.S3])))
def ph.ok(q:ph):Bool:=
 q.B.all (fun st=>st.Bl&&match st.dst with|some d=> !([q.x,q.i]++q.k.reads).contains d|none=>true)&& !([q.i]++q.k.reads).contains q.x&& !([q.i']++q.k'.reads).contains q.y&&q.C.all (fun st=>st.BE&&match st.dst with|some d=>d !=q.y|none=>true)&&(q.ks==q.ks')
def Sy.wH(Y:Sy)(x:Nat):Sy:=Y.set x .un
def Dt(Y:Sy)(i:Nat):Bool:=match find Y.s i with
 |some (.mp n)=>match find Y.h n with
  |some (.bL _ sz _)=>sz !=0
  |_=>false
 |_=>false
def xZ(q:ph)(Y0:Sy):Option (Sy×List X):=
 if q.ok&&Dt Y0 q.i then(dU q.B (Y0.wH q.x)).bind fun p=>(dU q.C (p.1.wH q.y)).bind fun p3=>match find p.1.s q.i,find p3.1.s q.i' with
  |some (.mp n),some (.mp n')=>match find p.1.h n with
   |some (.bL e sz c)=>(bH p.1 q.k).ly.bind fun kx=>(bH p3.1 q.k').ly.bind fun kx'=>(sA p.1.h (bH p.1 q.b)).bind fun cb=>
    if(e=q.e∧sz=q.sz)∧(n'=n∧(sz≠0∧p.1.oO n=true))∧cZ kx kx'=true then
     some ({p3.1 with s:=bF q.y .un p3.1.s,h:=bF n (.bL e sz (.mk (.mapp q.ks sz) [c,kx,cb])) p3.1.h}, .mk (.mapp q.ks sz) [c,kx,cb]::(p.2++p3.2))else none
   |_=>none
  |_,_=>none
 else none
def iA(sts:List aw)(Y:Sy):Option (Sy×List X):=
 match mu sts with
 |some (A,q,R)=>(dU A Y).bind fun p=>(xZ q p.1).bind fun p2=>(dU R p2.1).map fun p3=>(p3.1,p.2++(p2.2++p3.2))
 |none=>dU sts Y
mutual
def dS:SV→SV→Bool
 | .un, .un=>true
 | .x e, .x e'=>cZ e e'
 | .agg vs, .agg us=>lP vs us
 | .tup vs, .tup us=>lP vs us
 | .clo f vs, .clo g us=>f==g&&lP vs us
 | .ptr a b, .ptr a' b'=>a==a'&&b==b'
 | .gl a b, .gl a' b'=>a==a'&&b==b'
 | .ep a b i c, .ep a' b' i' c'=>a==a'&&b==b'&&cZ i i'&&c==c'
 | .dp a b c e i j, .dp a' b' c' e' i' j'=>(a==a'&&b==b'&&c==c'&&e==e'&&j==j')&&cZ i i'
 | .gs a b k, .gs a' b' k'=>(a==a'&&b==b')&&cZ k k'
 | .gc a b k, .gc a' b' k'=>(a==a'&&b==b')&&cZ k k'
 | .gt a b k, .gt a' b' k'=>(a==a'&&b==b')&&cZ k k'
 | .sb a b c, .sb a' b' c'=>a==a'&&b==b'&&c==c'
 | .rb a b, .rb a' b'=>a==a'&&b==b'
 | .mp a, .mp a'=>a==a'
 | .yl a, .yl a'=>a==a'
 | .it a, .it a'=>a==a'
 | .bp a i c, .bp a' i' c'=>(a==a'&&c==c')&&cZ i i'
 | .gd g v, .gd g' v'=>cZ g g'&&dS v v'
 |_,_=>false
def lP:List SV→List SV→Bool
 | [],[]=>true
 |x::r,y::s=>dS x y&&lP r s
 |_,_=>false
end
mutual
theorem jS: ∀(a b:SV),dS a b=true→a=b
 | .un,b,h=>by cases b<;>simp[dS]at h;rfl
 | .x e,b,h=>by cases b<;>simp[dS]at h;rw[aF _ _ h]
 | .agg vs,b,h=>by cases b<;>simp[dS]at h;rw[jT _ _ h]
 | .tup vs,b,h=>by cases b<;>simp[dS]at h;rw[jT _ _ h]
 | .dp a c e s i j,b,h=>by cases b<;>simp[dS]at h;rw[h.1.1.1.1.1,h.1.1.1.1.2,h.1.1.1.2,h.1.1.2,h.1.2,aF _ _ h.2]
 | .gs a c k,b,h=>by cases b<;>simp[dS]at h;rw[h.1.1,h.1.2,aF _ _ h.2]
 | .gc a c k,b,h=>by cases b<;>simp[dS]at h;rw[h.1.1,h.1.2,aF _ _ h.2]
 | .gt a c k,b,h=>by cases b<;>simp[dS]at h;rw[h.1.1,h.1.2,aF _ _ h.2]
 | .sb a c k,b,h=>by cases b<;>simp[dS]at h;rw[h.1.1,h.1.2,h.2]
 | .rb a c,b,h=>by cases b<;>simp[dS]at h;rw[h.1,h.2]
 | .mp a,b,h=>by cases b<;>simp[dS]at h;rw[h]
 | .yl a,b,h=>by cases b<;>simp[dS]at h;rw[h]
 | .it a,b,h=>by cases b<;>simp[dS]at h;rw[h]
 | .bp a i c,b,h=>by cases b<;>simp[dS]at h;rw[h.1.1,h.1.2,aF _ _ h.2]
 | .clo f vs,b,h=>by cases b<;>simp[dS]at h;rw[h.1,jT _ _ h.2]
 | .ptr a o,b,h=>by cases b<;>simp[dS]at h;rw[h.1,h.2]
 | .gl a o,b,h=>by cases b<;>simp[dS]at h;rw[h.1,h.2]
 | .ep a o i c,b,h=>by cases b<;>simp[dS]at h;rw[h.1.1.1,h.1.1.2,aF _ _ h.1.2,h.2]
 | .gd g v,b,h=>by cases b<;>simp[dS]at h;rw[aF _ _ h.1,jS _ _ h.2]
theorem jT: ∀(a b:List SV),lP a b=true→a=b
 | [],b,h=>by cases b<;>simp[lP]at h;rfl
 |x::r,b,h=>by
  cases b<;>simp[lP]at h;rw[jS x _ h.1,jT r _ h.2]
end
def CR:SO→SO→Bool
 | .box vs, .box us=>lP vs us
 | .aA a b c, .aA a' b' c'=>a==a'&&b==b'&&cZ c c'
 | .map c, .map c'=>cZ c c'
 | .bL a b c, .bL a' b' c'=>a==a'&&b==b'&&cZ c c'
 | .raw k, .raw k'=>decide (k=k')
 | .itr m c, .itr m' c'=>decide (m=m')&&cZ c c'
 |_,_=>false
theorem n_{a b:SO}(h:CR a b=true):a=b:=by
 cases a<;>cases b<;>simp[CR]at h
 ·rw[jT _ _ h]
 ·rw[h.1.1,h.1.2,aF _ _ h.2]
 ·rw[aF _ _ h]
 ·rw[h.1.1,h.1.2,aF _ _ h.2]
 ·rw[h]
 ·rw[h.1,aF _ _ h.2]
def Zg{α:Type}(eq:α→α→Bool)(a b:List (Nat×α)):Bool:=a.all fun p=>match find b p.1 with
 |some v=>match find a p.1 with
  |some u=>eq u v
  |none=>false
 |none=>false
theorem kh{α:Type}{eq:α→α→Bool}(he: ∀x y,eq x y=true→x=y){a b:List (Nat×α)}(h:Zg eq a b=true){n:Nat}{v:α}(hf:find a n=some v):find b n=some v:=by
 have:=Tz.1 h _ (jZ hf)
 grind
def subset(a b:List X):Bool:=a.all fun e=>b.any fun e'=>cZ e e'
def xQ(q p:Sy×List X):Bool:=Zg dS q.1.s p.1.s&&Zg CR q.1.h p.1.h&&Zg CR p.1.h q.1.h&&subset p.2 q.2&&q.1.nv==p.1.nv
def f_(P:Program)(fr:mZ)(n:Nat)(ops:Array Oper)(draw:Bool)(Y:Sy):Option (Sy×List X):=
 if draw then match BU P fr n ops with
  |some (s::ss)=>(iA s Y).bind fun q=>if ss.all (fun s'=>match iA s' Y with
   |some p=>xQ q p
   |none=>false)then some q else none
  |_=>none
 else iA (pB P fr n ops) Y
def uo(P:Program)(fr:mZ)(n:Nat)(ops:Array Oper)(c c':Nat)(Y:Sy):Option (Sy×List X):=match xI P fr n ops c c' with
 |some (s::ss)=>(iA s Y).bind fun q=>if ss.all (fun s'=>match iA s' Y with
  |some p=>xQ q p
  |none=>false)then some q else none
 |_=>none
section
variable {Ω : bz} {G : FP} {E : List D} {ι : Im} {γ : Nat → Tok} {Y : Sy} {J : St}
theorem ud{h:List (Nat×SO)}{gx e:X}{d:D}(H:VR G E ι h (.x e) d)(hg:X.ev G E gx=some (bv true)):VR G E ι h (xU gx e) d:=by
 unfold xU;split
 ·rename_i w g;split
  ·rename_i he;obtain⟨h1,_⟩:=H.bQ;rw[aF _ _ he]at h1;obtain⟨ds,a1,a2⟩:=aH hg;obtain⟨dj,rfl,a3⟩:=iP a1;rw[h1]at a3;cases a3;simp only[XK.run]at a2;split at a2
   ·rename_i b heq;simp only[List.cons.injEq,and_true]at heq;subst heq;have:b=w:=by cases b<;>cases w<;>simp_all [bv]
    subst this;exact .x rfl rfl
   ·cases a2
   ·cases a2
  ·exact H
 ·exact H
theorem qg{h:List (Nat×SO)}{gx:X}{v:SV}{d:D}(H:VR G E ι h v d)(hg:X.ev G E gx=some (bv true)):VR G E ι h (strip gx v) d:=by
 unfold strip;split
 ·split
  ·rename_i he;cases H with
   |gd h1 h2 h3=>
    rw[aF _ _ he]at h1
    grind
  ·exact H
 ·split
  ·rename_i he;obtain⟨h1,h2⟩:=H.bQ;simp only[X.ev,aF _ _ he,hg]at h1;exact .x h1 h2
  ·exact ud H hg
 ·exact ud H hg
 ·exact H
theorem ny(M:Mt Ω G E ι γ Y J){st:aw}{Y':Sy}{O:List X}(hs:gf st Y=some (Y',O))(hO: ∀e∈O,∃d,X.ev G E e=some d):
  ∃J' ι' γ',st.run (bg G) J=some J'∧Mt Ω G E ι' γ' Y' J'∧(st.BE=true→ι'=ι∧γ'=γ∧Y'.h=Y.h):=by
 have uB: ∀(f:aM→SV) (args:List aM),(∀a,VR G E ι Y.h (f a) (a.val J.s))→bA G E ι Y.h (args.map f) (args.map (aM.val J.s)):=fun f args hf=>
  ⟨by simp,fun i v d hv hd=>by
   rw[Dz,Mz]at hv hd;obtain⟨g,hg,rfl⟩:=hv;obtain⟨g',hg',rfl⟩:=hd;rw[hg]at hg';cases hg'
   exact hf g⟩
 unfold gf at hs;split at hs
 ·rename_i x k args;obtain⟨⟨v,O'⟩,h1,h2⟩:=Mz.1 hs;cases h2;obtain⟨d,h3,h4⟩:=gG M (uB _ args (ay M)) h1 hO;exact⟨J.set x d,ι,γ,by simp[aw.run,bG,MP,h3],M.set h4,fun _=>⟨rfl,rfl,rfl⟩⟩
 ·rename_i x k args j w;split at hs
  ·rename_i b hg;obtain⟨k1,_⟩:=(M.slot j _ hg).bQ
   have hgd:bG J (some (j,w))=some (b==w):=by
    have:J.s j= .v (.bool b):=(Option.some.inj (show some (D.v (.bool b))=some (J.s j)from k1)).symm;simp[bG,this]
   split at hs
   ·rename_i hbw;subst hbw;obtain⟨⟨v,O'⟩,h1,h2⟩:=Mz.1 hs;cases h2;obtain⟨d,h3,h4⟩:=gG M (uB _ args (ay M)) h1 hO;exact⟨J.set x d,ι,γ,by simp[aw.run,hgd,MP,h3],M.set h4,fun _=>⟨rfl,rfl,rfl⟩⟩
   ·rename_i hbw;cases hs;exact⟨J.set x (.tup []),ι,γ,by simp only[aw.run,hgd,Oz];rw[show(b==w)=false by simpa using hbw];rfl,M.set (.x rfl rfl),fun _=>⟨rfl,rfl,rfl⟩⟩
  ·rename_i g hg;obtain⟨⟨v,O'⟩,h1,h2⟩:=Mz.1 hs;cases h2;obtain⟨db,hdb⟩:=hO _ (List.mem_cons_self ..);obtain⟨ds,a1,a2⟩:=aH hdb;obtain⟨dj,rfl,a3⟩:=iP a1;obtain⟨k1,k2⟩:=(M.slot j _ hg).bQ;rw[k1]at a3;cases a3
   have hgd: ∃b,bG J (some (j,w))=some b∧db=bv b:=by
    simp only[XK.run]at a2;split at a2
    ·rename_i b heq;simp only[List.cons.injEq,and_true]at heq;cases a2;exact⟨_,by simp[bG,heq],rfl⟩
    ·rename_i heq;simp only[List.cons.injEq,and_true]at heq;cases a2;exact⟨_,by simp[bG,heq],rfl⟩
    ·cases a2
   obtain⟨b,hb,rfl⟩:=hgd;cases b
   ·refine⟨J.set x (.tup []),ι,γ,by simp[aw.run,hb],M.set ?_,fun _=>⟨rfl,rfl,rfl⟩⟩;cases v with
    |x e=>exact .x (by simp only[X.ev]at hdb⊢;rw[hdb];rfl) rfl
    |_=>exact .gd hdb (fun h=>by cases h) fun _=>rfl
   ·have hO': ∀e∈O',∃d,X.ev G E e=some d:=fun e he=>by
     obtain⟨d,hd⟩:=hO _ (Cz _ (List.mem_map.2 ⟨e,he,rfl⟩));simp only[X.ev]at hd hdb;rw[hdb]at hd;exact⟨d,hd⟩
    obtain⟨d,h3,h4⟩:=gG M (uB _ args fun a=>qg (ay M a) hdb) h1 hO';refine⟨J.set x d,ι,γ,by simp[aw.run,hb,MP,h3],M.set ?_,fun _=>⟨rfl,rfl,rfl⟩⟩;cases v with
    |x e=>
     obtain⟨h5,h6⟩:=h4.bQ;exact .x (by simp only[X.ev]at hdb⊢;rw[hdb];exact h5) h6
    |_=>exact .gd hdb (fun _=>h4) fun h=>by cases h
  ·cases hs
 ·obtain⟨J',ι',γ',h1,h2⟩:=o9 M hs hO;exact⟨J',ι',γ',by simp[aw.run,bG,h1],h2,fun h=>by cases h⟩
 ·rename_i e j w;split at hs
  ·rename_i b hg;obtain⟨k1,_⟩:=(M.slot j _ hg).bQ
   have hgd:bG J (some (j,w))=some (b==w):=by
    have:J.s j= .v (.bool b):=(Option.some.inj (show some (D.v (.bool b))=some (J.s j)from k1)).symm;simp[bG,this]
   split at hs
   ·rename_i hbw;subst hbw;obtain⟨J',ι',γ',h1,h2⟩:=o9 M hs hO;exact⟨J',ι',γ',by simp[aw.run,hgd,h1],h2,fun h=>by cases h⟩
   ·rename_i hbw;refine⟨J.void e.dst,ι,γ,by simp only[aw.run,hgd,Oz];rw[show(b==w)=false by simpa using hbw];rfl, ?_,fun h=>by cases h⟩;cases hd:e.dst with
    |none=>rw[hd]at hs;cases hs;exact M
    |some x=>rw[hd]at hs;cases hs;exact M.set (.x rfl rfl)
  ·cases hs
 ·cases hs
theorem lh(M:Mt Ω G E ι γ Y J){st:aw}{Y':Sy}{O:List X}(hs:gf st Y=some (Y',O))(hO: ∀e∈O,∃d,X.ev G E e=some d):
  ∃J' ι' γ',st.run (bg G) J=some J'∧Mt Ω G E ι' γ' Y' J':=let⟨J',ι',γ',h1,h2,_⟩:=ny M hs hO;⟨J',ι',γ',h1,h2⟩
theorem eI: ∀{sts:List aw} {Y:Sy} {J:St} {ι:Im} {γ:Nat→Tok} {Y':Sy} {O:List X},Mt Ω G E ι γ Y J→dU sts Y=some (Y',O)→(∀e∈O,∃d,X.ev G E e=some d)→
  ∃J' ι' γ',runs (bg G) sts J=some J'∧Mt Ω G E ι' γ' Y' J'
 | [],Y,J,ι,γ,Y',O,M,hs,_=>by cases hs;exact⟨J,ι,γ,rfl,M⟩
 |st::r,Y,J,ι,γ,Y',O,M,hs,hO=>by
  simp only[dU,Bz,Mz]at hs;obtain⟨⟨Y1,O1⟩,h1,⟨Y2,O2⟩,h2,h3⟩:=hs;cases h3;obtain⟨J1,ι1,γ1,g1,M1⟩:=lh M h1 fun e he=>hO e (by simp[he]);obtain⟨J2,ι2,γ2,g2,M2⟩:=eI M1 h2 fun e he=>hO e (by simp[he]);exact⟨J2,ι2,γ2,by simp[runs,g1,g2],M2⟩
theorem Mt.sub(M:Mt Ω G E ι γ Y J){Z:Sy}(hs: ∀i v,find Z.s i=some v→find Y.s i=some v)(hh: ∀n,find Z.h n=find Y.h n)(hnv:Z.nv=Y.nv):Mt Ω G E ι γ Z J:=by
 have vr: ∀{v:SV} {d:D},VR G E ι Y.h v d→VR G E ι Z.h v d:=fun H=>H.mono (fun _ _ h=>h) fun n _=>⟨rfl,Lk.same (fun _ _ h=>h) (hh n)⟩
 refine⟨fun i v hv=>vr (M.slot i v (hs i v hv)),fun n vs hn=> ?_,fun n e sz c hn=>M.aA n e sz c (by rw[←hh];exact hn),fun n c hn=>M.mpo n c (by rw[←hh];exact hn),fun n e sz c hn=> ?_,fun n n' _ _ _ _ _ _ h1 h2=>M.one n n' _ _ _ _ _ _ (by rw[←hh];exact h1) (by rw[←hh];exact h2),fun n k hn=>M.rwo n k (by rw[←hh];exact hn),
  fun a b o o' h1 h2=>M.inj a b o o' (by rw[←hh];exact h1) (by rw[←hh];exact h2),
  fun a b e e' sz sz' c c' h1 h2=>M.gJ a b e e' sz sz' c c' (by rw[←hh];exact h1) (by rw[←hh];exact h2),M.wf,fun n e sz c hn=>M.old n e sz c (by rw[←hh];exact hn),by rw[hnv];exact M.nv,M.con,
  fun n m c hn=>(M.itr n m c (by rw[←hh];exact hn)).eP rfl rfl (fun _ _ h=>h) fun m' o _ hf ho=>⟨rfl,⟨o,by rw[hh];exact hf,ho⟩,fun es h=>⟨es,h,rfl⟩⟩⟩
 ·obtain⟨ds,h1,h2,h3⟩:=M.box n vs (by rw[←hh];exact hn);exact⟨ds,h1,h2,h3.1,fun i v d hv hd=>vr (h3.2 i v d hv hd)⟩
 ·obtain⟨L,h1,h2,h3,h4⟩:=M.own n e sz c (by rw[←hh];exact hn);exact⟨L,h1,h2,h3,fun q hq=>(h4.1 q hq).eP rfl (fun k o hk=>(h4.1 q hq).2.2.2.1 k o (by rw[←hh];exact hk)) (fun hz k e sz c hk=>(h4.1 q hq).2.2.2.2.1 hz k e sz c (by rw[←hh];exact hk)) fun _=>Nat.le_refl _,h4.2⟩
theorem E_{Γ:Env}{st:aw}{J J':St}(h:st.run Γ J=some J')(hb:st.Bl=true){j:Nat}(hj:st.dst≠some j):J'.s j=J.s j:=by
 cases st with
 |op x k args g=>
  obtain⟨d,rfl,_⟩:=iu h;exact St.cQ _ _ fun e=>hj (by simp[aw.dst,e])
 |eff e g=>
  simp only[aw.run]at h;rw[Bz]at h;obtain⟨c,hc,h⟩:=h;cases c
  ·simp only[cond_false,Jz]at h;subst h;cases hd:e.dst with
   |none=>rfl
   |some y=>exact St.cQ _ _ fun e2=>hj (by simp[aw.dst,hd,e2])
  ·simp only[cond_true]at h
   have fin: ∀{x o d},J.new x o d=J'→e.dst=some x→J'.s j=J.s j:=fun{x o d} h1 h2=>by
    subst h1;exact St.ef fun e3=>hj (by simp[aw.dst,h2,e3])
   cases e with
   |box _ _ x a=>
    simp only[bZ.run,A0]at h;split at h
    ·exact fin (Option.some.inj h) rfl
    ·cases h
   |mks x e size zero a b=>
    simp only[bZ.run,BO]at h;split at h
    ·split at h
     ·exact fin (Option.some.inj h) rfl
     ·cases h
    ·cases h
   |lit x e size len zero places args=>
    simp only[bZ.run,BK]at h;split at h
    ·rw[Bz]at h;obtain⟨cs,_,h⟩:=h;split at h
     ·exact fin (Option.some.inj h) rfl
     ·cases h
    ·cases h
   |acall x e sz f args=>
    simp only[bZ.run,nC]at h;split at h
    ·rw[Bz]at h;obtain⟨q,_,h⟩:=h;split at h
     ·split at h
      ·exact fin (Option.some.inj h) rfl
      ·cases h
     ·cases h
    ·cases h
   |mkm x=>exact fin (Option.some.inj h) rfl
   |mkml x=>exact fin (Option.some.inj h) rfl
   |_=>simp[aw.Bl,aw.news,bZ.news]at hb
 |bad=>cases h
theorem jv{Γ:Env}: ∀{a b:List aw} {J:St},runs Γ (a++b) J=(runs Γ a J).bind (runs Γ b)
 | [],b,J=>rfl
 |st::r,b,J=>by
  simp only[List.cons_append,runs];cases st.run Γ J with
  |none=>rfl
  |some J1=>simp only[Oz];exact jv
theorem nW{Γ:Env}: ∀{sts:List aw} {J J':St},WF J→runs Γ sts J=some J'→(∀st∈sts,st.Bl=true)→lN J.m J'.m∧ ∀j,(∀st∈sts,st.dst≠some j)→J'.s j=J.s j
 | [],J,J',_,h,_=>by cases h;exact⟨fun _ _ h=>h,fun _ _=>rfl⟩
 |st::r,J,J',W,h,hf=>by
  simp only[runs,Bz]at h;obtain⟨J1,h1,h2⟩:=h;have hm:=rP W h1;have hfs:=hf st (List.mem_cons_self ..);obtain⟨k1,k2⟩:=nW hm.1 h2 fun s hs=>hf s (Cz _ hs);refine⟨fun t o ht=>k1 t o ?_,fun j hj=> ?_⟩
  ·cases st with
   |op=>rw[hm.2.2 trivial];exact ht
   |eff e g=>exact hm.2.1 hfs t o ht
   |bad=>cases h1
  ·rw[k2 j fun s hs=>hj s (Cz _ hs)];exact E_ h1 hfs (hj st (List.mem_cons_self ..))
theorem Mt.YX(M:Mt Ω G E ι γ Y J){n e sz y:Nat}{c c':X}{L':List OE}{J':St}(hf:find Y.h n=some (.bL e sz c))(hz:sz≠0)(hit: ∀k d,find Y.h k≠some (.itr (some n) d))(hs: ∀j,j≠y→J'.s j=J.s j)(W:WF J')(hc: ∀y,J.c y≤J'.c y)
  (hm: ∀k o,k≠n→find Y.h k=some o→ι k≠ []→J'.m (ι k)=J.m (ι k)) (lI: ∀t q,J.m t=some (.raw q)→J'.m t=some (.raw q)) (hlen: ∀es,X.ev G E c=some (.list es)→es.length≤L'.length) (he:X.ev G E c'=some (.list (aG (L'.map OE.pr))))
  (hmp:J'.m (ι n)=some (.map (L'.map (OE.en sz)))) (hL:D0 Y.h ι γ J' e sz (ι.e n) L'):Mt Ω G E ι γ {Y with s:=bF y .un Y.s,h:=bF n (.bL e sz c') Y.h} J':=
 M.Q8 hf rfl (fun _ _=>rfl) (fun _ _ _ _=>rfl) hlen (.inl hit) (fun i v hv=>by
  simp only[ba]at hv;by_cases hiy:i=y
  ·rw[if_pos hiy]at hv;cases hv;exact .inl rfl
  ·rw[if_neg hiy]at hv;exact .inr ⟨hv,hs i hiy⟩) W hc hm lI he hmp hL
theorem AE(s:Nat→D)(j:Nat):(aM.t j).val s=s j:=rfl
theorem keys_eq(L:List OE)(sz:Nat):(L.map (OE.en sz)).map Prod.fst=(L.map OE.pr).map Prod.fst:=by
 simp only[List.map_map];rfl
theorem D5(M:Mt Ω G E ι γ Y J){x y i i' n e sz:Nat}{k k' b:aM}{ks:List Nat}{c cb kx:X}(ha:find Y.s i=some (.mp n))(hf:find Y.h n=some (.bL e sz c))(hz:sz≠0)(hit: ∀k d,find Y.h k≠some (.itr (some n) d))
  (hk:(bH Y k).ly=some kx) (hcb:sA Y.h (bH Y b)=some cb) (hO: ∃d,X.ev G E (.mk (.mapp ks sz) [c,kx,cb])=some d)
  (hlk:oI J.m ks .nil false [J.s i,k.val J.s]=some (J.s x)):
  ∃J2,(aw.eff (.app y e sz (.t x) b) none).run (bg G) J=some J2∧Mt Ω G E ι γ (Y.wH y) J2∧(∀j,j≠y→J2.s j=J.s j)∧
   ∀(Y3:Sy) (J3:St),Mt Ω G E ι γ Y3 J3→J3.m=J2.m→J3.c=J2.c→J3.s y=J2.s y→(∀k,find Y3.h k=find Y.h k)→find Y3.s i'=some (.mp n)→(bH Y3 k').ly=some kx→
    ∃J4,(aw.eff (.mupd ks (.t i') k' (.t y)) none).run (bg G) J3=some J4∧Mt Ω G E ι γ {Y3 with s:=bF y .un Y3.s,h:=bF n (.bL e sz (.mk (.mapp ks sz) [c,kx,cb])) Y3.h} J4:=by
 obtain⟨L,o1,o2,o3,o4,o5⟩:=M.own n e sz c hf;have hsi:J.s i= .mp (ι n):=by have:=M.slot i _ ha;generalize J.s i=d at this;cases this;rfl
 obtain⟨d',hd'⟩:=hO;obtain⟨ds0,a1,a2⟩:=aH hd';simp only[X.bh,Bz,Mz]at a1;obtain⟨dc,b1,r1,⟨dk,b2,r2,⟨db,b3,r3,b4,rfl⟩,rfl⟩,rfl⟩:=a1;cases b4;rw[o1]at b1;cases b1;have e1:=aZ (ay M k) hk b2;simp only[XK.run,aQ,Oz,Bz,Mz]at a2;obtain⟨es2,g1,es',g2,rfl⟩:=a2;have hel:=kN M (ay M b) hcb b3 g1;unfold Dq at g2;split at g2
 rotate_left
 ·cases g2
 rename_i bc;obtain⟨Bu,gO,hne⟩:=bc;have gO:bj sz es2=true:=gO;have bS: ¬(es2.all (fun c=>c.length==sz)=false):=by rw[bP gO];simp
 obtain⟨r,hr,g2⟩:=Bz.1 g2;simp only[oI,hsi,o3,←e1]at hlk;rw[if_pos Bu,dP (keys_eq L sz),hr,Oz]at hlk;have sU: ∀(L':List OE),L.length≤L'.length→ ∀es,X.ev G E c=some (.list es)→es.length≤L'.length:=fun L' h0 es h=>by rw[o1]at h;cases h;simpa[aG]using h0
 have Xx: ∀q,q∈L→J.m q.u=some (.row q.g e q.es):=fun q hq=>by rw[(o4 q hq).2.2.1];simp[OE.ob,hz]
 have H6: ∀q,q∈L→fw Y.h ι γ J q:=fun q hq=>⟨n,e,sz,c,L,hf,o3,⟨o4,o5⟩,hq⟩;have hnt:ι n≠J.tok y:=M.du y hf
 have zG: ∀k,find (bF n (.bL e sz c) Y.h) k=find Y.h k:=fun k=>by
  rw[ba]
  grind
 cases r with
 |none=>
  simp only[Bool.false_eq_true,if_false,Jz]at hlk;simp only[]at g2;split at g2<;>cases g2;rename_i hlen;let v:=D.sl (J.tok y) sz 0 es2.length none;let J2:=J.new y (.row (J.tok y) e es2) v;have h2s: ∀j,j≠y→J2.s j=J.s j:=fun j hj=>St.ef hj;have h2y:J2.s y=v:=by simp[J2,St.new,St.set]
  have h2m: ∀t,J2.m t=if t=J.tok y then some (.row (J.tok y) e es2)else J.m t:=fun t=>bT ..
  have h2n:J2.m (ι n)=some (.map (L.map (OE.en sz))):=by rw[h2m,if_neg hnt];exact o3
  have hc2: ∀z,J2.c z=if z=y then J.c z+1 else J.c z:=fun z=>rfl
  have r2:(aw.eff (.app y e sz (.t x) b) none).run (bg G) J=some J2:=by
   simp only[aw.run,bG,Oz,cond_true,bZ.run,AE,←hlk,rY,hel];rw[if_neg bS,if_neg (by simpa using hne),if_pos hlen.2]
  have zL: ∀q,q∈L→J2.m q.u=J.m q.u:=fun q hq=>by rw[h2m,if_neg (Ne.symm (M.bO y (H6 q hq)).1)]
  have M2:=M.YX (y:=y) (c':=c) (L':=L) (J':=J2) hf hz hit h2s (M.wf.new y _ _) (fun z=>by rw[hc2];split<;>omega) (fun j o hj ho hi=>by rw[h2m,if_neg (M.du y ho)]) (fun t q hq=>by rw[h2m,if_neg (fun e=>by rw[e,M.wf.tok y]at hq;cases hq)];exact hq) (sU L (Nat.le_refl _)) o1 h2n
   ⟨fun q hq=>(o4 q hq).eP (zL q hq) (o4 q hq).2.2.2.1 (o4 q hq).2.2.2.2.1 (fun z=>by rw[hc2];split<;>omega),o5⟩
  refine⟨J2,r2,M2.sub (fun i v h=>h) (fun k=>(zG k).symm) rfl,h2s,fun Y3 J3 M3 k1 k2 k3 k4 k5 k6=> ?_⟩;have Qb:J3.s i'= .mp (ι n):=by have:=M3.slot i' _ k5;generalize J3.s i'=d at this;cases this;rfl
  have e2:=aZ (ay M3 k') k6 b2
  have r3:(aw.eff (.mupd ks (.t i') k' (.t y)) none).run (bg G) J3=some (J3.put (ι n) (some (.map (L.map (OE.en sz)++ [(dk,v)])))):=by
   simp only[aw.run,bG,Oz,cond_true,bZ.run,AE,Qb,←e2,k3,h2y,gW,k1,h2n];rw[if_pos ⟨rfl,Bu⟩,dP (keys_eq L sz),hr];simp only[Oz,List.length_map];rw[if_pos (by simpa using hlen.1)]
  refine⟨_,r3, ?_⟩;have hm3: ∀t,(J3.put (ι n) (some (.map (L.map (OE.en sz)++ [(dk,v)])))).m t=if t=ι n then some (.map (L.map (OE.en sz)++ [(dk,v)]))else J3.m t:=fun t=>rfl
  have hf3:find Y3.h n=some (.bL e sz c):=by rw[k4];exact hf
  refine M3.YX (L':=L++ [⟨dk,J.tok y,J.tok y,es2⟩]) hf3 hz (fun k d=>by rw[k4];exact hit k d) (fun j hj=>rfl) (M3.wf.put (by rw[k1,h2n];simp)) (fun z=>Nat.le_refl _) (fun j o hj ho hi=> ?_) (fun t q hq=> ?_) (sU _ (by simp)) ?_ ?_ ⟨fun q hq=> ?_, ?_,fun h=>absurd h hz⟩
  ·rw[hm3,if_neg (fun e=>hj (M3.inj j n _ _ ho hf3 e hi))]
  ·rw[hm3,if_neg (fun e=>by rw[e,k1,h2n]at hq;cases hq)];exact hq
  ·rw[List.map_append];exact hd'
  ·rw[hm3,if_pos rfl,List.map_append];simp[OE.en,hz,v]
  ·rcases List.mem_append.1 hq with hq|hq
   ·refine(o4 q hq).eP ?_ (fun k o ho=>(o4 q hq).2.2.2.1 k o (by rw[←k4];exact ho)) (fun hz k e sz c ho=>(o4 q hq).2.2.2.2.1 hz k e sz c (by rw[←k4];exact ho)) (fun z=> ?_)
    ·rw[hm3,if_neg (M.jF hf (H6 q hq)),k1];exact zL q hq
    ·show J.c z≤J3.c z;rw[k2,hc2];split<;>omega
   ·rw[List.mem_singleton]at hq;subst hq;refine⟨lj J y,fun _=>gO, ?_,fun j o ho=>M.du y (by rw[←k4];exact ho),fun _ j e sz c ho hi=>M.Db y (by rw[←k4];exact ho) hi,fun z j rr hzz=> ?_,fun h=>absurd h hz⟩
    ·rw[hm3,if_neg (Ne.symm hnt),k1,h2m,if_pos rfl];simp[OE.ob,hz]
    ·simp only[St.tok,List.cons.injEq]at hzz;obtain⟨z1,z2,_⟩:=hzz;have:z=y:=by omega
     subst this;show j<J3.c z;rw[k2,hc2,if_pos rfl];omega
  ·rw[List.map_append,List.nodup_append];refine⟨o5.1,by simp,fun a ha' b hb'=> ?_⟩;obtain⟨q,hq,rfl⟩:=List.mem_map.1 ha';simp only[List.map_cons,List.map_nil,List.mem_singleton]at hb';subst hb';exact Ne.symm (M.bO y (H6 q hq)).2
 |some j=>
  obtain⟨p,hp,hpx⟩:=Mz.1 hlk;simp only[Bool.false_eq_true,if_false]at hpx;rw[Dz,Mz]at hp;obtain⟨q,hq,rfl⟩:=hp;simp only[OE.en,if_neg hz]at hpx;simp only[Dz,hq,Pz,OE.pr]at g2;split at g2<;>cases g2;rename_i hlen;have hqm:=Lz hq;obtain⟨q1,q2,_,q4,q5,q6,_⟩:=o4 q hqm;have q2:=q2 hz;have q3:=Xx q hqm;have q5:=q5 hz;have hjl:=(Gz.1 hq).1;let v:=D.sl (J.tok y) sz 0 (q.es.length+es2.length) none;let J2:=(J.aL q.g q.es.length).new y (.row q.g e (q.es.take q.es.length++es2)) v;have h2s: ∀j,j≠y→J2.s j=J.s j:=fun j hj=>by simp only[J2];rw[St.ef hj];rfl
  have h2y:J2.s y=v:=by simp[J2,St.new,St.set]
  have htk:(J.aL q.g q.es.length).tok y=J.tok y:=rfl
  have h2m: ∀t,J2.m t=if t=J.tok y then some (.row q.g e (q.es++es2))else HO.cE q.g q.es.length (J.m t):=fun t=>by
   simp only[J2,bT,htk,List.take_length];rfl
  have h2n:J2.m (ι n)=some (.map (L.map (OE.en sz))):=by rw[h2m,if_neg hnt,o3];rfl
  have hc2: ∀z,J2.c z=if z=y then J.c z+1 else J.c z:=fun z=>rfl
  have r2:(aw.eff (.app y e sz (.t x) b) none).run (bg G) J=some J2:=by
   simp only[aw.run,bG,Oz,cond_true,bZ.run,AE,←hpx,rY,hel];rw[if_neg bS];rw[if_neg (by simpa using hne)];simp only[q3];rw[if_pos ⟨trivial,trivial,hlen,by omega⟩];simp only[if_true];rfl
  have zL: ∀p,p∈L→J2.m p.u=J.m p.u:=fun p hp=>by
   rw[h2m,if_neg (Ne.symm (M.bO y (H6 p hp)).1),Xx p hp];simp only[HO.cE];by_cases hpg:p.g=q.g
   ·obtain⟨m,hm⟩:=List.getElem?_of_mem hp;have hmj:m=j:=pY o5.1 (a:=p.g) (by rw[Dz,hm];rfl) (by rw[Dz,hq,hpg];rfl);subst hmj;rw[hm]at hq;cases hq;rw[if_neg (by omega)]
   ·rw[if_neg fun hh=>hpg hh.1]
  have Vr: ∀o:HO,(∀e es,o≠ .row q.g e es)→HO.cE q.g q.es.length (some o)=some o:=fun o ho=>by
   cases o with
   |row g' e' es'=>simp only[HO.cE];rw[if_neg fun hh=>ho e' es' (by rw[hh.1])]
   |_=>rfl
  have UW: ∀j o,find Y.h j=some o→ι j≠ []→J2.m (ι j)=J.m (ι j):=fun j o ho hi=>by
   rw[h2m,if_neg (M.du y ho)];cases o with
   |box vs=>obtain⟨_,_,h,_⟩:=M.box j vs ho;rw[h];rfl
   |map c=>obtain⟨_,_,_,h⟩:=M.mpo j c ho;rw[h];rfl
   |bL e' sz' c=>obtain⟨_,_,_,h,_⟩:=M.own j e' sz' c ho;rw[h];rfl
   |raw kk=>obtain⟨_,_,h,_⟩:=M.rwo j kk ho;rw[h];rfl
   |itr m0 c0=>obtain⟨_,_,_,_,h,_⟩:=M.itr j _ _ ho;rw[h];rfl
   |aA e' sz' c'=>
    obtain⟨es3,_,_,h⟩:=M.aA j _ _ _ ho;rcases h with⟨h,_⟩|⟨_,h⟩
    ·exact absurd h hi
    ·rw[h];exact Vr _ fun e2 es4 h2=>q5 j _ _ _ ho hi (by injection h2)
  have M2:=M.YX (y:=y) (c':=c) (L':=L) (J':=J2) hf hz hit h2s ((M.wf.aL _ _).new y _ _) (fun z=>by rw[hc2];split<;>omega) (fun j o hj ho hi=>UW j o ho hi) (fun t o ho=>by rw[h2m,if_neg (fun e=>by rw[e,M.wf.tok y]at ho;cases ho),ho];rfl) (sU L (Nat.le_refl _)) o1 h2n
   ⟨fun q hq=>(o4 q hq).eP (zL q hq) (o4 q hq).2.2.2.1 (o4 q hq).2.2.2.2.1 (fun z=>by rw[hc2];split<;>omega),o5⟩
  refine⟨J2,r2,M2.sub (fun i v h=>h) (fun k=>(zG k).symm) rfl,h2s,fun Y3 J3 M3 k1 k2 k3 k4 k5 k6=> ?_⟩;have Qb:J3.s i'= .mp (ι n):=by have:=M3.slot i' _ k5;generalize J3.s i'=d at this;cases this;rfl
  have e2:=aZ (ay M3 k') k6 b2;let o4':HO:= .map ((L.map (OE.en sz)).set j (q.k,v))
  have r3:(aw.eff (.mupd ks (.t i') k' (.t y)) none).run (bg G) J3=some (J3.put (ι n) (some o4')):=by
   simp only[aw.run,bG,Oz,cond_true,bZ.run,AE,Qb,←e2,k3,h2y,gW,k1,h2n];rw[if_pos ⟨rfl,Bu⟩,dP (keys_eq L sz),hr];simp only[Oz,Dz,hq,Pz,OE.en];rfl
  refine⟨_,r3, ?_⟩;have hm3: ∀t,(J3.put (ι n) (some o4')).m t=if t=ι n then some o4' else J3.m t:=fun t=>rfl
  have hf3:find Y3.h n=some (.bL e sz c):=by rw[k4];exact hf
  have Ew:(L.set j ⟨q.k,J.tok y,q.g,q.es++es2⟩).map (OE.en sz)=(L.map (OE.en sz)).set j (q.k,v):=by
   rw[List.map_set];simp only[OE.en,if_neg hz,v,List.length_append]
  have UG:(L.set j ⟨q.k,J.tok y,q.g,q.es++es2⟩).map OE.pr=(L.map OE.pr).set j (q.k, .list (q.es++es2)):=by
   rw[List.map_set];rfl
  have UH:(L.set j ⟨q.k,J.tok y,q.g,q.es++es2⟩).map OE.g=L.map OE.g:=by
   rw[List.map_set];refine List.ext_getElem? fun m=> ?_;rw[List.getElem?_set];by_cases hmj:j=m
   ·subst hmj;rw[if_pos rfl,if_pos (by simpa using hjl),Dz,hq];rfl
   ·rw[if_neg hmj]
  refine M3.YX (L':=L.set j ⟨q.k,J.tok y,q.g,q.es++es2⟩) hf3 hz (fun k d=>by rw[k4];exact hit k d) (fun j hj=>rfl) (M3.wf.put (by rw[k1,h2n];simp)) (fun z=>Nat.le_refl _) (fun j o hj ho hi=> ?_) (fun t o ho=> ?_) (sU _ (by simp)) ?_ ?_ ⟨fun p hp=> ?_,by rw[UH];exact o5.1,fun h=>absurd h hz⟩
  ·rw[hm3,if_neg (fun e=>hj (M3.inj j n _ _ ho hf3 e hi))]
  ·rw[hm3,if_neg (fun e=>by rw[e,k1,h2n]at ho;cases ho)];exact ho
  ·rw[UG];exact hd'
  ·rw[hm3,if_pos rfl,Ew]
  ·have hcz: ∀z,J.c z≤J3.c z:=fun z=>by rw[k2,hc2];split<;>omega
   obtain⟨m,hm⟩:=List.getElem?_of_mem hp;rw[List.getElem?_set]at hm;by_cases hmj:j=m
   ·rw[if_pos hmj,if_pos hjl]at hm;cases hm;refine⟨lj J y,fun _=>jI q2 gO, ?_,fun j o ho=>M.du y (by rw[←k4];exact ho),fun _ j e sz c ho=>q5 j e sz c (by rw[←k4];exact ho),fun z j rr hz=>Nat.lt_of_lt_of_le (q6 z j rr hz) (hcz z),fun h=>absurd h hz⟩;rw[hm3,if_neg (Ne.symm hnt),k1,h2m,if_pos rfl];simp[OE.ob,hz]
   ·rw[if_neg hmj]at hm;have hpm:=Lz hm;refine(o4 p hpm).eP ?_ (fun k o ho=>(o4 p hpm).2.2.2.1 k o (by rw[←k4];exact ho)) (fun hz k e sz c ho=>(o4 p hpm).2.2.2.2.1 hz k e sz c (by rw[←k4];exact ho)) hcz;rw[hm3,if_neg (M.jF hf (H6 p hpm)),k1];exact zL p hpm
theorem Jn(M:Mt Ω G E ι γ Y J){i n e sz:Nat}{k:aM}{ks:List Nat}{c cb kx:X}(ha:find Y.s i=some (.mp n))(hf:find Y.h n=some (.bL e sz c))
  (hk:(bH Y k).ly=some kx) (hO: ∃d,X.ev G E (.mk (.mapp ks sz) [c,kx,cb])=some d): ∃d,oI J.m ks .nil false [J.s i,k.val J.s]=some d:=by
 obtain⟨L,o1,o2,o3,o4,o5⟩:=M.own n e sz c hf;have hsi:J.s i= .mp (ι n):=by have:=M.slot i _ ha;generalize J.s i=d at this;cases this;rfl
 obtain⟨d',hd'⟩:=hO;obtain⟨ds0,a1,a2⟩:=aH hd';simp only[X.bh,Bz,Mz]at a1;obtain⟨dc,b1,r1,⟨dk,b2,r2,⟨db,b3,r3,b4,rfl⟩,rfl⟩,rfl⟩:=a1;cases b4;rw[o1]at b1;cases b1;have e1:=aZ (ay M k) hk b2;simp only[XK.run,aQ,Oz,Bz,Mz]at a2;obtain⟨es2,g1,es',g2,rfl⟩:=a2;unfold Dq at g2;split at g2
 rotate_left
 ·cases g2
 rename_i bc;obtain⟨r,hr,g2⟩:=Bz.1 g2;simp only[oI,hsi,o3,←e1];rw[if_pos bc.1,dP (keys_eq L sz),hr,Oz];cases r with
 |none=>exact⟨_,rfl⟩
 |some j=>
  grind
theorem zX(M:Mt Ω G E ι γ Y J){i:Nat}(h:Dt Y i=true): ∃t es,J.s i= .mp t∧J.m t=some (.map es):=by
 unfold Dt at h;split at h
 ·rename_i n hs;split at h
  ·rename_i e sz c hf;obtain⟨L,_,_,o3,_⟩:=M.own n _ _ _ hf;have:=M.slot i _ hs;generalize J.s i=d at this;cases this;exact⟨_,_,rfl,o3⟩
  ·cases h
 ·cases h
theorem oq{f:List aw→List Nat→Nat→aM→ph}{y:Nat}(hf: ∀C ks' i' k',(f C ks' i' k').C=C∧(f C ks' i' k').S3= .eff (.mupd ks' (.t i') k' (.t y)) none): ∀{r C:List aw} {q:ph} {R:List aw},om f y C r=some (q,R)→
  (∃C' ks' i' k',q=f C' ks' i' k')∧C.reverse++r=q.C++ [q.S3]++R
 | [],C,q,R,h=>by cases C<;>simp[om]at h
 |st::r,C,q,R,h=>by
  unfold om at h;split at h
  ·grind
  ·rename_i heq;cases heq;split at h
   ·obtain⟨h1,h2⟩:=oq hf h
    grind
   ·cases h
  ·grind
theorem oi{x:Nat}{ks:List Nat}{i:Nat}{k:aM}: ∀{r B:List aw} {q:ph} {R:List aw},oh x ks i k B r=some (q,R)→q.x=x∧q.ks=ks∧q.i=i∧q.k=k∧B.reverse++r=q.B++(q.S2::(q.C++ [q.S3]))++R
 | [],B,q,R,h=>by cases B<;>simp[oh]at h
 |st::r,B,q,R,h=>by
  unfold oh at h;split at h
  ·rename_i heq;cases heq;split at h
   ·rename_i hc;subst hc;obtain⟨⟨C',ks',i',k',rfl⟩,h2⟩:=oq (fun _ _ _ _=>⟨rfl,rfl⟩) h;simp only[List.reverse_nil,List.nil_append]at h2;rw[h2];simp[ph.S2]
   ·cases h
  ·rename_i heq;cases heq;split at h
   ·obtain⟨h1,h2,h3,h4,h5⟩:=oi h
    grind
   ·cases h
  ·grind
theorem o_: ∀{sts:List aw} {Y:Sy} {J:St} {Y':Sy} {O:List X},Mt Ω G E ι γ Y J→sts.all aw.BE=true→dU sts Y=some (Y',O)→(∀e∈O,∃d,X.ev G E e=some d)→
  ∃J',runs (bg G) sts J=some J'∧Mt Ω G E ι γ Y' J'∧J'.m=J.m∧J'.c=J.c∧Y'.h=Y.h
 | [],Y,J,Y',O,M,_,hs,_=>by cases hs;exact⟨J,rfl,M,rfl,rfl,rfl⟩
 |st::r,Y,J,Y',O,M,ho,hs,hO=>by
  simp only[List.all_cons,Az]at ho;simp only[dU,Bz,Mz]at hs;obtain⟨⟨Y1,O1⟩,h1,⟨Y2,O2⟩,h2,h3⟩:=hs;cases h3
  have one: ∃J1,st.run (bg G) J=some J1∧Mt Ω G E ι γ Y1 J1∧J1.m=J.m∧J1.c=J.c∧Y1.h=Y.h:=by
   obtain⟨J1,ι1,γ1,g1,g2,g3⟩:=ny M h1 fun e he=>hO e (by simp[he]);cases st with
   |op x k args g=>
    obtain⟨rfl,rfl,hh⟩:=g3 rfl;obtain⟨d,rfl,_⟩:=iu g1;exact⟨_,g1,g2,rfl,rfl,hh⟩
   |_=>simp[aw.BE]at ho
  obtain⟨J1,g1,M1,k1,k2,k3⟩:=one;obtain⟨J2,g2,M2,k4,k5,k6⟩:=o_ M1 ho.2 h2 fun e he=>hO e (by simp[he]);exact⟨J2,by simp[runs,g1,g2],M2,k4.trans k1,k5.trans k2,k6.trans k3⟩
theorem jJ: ∀{sts A:List aw} {q:ph} {R:List aw},mu sts=some (A,q,R)→sts=A++(q.all++R)
 | [],A,q,R,h=>by cases h
 |st::r,A,q,R,h=>by
  unfold mu at h;split at h
  ·grind
  ·rename_i heq;cases heq;rename_i x ks z ok i k;split at h
   ·rename_i q' hq;cases h;split at hq
    ·rename_i hz;obtain⟨h1,h2,h3,h4,h5⟩:=oi hq;simp only[Az,Bool.not_eq_true']at hz;have hz1:z= .nil:=by cases z<;>simp[G_]at hz;rfl
     obtain rfl:=hz.2;subst hz1;simp only[List.reverse_nil,List.nil_append]at h5;rw[h5];simp[ph.all,ph.S1,h1,h2,h3,h4]
    ·cases hq
   ·obtain⟨p,hp,h2⟩:=Mz.1 h;obtain⟨A',q',R'⟩:=p;cases h2;have:=jJ hp;simp[this]
  ·rename_i heq;cases heq;obtain⟨p,hp,h2⟩:=Mz.1 h;obtain⟨A',q',R'⟩:=p;cases h2;have:=jJ hp;simp[this]
theorem x5(M:Mt Ω G E ι γ Y J){q:ph}{Y':Sy}{O:List X}(hs:xZ q Y=some (Y',O))(hO: ∀e∈O,∃d,X.ev G E e=some d):
  ∃J' ι' γ',runs (bg G) q.all J=some J'∧Mt Ω G E ι' γ' Y' J':=by
 unfold xZ at hs;by_cases hok:(q.ok&&Dt Y q.i)=true
 rotate_left
 ·grind
 rw[if_pos hok]at hs;rw[Bz]at hs;obtain⟨⟨Y1,O1⟩,h1,hs⟩:=hs;rw[Bz]at hs;obtain⟨⟨Y3,O3⟩,h3,hs⟩:=hs;simp only[]at hs h3;split at hs
 rotate_left
 ·cases hs
 rename_i n n' hi hi';split at hs
 rotate_left
 ·cases hs
 rename_i e sz c hf;simp only[Bz]at hs;obtain⟨kx,hk,kx',hk',cb,hcb,hs⟩:=hs;split at hs<;>cases hs;rename_i hc;obtain⟨⟨rfl,rfl⟩,⟨rfl,hz,hit⟩,hbe⟩:=hc;obtain rfl:=aF _ _ hbe;simp only[Az,ph.ok,beq_iff_eq]at hok;obtain⟨⟨⟨⟨⟨ok1,ok2⟩,ok3⟩,ok5⟩,ok4⟩,hat⟩:=hok
 have VK:q.x≠q.i∧q.x∉q.k.reads:=by
  grind
 have TH: ∀st∈q.B,st.Bl=true:=fun st hst=>by
  have:=Tz.1 ok1 st hst
  grind
 have PC: ∀j,(j=q.x∨j=q.i∨j∈q.k.reads)→ ∀st∈q.B,st.dst≠some j:=fun j hj st hst hd=>by
  have:=Tz.1 ok1 st hst
  grind
 have opC:q.C.all aw.BE=true:=Tz.2 fun st hst=>by
  have:=Tz.1 ok5 st hst;simp only[Az]at this;exact this.1
 have TI: ∀st∈q.C,st.Bl=true:=fun st hst=>by
  have:=Tz.1 opC st hst;cases st<;>first|rfl|(simp[aw.BE]at this;done)
 have Z4: ∀st∈q.C,st.dst≠some q.y:=fun st hst hd=>by
  have:=Tz.1 ok5 st hst;simp[hd]at this
 have hOm: ∃d,X.ev G E (.mk (.mapp q.ks q.sz) [c,kx,cb])=some d:=hO _ (by simp);obtain⟨t,es0,t1,t2⟩:=zX M hat;let d1:=(oI J.m q.ks .nil false [J.s q.i,q.k.val J.s]).getD .undef;let J1:=J.set q.x d1;have M1:Mt Ω G E ι γ (Y.wH q.x) J1:=M.set .un;obtain⟨J2,ι2,γ2,g2,M2⟩:=eI M1 h1 fun e he=>hO e (by simp[he]);obtain⟨fm,fs⟩:=nW M1.wf g2 TH;have si:J2.s q.i=J.s q.i:=by rw[fs _ (PC _ (.inr (.inl rfl)))];exact St.cQ _ _ (Ne.symm VK.1)
 have sk:q.k.val J2.s=q.k.val J.s:=val_congr fun j hj=>by
  rw[fs _ (PC _ (.inr (.inr hj)))];exact St.cQ _ _ fun e=>VK.2 (e▸hj)
 have sx:J2.s q.x=d1:=by rw[fs _ (PC _ (.inl rfl))];exact St.ub _ _ _
 obtain⟨d,hd⟩:=Jn M2 hi hf hk hOm
 have hl:oI J.m q.ks .nil false [J.s q.i,q.k.val J.s]=some d:=by
  rw[si,sk]at hd;have m2:J2.m t=some (.map es0):=fm t _ t2;rw[t1]at hd⊢;simp only[oI,m2]at hd;simp only[oI,t2];exact hd
 have hd1:d1=d:=by simp only[d1,hl,Option.getD_some]
 obtain⟨J3,r3,M3,fs3,fin⟩:=D5 M2 (x:=q.x) (y:=q.y) (i':=q.i') (k':=q.k') hi hf hz (fun k d h=>nR hit h) hk hcb hOm (by rw[hd,sx,hd1]);obtain⟨J4,r4,M4,m4,c4,hh4⟩:=o_ M3 opC h3 fun e he=>hO e (by simp[he]);obtain⟨_,fs4⟩:=nW M3.wf r4 TI;obtain⟨J5,r5,M5⟩:=fin Y3 J4 M4 m4 c4 (fs4 _ Z4) (fun k=>by rw[hh4];rfl) hi' hk';refine⟨J5,ι2,γ2, ?_,M5⟩
 have r1:q.S1.run (bg G) J=some J1:=by
  simp only[ph.S1,aw.run,bG,Oz,cond_true,MP,List.map_cons,List.map_nil,AE,PK.run,hl,Pz];simp only[J1,hd1]
 have e4:q.S3= .eff (.mupd q.ks (.t q.i') q.k' (.t q.y)) none:=by simp only[ph.S3,←ok4]
 have r2:q.S2.run (bg G) J2=some J3:=r3;simp only[ph.all,runs,r1,Oz,jv,g2,r2,r4];rw[e4,r5];rfl
theorem eW{sts:List aw}{Y:Sy}{J:St}{ι:Im}{γ:Nat→Tok}{Y':Sy}{O:List X}(M:Mt Ω G E ι γ Y J)(hs:iA sts Y=some (Y',O))(hO: ∀e∈O,∃d,X.ev G E e=some d):
  ∃J' ι' γ',runs (bg G) sts J=some J'∧Mt Ω G E ι' γ' Y' J':=by
 unfold iA at hs;split at hs
 ·rename_i A q R hsp;simp only[Bz,Mz]at hs;obtain⟨⟨Y1,O1⟩,h1,⟨Y2,O2⟩,h2,⟨Y3,O3⟩,h3,h4⟩:=hs;cases h4;obtain⟨J1,ι1,γ1,g1,M1⟩:=eI M h1 fun e he=>hO e (by simp[he]);obtain⟨J2,ι2,γ2,g2,M2⟩:=x5 M1 h2 fun e he=>hO e (by simp[he]);obtain⟨J3,ι3,γ3,g3,M3⟩:=eI M2 h3 fun e he=>hO e (by simp[he]);exact⟨J3,ι3,γ3,by rw[jJ hsp,jv,g1,Oz,jv,g2,Oz,g3],M3⟩
 ·exact eI M hs hO
end
section
variable {P : Program} {fr : mZ} {B : eo} {n : Nat} {r : Option Nat} {Ω : bz} {G : FP} {E : List D}
theorem rh(hG:Sound P (bg G))(hm:P.follows .mixedOrders=true){id:Nat}{ops:Array Oper}{draw:Bool}{Y Y':Sy}{O:List X}{J:St}{ι:Im}{γ:Nat→Tok}{a:Act}{w:World}{Q:Exit→Act→World→Prop}
  (hs:f_ P fr n ops draw Y=some (Y',O)) (hO: ∀e∈O,∃d,X.ev G E e=some d) (M:Mt Ω G E ι γ Y J) (R:bW P B n w a.tmps J)
  (hQ: ∀a' w' J' ι' γ',a'.defers=a.defers→bW P B n w' a'.tmps J'→Mt Ω G E ι' γ' Y' J'→Q .normal a' w'):Code.rj r P (Code.region id ops draw) Q a w:=by
 unfold f_ at hs;cases draw
 ·simp only[Bool.false_eq_true]at hs;obtain⟨J',ι',γ',h1,h2⟩:=eW M hs hO;exact xO hG R h1 fun a' w' hd R'=>hQ a' w' J' ι' γ' hd R' h2
 ·simp only[if_true]at hs;split at hs
  ·rename_i s ss ho;rw[Bz]at hs;obtain⟨q,h1,hs⟩:=hs;split at hs
   ·rename_i bS;cases hs;refine ze (K:=fun J'=> ∃ι' γ',Mt Ω G E ι' γ' Y' J') hG hm R ho (fun s' hs'=> ?_) fun a' w' J' hd R' ⟨ι',γ',M'⟩=>hQ a' w' J' ι' γ' hd R' M';rcases List.mem_cons.1 hs' with rfl|hs'
    ·obtain⟨J',ι',γ',g1,g2⟩:=eW M h1 hO
     grind
    ·have:=Tz.1 bS s' hs';split at this
     ·rename_i p hp;simp only[xQ,Az,beq_iff_eq]at this;obtain⟨⟨⟨⟨k1,k2⟩,k3⟩,k4⟩,k5⟩:=this
      obtain⟨J',ι',γ',g1,g2⟩:=eW M hp fun e he=>by
       obtain⟨e',he',hee⟩:=List.any_eq_true.1 (Tz.1 k4 e he);rw[aF _ _ hee];exact hO e' he'
      refine⟨J',g1,ι',γ',g2.sub (fun i v hv=>kh jS k1 hv) (fun m=> ?_) k5⟩;cases hz:find Y'.h m with
      |some o=>exact(kh (fun _ _=>n_) k2 hz).symm
      |none=>
       cases hy:find p.1.h m with
       |none=>rfl
       |some o=>have:=kh (fun _ _=>n_) k3 hy;rw[hz]at this;cases this
     ·grind
   ·cases hs
  ·cases hs
theorem yj(hG:Sound P (bg G)){c c':Nat}{ops:Array Oper}{Y Y':Sy}{O:List X}{J:St}{ι:Im}{γ:Nat→Tok}{a:Act}{w:World}{Q:Exit→Act→World→Prop}
  (hs:uo P fr n ops c c' Y=some (Y',O)) (hO: ∀e∈O,∃d,X.ev G E e=some d) (M:Mt Ω G E ι γ Y J) (R:bW P B n w a.tmps J)
  (hQ: ∀a' w' J' ι' γ',a'.defers=a.defers→bW P B n w' a'.tmps J'→Mt Ω G E ι' γ' Y' J'→ql r P ops Q c' a' w'):ql r P ops Q c a w:=by
 unfold uo at hs;split at hs
 ·rename_i s ss ho;rw[Bz]at hs;obtain⟨q,h1,hs⟩:=hs;split at hs
  ·rename_i bS;cases hs;refine Fc (K:=fun J'=> ∃ι' γ',Mt Ω G E ι' γ' Y' J') hG R ho (fun s' hs'=> ?_) fun a' w' J' hd R' ⟨ι',γ',M'⟩=>hQ a' w' J' ι' γ' hd R' M';rcases List.mem_cons.1 hs' with rfl|hs'
   ·obtain⟨J',ι',γ',g1,g2⟩:=eW M h1 hO;exact⟨J',g1,ι',γ',g2⟩
   ·have:=Tz.1 bS s' hs';split at this
    ·rename_i p hp;simp only[xQ,Az,beq_iff_eq]at this;obtain⟨⟨⟨⟨k1,k2⟩,k3⟩,k4⟩,k5⟩:=this
     obtain⟨J',ι',γ',g1,g2⟩:=eW M hp fun e he=>by
      obtain⟨e',he',hee⟩:=List.any_eq_true.1 (Tz.1 k4 e he);rw[aF _ _ hee];exact hO e' he'
     refine⟨J',g1,ι',γ',g2.sub (fun i v hv=>kh jS k1 hv) (fun m=> ?_) k5⟩;cases hz:find Y'.h m with
     |some o=>exact(kh (fun _ _=>n_) k2 hz).symm
     |none=>
      cases hy:find p.1.h m with
      |none=>rfl
      |some o=>have:=kh (fun _ _=>n_) k3 hy;rw[hz]at this;cases this
    ·cases this
  ·cases hs
 ·cases hs
end
end
section
def sZ{α:Type}(p:Nat→Bool):List (Nat×α)→List (Nat×α)
 | []=> []
 |(i,a)::r=>bif p i then(i,a)::sZ p r else sZ p r
theorem pI{α:Type}(p:Nat→Bool): ∀(l:List (Nat×α)) {k:Nat} {v:α},find (sZ p l) k=some v→find l k=some v
 | [],_,_,h=>h
 |(i,a)::r,k,v,h=>by
  simp only[sZ]at h;simp only[find];cases hi:i==k with
  |true=>
   have:i=k:=by simpa using hi
   subst this;cases hc:p i with
   |true=>rw[hc]at h;simp only[cond_true,find,beq_self_eq_true]at h;exact h
   |false=>
    have none: ∀l:List (Nat×α),find (sZ p l) i=none:=by
     intro l
     induction l with
     |nil=>rfl
     |cons q l ih=>
      obtain⟨j,b⟩:=q;simp only[sZ];cases hj:p j with
      |false=>simpa using ih
      |true=>
       simp only[cond_true,find]
       grind
    grind
  |false=>
   cases hc:p i with
   |true=>rw[hc]at h;simp only[cond_true,find,hi]at h;exact pI p r h
   |false=>rw[hc]at h;exact pI p r h
def Km:List Nat→Nat→Bool
 | [],_=>false
 |a::r,n=>bif Nat.beq a n then true else Km r n
def Sy.trim(n:Nat)(ks:List Nat)(Y:Sy):Sy:={Y with s:=sZ (fun i=>Nat.ble n i||Km ks i) Y.s}
theorem Mt.trim{Ω:bz}{G:FP}{E:List D}{ι:Im}{γ:Nat→Tok}{Y:Sy}{J:St}(M:Mt Ω G E ι γ Y J)(n:Nat)(ks:List Nat):Mt Ω G E ι γ (Y.trim n ks) J:=M.sub (fun _ _ h=>pI _ _ h) (fun _=>rfl) rfl
def isAtom:X→Bool
 | .t _| .q _=>true
 | .mk (.cell _ _) [.t _]=>true
 |_=>false
def JW:List X→X→Nat→Option Nat
 | [],_,_=>none
 |a::r,e,i=>if cZ a e then some i else JW r e (i+1)
def sg(k:Nat)(acc:List X)(e:X):X×List X:=
 match e with
 | .t i=>(.t i,acc)
 |e=>match JW acc e 0 with
  |some i=>(.t (k+i),acc)
  |none=>(.t (k+acc.length),acc++ [e])
def fM(k:Nat)(acc:List X)(e:X):X×List X:=
 if isAtom e then(e,acc)else match e with
 | .mk (.cell j n) [e']=>(.mk (.cell j n) [(sg k acc e').1],(sg k acc e').2)
 |e=>sg k acc e
mutual
def b_(k:Nat)(acc:List X):SV→SV×List X
 | .x e=>(.x (fM k acc e).1,(fM k acc e).2)
 | .agg vs=>(.agg (dN k acc vs).1,(dN k acc vs).2)
 | .tup vs=>(.tup (dN k acc vs).1,(dN k acc vs).2)
 | .clo f vs=>(.clo f (dN k acc vs).1,(dN k acc vs).2)
 | .bp n i o=>(.bp n (fM k acc i).1 o,(fM k acc i).2)
 |v=>(v,acc)
def dN(k:Nat)(acc:List X):List SV→List SV×List X
 | []=>([],acc)
 |v::r=>((b_ k acc v).1::(dN k (b_ k acc v).2 r).1,(dN k (b_ k acc v).2 r).2)
end
def lz(k:Nat):List X→List (Nat×SV)→List (Nat×SV)×List X
 |acc,[]=>([],acc)
 |acc,(i,v)::r=>((i,(b_ k acc v).1)::(lz k (b_ k acc v).2 r).1,(lz k (b_ k acc v).2 r).2)
def fL(k:Nat)(acc:List X):SO→SO×List X
 | .box vs=>(.box (dN k acc vs).1,(dN k acc vs).2)
 | .aA e sz c=>(.aA e sz (fM k acc c).1,(fM k acc c).2)
 | .map c=>(.map (fM k acc c).1,(fM k acc c).2)
 | .bL e sz c=>(.bL e sz (fM k acc c).1,(fM k acc c).2)
 | .raw q=>(.raw q,acc)
 | .itr m c=>(.itr m (fM k acc c).1,(fM k acc c).2)
def m_(k:Nat):List X→List (Nat×SO)→List (Nat×SO)×List X
 |acc,[]=>([],acc)
 |acc,(i,o)::r=>((i,(fL k acc o).1)::(m_ k (fL k acc o).2 r).1,(m_ k (fL k acc o).2 r).2)
def Sy.atom(Y:Sy):Sy×List X:=
 ({Y with s:=(lz Y.nv [] Y.s).1,h:=(m_ Y.nv (lz Y.nv [] Y.s).2 Y.h).1,nv:=Y.nv+(m_ Y.nv (lz Y.nv [] Y.s).2 Y.h).2.length},(m_ Y.nv (lz Y.nv [] Y.s).2 Y.h).2)
def nZ(a b:List X):Prop:= ∃s,b=a++s
theorem nZ.refl(a:List X):nZ a a:=⟨[],by simp⟩
theorem nZ.trans{a b c:List X}(h:nZ a b)(k:nZ b c):nZ a c:=by
 obtain⟨s,rfl⟩:=h;obtain⟨t,rfl⟩:=k;exact⟨s++t,by simp⟩
theorem vO: ∀{l:List X} {e:X} {i k:Nat},JW l e i=some k→i≤k∧l[k-i]?=some e
 | [],_,_,_,h=>by cases h
 |a::r,e,i,k,h=>by
  simp only[JW]at h;split at h
  ·rename_i he;rw[←aF _ _ he]
   grind
  ·obtain⟨h1,h2⟩:=vO h
   grind
section
variable {G : FP} {E ds : List D} {ι : Im} {γ : Nat → Tok}
theorem nG{k:Nat}{acc:List X}{e:X}:nZ acc (sg k acc e).2∧ ∀{fin:List X} {d:D},nZ (sg k acc e).2 fin→X.bh G E fin=some ds→E.length=k→X.ev G E e=some d→X.ev G (E++ds) (sg k acc e).1=some d:=by
 have look: ∀{fin:List X} {d:D} {i:Nat} {e:X},fin[i]?=some e→X.bh G E fin=some ds→E.length=k→X.ev G E e=some d→X.ev G (E++ds) (.t (k+i))=some d:=fun{fin d i e} hf he hk hd=>by
  have hl:=dg he;have hi:=(Gz.1 hf).1;have h1:=Ez (show i<ds.length by omega);have h2:=eZ he i _ _ hf h1;simp only[X.ev]
  grind
 unfold sg;split
 ·exact⟨nZ.refl _,fun _ _ _ hd=>bn _ _ hd⟩
 ·split
  ·rename_i i hi;refine⟨nZ.refl _,fun{fin d} hp he hk hd=> ?_⟩;obtain⟨s,rfl⟩:=hp;have:=(vO hi).2
   grind
  ·refine⟨⟨_,rfl⟩,fun{fin d} hp he hk hd=> ?_⟩;obtain⟨s,rfl⟩:=hp
   grind
theorem cH{k:Nat}{acc:List X}{e:X}:nZ acc (fM k acc e).2∧ ∀{fin:List X} {d:D},nZ (fM k acc e).2 fin→X.bh G E fin=some ds→E.length=k→X.ev G E e=some d→X.ev G (E++ds) (fM k acc e).1=some d:=by
 unfold fM;split
 ·exact⟨nZ.refl _,fun _ _ _ hd=>bn _ _ hd⟩
 ·split
  ·rename_i j n e';refine⟨nG (G:=G) (E:=E) (ds:=ds).1,fun{fin d} hp he hk hd=> ?_⟩;obtain⟨xs,h1,h2⟩:=aH hd;obtain⟨d0,rfl,h3⟩:=iP h1;have:=nG (G:=G) (E:=E) (ds:=ds).2 hp he hk h3;simp only[X.ev,X.bh,this,Oz,Pz,h2]
  ·exact nG
theorem VR.hp{E':List D}{h h':List (Nat×SO)}{v:SV}{d:D}(H:VR G E ι h v d)(hE: ∀e d,X.ev G E e=some d→X.ev G E' e=some d)(hh: ∀n,Lk G E E' (ι.e n) (ι.e n) h h' n):VR G E' ι h' v d:=
 H.mono hE fun n _=>⟨rfl,hh n⟩
theorem sc{k:Nat}: ∀{acc:List X} {vs:List SV},(dN k acc vs).1.length=vs.length
 |_,[]=>rfl
 |acc,v::r=>by simp only[dN,List.length_cons,sc]
mutual
theorem vu{k:Nat}: ∀(acc:List X) (v:SV),nZ acc (b_ k acc v).2
 |acc, .x e=>by simp only[b_];exact(cH (G:=fun _ _=>none) (E:= []) (ds:= [])).1
 |acc, .agg vs=>by simp only[b_];exact fQ acc vs
 |acc, .tup vs=>by simp only[b_];exact fQ acc vs
 |acc, .clo f vs=>by simp only[b_];exact fQ acc vs
 |acc, .bp n i o=>by simp only[b_];exact(cH (G:=fun _ _=>none) (E:= []) (ds:= [])).1
 |acc, .un|acc, .ptr .. |acc, .gl .. |acc, .ep .. |acc, .gd .. |acc, .dp .. |acc, .gs .. |acc, .gc .. |acc, .gt .. |acc, .sb .. |acc, .rb .. |acc, .mp .. |acc, .yl .. |acc, .it .. =>by simp only[b_];exact nZ.refl _
theorem fQ{k:Nat}: ∀(acc:List X) (vs:List SV),nZ acc (dN k acc vs).2
 |acc,[]=>by simp only[dN];exact nZ.refl _
 |acc,v::r=>by simp only[dN];exact(vu acc v).trans (fQ _ r)
end
mutual
theorem qo{k:Nat}{h h':List (Nat×SO)}{fin:List X}(he:X.bh G E fin=some ds)(hk:E.length=k)(hh: ∀n,Lk G E (E++ds) (ι.e n) (ι.e n) h h' n): ∀(acc:List X) (v:SV),nZ (b_ k acc v).2 fin→ ∀{d:D},VR G E ι h v d→VR G (E++ds) ι h' (b_ k acc v).1 d
 |acc, .x e,hp,d,H=>by
  simp only[b_]at hp⊢;obtain⟨h1,h2⟩:=H.bQ;exact .x (cH.2 hp he hk h1) h2
 |acc, .agg vs,hp,d,H=>by
  simp only[b_]at hp⊢;cases H with
  |agg hl h2=>obtain⟨k1,k2⟩:=fx he hk hh acc vs hp ⟨hl,h2⟩;exact .agg k1 k2
 |acc, .clo f vs,hp,d,H=>by
  simp only[b_]at hp⊢;cases H with
  |clo hl h2=>obtain⟨k1,k2⟩:=fx he hk hh acc vs hp ⟨hl,h2⟩;exact .clo k1 k2
 |acc, .tup vs,hp,d,H=>by
  simp only[b_]at hp⊢;cases H with
  |tup hl h2=>obtain⟨k1,k2⟩:=fx he hk hh acc vs hp ⟨hl,h2⟩;exact .tup k1 k2
 |acc, .bp n i o,hp,d,H=>by
  simp only[b_]at hp⊢;cases H with
  |bp hf hc hv h0 hz=>
   obtain⟨_,_,h3,h4⟩:=(hh n).bL hf;obtain⟨⟨es',h5,h6⟩,_⟩:=h4 _ hc;exact .bp h3 h5 (cH.2 hp he hk hv) h0 (Nat.lt_of_lt_of_le hz h6)
  |bpn hf hv h0=>
   obtain⟨_,_,h3,_⟩:=(hh n).bL hf;exact .bpn h3 (cH.2 hp he hk hv) h0
 |acc, .it ..,hp,d,H=>by simp only[b_];exact H.hp (fun _ _ h=>bn _ _ h) hh
 |acc, .un,hp,d,H=>by simp only[b_];exact .un
 |acc, .ptr ..,hp,d,H=>by simp only[b_];exact H.hp (fun _ _ h=>bn _ _ h) hh
 |acc, .dp ..,hp,d,H=>by simp only[b_];exact H.hp (fun _ _ h=>bn _ _ h) hh
 |acc, .gt ..,hp,d,H=>by simp only[b_];exact H.hp (fun _ _ h=>bn _ _ h) hh
 |acc, .gs ..,hp,d,H=>by simp only[b_];exact H.hp (fun _ _ h=>bn _ _ h) hh
 |acc, .gc ..,hp,d,H=>by simp only[b_];exact H.hp (fun _ _ h=>bn _ _ h) hh
 |acc, .sb ..,hp,d,H=>by simp only[b_];exact H.hp (fun _ _ h=>bn _ _ h) hh
 |acc, .rb ..,hp,d,H=>by simp only[b_];exact H.hp (fun _ _ h=>bn _ _ h) hh
 |acc, .mp ..,hp,d,H=>by simp only[b_];exact H.hp (fun _ _ h=>bn _ _ h) hh
 |acc, .yl ..,hp,d,H=>by simp only[b_];exact H.hp (fun _ _ h=>bn _ _ h) hh
 |acc, .gl ..,hp,d,H=>by simp only[b_];exact H.hp (fun _ _ h=>bn _ _ h) hh
 |acc, .ep ..,hp,d,H=>by simp only[b_];exact H.hp (fun _ _ h=>bn _ _ h) hh
 |acc, .gd ..,hp,d,H=>by simp only[b_];exact H.hp (fun _ _ h=>bn _ _ h) hh
theorem fx{k:Nat}{h h':List (Nat×SO)}{fin:List X}(he:X.bh G E fin=some ds)(hk:E.length=k)(hh: ∀n,Lk G E (E++ds) (ι.e n) (ι.e n) h h' n): ∀(acc:List X) (vs:List SV),nZ (dN k acc vs).2 fin→ ∀{xs:List D},bA G E ι h vs xs→bA G (E++ds) ι h' (dN k acc vs).1 xs
 |acc,[],hp,xs,H=>by
  simp only[dN];have h0:xs= []:=List.eq_nil_of_length_eq_zero H.1.symm;subst h0;exact bA.nil
 |acc,v::r,hp,xs,H=>by
  simp only[dN]at hp⊢;obtain⟨d,xs',rfl,h1,h2⟩:=H.cons;exact bA.mk (qo he hk hh acc v ((fQ _ r).trans hp) h1) (fx he hk hh _ r hp h2)
end
theorem sa{k:Nat}{n:Nat}: ∀{acc:List X} {l:List (Nat×SV)} {v:SV},find (lz k acc l).1 n=some v→ ∃gM v0,find l n=some v0∧v=(b_ k gM v0).1∧nZ (b_ k gM v0).2 (lz k acc l).2
 |acc,[],v,h=>by simp[lz,find]at h
 |acc,(i,u)::r,v,h=>by
  have tail: ∀{acc:List X} {l:List (Nat×SV)},nZ acc (lz k acc l).2:=fun{acc l}=>by
   induction l generalizing acc with
   |nil=>exact nZ.refl _
   |cons p l ih=>exact(vu _ _).trans ih
  simp only[lz,find]at h⊢;cases hi:i==n with
  |true=>rw[hi]at h;simp only[cond_true,Jz]at h;exact⟨acc,u,rfl,h.symm,tail⟩
  |false=>rw[hi]at h;exact sa h
theorem D6{k:Nat}{acc:List X}{o:SO}:nZ acc (fL k acc o).2:=by
 cases o with
 |box vs=>exact fQ acc vs
 |aA e sz c=>exact(cH (G:=fun _ _=>none) (E:= []) (ds:= [])).1
 |map c=>exact(cH (G:=fun _ _=>none) (E:= []) (ds:= [])).1
 |bL e sz c=>exact(cH (G:=fun _ _=>none) (E:= []) (ds:= [])).1
 |raw=>exact nZ.refl _
 |itr m c=>exact(cH (G:=fun _ _=>none) (E:= []) (ds:= [])).1
theorem pq{k:Nat}: ∀{acc:List X} {l:List (Nat×SO)},nZ acc (m_ k acc l).2
 |acc,[]=>nZ.refl _
 |acc,(i,o)::r=>D6.trans pq
theorem r_{k:Nat}{n:Nat}: ∀{acc:List X} {l:List (Nat×SO)},(find (m_ k acc l).1 n=none∧find l n=none)∨ ∃gM o0,find l n=some o0∧find (m_ k acc l).1 n=some (fL k gM o0).1∧nZ (fL k gM o0).2 (m_ k acc l).2
 |acc,[]=> .inl ⟨rfl,rfl⟩
 |acc,(i,o)::r=>by
  simp only[m_,find];cases hi:i==n with
  |true=>exact .inr ⟨acc,o,rfl,rfl,pq⟩
  |false=>exact r_
theorem Mt.atom{Ω:bz}{Y:Sy}{J:St}(M:Mt Ω G E ι γ Y J)(he:X.bh G E Y.atom.2=some ds):Mt Ω G (E++ds) ι γ Y.atom.1 J:=by
 have hk:=M.nv
 have LS: ∀n,(find Y.atom.1.h n=none∧find Y.h n=none)∨ ∃gM o0,find Y.h n=some o0∧find Y.atom.1.h n=some (fL Y.nv gM o0).1∧nZ (fL Y.nv gM o0).2 Y.atom.2:=fun n=>
  r_ (k:=Y.nv) (n:=n) (acc:=(lz Y.nv [] Y.s).2) (l:=Y.h)
 have exprs: ∀{gM:List X} {c:X},nZ (fM Y.nv gM c).2 Y.atom.2→ ∀d,X.ev G E c=some d→X.ev G (E++ds) (fM Y.nv gM c).1=some d:=fun h3 d hd=>cH.2 h3 he hk hd
 have hh: ∀n,Lk G E (E++ds) (ι.e n) (ι.e n) Y.h Y.atom.1.h n:=fun n o ho=>by
  rcases LS n with⟨_,h2⟩|⟨gM,o0,h1,h2,h3⟩
  ·grind
  ·rw[ho]at h1;cases h1;refine⟨_,h2, ?_⟩;cases o with
   |box vs=>simp only[fL,SO.cC,sc]
   |aA e sz c=>exact⟨rfl,rfl,fun es hes=>⟨es,exprs h3 _ hes,rfl⟩⟩
   |map c=>trivial
   |bL e sz c=>exact fun hz=>⟨hz,fun es hes=>⟨⟨es,exprs h3 _ hes,Nat.le_refl _⟩,fun _ _=>rfl⟩⟩
   |raw=>trivial
   |itr=>trivial
 have back: ∀n o,find Y.atom.1.h n=some o→ ∃gM o0,find Y.h n=some o0∧o=(fL Y.nv gM o0).1∧nZ (fL Y.nv gM o0).2 Y.atom.2:=fun n o ho=>by
  grind
 have hl: ∀n e sz c,find Y.atom.1.h n=some (.aA e sz c)→ ∃c0,find Y.h n=some (.aA e sz c0)∧ ∀d,X.ev G E c0=some d→X.ev G (E++ds) c=some d:=fun n e sz c hf=>by
  obtain⟨gM,o0,h1,h2,h3⟩:=back n _ hf;cases o0<;>simp only[fL,reduceCtorEq,SO.aA.injEq]at h2;obtain⟨rfl,rfl,rfl⟩:=h2;exact⟨_,h1,exprs h3⟩
 refine⟨fun i v hv=> ?_,fun n vs hn=> ?_,fun n e sz c hn=> ?_,fun n c hn=> ?_,fun n e sz c hn=> ?_,fun a b _ _ _ _ _ _ h1 h2=> ?_,fun n kk hn=> ?_,fun a b o o' h1 h2=> ?_,fun a b e e' sz sz' c c' h1 h2=> ?_,M.wf,fun n e sz c hn=> ?_, ?_,M.con,fun n m c hn=> ?_⟩
 ·obtain⟨gM,v0,h1,rfl,h3⟩:=sa hv;exact qo he hk hh gM v0 (h3.trans pq) (M.slot i v0 h1)
 ·obtain⟨gM,o0,h1,h2,h3⟩:=back n _ hn;cases o0<;>simp only[fL,reduceCtorEq,SO.box.injEq]at h2;subst h2;obtain⟨xs,k1,k2,k3⟩:=M.box n _ h1;exact⟨xs,k1,k2,fx he hk hh gM _ h3 k3⟩
 ·obtain⟨c0,h1,h2⟩:=hl n e sz c hn;obtain⟨es,k1,k2⟩:=M.aA n e sz c0 h1
  grind
 ·obtain⟨gM,o0,h1,h2,h3⟩:=back n _ hn;cases o0<;>simp only[fL,reduceCtorEq,SO.map.injEq]at h2;subst h2;obtain⟨es,k1,k2,k3⟩:=M.mpo n _ h1;exact⟨es,exprs h3 _ k1,k2,k3⟩
 ·obtain⟨gM,o0,h1,h2,h3⟩:=back n _ hn;cases o0<;>simp only[fL,reduceCtorEq,SO.bL.injEq]at h2;obtain⟨rfl,rfl,rfl⟩:=h2;obtain⟨L,k1,k2,k3,k4⟩:=M.own n _ _ _ h1;refine⟨L,exprs h3 _ k1,k2,k3,fun q hq=>(k4.1 q hq).eP rfl (fun k o hk=> ?_) (fun hz k e sz c hk=> ?_) fun _=>Nat.le_refl _,k4.2⟩
  ·obtain⟨_,o1,g1,_⟩:=back k o hk
   grind
  ·obtain⟨c0,g1,_⟩:=hl k e sz c hk;exact(k4.1 q hq).2.2.2.2.1 hz k e sz c0 g1
 ·have mp: ∀{n e sz c},find Y.atom.1.h n=some (.bL e sz c)→ ∃c0,find Y.h n=some (.bL e sz c0):=fun{n e sz c} h=>by
   obtain⟨gM,o0,h1,h2,h3⟩:=back n _ h;cases o0<;>simp only[fL,reduceCtorEq,SO.bL.injEq]at h2;obtain⟨rfl,rfl,rfl⟩:=h2;exact⟨_,h1⟩
  obtain⟨_,g1⟩:=mp h1;obtain⟨_,g2⟩:=mp h2;exact M.one a b _ _ _ _ _ _ g1 g2
 ·obtain⟨gM,o0,h1,h2,h3⟩:=back n _ hn;cases o0<;>simp only[fL,reduceCtorEq,SO.raw.injEq]at h2;subst h2;exact M.rwo n _ h1
 ·obtain⟨_,o1,g1,_⟩:=back a o h1;obtain⟨_,o2,g2,_⟩:=back b o' h2;exact M.inj a b o1 o2 g1 g2
 ·obtain⟨c0,g1,_⟩:=hl a e sz c h1;obtain⟨c1,g2,_⟩:=hl b e' sz' c' h2;exact M.gJ a b e e' sz sz' c0 c1 g1 g2
 ·obtain⟨c0,g1,_⟩:=hl n e sz c hn;exact M.old n e sz c0 g1
 ·rw[List.length_append,dg he,hk];rfl
 ·obtain⟨gM,o0,h1,h2,h3⟩:=back n _ hn;cases o0<;>simp only[fL,reduceCtorEq,SO.itr.injEq]at h2;obtain⟨rfl,rfl⟩:=h2;obtain⟨k1,t,k,seen,k2,k3⟩:=M.itr n _ _ h1;refine⟨k1,t,k,seen,k2,fun m' e=> ?_⟩;obtain⟨g1,⟨o,g2,g3⟩,g4,g5⟩:=k3 m' e;refine⟨g1, ?_,exprs h3 _ g4,g5⟩;rcases LS m' with⟨_,h2⟩|⟨ado,o2,j1,j2,_⟩
  ·rw[g2]at h2;cases h2
  ·rw[g2]at j1;cases j1;exact⟨_,j2,by cases o<;>first|rfl|cases g3⟩
end
mutual
def xV(e:X):X→Bool
 | .mk k xs=>cZ e (.mk k xs)||Aw e xs
 | .ite c a b=>cZ e (.ite c a b)||xV e c
 |x=>cZ e x
def Aw(e:X):List X→Bool
 | []=>false
 |x::r=>xV e x||Aw e r
end
def RD(e x:X):Bool:=xV e x||match e,x with
 | .ite (.mk (.gv w) [c']) e' (.q _), .ite c a b=>cZ c' c&&xV e' (bif w then a else b)
 | .mk (.gv _) [c'], .ite c _ _=>cZ c' c
 |_,_=>false
def prune(es:List X):List X→List X
 | []=> []
 |e::r=>if(es++prune es r).any (RD e)then prune es r else e::prune es r
section
variable {G : FP} {E : List D}
mutual
theorem jb{e:X}: ∀(x:X),xV e x=true→(∃d,X.ev G E x=some d)→ ∃d,X.ev G E e=some d
 | .t i,h,k=>by simp only[xV]at h;rw[aF _ _ h];exact k
 | .q i,h,k=>by simp only[xV]at h;rw[aF _ _ h];exact k
 | .mk kk xs,h,k=>by
  simp only[xV,Bool.or_eq_true]at h;rcases h with h|h
  ·rw[aF _ _ h];exact k
  ·obtain⟨d,hd⟩:=k;obtain⟨ds,h1,_⟩:=aH hd;exact qN xs h ⟨ds,h1⟩
 | .ite c a b,h,k=>by
  simp only[xV,Bool.or_eq_true]at h;rcases h with h|h
  ·rw[aF _ _ h];exact k
  ·obtain⟨d,hd⟩:=k;simp only[X.ev,Bz]at hd;obtain⟨v,h1,_⟩:=hd;exact jb c h ⟨v,h1⟩
theorem qN{e:X}: ∀(xs:List X),Aw e xs=true→(∃ds,X.bh G E xs=some ds)→ ∃d,X.ev G E e=some d
 | [],h,_=>by simp[Aw]at h
 |x::r,h,k=>by
  simp only[Aw,Bool.or_eq_true]at h;obtain⟨ds,hd⟩:=k;simp only[X.bh,Bz,Mz]at hd;obtain⟨d,h1,ds',h2,_⟩:=hd;rcases h with h|h
  ·exact jb x h ⟨d,h1⟩
  ·exact qN r h ⟨ds',h2⟩
end
theorem Cd{e x:X}(h:RD e x=true)(k: ∃d,X.ev G E x=some d): ∃d,X.ev G E e=some d:=by
 unfold RD at h;rw[Bool.or_eq_true]at h;rcases h with h|h
 ·exact jb x h k
 ·split at h
  ·rename_i w c' e' q c a b;rw[Az]at h;obtain⟨h1,h2⟩:=h;obtain rfl:=aF _ _ h1;obtain⟨d,hd⟩:=k;simp only[X.ev,Bz]at hd;obtain⟨v,g1,y,g2,g3⟩:=hd
   have hv:v= .v (.bool y):=by
    cases v<;>simp only[D.asBool]at g2<;>try (cases g2;done)
    grind
   subst hv;simp only[X.ev,X.bh,g1,Oz,Pz,XK.run,bv,D.asBool];cases w<;>cases y<;>simp only[show(false==false)=true from rfl,show(false==true)=false from rfl,show(true==false)=false from rfl,show(true==true)=true from rfl,cond_true,cond_false]at h2 g3⊢
   ·exact jb _ h2 ⟨d,g3⟩
   ·grind
   ·grind
   ·exact jb _ h2 ⟨d,g3⟩
  ·rename_i w c' c a b;obtain rfl:=aF _ _ h;obtain⟨d,hd⟩:=k;simp only[X.ev,Bz]at hd;obtain⟨v,g1,y,g2,g3⟩:=hd
   have hv:v= .v (.bool y):=by
    cases v<;>simp only[D.asBool]at g2<;>try (cases g2;done)
    grind
   subst hv;exact⟨_,by simp only[X.ev,X.bh,g1,Oz,Pz,XK.run];rfl⟩
  ·cases h
theorem mg{es:List X}(he: ∀e∈es,∃d,X.ev G E e=some d): ∀{O:List X},(∀e∈prune es O,∃d,X.ev G E e=some d)→ ∀e∈O,∃d,X.ev G E e=some d
 | [],_,e,h=>by cases h
 |a::r,hO,e,h=>by
  simp only[prune]at hO;split at hO
  ·rename_i hs;have ih:=mg he hO;rcases List.mem_cons.1 h with rfl|h
   ·obtain⟨x,hx,hsx⟩:=List.any_eq_true.1 hs;refine Cd hsx ?_
    grind
   ·grind
  ·have ih:=mg he (O:=r) fun x hx=>hO x (Cz _ hx);rcases List.mem_cons.1 h with rfl|h
   ·exact hO _ (List.mem_cons_self ..)
   ·grind
theorem kQ{xs:List X}{ds:List D}(h:X.bh G E xs=some ds): ∀e∈xs,∃d,X.ev G E e=some d:=fun e he=>by
 obtain⟨i,hi⟩:=List.getElem?_of_mem he;have hl:=dg h;have:=(Gz.1 hi).1;have hd:=Ez (show i<ds.length by omega);exact⟨_,eZ h i e _ hi hd⟩
end
end
section
inductive yD where
 |drop
 |same (v:SV)
 |var
 |aA (e sz:Nat)
 deriving Inhabited
abbrev Row:=List (Nat×yD)
def ec:Nat→Row→List SV
 |_,[]=> []
 |k,(_, .drop)::r=> .un::ec k r
 |k,(_, .same v)::r=>v::ec k r
 |k,(_, .var)::r=> .x (.t k)::ec (k+1) r
 |k,(nm, .aA _ sz)::r=> .gl nm sz::ec (k+1) r
def bM:Nat→Row→List (Nat×SO)
 |_,[]=> []
 |k,(_, .drop)::r=>bM k r
 |k,(_, .same _)::r=>bM k r
 |k,(_, .var)::r=>bM (k+1) r
 |k,(nm, .aA e sz)::r=>(nm, .aA e sz (.t k))::bM (k+1) r
abbrev Ren:=List (Nat×Option Nat)
def mM(h:List (Nat×SO))(nm:Nat):yD→SV→Option (List X×Ren)
 | .drop,_=>some ([],[])
 | .same v',v=>if dS v' v then some ([],[])else none
 | .var,v=>v.ly.map fun x=>([x],[])
 | .aA e sz, .gl n sz'=>match find h n with
  |some (.aA e' XJ c)=>if e'=e∧sz'=sz∧XJ=sz then some ([c],[(nm,some n)])else none
  |_=>none
 | .aA _ _, .x (.q .nil)=>some ([.q (.list [])],[(nm,none)])
 | .aA _ _,_=>none
def fO(h:List (Nat×SO)):Row→List SV→Option (List X×Ren)
 | [],[]=>some ([],[])
 |(nm,p)::r,v::vs=>(mM h nm p v).bind fun a=>(fO h r vs).map fun b=>(a.1++b.1,a.2++b.2)
 |_,_=>none
inductive Sk where
 |box (l:Nat)
 |aA (e sz:Nat)
 |map
 |bL (e sz:Nat)
 |raw (k:RS)
 |itr (m:Option Nat)
 deriving DecidableEq,Inhabited
def Sk.len:Sk→Nat
 | .box l=>l
 | .aA .. | .map| .bL .. | .itr (some _)=>1
 | .raw _| .itr none=>0
def SO.sk:SO→Sk
 | .box vs=> .box vs.length
 | .aA e sz _=> .aA e sz
 | .map _=> .map
 | .bL e sz _=> .bL e sz
 | .raw k=> .raw k
 | .itr m _=> .itr m
def SO.cells:SO→List SV
 | .box vs=>vs
 | .aA _ _ c| .map c| .bL _ _ c| .itr (some _) c=> [.x c]
 | .raw _| .itr none _=> []
def Sk.My:Sk→List SV→Option SO
 | .box l,vs=>if vs.length=l then some (.box vs)else none
 | .aA e sz,[.x c]=>some (.aA e sz c)
 | .map,[.x c]=>some (.map c)
 | .bL e sz,[.x c]=>some (.bL e sz c)
 | .itr (some m),[.x c]=>some (.itr (some m) c)
 | .itr none,[]=>some (.itr none (.q .undef))
 | .raw k,[]=>some (.raw k)
 |_,_=>none
structure Hd where
 ids:List Nat
 ts:List (Nat×Nat)
 os:List (Nat×Sk)
 row:Row
def Hd.ns(hd:Hd):List Nat:=hd.os.map (·.1)
def rC(Y:Sy):List Nat→List SV
 | []=> []
 |i::r=>(find Y.s i).getD .un::rC Y r
def ox(Y:Sy):List (Nat×Nat)→Option (List SV)
 | []=>some []
 |(i,l)::r=>match find Y.s i with
  |some (.tup vs)=>if vs.length=l then(ox Y r).map fun b=>vs++b else none
  |_=>none
def ow(Y:Sy):List (Nat×Sk)→Option (List SV)
 | []=>some []
 |(n,k)::r=>(find Y.h n).bind fun o=>if o.sk=k then(ow Y r).map fun b=>o.cells++b else none
def LC:List Nat→List SV→List (Nat×SV)
 |i::r,v::s=>(i,v)::LC r s
 |_,_=> []
def CE:List (Nat×Nat)→List SV→List (Nat×SV)
 | [],_=> []
 |(i,l)::r,s=>(i, .tup (s.take l))::CE r (s.drop l)
def FD:List (Nat×Sk)→List SV→Option (List (Nat×SO))
 | [],_=>some []
 |(n,k)::r,s=>(k.My (s.take k.len)).bind fun o=>(FD r (s.drop k.len)).map fun l=>(n,o)::l
def wa:List Nat→Bool
 | []=>true
 |a::r=> !r.contains a&&wa r
mutual
def cy(k:Nat)(ns:List Nat):SV→Bool
 | .un=>true
 | .x e=>e.lt k
 | .ptr n _| .gl n _| .sb n _ _| .rb n _| .mp n| .yl n| .it n=>ns.contains n
 | .bp n i _=>ns.contains n&&i.lt k
 | .dp n _ _ _ i _=>ns.contains n&&i.lt k
 | .gs n _ q=>ns.contains n&&q.lt k
 | .gc n _ q=>ns.contains n&&q.lt k
 | .gt n _ q=>ns.contains n&&q.lt k
 | .ep n _ i _=>ns.contains n&&i.lt k
 | .agg vs| .tup vs=>mO k ns vs
 | .clo _ vs=>mO k ns vs
 | .gd g v=>g.lt k&&cy k ns v
def mO(k:Nat)(ns:List Nat):List SV→Bool
 | []=>true
 |v::r=>cy k ns v&&mO k ns r
end
theorem jt{k:Nat}{bs:List Nat}: ∀{vs:List SV} {i:Nat} {v:SV},mO k bs vs=true→vs[i]?=some v→cy k bs v=true
 |u::r,0,v,h,hv=>by simp only[mO,Az]at h;simp at hv;subst hv;exact h.1
 |u::r,i+1,v,h,hv=>by simp only[mO,Az]at h;exact jt h.2 (by simpa using hv)
def zO:List (Nat×Nat)→Nat
 | []=>0
 |(_,l)::r=>l+zO r
def Kg:List (Nat×Sk)→Nat
 | []=>0
 |(_,k)::r=>k.len+Kg r
def Hd.cT(hd:Hd)(k:Nat):List SV:=(ec k hd.row).drop hd.ids.length
def Hd.cO(hd:Hd)(k:Nat):List SV:=(hd.cT k).drop (zO hd.ts)
def Hd.ok(hd:Hd)(k:Nat):Bool:=
 hd.row.all (fun p=>match p.2 with
  | .same v=>cy k hd.ns v
  |_=>true)&&wa (hd.row.map (·.1))&&hd.row.all (fun p=> !hd.ns.contains p.1)&&hd.row.length==hd.ids.length+(zO hd.ts+Kg hd.os)&&wa hd.ns&&(FD hd.os (hd.cO k)).isSome&&((FD hd.os (hd.cO k)).getD []).all (fun p=>match p.2 with
  | .itr (some m) _=>hd.ns.contains m
  |_=>true)
def Hd.mt(hd:Hd)(Y:Sy):Option (List X×Ren):=if Y.pd.isNone then(ox Y hd.ts).bind fun t=>(ow Y hd.os).bind fun b=>(fO Y.h hd.row (rC Y hd.ids++(t++b))).bind fun q=>if wa (q.2.filterMap (·.2)++hd.ns)then some q else none else none
def Hd.mk'(hd:Hd)(k m d nx:Nat):Sy:=
 {s:=LC hd.ids ((ec k hd.row).take hd.ids.length)++CE hd.ts (hd.cT k),h:=(FD hd.os (hd.cO k)).getD []++bM k hd.row,nv:=k+m,d:=d,nx:=nx,pd:=none}
theorem eC{α:Type}: ∀(a b:List (Nat×α)) (n:Nat),find (a++b) n=(find a n).or (find b n)
 | [],_,_=>rfl
 |(i,v)::r,b,n=>by
  simp only[List.cons_append,find,eC r b n]
  grind
theorem ko: ∀{k:Nat} {r:Row},(ec k r).length=r.length
 |_,[]=>rfl
 |_,(_, .drop)::r=>by simp[ec,ko]
 |_,(_, .same _)::r=>by simp[ec,ko]
 |_,(_, .var)::r=>by simp[ec,ko]
 |_,(_, .aA ..)::r=>by simp[ec,ko]
section
variable {Ω : bz} {G : FP} {E E2 : List D} {ι ι2 : Im} {γ γ2 : Nat → Tok} {Y : Sy} {J : St} {h2 : List (Nat × SO)}
def Kp(G:FP)(E E2:List D)(ι ι2:Im)(h h2:List (Nat×SO))(ns:List Nat):Prop:= ∀n,ns.contains n=true→ι2 n=ι n∧Lk G E E2 (ι.e n) (ι2.e n) h h2 n
theorem xH{k:Nat}{ns:List Nat}{v:SV}{d:D}(H:VR G E ι Y.h v d)(ho:cy k ns v=true)(hE: ∀i,i<k→E[i]?=E2[i]?)(hb:Kp G E E2 ι ι2 Y.h h2 ns):VR G E2 ι2 h2 v d:=by
 have ex: ∀{e:X} {d:D},e.lt k=true→X.ev G E e=some d→X.ev G E2 e=some d:=fun he h=>by rw[←vH hE _ he];exact h
 induction H with
 |un=>exact .un
 |x h1 h2=>simp only[cy]at ho;exact .x (ex ho h1) h2
 |agg hl hh ih=>
  exact .agg hl fun i v d hv hd=>ih i v d hv hd (jt ho hv)
 |tup hl hh ih=>
  exact .tup hl fun i v d hv hd=>ih i v d hv hd (jt ho hv)
 |clo hl hh ih=>
  exact .clo hl fun i v d hv hd=>ih i v d hv hd (jt ho hv)
 | @ptr n o vs hf=>
  obtain⟨h1,L⟩:=hb n ho;obtain⟨vs',h3,_⟩:=L.box hf;rw[←h1];exact .ptr h3
 | @dp n o cnt s j i vs k z hf hv h0 hz hl=>
  simp only[cy,Az]at ho;obtain⟨h1,L⟩:=hb n ho.1;obtain⟨vs',h3,h4⟩:=L.box hf;rw[←h1];exact .dp h3 (ex ho.2 hv) h0 hz (by rw[h4];exact hl)
 | @gln n sz e c hf hi=>
  obtain⟨h1,L⟩:=hb n ho;obtain⟨c',h3,_⟩:=L.aA hf;exact .gln h3 (h1.trans hi)
 | @gl n sz e c es hf hc hi=>
  obtain⟨h1,L⟩:=hb n ho;obtain⟨c',h3,h4⟩:=L.aA hf;obtain⟨es',h5,h6⟩:=h4 _ hc;rw[←h1,←h6];exact .gl h3 h5 (by rw[h1];exact hi)
 | @gsn n sz e c k q hf hi hk=>
  simp only[cy,Az]at ho;obtain⟨h1,L⟩:=hb n ho.1;obtain⟨c',h3,_⟩:=L.aA hf;exact .gsn h3 (h1.trans hi) (ex ho.2 hk)
 | @gs n sz e c k es q z hf hc hi hk h0 hz=>
  simp only[cy,Az]at ho;obtain⟨h1,L⟩:=hb n ho.1;obtain⟨c',h3,h4⟩:=L.aA hf;obtain⟨es',h5,h6⟩:=h4 _ hc;rw[←h1];exact .gs h3 h5 (by rw[h1];exact hi) (ex ho.2 hk) h0 (by rw[h6];exact hz)
 | @gcn n sz e c k q hf hi hk=>
  simp only[cy,Az]at ho;obtain⟨h1,L⟩:=hb n ho.1;obtain⟨c',h3,_⟩:=L.aA hf;exact .gcn h3 (h1.trans hi) (ex ho.2 hk)
 | @gc n sz e c k es q z m hf hc hi hk h0 hz=>
  simp only[cy,Az]at ho;obtain⟨h1,L⟩:=hb n ho.1;obtain⟨c',h3,h4⟩:=L.aA hf;obtain⟨es',h5,h6⟩:=h4 _ hc;rw[←h1];exact .gc h3 h5 (by rw[h1];exact hi) (ex ho.2 hk) h0 (by rw[h6];exact hz)
 | @gtn n sz e c k q hf hi hk=>
  simp only[cy,Az]at ho;obtain⟨h1,L⟩:=hb n ho.1;obtain⟨c',h3,_⟩:=L.aA hf;exact .gtn h3 (h1.trans hi) (ex ho.2 hk)
 | @gt n sz e c k es q z hf hc hi hk h0 hz=>
  simp only[cy,Az]at ho;obtain⟨h1,L⟩:=hb n ho.1;obtain⟨c',h3,h4⟩:=L.aA hf;obtain⟨es',h5,h6⟩:=h4 _ hc;rw[←h1,←h6];exact .gt h3 h5 (by rw[h1];exact hi) (ex ho.2 hk) h0 (by rw[h6];exact hz)
 | @ep n sz e j c i k z es hf hc hi hv h0 hz=>
  simp only[cy,Az]at ho;obtain⟨h1,L⟩:=hb n ho.1;obtain⟨c',h3,h4⟩:=L.aA hf;obtain⟨es',h5,h6⟩:=h4 _ hc;rw[←h1];exact .ep h3 h5 (by rw[h1];exact hi) (ex ho.2 hv) h0 (by rw[h6];exact hz)
 | @sb n o len lim vs hf hl=>
  obtain⟨h1,L⟩:=hb n ho;obtain⟨vs',h3,h4⟩:=L.box hf;rw[←h1];exact .sb h3 (by rw[h4];exact hl)
 | @rb n o vs hf hl=>
  obtain⟨h1,L⟩:=hb n ho;obtain⟨vs',h3,h4⟩:=L.box hf;rw[←h1];exact .rb h3 (by rw[h4];exact hl)
 | @mp n o hf hmp=>
  obtain⟨h1,L⟩:=hb n ho;obtain⟨o',h3,h4⟩:=L.map hf hmp;rw[←h1];exact .mp h3 h4
 | @yl n k hf=>
  obtain⟨h1,L⟩:=hb n ho;obtain⟨k',h3⟩:=L.raw hf;rw[←h1];exact .yl h3
 | @bp n o i c rows k z e hf hc hv h0 hz=>
  simp only[cy,Az]at ho;obtain⟨_,L⟩:=hb n ho.1;obtain⟨e',c',h3,h4⟩:=L.bL hf;obtain⟨⟨es',h5,h6⟩,h7⟩:=h4 _ hc;rw[←h7 _ hz];exact .bp h3 h5 (ex ho.2 hv) h0 (Nat.lt_of_lt_of_le hz h6)
 | @bpn n i c k z e hf hv h0=>
  simp only[cy,Az]at ho;obtain⟨_,L⟩:=hb n ho.1;obtain⟨e',c',h3,_⟩:=L.bL hf;exact .bpn h3 (ex ho.2 hv) h0
 | @it n o hf hit=>
  obtain⟨h1,L⟩:=hb n ho;obtain⟨o',h3,h4⟩:=L.it hf hit;rw[←h1];exact .it h3 h4
 |gd hg h1 h2 ih=>
  simp only[cy,Az]at ho;exact .gd (ex ho.1 hg) (fun e=>ih e ho.2) h2
def Ren.at(ι:Nat→Tok):Option Nat→Tok
 |some n=>ι n
 |none=> []
theorem wm(M:Mt Ω G E ι γ Y J){k0:Nat}{bs:List Nat}(hE: ∀i,i<k0→E[i]?=E2[i]?)(hb:Kp G E E2 ι ι2 Y.h h2 bs):
  ∀{r:Row} {q:Nat} {vs:List SV} {dt ds:List D} {xs:List X} {rn:Ren},bA G E ι Y.h vs dt→fO Y.h r vs=some (xs,rn)→X.bh G E xs=some ds→(∀j,j<ds.length→E2[q+j]?=ds[j]?)→
   (∀p∈r,(match p.2 with| .same v=>cy k0 bs v|_=>true)=true)→(∀p∈bM q r,find h2 p.1=some p.2)→(∀p∈rn,ι2 p.1=Ren.at ι.t p.2)→
   bA G E2 ι2 h2 (ec q r) dt∧
   ∀p∈bM q r,∃nm e sz i,p=(nm,SO.aA e sz (.t i))∧(((nm,none)∈rn∧E2[i]?=some (.list []))∨ ∃n c d,(nm,some n)∈rn∧find Y.h n=some (.aA e sz c)∧E2[i]?=some d∧X.ev G E c=some d)
 | [],q,vs,dt,ds,xs,rn,hv,hm,_,_,_,_,_=>by
  cases vs with
  |cons=>simp[fO]at hm
  |nil=>
   have h0:dt= []:=List.eq_nil_of_length_eq_zero hv.1.symm;subst h0;exact⟨bA.nil,fun p hp=>by simp[bM]at hp⟩
 |(nm,p)::r,q,vs,dt,ds,xs,rn,hv,hm,he,hq,hok,hL,hI=>by
  cases vs with
  |nil=>simp[fO]at hm
  |cons v vs=>
   simp only[fO,Bz,Mz]at hm;obtain⟨⟨xs1,rn1⟩,h1,⟨xs2,rn2⟩,h3,h4⟩:=hm;cases h4;simp only[]at he hI;obtain⟨d,dt',rfl,H,K⟩:=hv.cons
   have BA: ∃ds1 ds2,ds=ds1++ds2∧X.bh G E xs1=some ds1∧X.bh G E xs2=some ds2:=by
    have hl:=dg he;refine⟨ds.take xs1.length,ds.drop xs1.length,(List.take_append_drop ..).symm, ?_, ?_⟩
    ·refine sG (by simp at hl⊢;omega) fun i x dd hx hd=> ?_;have hi:=(Gz.1 hx).1;rw[List.getElem?_take_of_lt hi]at hd;exact eZ he i x dd (by rw[Yz hi];exact hx) hd
    ·refine sG (by simp at hl⊢;omega) fun i x dd hx hd=> ?_;rw[List.getElem?_drop]at hd;exact eZ he (xs1.length+i) x dd (by rw[Xz (by omega)];simpa using hx) hd
   obtain⟨ds1,ds2,rfl,e1,e2⟩:=BA;have hI1:=fun p hp=>hI p (List.mem_append_left _ hp);have hI2:=fun p hp=>hI p (List.mem_append_right _ hp);have P_: ∀p∈r,(match p.2 with| .same v=>cy k0 bs v|_=>true)=true:=fun p hp=>hok p (Cz _ hp);have rest: ∀{q':Nat},(∀j,j<ds2.length→E2[q'+j]?=ds2[j]?)→(∀p∈bM q' r,find h2 p.1=some p.2)→_:=fun{q'} g1 g2=>wm M hE hb K h3 e2 g1 P_ g2 hI2
   have AL: ∀{q':Nat},(∀p∈bM q' r,∃nm e sz i,p=(nm,SO.aA e sz (.t i))∧(((nm,none)∈rn2∧E2[i]?=some (.list []))∨ ∃n c d,(nm,some n)∈rn2∧find Y.h n=some (.aA e sz c)∧E2[i]?=some d∧X.ev G E c=some d))→
     ∀p∈bM q' r,∃nm e sz i,p=(nm,SO.aA e sz (.t i))∧(((nm,none)∈rn1++rn2∧E2[i]?=some (.list []))∨ ∃n c d,(nm,some n)∈rn1++rn2∧find Y.h n=some (.aA e sz c)∧E2[i]?=some d∧X.ev G E c=some d):=fun{q'} hh p hp=>by
    obtain⟨nm',e',sz',i',rfl,hc⟩:=hh p hp;refine⟨nm',e',sz',i',rfl, ?_⟩;rcases hc with⟨a1,a2⟩|⟨n,c,d,a1,a2⟩
    ·exact .inl ⟨List.mem_append_right _ a1,a2⟩
    ·exact .inr ⟨n,c,d,List.mem_append_right _ a1,a2⟩
   cases p with
   |drop=>
    simp only[mM]at h1;cases h1;cases e1;obtain⟨g1,g2⟩:=rest (q':=q) (fun j hj=>by simpa using hq j (by simpa using hj)) (by simpa only[bM]using hL);exact⟨bA.mk .un g1,by simpa only[bM]using AL g2⟩
   |same v'=>
    simp only[mM]at h1;split at h1<;>cases h1;rename_i hbe;obtain rfl:=jS _ _ hbe;cases e1;obtain⟨g1,g2⟩:=rest (q':=q) (fun j hj=>by simpa using hq j (by simpa using hj)) (by simpa only[bM]using hL);exact⟨bA.mk (xH H (hok _ (List.mem_cons_self ..)) hE hb) g1,by simpa only[bM]using AL g2⟩
   |var=>
    simp only[mM]at h1;obtain⟨x,hx,h5⟩:=Mz.1 h1;cases h5;obtain⟨dx,rfl,hdx⟩:=iP e1;obtain rfl:=aZ H hx hdx;obtain⟨g1,g2⟩:=rest (q':=q+1) (fun j hj=>by have:=hq (j+1) (by simpa using hj);simpa[Nat.add_assoc,Nat.add_comm 1 j]using this) (by simpa only[bM]using hL);refine⟨bA.mk (.x ?_ (wQ H hx hdx)) g1,by simpa only[bM]using AL g2⟩;have:=hq 0 (by simp);simpa[X.ev]using this
   |aA e sz=>
    have hLs:=hL (nm, .aA e sz (.t q)) (by simp[bM]);have hLr:=fun p hp=>hL p (by simp only[bM];exact Cz _ hp);cases v
    case gl n sz'=>
     simp only[mM]at h1;split at h1
     ·rename_i e' XJ c hf;split at h1<;>cases h1;rename_i hc;obtain⟨rfl,rfl,rfl⟩:=hc;obtain⟨dx,rfl,hdx⟩:=iP e1;have hq0:E2[q]?=some dx:=by have:=hq 0 (by simp);simpa using this
      have hi:=hI1 (nm,some n) (by simp);obtain⟨es,k1,k2,k3⟩:=M.aA _ _ _ _ hf;rw[hdx]at k1;cases k1;obtain⟨g1,g2⟩:=rest (q':=q+1) (fun j hj=>by have:=hq (j+1) (by simpa using hj);simpa[Nat.add_assoc,Nat.add_comm 1 j]using this) hLr;refine⟨bA.mk ?_ g1,fun p hp=> ?_⟩
      ·cases H with
       |gln a1 a2=>exact .gln hLs (hi.trans a2)
       |gl a1 a2 a3=>
        rw[hf]at a1;cases a1;rw[hdx]at a2;cases a2;have:=VR.gl (G:=G) (E:=E2) (ι:=ι2) hLs (es:=es) (by simpa[X.ev]using hq0) (by rw[hi];exact a3);rw[hi]at this;exact this
      ·simp only[bM,List.mem_cons]at hp;rcases hp with rfl|hp
       ·exact⟨nm,_,_,q,rfl, .inr ⟨n,c,_,by simp,hf,hq0,hdx⟩⟩
       ·exact AL g2 p hp
     ·cases h1
    case x ex=>
     cases ex
     case q dq=>
      cases dq
      case nil=>
       simp only[mM]at h1;cases h1;obtain⟨dx,rfl,hdx⟩:=iP e1;cases hdx;have hq0:E2[q]?=some (.list []):=by have:=hq 0 (by simp);simpa using this
       have hi:=hI1 (nm,none) (by simp);obtain⟨g1,g2⟩:=rest (q':=q+1) (fun j hj=>by have:=hq (j+1) (by simpa using hj);simpa[Nat.add_assoc,Nat.add_comm 1 j]using this) hLr;refine⟨bA.mk ?_ g1,fun p hp=> ?_⟩
       ·obtain⟨a1,_⟩:=H.bQ;cases a1;exact .gln hLs hi
       ·simp only[bM,List.mem_cons]at hp;rcases hp with rfl|hp
        ·exact⟨nm,_,_,q,rfl, .inl ⟨by simp,hq0⟩⟩
        ·exact AL g2 p hp
      all_goals (simp[mM]at h1;done)
     all_goals (simp[mM]at h1;done)
    all_goals (simp[mM]at h1;done)
end
end
section
theorem mc: ∀{l:List Nat},wa l=true→l.Nodup
 | [],_=>List.nodup_nil
 |a::r,h=>by
  simp only[wa,Az,Bool.not_eq_true',List.contains_eq_mem,decide_eq_false_iff_not]at h;exact List.nodup_cons.2 ⟨h.1,mc h.2⟩
theorem oK{α:Type}: ∀{l:List (Nat×α)} {n:Nat} {v:α},(l.map (·.1)).Nodup→(n,v)∈l→find l n=some v
 | [],_,_,_,h=>by simp at h
 |(i,a)::r,n,v,hd,h=>by
  simp only[List.map_cons,List.nodup_cons]at hd;rcases List.mem_cons.1 h with h|h
  ·cases h;simp[find]
  ·have:(i==n)=false:=by
    grind
   simp only[find,this];exact oK hd.2 h
theorem kZ{h:List (Nat×SO)}: ∀{r:Row} {vs:List SV} {xs:List X} {rn:Ren},fO h r vs=some (xs,rn)→(rn.map (·.1)).Sublist (r.map (·.1))
 | [],[],xs,rn,hm=>by simp[fO]at hm;obtain⟨rfl,rfl⟩:=hm;exact List.Sublist.refl _
 | [],_::_,_,_,hm=>by simp[fO]at hm
 |_::_,[],_,_,hm=>by simp[fO]at hm
 |(nm,p)::r,v::vs,xs,rn,hm=>by
  simp only[fO,Bz,Mz]at hm;obtain⟨⟨xs1,rn1⟩,h1,⟨xs2,rn2⟩,h3,h4⟩:=hm;have ih:=kZ h3
  have h1':rn1= []∨ ∃o,rn1= [(nm,o)]:=by
   cases p with
   |drop=>simp only[mM]at h1;cases h1;exact .inl rfl
   |same v'=>simp only[mM]at h1;split at h1<;>cases h1;exact .inl rfl
   |var=>simp only[mM]at h1;obtain⟨x,_,hx⟩:=Mz.1 h1;cases hx;exact .inl rfl
   |aA e sz=>
    cases v
    case gl n sz'=>
     simp only[mM]at h1
     grind
    case x ex=>
     cases ex
     case q dq=>
      cases dq
      case nil=>simp only[mM]at h1;cases h1;exact .inr ⟨_,rfl⟩
      all_goals (simp[mM]at h1;done)
     all_goals (simp[mM]at h1;done)
    all_goals (simp[mM]at h1;done)
  grind
theorem fh: ∀{k:Nat} {r:Row},((bM k r).map (·.1)).Sublist (r.map (·.1))
 |_,[]=>List.Sublist.refl _
 |_,(nm, .drop)::r=>by simp only[bM];exact fh.cons nm
 |_,(nm, .same _)::r=>by simp only[bM];exact fh.cons nm
 |_,(nm, .var)::r=>by simp only[bM];exact fh.cons nm
 |_,(nm, .aA ..)::r=>by simp only[bM];exact fh.cons_cons nm
theorem sL{α:Type}: ∀{l:List (Nat×α)} {n:Nat},¬n∈l.map (·.1)→find l n=none
 | [],_,_=>rfl
 |(i,a)::r,n,h=>by
  simp only[List.map_cons,List.mem_cons,not_or]at h;have:(i==n)=false:=by simpa using fun e=>h.1 e.symm
  simp only[find,this];exact sL h.2
section
variable {Ω : bz} {G : FP} {E E2 : List D} {ι : Im} {γ : Nat → Tok} {Y : Sy} {J : St}
theorem ng(M:Mt Ω G E ι γ Y J): ∀(ids:List Nat),bA G E ι Y.h (rC Y ids) (ids.map J.s)
 | []=>bA.nil
 |i::r=>bA.mk (by
   cases hf:find Y.s i with
   |none=>exact .un
   |some v=>exact M.slot i v hf) (ng M r)
theorem uK {ι2 : Im} {h2 : List (Nat × SO)} : ∀ {ids : List Nat} {s : List SV}, bA G E2 ι2 h2 s (ids.map J.s) → ∀ {i : Nat} {v : SV}, find (LC ids s) i = some v → VR G E2 ι2 h2 v (J.s i)
  | [], s, _, i, v, h => by cases s <;> cases h
  | j :: r, [], H, _, _, _ => absurd (show 0 = (List.map J.s (j :: r)).length from H.1) (by rw [List.length_map, List.length_cons]; omega)
  | j :: r, u :: s, H, i, v, h => by
    obtain ⟨d, ds, he, h1, h3⟩ := H.cons
    obtain ⟨rfl, rfl⟩ := he
    simp only [LC, find] at h
    cases hi : j == i with
    | true => rw [hi] at h; cases h; have : j = i := by simpa using hi
              grind
    | false => rw [hi] at h; exact uK h3 h
theorem nh(M:Mt Ω G E ι γ Y J): ∀{ts:List (Nat×Nat)} {t:List SV},ox Y ts=some t→ ∃dt,bA G E ι Y.h t dt∧t.length=zO ts∧
  ∀{E2:List D} {ι2:Im} {h2:List (Nat×SO)} {s:List SV},bA G E2 ι2 h2 s dt→ ∀{i:Nat} {v:SV},find (CE ts s) i=some v→VR G E2 ι2 h2 v (J.s i)
 | [],t,h=>by
  simp[ox]at h;subst h;exact⟨[],bA.nil,rfl,fun{E2 ι2 h2 s} _ {i v} hf=>by cases hf⟩
 |(j,l)::r,t,h=>by
  simp only[ox]at h;split at h
  ·rename_i vs hf;split at h
   ·rename_i hl;obtain⟨t',ht,rfl⟩:=Mz.1 h;obtain⟨dt,h1,h2,h3⟩:=nh M ht;have hs:=M.slot j _ hf;generalize hd:J.s j=d at hs;cases hs with
    |tup hl2 hh=>
     rename_i ds;have k3:bA G E ι Y.h vs ds:=⟨hl2,hh⟩;have hdl:ds.length=l:=by omega
     refine⟨ds++dt,k3.append h1,by simp[zO,h2,hl],fun{E2 ι2 h2' s} H {i v} hfo=> ?_⟩;have ht:=H.take l;have hdr:=H.drop l;rw[←hdl,List.take_left,hdl]at ht;rw[←hdl,List.drop_left,hdl]at hdr;simp only[CE,find]at hfo;cases hi:j==i with
     |true=>
      rw[hi]at hfo;cases hfo;have:j=i:=by simpa using hi
      subst this;rw[hd];exact .tup ht.1 ht.2
     |false=>rw[hi]at hfo;exact h3 hdr hfo
   ·cases h
  ·cases h
theorem Ko{e sz:Nat}{s:List SV}{o:SO}(h:Sk.My (.aA e sz) s=some o): ∃c,s= [.x c]∧o= .aA e sz c:=by
 rcases s with _|⟨v,_|⟨u,r⟩⟩
 ·cases h
 ·cases v<;>first|(cases h;done)|(cases h;exact⟨_,rfl,rfl⟩)
 ·cases v<;>cases h
theorem Kq{s:List SV}{o:SO}(h:Sk.My .map s=some o): ∃c,s= [.x c]∧o= .map c:=by
 rcases s with _|⟨v,_|⟨u,r⟩⟩
 ·cases h
 ·cases v<;>first|(cases h;done)|(cases h;exact⟨_,rfl,rfl⟩)
 ·cases v<;>cases h
theorem Kr{e sz:Nat}{s:List SV}{o:SO}(h:Sk.My (.bL e sz) s=some o): ∃c,s= [.x c]∧o= .bL e sz c:=by
 rcases s with _|⟨v,_|⟨u,r⟩⟩
 ·cases h
 ·cases v<;>first|(cases h;done)|(cases h;exact⟨_,rfl,rfl⟩)
 ·cases v<;>cases h
theorem Kn{m:Nat}{s:List SV}{o:SO}(h:Sk.My (.itr (some m)) s=some o): ∃c,s= [.x c]∧o= .itr (some m) c:=by
 rcases s with _|⟨v,_|⟨u,r⟩⟩
 ·cases h
 ·cases v<;>first|(cases h;done)|(cases h;exact⟨_,rfl,rfl⟩)
 ·cases v<;>cases h
theorem Ks{s:List SV}{o:SO}{k:RS}(h:Sk.My (.raw k) s=some o):o= .raw k:=by
 cases s with
 |nil=>cases h;rfl
 |cons v r=>cases h
def Ob(Ω:bz)(G:FP)(E2:List D)(ι:Im)(γ:Nat→Tok)(ι2:Im)(h2:List (Nat×SO))(Yh:List (Nat×SO))(J:St)(m:Mem)(n:Nat):SO→Prop
 | .box vs=> ∃ds,ι n≠ []∧m (ι n)=some (.box ds)∧bA G E2 ι2 h2 vs ds
 | .aA e sz c=> ∃es,X.ev G E2 c=some (.list es)∧bj sz es=true∧(ι n= []∧es= []∨ι n≠ []∧m (ι n)=some (.row (γ n) e es))
 | .map c=> ∃es,X.ev G E2 c=some (.list (aG es))∧ι n≠ []∧m (ι n)=some (.map es)
 | .bL e sz c=> ∃L:List OE,X.ev G E2 c=some (.list (aG (L.map OE.pr)))∧ι n≠ []∧m (ι n)=some (.map (L.map (OE.en sz)))∧D0 Yh ι γ J e sz (ι.e n) L
 | .raw k=>ι n=Ω.t n∧ι n≠ []∧m (ι n)=some (.raw (Ω.f n k))∧ ¬Ω.c (ι n)
 | .itr m c=>qn G E2 ι Yh J n m c
theorem nf(M:Mt Ω G E ι γ Y J): ∀{os:List (Nat×Sk)} {b:List SV},ow Y os=some b→ ∃db,bA G E ι Y.h b db∧b.length=Kg os∧
  ∀{E2:List D} {s:List SV} {zY:List (Nat×SO)},s.length=db.length→(∀(i:Nat) (e:X) (d:D),s[i]?=some (.x e)→db[i]?=some d→X.ev G E2 e=some d)→FD os s=some zY→
   zY.map (·.1)=os.map (·.1)∧ ∀{n:Nat} {o:SO},find zY n=some o→(∃o0,find Y.h n=some o0∧SO.cC G E E2 (ι.e n) (ι.e n) o0 o)∧ ∀{ι2:Im} {h2:List (Nat×SO)},bA G E2 ι2 h2 s db→Ob Ω G E2 ι γ ι2 h2 Y.h J J.m n o
 | [],b,h=>by
  simp[ow]at h;subst h;exact⟨[],bA.nil,rfl,fun _ _ hz=>by cases hz;exact⟨rfl,fun{n o} hf=>by cases hf⟩⟩
 |(j,k)::r,b,h=>by
  simp only[ow,Bz]at h;obtain⟨o0,hf,h⟩:=h;split at h
  ·rename_i hsk;obtain⟨b',hb,rfl⟩:=Mz.1 h;obtain⟨db,h1,h2,h3⟩:=nf M hb
   have one: ∃dc,bA G E ι Y.h o0.cells dc∧o0.cells.length=k.len∧ ∀{E2:List D} {s:List SV} {o:SO},s.length=dc.length→(∀(i:Nat) (e:X) (d:D),s[i]?=some (.x e)→dc[i]?=some d→X.ev G E2 e=some d)→k.My s=some o→
     SO.cC G E E2 (ι.e j) (ι.e j) o0 o∧ ∀{ι2:Im} {h2:List (Nat×SO)},bA G E2 ι2 h2 s dc→Ob Ω G E2 ι γ ι2 h2 Y.h J J.m j o:=by
    cases o0 with
    |box us=>
     simp only[SO.sk]at hsk;subst hsk;obtain⟨ds,k1,k2,k3⟩:=M.box j us hf;refine⟨ds,k3,rfl,fun{E2 s o} hl _ hmk=> ?_⟩;simp only[Sk.My]at hmk;split at hmk<;>cases hmk;rename_i hlen;exact⟨hlen,fun H=>⟨ds,k1,k2,H⟩⟩
    |aA e sz c=>
     simp only[SO.sk]at hsk;subst hsk;obtain⟨es,k1,k2,k3⟩:=M.aA j e sz c hf;refine⟨[.list es],bA.mk (.x k1 rfl) bA.nil,rfl,fun{E2 s o} hl hX hmk=> ?_⟩;obtain⟨c',rfl,rfl⟩:=Ko hmk;have hc:=hX 0 c' _ rfl rfl;exact⟨⟨rfl,rfl,fun es' he'=>⟨es,hc,by rw[k1]at he';cases he';rfl⟩⟩,fun _=>⟨es,hc,k2,k3⟩⟩
    |map c=>
     simp only[SO.sk]at hsk;subst hsk;obtain⟨es,k1,k2,k3⟩:=M.mpo j c hf;refine⟨[.list (aG es)],bA.mk (.x k1 rfl) bA.nil,rfl,fun{E2 s o} hl hX hmk=> ?_⟩;obtain⟨c',rfl,rfl⟩:=Kq hmk;exact⟨trivial,fun _=>⟨es,hX 0 c' _ rfl rfl,k2,k3⟩⟩
    |bL e sz c=>
     simp only[SO.sk]at hsk;subst hsk;obtain⟨L,k1,k2,k3,k4⟩:=M.own j e sz c hf;refine⟨[.list (aG (L.map OE.pr))],bA.mk (.x k1 rfl) bA.nil,rfl,fun{E2 s o} hl hX hmk=> ?_⟩;obtain⟨c',rfl,rfl⟩:=Kr hmk;exact⟨fun hz=>⟨hz,fun es hes=>⟨⟨_,hX 0 c' _ rfl rfl,by rw[k1]at hes;cases hes;exact Nat.le_refl _⟩,fun _ _=>rfl⟩⟩,fun _=>⟨L,hX 0 c' _ rfl rfl,k2,k3,k4⟩⟩
    |raw kk=>
     simp only[SO.sk]at hsk;subst hsk;have k2:=M.rwo j kk hf;refine⟨[],bA.nil,rfl,fun{E2 s o} hl hX hmk=> ?_⟩;obtain rfl:=Ks hmk;exact⟨trivial,fun _=>k2⟩
    |itr m0 c=>
     simp only[SO.sk]at hsk;subst hsk;have H:=M.itr j m0 c hf;cases m0 with
     |none=>
      refine⟨[],bA.nil,rfl,fun{E2 s o} hl hX hmk=> ?_⟩;obtain rfl:o= .itr none (.q .undef):=by cases s<;>cases hmk;rfl
      exact⟨trivial,fun _=>⟨H.1,let⟨t,k,seen,h,_⟩:=H.2;⟨t,k,seen,h,fun _ e=>by cases e⟩⟩⟩
     |some m1=>
      obtain⟨k1,t,k,seen,k2,k3⟩:=H;obtain⟨k4,k5,k6,k7⟩:=k3 m1 rfl;refine⟨[.list (lB k seen)],bA.mk (.x k6 rfl) bA.nil,rfl,fun{E2 s o} hl hX hmk=> ?_⟩;obtain⟨c',rfl,rfl⟩:=Kn hmk;exact⟨trivial,fun _=>⟨k1,t,k,seen,k2,fun m' e=>by cases e;exact⟨k4,k5,hX 0 c' _ rfl rfl,k7⟩⟩⟩
   obtain⟨dc,c1,c2,c3⟩:=one;have hdl:dc.length=k.len:=by rw[←c1.1];exact c2
   refine⟨dc++db,c1.append h1,by simp[Kg,h2,c2],fun{E2 s zY} hl hX hz=> ?_⟩;simp only[FD,Bz,Mz]at hz;obtain⟨o,ho,ac4,hz',rfl⟩:=hz;simp only[List.length_append]at hl
   have hX1: ∀(i:Nat) (e:X) (d:D),(s.take k.len)[i]?=some (.x e)→dc[i]?=some d→X.ev G E2 e=some d:=fun i e d hi hd=>by
    grind
   have hX2: ∀(i:Nat) (e:X) (d:D),(s.drop k.len)[i]?=some (.x e)→db[i]?=some d→X.ev G E2 e=some d:=fun i e d hi hd=>by
    grind
   obtain⟨g1,g2⟩:=c3 (by simp;omega) hX1 ho;obtain⟨g3,g4⟩:=h3 (by simp;omega) hX2 hz';refine⟨by simp[g3],fun{n q} hfo=> ?_⟩;simp only[find]at hfo;cases hi:j==n with
   |true=>
    rw[hi]at hfo;cases hfo;have:j=n:=by simpa using hi
    subst this;refine⟨⟨o0,hf,g1⟩,fun{ι2 h2'} H=>g2 ?_⟩;have:=H.take k.len;rw[←hdl,List.take_left,hdl]at this;exact this
   |false=>
    rw[hi]at hfo;obtain⟨e1,e2⟩:=g4 hfo;refine⟨e1,fun{ι2 h2'} H=>e2 ?_⟩;have:=H.drop k.len;rw[←hdl,List.drop_left,hdl]at this;exact this
  ·cases h
theorem tT{k0:Nat}{bs:List Nat}(hE: ∀i,i<k0→E[i]?=E2[i]?):
  ∀{r:Row} {q:Nat} {vs:List SV} {dt ds:List D} {xs:List X} {rn:Ren},bA G E ι Y.h vs dt→fO Y.h r vs=some (xs,rn)→X.bh G E xs=some ds→(∀j,j<ds.length→E2[q+j]?=ds[j]?)→
   (∀p∈r,(match p.2 with| .same v=>cy k0 bs v|_=>true)=true)→ ∀(i:Nat) (e:X) (d:D),(ec q r)[i]?=some (.x e)→dt[i]?=some d→X.ev G E2 e=some d
 | [],q,vs,dt,ds,xs,rn,hv,hm,_,_,_,i,e,d,hi,_=>by simp[ec]at hi
 |(nm,p)::r,q,vs,dt,ds,xs,rn,hv,hm,he,hq,hok,i,e,d,hi,hd=>by
  cases vs with
  |nil=>simp[fO]at hm
  |cons v vs=>
   simp only[fO,Bz,Mz]at hm;obtain⟨⟨xs1,rn1⟩,h1,⟨xs2,rn2⟩,h3,h4⟩:=hm;cases h4;simp only[]at he;obtain⟨d0,dt',rfl,H,K⟩:=hv.cons
   have BA: ∃ds1 ds2,ds=ds1++ds2∧X.bh G E xs1=some ds1∧X.bh G E xs2=some ds2:=by
    have hl:=dg he;refine⟨ds.take xs1.length,ds.drop xs1.length,(List.take_append_drop ..).symm, ?_, ?_⟩
    ·refine sG (by simp at hl⊢;omega) fun i x dd hx hd=> ?_;have hi:=(Gz.1 hx).1;rw[List.getElem?_take_of_lt hi]at hd;exact eZ he i x dd (by rw[Yz hi];exact hx) hd
    ·refine sG (by simp at hl⊢;omega) fun i x dd hx hd=> ?_;rw[List.getElem?_drop]at hd;exact eZ he (xs1.length+i) x dd (by rw[Xz (by omega)];simpa using hx) hd
   obtain⟨ds1,ds2,rfl,e1,e2⟩:=BA;have P_: ∀p∈r,(match p.2 with| .same v=>cy k0 bs v|_=>true)=true:=fun p hp=>hok p (Cz _ hp);have rest: ∀{q':Nat},(∀j,j<ds2.length→E2[q'+j]?=ds2[j]?)→ ∀(i:Nat) (e:X) (d:D),(ec q' r)[i]?=some (.x e)→dt'[i]?=some d→X.ev G E2 e=some d:=fun g1=>tT hE K h3 e2 g1 P_
   have zero:xs1= []→ ∀j,j<ds2.length→E2[q+j]?=ds2[j]?:=fun h0 j hj=>by
    subst h0;cases e1;simpa using hq j (by simpa using hj)
   have one: ∀{x:X},xs1= [x]→(∃dx,X.ev G E x=some dx∧E2[q]?=some dx)∧ ∀j,j<ds2.length→E2[q+1+j]?=ds2[j]?:=fun{x} h0=>by
    subst h0;obtain⟨dx,rfl,hdx⟩:=iP e1;refine⟨⟨dx,hdx,by have:=hq 0 (by simp);simpa using this⟩,fun j hj=> ?_⟩;have:=hq (j+1) (by simpa using hj);simpa[Nat.add_assoc,Nat.add_comm 1 j]using this
   cases p with
   |drop=>
    simp only[mM]at h1;cases h1;cases i with
    |zero=>simp[ec]at hi
    |succ i=>exact rest (zero rfl) i e d (by simpa[ec]using hi) (by simpa using hd)
   |same v'=>
    simp only[mM]at h1;split at h1<;>cases h1;rename_i hbe;obtain rfl:=jS _ _ hbe;cases i with
    |zero=>
     simp only[ec,List.getElem?_cons_zero,Jz]at hi hd;subst hi;subst hd;have:=hok _ (List.mem_cons_self ..);simp only[cy]at this;rw[←vH hE _ this];exact H.bQ.1
    |succ i=>exact rest (zero rfl) i e d (by simpa[ec]using hi) (by simpa using hd)
   |var=>
    simp only[mM]at h1;obtain⟨x,hx,h5⟩:=Mz.1 h1;cases h5;obtain⟨⟨dx,hdx,hqx⟩,h6⟩:=one rfl;cases i with
    |zero=>
     simp only[ec,List.getElem?_cons_zero,Jz,SV.x.injEq]at hi hd;subst hi;subst hd;obtain rfl:=aZ H hx hdx;simpa only[X.ev]using hqx
    |succ i=>exact rest h6 i e d (by simpa[ec]using hi) (by simpa using hd)
   |aA e0 sz0=>
    have h6: ∃x,xs1= [x]:=by
     cases v
     case gl n sz'=>
      simp only[mM]at h1;split at h1
      ·split at h1<;>cases h1;exact⟨_,rfl⟩
      ·cases h1
     case x ex=>
      cases ex
      case q dq=>
       cases dq
       case nil=>simp only[mM]at h1;cases h1;exact⟨_,rfl⟩
       all_goals (simp[mM]at h1;done)
      all_goals (simp[mM]at h1;done)
     all_goals (simp[mM]at h1;done)
    obtain⟨x,hx⟩:=h6;cases i with
    |zero=>simp[ec]at hi
    |succ i=>exact rest (one hx).2 i e d (by simpa[ec]using hi) (by simpa using hd)
theorem gw{α:Type}: ∀{l:List (Nat×α)} {n:Nat},n∈l.map (·.1)→ ∃o,find l n=some o
 | [],n,h=>by simp at h
 |(i,a)::r,n,h=>by
  simp only[find];cases hi:i==n with
  |true=>exact⟨_,rfl⟩
  |false=>
   simp only[List.map_cons,List.mem_cons]at h;rcases h with rfl|h
   ·grind
   ·exact gw h
theorem Hd.sound(M:Mt Ω G E ι γ Y J){hd:Hd}{k:Nat}(ok:hd.ok k=true){xs:List X}{rn:Ren}(hm:hd.mt Y=some (xs,rn)){ds:List D}(he:X.bh G E xs=some ds){E0:List D}(hk:E0.length=k)
  (hE: ∀i,i<k→E[i]?=E0[i]?) (dd nn:Nat): ∃ι2 γ2,Mt Ω G (E0++ds) ι2 γ2 (hd.mk' k ds.length dd nn) J:=by
 simp only[Hd.ok,Az,beq_iff_eq]at ok;obtain⟨⟨⟨⟨⟨⟨ok1,ok2⟩,ok3⟩,ok4⟩,ok5⟩,WY⟩,ok7⟩:=ok;obtain⟨zY,G2⟩:=Option.isSome_iff_exists.1 WY;rw[G2,Option.getD_some]at ok7;simp only[Hd.mt]at hm;split at hm
 rotate_left
 ·cases hm
 simp only[Bz]at hm;obtain⟨t,ht,b,hb,q,hq,hm⟩:=hm;split at hm
 ·rename_i hnd;cases hm;obtain⟨dt,hvt,htl,aal⟩:=nh M ht;obtain⟨db,hvb,hbl,θ⟩:=nf M hb;have hvs:=(ng M hd.ids).append (hvt.append hvb);have ndr:=mc ok2;have ndn:(rn.map (·.1)).Nodup:=ndr.sublist (kZ hq);have ndl:((bM k hd.row).map (·.1)).Nodup:=ndr.sublist fh
  have BS: ∀nm,nm∈hd.row.map (·.1)→ ¬nm∈hd.ns:=fun nm h=>by
   obtain⟨p,hp,rfl⟩:=List.mem_map.1 h;have:=Tz.1 ok3 p hp;simpa using this
  let ι2:Im:=⟨fun m=>if m∈hd.ns then ι m else Ren.at ι.t ((find rn m).getD none),ι.e⟩;let γ2:Nat→Tok:=fun m=>if m∈hd.ns then γ m else Ren.at γ ((find rn m).getD none)
  have hI: ∀p∈rn,ι2 p.1=Ren.at ι.t p.2:=fun p hp=>by
   have h1: ¬p.1∈hd.ns:=BS _ ((kZ hq).subset (List.mem_map.2 ⟨p,hp,rfl⟩));simp only[ι2,if_neg h1,oK ndn (show(p.1,p.2)∈rn from hp),Option.getD_some]
  have hGm: ∀p∈rn,γ2 p.1=Ren.at γ p.2:=fun p hp=>by
   have h1: ¬p.1∈hd.ns:=BS _ ((kZ hq).subset (List.mem_map.2 ⟨p,hp,rfl⟩));simp only[γ2,if_neg h1,oK ndn (show(p.1,p.2)∈rn from hp),Option.getD_some]
  have hk2: ∀m,m∈hd.ns→ι2 m=ι m:=fun m hm=>by simp only[ι2,if_pos hm]
  have hg2: ∀m,m∈hd.ns→γ2 m=γ m:=fun m hm=>by simp only[γ2,if_pos hm]
  have hE2: ∀i,i<k→E[i]?=(E0++ds)[i]?:=fun i hi=>by rw[Yz (by omega)];exact hE i hi
  have hqd: ∀j,j<ds.length→(E0++ds)[k+j]?=ds[j]?:=fun j hj=>by rw[Xz (by omega),hk,Nat.add_sub_cancel_left]
  have okr: ∀p∈hd.row,(match p.2 with| .same v=>cy k hd.ns v|_=>true)=true:=fun p hp=>Tz.1 ok1 p hp;have gx:=tT (E2:=E0++ds) (bs:=hd.ns) hE2 hvs hq he hqd okr
  have hrl:(ec k hd.row).length=hd.ids.length+(dt.length+db.length):=by
   rw[ko,ok4,←hvt.1,←hvb.1,htl,hbl]
  have JQ:dt.length=zO hd.ts:=by rw[←hvt.1,htl]
  have hcO: ∀(i:Nat) (e:X) (d:D),(hd.cO k)[i]?=some (.x e)→db[i]?=some d→X.ev G (E0++ds) e=some d:=fun i e d hi hd'=>by
   simp only[Hd.cO,Hd.cT,List.getElem?_drop]at hi;refine gx _ e d hi ?_;rw[Xz (by simp),List.length_map,Nat.add_sub_cancel_left,Xz (by omega),JQ,Nat.add_sub_cancel_left];exact hd'
  obtain⟨P6,GY⟩:=θ (E2:=E0++ds) (s:=hd.cO k) (by simp[Hd.cO,Hd.cT,hrl,JQ];omega) hcO G2;have Eu: ∀m,m∈hd.ns↔m∈zY.map (·.1):=fun m=>by rw[P6];exact Iff.rfl
  let h2:=zY++bM k hd.row;have hfO: ∀{n:Nat} {o:SO},find zY n=some o→find h2 n=some o:=fun{n o} hf=>by simp only[h2,eC,hf,Option.some_or]
  have hfL: ∀p∈bM k hd.row,find h2 p.1=some p.2:=fun p hp=>by
   have h1: ¬p.1∈hd.ns:=BS _ (fh.subset (List.mem_map.2 ⟨p,hp,rfl⟩));simp only[h2,eC,sL (fun h=>h1 ((Eu _).2 h)),Option.none_or];exact oK ndl hp
  have hbk:Kp G E (E0++ds) ι ι2 Y.h h2 hd.ns:=fun n hn=>by
   have hn':n∈hd.ns:=by simpa using hn
   obtain⟨o,ho⟩:=gw ((Eu n).1 hn');obtain⟨⟨o0,g1,g2⟩,_⟩:=GY ho;exact⟨hk2 n hn',fun q hq=>⟨o,hfO ho,by rw[g1]at hq;cases hq;exact g2⟩⟩
  obtain⟨g1,g2⟩:=wm (E2:=E0++ds) (ι2:=ι2) (h2:=h2) M hE2 hbk hvs hq he hqd okr hfL hI;have gs:=g1.take hd.ids.length;have gr:=g1.drop hd.ids.length;rw[show hd.ids.length=(hd.ids.map J.s).length by simp,List.take_left]at gs;rw[show hd.ids.length=(hd.ids.map J.s).length by simp,List.drop_left]at gr;simp only[List.length_map]at gs gr;have gb:=gr.drop dt.length;rw[List.drop_left,JQ]at gb
  have gt:bA G (E0++ds) ι2 h2 ((hd.cT k).take dt.length) dt:=by
   have:=gr.take dt.length;rw[List.take_left]at this;exact this
  have FE: ∀{ts:List (Nat×Nat)} {s:List SV} {N:Nat},zO ts≤N→ ∀i,find (CE ts (s.take N)) i=find (CE ts s) i:=by
   intro ts
   induction ts with
   |nil=>intro s N _ i;rfl
   |cons p r ih=>
    intro s N hN i;obtain⟨j,l⟩:=p;simp only[zO]at hN;simp only[CE,find,List.take_take,show min l N=l by omega,List.drop_take];cases j==i with
    |true=>rfl
    |false=>exact ih (by omega) i
  have look: ∀n o,find h2 n=some o→(n∈hd.ns∧ ∃o0,find Y.h n=some o0∧SO.cC G E (E0++ds) (ι.e n) (ι.e n) o0 o∧Ob Ω G (E0++ds) ι γ ι2 h2 Y.h J J.m n o)∨
    (∃e sz i,¬n∈hd.ns∧o= .aA e sz (.t i)∧(((n,none)∈rn∧(E0++ds)[i]?=some (.list []))∨ ∃n0 c d,(n,some n0)∈rn∧find Y.h n0=some (.aA e sz c)∧(E0++ds)[i]?=some d∧X.ev G E c=some d)):=fun n o hf=>by
   by_cases hn:n∈hd.ns
   ·left;obtain⟨o',ho'⟩:=gw ((Eu n).1 hn);rw[hfO ho']at hf;cases hf;obtain⟨⟨o0,e1,e2⟩,e3⟩:=GY ho';exact⟨hn,o0,e1,e2,e3 gb⟩
   ·right;simp only[h2,eC,sL (fun h=>hn ((Eu n).2 h)),Option.none_or]at hf;obtain⟨nm,e,sz,i,k1,k2⟩:=g2 _ (jZ hf);cases k1;exact⟨e,sz,i,hn,rfl,k2⟩
  have nda:=mc hnd;have ndo:(rn.filterMap (·.2)).Nodup:=(List.nodup_append.1 nda).1
  have apart: ∀n n0,(n,some n0)∈rn→ ¬n0∈hd.ns:=fun n n0 h1 h3=>by
   have:=(List.nodup_append.1 nda).2.2 n0 (List.mem_filterMap.2 ⟨(n,some n0),h1,rfl⟩) n0 h3;exact this rfl
  have old: ∀n n' n0,(n,some n0)∈rn→(n',some n0)∈rn→n=n':=fun n n' n0 h1 h3=>by
   have key: ∀{l:Ren},(l.filterMap (·.2)).Nodup→(n,some n0)∈l→(n',some n0)∈l→n=n':=by
    intro l
    induction l with
    |nil=>intro _ h;simp at h
    |cons p l ih=>
     intro hnd a1 a2;obtain⟨m,o⟩:=p;cases o with
     |none=>
      simp only[List.filterMap_cons]at hnd;simp only[List.mem_cons,Prod.mk.injEq,reduceCtorEq,and_false,false_or]at a1 a2;exact ih hnd a1 a2
     |some m0=>
      simp only[List.filterMap_cons,List.nodup_cons]at hnd;simp only[List.mem_cons,Prod.mk.injEq,Jz]at a1 a2;rcases a1 with⟨rfl,rfl⟩|a1<;>rcases a2 with⟨rfl,h⟩|a2
      ·rfl
      ·exact absurd (List.mem_filterMap.2 (⟨(n',some _),a2,rfl⟩: ∃a,a∈l∧a.2=some _)) hnd.1
      ·subst h;exact absurd (List.mem_filterMap.2 (⟨(n,some _),a1,rfl⟩: ∃a,a∈l∧a.2=some _)) hnd.1
      ·exact ih hnd.2 a1 a2
   exact key ndo h1 h3
  have hmk:(hd.mk' k ds.length dd nn).h=h2:=by simp only[Hd.mk',G2,Option.getD_some,h2]
  have src: ∀n o,find h2 n=some o→ι2 n≠ []→ ∃m q,find Y.h m=some q∧ι2 n=ι m∧γ2 n=γ m∧((n∈hd.ns∧m=n)∨(¬n∈hd.ns∧(n,some m)∈rn))∧ ∀e sz c,o= .aA e sz c→ ∃c0,q= .aA e sz c0:=fun n o hf hi=>by
   rcases look n o hf with⟨hn,o0,e1,e2,_⟩|⟨e,sz,i,hn,rfl,k2⟩
   ·refine⟨n,o0,e1,hk2 n hn,hg2 n hn, .inl ⟨hn,rfl⟩,fun e sz c ho=> ?_⟩;subst ho;cases o0<;>simp only[SO.cC]at e2;obtain⟨rfl,rfl,_⟩:=e2;exact⟨_,rfl⟩
   ·rcases k2 with⟨a1,_⟩|⟨n0,c0,d,a1,a2,_⟩
    ·exact absurd (hI _ a1) hi
    ·exact⟨n0,_,a2,hI _ a1,hGm _ a1, .inr ⟨hn,a1⟩,fun e' sz' c' ho=>by cases ho;exact⟨c0,rfl⟩⟩
  have uniq: ∀{n n' m:Nat},((n∈hd.ns∧m=n)∨(¬n∈hd.ns∧(n,some m)∈rn))→((n'∈hd.ns∧m=n')∨(¬n'∈hd.ns∧(n',some m)∈rn))→n=n':=fun{n n' m} h1 h3=>by
   rcases h1 with⟨a1,rfl⟩|⟨a1,a2⟩<;>rcases h3 with⟨b1,b2⟩|⟨b1,b2⟩
   ·exact b2
   ·exact absurd a1 (apart _ _ b2)
   ·subst b2;exact absurd b1 (apart _ _ a2)
   ·exact old _ _ _ a2 b2
  refine⟨ι2,γ2,⟨fun i v hv=> ?_,fun n vs hn=> ?_,fun n e sz c hn=> ?_,fun n c hn=> ?_,fun n e sz c hn=> ?_,fun n n' _ _ _ _ _ _ h1 h3=> ?_,fun n kk hn=> ?_,fun n n' o o' h1 h3 e1 e2=> ?_,fun n n' e e' sz sz' c c' h1 h3 e1 e2 eg=> ?_,M.wf,fun n e sz c hn hi y kk r hg=> ?_,by simp[Hd.mk',hk],M.con,fun n m c hn=> ?_⟩⟩
  ·rw[hmk];simp only[Hd.mk',eC,Option.or_eq_some_iff]at hv;rcases hv with hv|⟨_,hv⟩
   ·exact uK gs hv
   ·rw[←FE (Nat.le_of_eq JQ.symm)]at hv;exact aal gt hv
  ·rw[hmk]at hn⊢;rcases look n _ hn with⟨hn',o0,_,_,e3⟩|⟨e,sz,i,_,k1,_⟩
   ·obtain⟨xs',k1,k2,k3⟩:=e3;exact⟨xs',by rw[hk2 n hn'];exact k1,by rw[hk2 n hn'];exact k2,k3⟩
   ·cases k1
  ·rw[hmk]at hn;rcases look n _ hn with⟨hn',o0,_,_,e3⟩|⟨e',sz',i,hnk,k1,k2⟩
   ·obtain⟨es,k1,k2,k3⟩:=e3;exact⟨es,k1,k2,by rw[hk2 n hn',hg2 n hn'];exact k3⟩
   ·cases k1;rcases k2 with⟨a1,a2⟩|⟨n0,c0,d,a1,a2,a3,a4⟩
    ·exact⟨[],by simpa[X.ev]using a2,rfl, .inl ⟨by rw[hI _ a1];rfl,rfl⟩⟩
    ·obtain⟨es,b1,b2,b3⟩:=M.aA n0 _ _ _ a2;rw[a4]at b1;cases b1;have e1:ι2 n=ι n0:=hI _ a1;have e2:γ2 n=γ n0:=hGm _ a1;refine⟨es,by simpa[X.ev]using a3,b2, ?_⟩;rw[e1,e2];exact b3
  ·rw[hmk]at hn;rcases look n _ hn with⟨hn',o0,_,_,e3⟩|⟨e,sz,i,_,k1,_⟩
   ·obtain⟨es,k1,k2,k3⟩:=e3;exact⟨es,k1,by rw[hk2 n hn'];exact k2,by rw[hk2 n hn'];exact k3⟩
   ·cases k1
  ·rw[hmk]at hn;rcases look n _ hn with⟨hn',o0,_,_,e3⟩|⟨e,sz,i,_,k1,_⟩
   ·obtain⟨L,k1,k2,k3,k4⟩:=e3;refine⟨L,k1,by rw[hk2 n hn'];exact k2,by rw[hk2 n hn'];exact k3,fun q hq=>(k4.1 q hq).eP rfl (fun k o hk=> ?_) (fun hz k e sz c hk hi=> ?_) fun _=>Nat.le_refl _,k4.2⟩
    ·rw[hmk]at hk;by_cases hi:ι2 k= []
     ·rw[hi];exact Ne.symm (k4.1 q hq).1
     ·obtain⟨m,q1,a1,a2,_⟩:=src k o hk hi;rw[a2];exact(k4.1 q hq).2.2.2.1 m q1 a1
    ·rw[hmk]at hk;obtain⟨m,q1,a1,a2,a3,a4,a5⟩:=src k _ hk hi;obtain⟨c0,rfl⟩:=a5 _ _ _ rfl;rw[a3];exact(k4.1 q hq).2.2.2.2.1 hz m _ _ _ a1 (by rw[←a2];exact hi)
   ·cases k1
  ·rw[hmk]at h1 h3
   have mp: ∀{n e sz c},find h2 n=some (.bL e sz c)→n∈hd.ns∧ ∃e' sz' c',find Y.h n=some (.bL e' sz' c'):=fun{n e sz c} h=>by
    rcases look n _ h with⟨hn',o0,g1,g2,_⟩|⟨_,_,_,_,k1,_⟩
    ·cases o0<;>simp only[SO.cC]at g2;exact⟨hn',_,_,_,g1⟩
    ·cases k1
   obtain⟨_,_,_,_,g1⟩:=mp h1;obtain⟨_,_,_,_,g3⟩:=mp h3;exact M.one n n' _ _ _ _ _ _ g1 g3
  ·rw[hmk]at hn;rcases look n _ hn with⟨hn',o0,_,_,e3⟩|⟨e,sz,i,_,k1,_⟩
   ·obtain⟨k1,k2,k3⟩:=e3;exact⟨by rw[hk2 n hn'];exact k1,by rw[hk2 n hn'];exact k2,by rw[hk2 n hn'];exact k3⟩
   ·cases k1
  ·rw[hmk]at h1 h3;obtain⟨m,q1,a1,a2,_,a4,_⟩:=src n o h1 e2;obtain⟨m',q2,b1,b2,_,b4,_⟩:=src n' o' h3 (e1▸e2);have:m=m':=M.inj m m' _ _ a1 b1 (by rw[←a2,←b2];exact e1) (by rw[←a2];exact e2);subst this;exact uniq a4 b4
  ·rw[hmk]at h1 h3;obtain⟨m,q1,a1,a2,a3,a4,a5⟩:=src n _ h1 e1;obtain⟨m',q2,b1,b2,b3,b4,b5⟩:=src n' _ h3 e2;obtain⟨c0,rfl⟩:=a5 _ _ _ rfl;obtain⟨c1,rfl⟩:=b5 _ _ _ rfl;have:m=m':=M.gJ m m' _ _ _ _ _ _ a1 b1 (by rw[←a2];exact e1) (by rw[←b2];exact e2) (by rw[←a3,←b3];exact eg);subst this;exact uniq a4 b4
  ·rw[hmk]at hn;obtain⟨m,q1,a1,a2,a3,a4,a5⟩:=src n _ hn hi;obtain⟨c0,rfl⟩:=a5 _ _ _ rfl;rw[a3]at hg;exact M.old m _ _ _ a1 (by rw[←a2];exact hi) y kk r hg
  ·rw[hmk]at hn;rcases look n _ hn with⟨hn',o0,_,_,e3⟩|⟨e,sz,i,_,k1,_⟩
   ·have e3:qn G (E0++ds) ι Y.h J n m c:=e3
    have hin: ∀m',m=some m'→m'∈hd.ns:=fun m' e=>by
     obtain⟨o',ho'⟩:=gw ((Eu n).1 hn');rw[hfO ho']at hn;cases hn;have:=Tz.1 ok7 _ (jZ ho');subst e;simpa using this
    rw[hmk];refine e3.eP (hk2 n hn') rfl (fun _ _ h=>h) fun m' o2 e hf2 hmp=>⟨hk2 m' (hin m' e), ?_,fun es h=>⟨es,h,rfl⟩⟩;obtain⟨o',ho'⟩:=gw ((Eu m').1 (hin m' e));obtain⟨⟨o3,j1,j2⟩,_⟩:=GY ho';rw[hf2]at j1;cases j1;exact⟨o',hfO ho',by cases o2<;>cases o'<;>simp only[SO.cC]at j2<;>first|rfl|cases hmp⟩
   ·cases k1
 ·cases hm
end
end
section
def iH(a b n:Nat):Nat:=bif n==a then b else bif n==b then a else n
theorem fJ(a b n:Nat):iH a b (iH a b n)=n:=by
 unfold iH
 grind
mutual
def Jb(a b:Nat):SV→SV
 | .un=> .un
 | .x e=> .x e
 | .agg vs=> .agg (Ce a b vs)
 | .tup vs=> .tup (Ce a b vs)
 | .clo f vs=> .clo f (Ce a b vs)
 | .ptr n o=> .ptr (iH a b n) o
 | .dp n o c s i j=> .dp (iH a b n) o c s i j
 | .gl n s=> .gl (iH a b n) s
 | .gs n s k=> .gs (iH a b n) s k
 | .gc n s k=> .gc (iH a b n) s k
 | .gt n s k=> .gt (iH a b n) s k
 | .ep n s i j=> .ep (iH a b n) s i j
 | .sb n o l=> .sb (iH a b n) o l
 | .rb n o=> .rb (iH a b n) o
 | .mp n=> .mp (iH a b n)
 | .yl n=> .yl (iH a b n)
 | .bp n i o=> .bp (iH a b n) i o
 | .it n=> .it (iH a b n)
 | .gd g v=> .gd g (Jb a b v)
def Ce(a b:Nat):List SV→List SV
 | []=> []
 |v::r=>Jb a b v::Ce a b r
end
theorem o8(a b:Nat): ∀(vs:List SV),Ce a b vs=vs.map (Jb a b)
 | []=>by simp[Ce]
 |v::r=>by simp[Ce,o8 a b r]
def IB(a b:Nat):SO→SO
 | .box vs=> .box (vs.map (Jb a b))
 | .itr m c=> .itr (m.map (iH a b)) c
 |o=>o
def RG(a b:Nat):List (Nat×SO)→List (Nat×SO)
 | []=> []
 |(i,o)::r=>(iH a b i,IB a b o)::RG a b r
theorem j0(a b n:Nat): ∀(h:List (Nat×SO)),find (RG a b h) n=(find h (iH a b n)).map (IB a b)
 | []=>rfl
 |(i,o)::r=>by
  simp only[RG,find,j0 a b n r]
  have:(iH a b i==n)=(i==iH a b n):=by
   by_cases h:iH a b i=n
   ·subst h;rw[fJ];simp
   ·have h2:i≠iH a b n:=fun e=>h (by rw[e,fJ])
    grind
  grind
def Sy.swap(Y:Sy)(a b:Nat):Sy:={Y with s:=mapA (Jb a b) Y.s,h:=RG a b Y.h}
def Im.sw(ι:Im)(a b:Nat):Im:=⟨fun n=>ι (iH a b n),fun n=>ι.e (iH a b n)⟩
section
variable {Ω : bz} {G : FP} {E : List D} {ι : Im} {γ : Nat → Tok} {Y : Sy} {J : St}
theorem VR.swap{h:List (Nat×SO)}{v:SV}{d:D}(H:VR G E ι h v d)(a b:Nat):VR G E (ι.sw a b) (RG a b h) (Jb a b v) d:=by
 have fb: ∀{n:Nat} {vs:List SV},find h n=some (.box vs)→find (RG a b h) (iH a b n)=some (.box (vs.map (Jb a b))):=fun hf=>by rw[j0,fJ,hf];rfl
 have fo: ∀{n:Nat} {o:SO},(∀vs,o≠ .box vs)→(∀m c,o≠ .itr m c)→find h n=some o→find (RG a b h) (iH a b n)=some o:=fun{n o} ho ho2 hf=>by
  rw[j0,fJ,hf];cases o<;>first|rfl|exact absurd rfl (ho _)|exact absurd rfl (ho2 _ _)
 have hi: ∀n,(ι.sw a b) (iH a b n)=ι n:=fun n=>by show ι (iH a b (iH a b n))=ι n;rw[fJ]
 induction H with
 |un=>exact .un
 |x h1 h2=>exact .x h1 h2
 |agg hl hh ih=>
  simp only[Jb,o8]
  exact .agg (by simpa using hl) fun i v d hv hd=>by
   grind
 |tup hl hh ih=>
  simp only[Jb,o8]
  exact .tup (by simpa using hl) fun i v d hv hd=>by
   grind
 |clo hl hh ih=>
  simp only[Jb,o8]
  exact .clo (by simpa using hl) fun i v d hv hd=>by
   grind
 | @ptr n o vs hf=>
  have:=VR.ptr (G:=G) (E:=E) (ι:=ι.sw a b) (o:=o) (fb hf);simp only[hi]at this;exact this
 | @dp n o cnt s j i vs k z hf hv h0 hz hl=>
  have:=VR.dp (G:=G) (E:=E) (ι:=ι.sw a b) (o:=o) (j:=j) (fb hf) hv h0 hz (by simpa using hl);simp only[hi]at this;exact this
 | @gln n sz e c hf h1=>exact .gln (fo (by simp) (by simp) hf) (by rw[hi];exact h1)
 | @gl n sz e c es hf hc h1=>
  have:=VR.gl (G:=G) (E:=E) (ι:=ι.sw a b) (fo (by simp) (by simp) hf) hc (by rw[hi];exact h1);simp only[hi]at this;exact this
 | @gsn n sz e c k q hf h1 hk=>exact .gsn (fo (by simp) (by simp) hf) (by rw[hi];exact h1) hk
 | @gs n sz e c k es q z hf hc h1 hk h0 hz=>
  have:=VR.gs (G:=G) (E:=E) (ι:=ι.sw a b) (fo (by simp) (by simp) hf) hc (by rw[hi];exact h1) hk h0 hz;simp only[hi]at this;exact this
 | @gcn n sz e c k q hf h1 hk=>exact .gcn (fo (by simp) (by simp) hf) (by rw[hi];exact h1) hk
 | @gc n sz e c k es q z m hf hc h1 hk h0 hz=>
  have:=VR.gc (m:=m) (G:=G) (E:=E) (ι:=ι.sw a b) (fo (by simp) (by simp) hf) hc (by rw[hi];exact h1) hk h0 hz;simp only[hi]at this;exact this
 | @gtn n sz e c k q hf h1 hk=>exact .gtn (fo (by simp) (by simp) hf) (by rw[hi];exact h1) hk
 | @gt n sz e c k es q z hf hc h1 hk h0 hz=>
  have:=VR.gt (G:=G) (E:=E) (ι:=ι.sw a b) (fo (by simp) (by simp) hf) hc (by rw[hi];exact h1) hk h0 hz;simp only[hi]at this;exact this
 | @ep n sz e j c i k z es hf hc h1 hv h0 hz=>
  have:=VR.ep (G:=G) (E:=E) (ι:=ι.sw a b) (j:=j) (fo (by simp) (by simp) hf) hc (by rw[hi];exact h1) hv h0 hz;simp only[hi]at this;exact this
 | @sb n o len lim vs hf hl=>
  have:=VR.sb (G:=G) (E:=E) (ι:=ι.sw a b) (lim:=lim) (fb hf) (by simpa using hl);simp only[hi]at this;exact this
 | @rb n o vs hf hl=>
  have:=VR.rb (G:=G) (E:=E) (ι:=ι.sw a b) (fb hf) (by simpa using hl);simp only[hi]at this;exact this
 | @mp n o hf hmp=>
  have:=VR.mp (G:=G) (E:=E) (ι:=ι.sw a b) (fo (fun vs e=>by subst e;cases hmp) (fun m c e=>by subst e;cases hmp) hf) hmp;simp only[hi]at this;exact this
 | @yl n k hf=>
  have:=VR.yl (G:=G) (E:=E) (ι:=ι.sw a b) (fo (by simp) (by simp) hf);simp only[hi]at this;exact this
 | @bp n o i c rows k z e hf hc hv h0 hz=>
  have:=VR.bp (G:=G) (E:=E) (ι:=ι.sw a b) (o:=o) (fo (by simp) (by simp) hf) hc hv h0 hz;simp only[Im.sw,fJ]at this;exact this
 | @bpn n i c k z e hf hv h0=>exact .bpn (fo (by simp) (by simp) hf) hv h0
 | @it n o hf hit=>
  have:=VR.it (G:=G) (E:=E) (ι:=ι.sw a b) (n:=iH a b n) (o:=IB a b o) (by rw[j0,fJ,hf];rfl) (by cases o<;>first|rfl|cases hit);simp only[hi]at this;exact this
 |gd hg h1 h2 ih=>exact .gd hg ih h2
def wc(Y:Sy)(n:Nat):Bool:=match find Y.h n with
 |some (.raw _)=>false
 |_=>true
theorem Mt.swap(M:Mt Ω G E ι γ Y J){a b:Nat}(ha:wc Y a=true)(hb:wc Y b=true):Mt Ω G E (ι.sw a b) (fun n=>γ (iH a b n)) (Y.swap a b) J:=by
 have back: ∀{n:Nat} {o:SO},find (Y.swap a b).h n=some o→ ∃o0,find Y.h (iH a b n)=some o0∧o=IB a b o0:=fun{n o} h=>by
  simp only[Sy.swap,j0]at h;obtain⟨o0,h1,h2⟩:=Mz.1 h
  grind
 have bl: ∀{n e sz:Nat} {c:X},find (Y.swap a b).h n=some (.aA e sz c)→find Y.h (iH a b n)=some (.aA e sz c):=fun{n e sz c} h=>by
  obtain⟨o0,h1,h2⟩:=back h;cases o0<;>simp only[IB,reduceCtorEq]at h2;rw[h1,h2]
 have bp: ∀{n e sz:Nat} {c:X},find (Y.swap a b).h n=some (.bL e sz c)→find Y.h (iH a b n)=some (.bL e sz c):=fun{n e sz c} h=>by
  obtain⟨o0,h1,h2⟩:=back h;cases o0<;>simp only[IB,reduceCtorEq]at h2;rw[h1,h2]
 have inj: ∀{n n':Nat},iH a b n=iH a b n'→n=n':=fun{n n'} h=>by have:=congrArg (iH a b) h;rwa[fJ,fJ]at this
 refine⟨fun i v hv=> ?_,fun n vs hn=> ?_,fun n e sz c hn=>M.aA _ e sz c (bl hn),fun n c hn=> ?_,fun n e sz c hn=> ?_,fun n n' _ _ _ _ _ _ h1 h2=>inj (M.one _ _ _ _ _ _ _ _ (bp h1) (bp h2)),fun n k hn=> ?_,fun n n' o o' h1 h2 he hi=> ?_,fun n n' e e' sz sz' c c' h1 h2 g1 g2 hg=>inj (M.gJ _ _ e e' sz sz' c c' (bl h1) (bl h2) g1 g2 hg),M.wf,fun n e sz c hn hi=>M.old _ e sz c (bl hn) hi,M.nv,M.con,fun n m c hn=> ?_⟩
 ·simp only[Sy.swap,dh]at hv;obtain⟨u,hu,rfl⟩:=Mz.1 hv;exact(M.slot i u hu).swap a b
 ·obtain⟨o0,h1,h2⟩:=back hn;cases o0<;>simp only[IB,reduceCtorEq,SO.box.injEq]at h2;subst h2;obtain⟨ds,k1,k2,k3⟩:=M.box _ _ h1;refine⟨ds,k1,k2,by simpa using k3.1,fun i v d hv hd=> ?_⟩;rw[Dz,Mz]at hv;obtain⟨u,hu,rfl⟩:=hv;exact(k3.2 i u d hu hd).swap a b
 ·obtain⟨o0,h1,h2⟩:=back hn;cases o0<;>simp only[IB,reduceCtorEq,SO.map.injEq]at h2;subst h2;exact M.mpo _ c h1
 ·obtain⟨L,k1,k2,k3,k4⟩:=M.own _ _ _ _ (bp hn);refine⟨L,k1,k2,k3,fun q hq=>(k4.1 q hq).eP rfl (fun k o hk=> ?_) (fun hz k e sz c hk=> ?_) fun _=>Nat.le_refl _,k4.2⟩
  ·obtain⟨o0,h1,_⟩:=back hk;exact(k4.1 q hq).2.2.2.1 _ o0 h1
  ·exact(k4.1 q hq).2.2.2.2.1 hz _ e sz c (bl hk)
 ·obtain⟨o0,h1,h2⟩:=back hn;cases o0<;>simp only[IB,reduceCtorEq,SO.raw.injEq]at h2;subst h2
  have zG:iH a b n=n:=by
   unfold iH;by_cases e1:n=a
   ·subst e1;have:iH n b n=b:=by simp[iH]
    rw[this]at h1;simp[wc,h1]at hb
   ·by_cases e2:n=b
    ·subst e2;have h0:(n==a)=false:=by simpa using e1
     have:iH a n n=a:=by simp[iH,h0]
     rw[this]at h1;simp[wc,h1]at ha
    ·have h0:(n==a)=false:=by simpa using e1
     have h3:(n==b)=false:=by simpa using e2
     simp[h0,h3]
  rw[zG]at h1;simp only[show(ι.sw a b) n=ι n by show ι (iH a b n)=ι n;rw[zG]];exact M.rwo n k h1
 ·obtain⟨o1,g1,_⟩:=back h1;obtain⟨o2,g2,_⟩:=back h2;exact inj (M.inj _ _ o1 o2 g1 g2 he hi)
 ·obtain⟨o0,h1,h2⟩:=back hn;cases o0<;>simp only[IB,reduceCtorEq,SO.itr.injEq]at h2;rename_i m0 _;obtain⟨rfl,rfl⟩:=h2;obtain⟨k1,t,k,seen,k2,k3⟩:=M.itr _ _ _ h1;refine⟨k1,t,k,seen,k2,fun m' e=> ?_⟩;obtain⟨m1,rfl,rfl⟩:=Mz.1 e;obtain⟨g1,⟨o,g2,g3⟩,g4,g5⟩:=k3 m1 rfl;have e2:(ι.sw a b) (iH a b m1)=ι m1:=by show ι (iH a b (iH a b m1))=ι m1;rw[fJ]
  refine⟨by rw[e2];exact g1,⟨IB a b o,by simp only[Sy.swap,j0,fJ,g2,Pz],by cases o<;>first|rfl|cases g3⟩,g4,by rw[e2];exact g5⟩
end
def pM:SO→SO
 | .bL e sz c=>if sz=0 then .bL e sz c else .map c
 |o=>o
def Sy.freeze(Y:Sy):Sy:={Y with h:=mapA pM Y.h}
def Sy.SP(Y:Sy)(k:Nat):Sy:=if k=1000000 then Y.freeze else Y
mutual
def mY(h:List (Nat×SO)):SV→SV
 | .gl n _=>match find h n with
  |some (.aA _ _ c)=> .x c
  |_=> .un
 | .gs n _ k=>match find h n with
  |some (.aA _ _ c)=> .x (.mk .take [c,k])
  |_=> .un
 | .gc n _ k=>match find h n with
  |some (.aA _ _ c)=> .x (.mk .take [c,k])
  |_=> .un
 | .gt n _ k=>match find h n with
  |some (.aA _ _ c)=> .x (.mk .drp [c,k])
  |_=> .un
 | .ep .. => .un
 | .agg vs=> .agg (iR h vs)
 | .tup vs=> .tup (iR h vs)
 | .clo f vs=> .clo f (iR h vs)
 | .gd g v=> .gd g (mY h v)
 | .un=> .un
 | .x e=> .x e
 | .ptr n o=> .ptr n o
 | .dp n o cnt s i j=> .dp n o cnt s i j
 | .sb n o l=> .sb n o l
 | .rb n o=> .rb n o
 | .mp n=> .mp n
 | .yl n=> .yl n
 | .bp n i o=> .bp n i o
 | .it n=> .it n
def iR(h:List (Nat×SO)):List SV→List SV
 | []=> []
 |v::r=>mY h v::iR h r
end
def nO(h:List (Nat×SO)):SO→SO
 | .box vs=> .box (iR h vs)
 |o=>o
def wb:List (Nat×SO)→List (Nat×SO)
 | []=> []
 |(i, .aA ..)::r=>qw i (wb r)
 |(i,o)::r=>(i,o)::wb r
def Sy.nP(Y:Sy):Sy:={Y with s:=mapA (mY Y.h) Y.s,h:=mapA (nO Y.h) (wb Y.h)}
def Sy.sN(Y:Sy)(k:Nat):Sy:=if k=1 then Y.nP else Y
def tF:List (Nat×SV)→List (Nat×Nat)
 | []=> []
 |(i, .ptr n 0)::r=>(i,n)::tF r
 |_::r=>tF r
def Sy.align(Y:Sy):List (Nat×Nat)→Sy
 | []=>Y
 |(i,a)::r=>match find Y.s i with
  |some (.ptr n 0)=>if n≠a∧wc Y n=true∧wc Y a=true then(Y.swap n a).align r else Y.align r
  |_=>Y.align r
theorem Mt.align{Ω:bz}{G:FP}{E:List D}: ∀(l:List (Nat×Nat)) {ι:Im} {γ:Nat→Tok} {Y:Sy} {J:St},Mt Ω G E ι γ Y J→ ∃ι' γ',Mt Ω G E ι' γ' (Y.align l) J
 | [],ι,γ,Y,J,M=>⟨ι,γ,M⟩
 |(i,a)::r,ι,γ,Y,J,M=>by
  simp only[Sy.align];split
  ·split
   ·rename_i n _ hc;exact Mt.align r (M.swap hc.2.1 hc.2.2)
   ·exact Mt.align r M
  ·exact Mt.align r M
def C5:Nat→Row→List SV→Row
 |_,[],_=> []
 |k,(_,p)::r,vs=>(k,match p with
  | .same .un=> .same (vs.headD .un)
  |p=>p)::C5 (k+1) r vs.tail
def zA(Y:Sy):List (Nat×Nat)→List SV
 | []=> []
 |(i,l)::r=>(match find Y.s i with
  |some (.tup vs)=>bif vs.length==l then vs else List.replicate l .un
  |_=>List.replicate l .un)++zA Y r
def zy(Y:Sy):List (Nat×Sk)→List SV
 | []=> []
 |(n,k)::r=>(match find Y.h n with
  |some o=>bif o.cells.length==k.len then o.cells else List.replicate k.len .un
  |none=>List.replicate k.len .un)++zy Y r
def Hd.fill(h:Hd)(b:Nat)(Y:Sy):Hd:={h with row:=C5 b h.row (rC Y h.ids++(zA Y h.ts++zy Y h.os))}
end
noncomputable section
inductive FT where
 |ret (x:X)
 |bm (xs:List X) (k:FT)
 |lets (xs:List X) (k:FT)
 |ite (c:X) (a b:FT)
 |loop (init:List X) (body:FT)
 |next (j:Nat) (xs:List X)
 |jp (k body:FT)
 |any (x:X) (a b:FT)
 |st (Y:Sy)
 |bad (why:Nat) (Y:Option Sy:=none)
def lJ:X→D→Bool
 |_, .list []=>true
 | .mk .own _, .list es=>es.all fun c=>c.all D.bB
 |_, .agg xs=>xs.all D.bB
 |_,d=>d.bB
def tx:List X→List D→Bool
 |x::xs,d::ds=>lJ x d&&tx xs ds
 | [],[]=>true
 |_,_=>false
def q_:X→D→Bool
 | .mk .tup xs, .tup ds=>tx xs ds
 |x,d=>lJ x d
def eR(x:X)(d:D):D:=if d.flat then d else if q_ x d then d.own else d
open Classical in
def AX(z:Option D)(f:D→Option D):List (List D)→Option D
 | []=>none
 |_::L=>if L= []then z else if h: ∃d,∀i c,L[i]?=some c→f (.list (c::L.eraseIdx i))=some d then some h.choose else none
def qV(z:Option D)(f:D→Option D):D→Option D
 | .list rows=>AX z f rows
 |_=>none
theorem wO{z:Option D}{f:D→Option D}{r:List D}{L:List (List D)}{d:D}(h:AX z f (r::L)=some d):(L= []→z=some d)∧ ∀i c,L[i]?=some c→f (.list (c::L.eraseIdx i))=some d:=by
 simp only[AX]at h;split at h
 ·rename_i hL;subst hL;exact⟨fun _=>h,fun i c hc=>by simp at hc⟩
 ·rename_i hL;split at h
  ·rename_i hx;injection h with h
   exact⟨fun e=>absurd e hL,h▸hx.choose_spec⟩
  ·cases h
theorem any_none{z:Option D}{f:D→Option D}{r:List D}:AX z f [r]=z:=by simp[AX]
theorem any_some{z:Option D}{f:D→Option D}{r:List D}{L:List (List D)}{d:D}(h0:L≠ [])(h: ∀i c,L[i]?=some c→f (.list (c::L.eraseIdx i))=some d):AX z f (r::L)=some d:=by
 simp only[AX];have hx: ∃d,∀i c,L[i]?=some c→f (.list (c::L.eraseIdx i))=some d:=⟨d,h⟩;rw[if_neg h0,dif_pos hx];cases L with
 |nil=>exact absurd rfl h0
 |cons a r'=>
  have h1:=hx.choose_spec 0 a rfl;have h2:=h 0 a rfl;rw[h1]at h2;exact h2
def aa(G:FP)(N:Nat):FT→List (List D→Option D)→List D→Option D
 | .ret x,_,E=>(X.ev G E x).bind fun d=>if d.aK then some (eR x d)else none
 | .bm xs k,L,E=>(X.bh G E xs).bind fun _=>aa G N k L E
 | .lets xs k,L,E=>(X.bh G E xs).bind fun ds=>aa G N k L (E++ds)
 | .ite c a b,L,E=>(X.ev G E c).bind fun v=>v.asBool.bind fun x=>bif x then aa G N a L E else aa G N b L E
 | .loop xs body,L,E=>(X.bh G E xs).bind fun ds=>iter (fun rec vs=>aa G N body (rec::L) (E++vs)) N ds
 | .next j xs,L,E=>(X.bh G E xs).bind fun ds=>(L[j]?).bind fun f=>f ds
 | .jp k body,L,E=>aa G N body ((fun vs=>aa G N k L (E++vs))::L) E
 | .any x a b,L,E=>(X.ev G E x).bind (qV (aa G N a L E) fun s=>aa G N b L (E++ [s]))
 | .st _,_,_=>none
 | .bad _ _,_,_=>none
def ni(xs:List X)(k:FT):FT:=match xs with
 | []=>k
 |xs=> .bm xs k
def ma(xs:List X)(k:FT):FT:=match xs with
 | []=>k
 |xs=> .lets xs k
theorem iO{G:FP}{N:Nat}{xs:List X}{k:FT}{L:List (List D→Option D)}{E:List D}:aa G N (ni xs k) L E=(X.bh G E xs).bind fun _=>aa G N k L E:=by cases xs<;>rfl
theorem mG{G:FP}{N:Nat}{xs:List X}{k:FT}{L:List (List D→Option D)}{E:List D}:aa G N (ma xs k) L E=(X.bh G E xs).bind fun ds=>aa G N k L (E++ds):=by
 cases xs
 ·simp[ma,X.bh]
 ·rfl
def YY:Code→List Nat
 | .region _ ops _=>ops.toList.filterMap (·.dst)
 | .seq a b| .cond _ a b=>YY a++YY b
 | .block _ c| .loop c=>YY c
 |_=> []
structure Hs where
 s:List (Nat×yD)
 t:List (Nat×List yD)
 o:List (Nat×Sk×List yD)
def rowOf(B:Nat):Nat→List yD→Row
 |_,[]=> []
 |i,p::r=>(B+i,p)::rowOf B (i+1) r
def Hs.hd(B:Nat)(h:Hs):Hd:=
 {ids:=h.s.map (·.1),ts:=h.t.map fun p=>(p.1,p.2.length),os:=h.o.map fun p=>(p.1,p.2.1),row:=rowOf B 0 (h.s.map (·.2)++(h.t.flatMap (·.2)++h.o.flatMap (·.2.2)))}
def gQ:Row→Nat
 | []=>0
 |(_, .var)::r|(_, .aA ..)::r=>gQ r+1
 |_::r=>gQ r
def QO(h:List (Nat×SO))(n:Nat):yD:=match find h n with
 |some (.aA e sz _)=> .aA e sz
 |_=> .drop
def Q9(k:Nat)(ns:List Nat)(h:List (Nat×SO))(chg:Bool)(v:SV):yD:=
 match v with
 | .gl n _=>if chg then QO h n else if ns.contains n then .same v else QO h n
 | .x (.q d)=>if chg&& !(match d with| .nil=>true|_=>false)then .var else .same (.x (.q d))
 |v=>if chg&&v.ly.isSome then .var else if cy k ns v then .same v else if v.ly.isSome then .var else .drop
def Z9(k:Nat)(ns:List Nat)(h:List (Nat×SO)):yD→yD
 | .same v=>if cy k ns v then .same v else match v with
  | .gl n _=>QO h n
  |v=>if v.ly.isSome then .var else .drop
 |p=>p
def Jt(Y:Sy)(ls:List Sy):List (Nat×SO):=Y.h.filter fun p=>ls.all fun(Z:Sy)=>match find Z.h p.1 with
 |some o=>decide (o.sk=p.2.sk)
 |none=>false
def dedup(l:List (Nat×SO)):List (Nat×SO):=l.foldl (fun acc p=>if acc.any (·.1==p.1)then acc else acc++ [p]) []
def UF(k:Nat)(as:List Nat)(Y:Sy)(os:List (Nat×SO)):Hs:=
 let ns:=os.map (·.1)
 {s:=(Y.s.filter fun p=>match p.2 with| .tup _=>false|_=>true).map fun p=>(p.1,Q9 k ns Y.h (as.contains p.1) p.2),
  t:=Y.s.filterMap fun p=>match p.2 with| .tup vs=>some (p.1,vs.map (Q9 k ns Y.h (as.contains p.1)))|_=>none,
  o:=os.map fun p=>(p.1,p.2.sk,p.2.cells.map (Q9 k ns Y.h false))}
def Rs(p:yD)(ls:List (List (Nat×SO)×SV)):yD:=
 match p with
 | .drop=> .drop
 | .same v=>if ls.all (fun l=>dS v l.2)then .same v else
  match ls.findSome? (fun l=>match l.2 with| .gl n _=>(match find l.1 n with|some (.aA e sz _)=>some (e,sz)|_=>none)|_=>none)with
  |some (e,sz)=>if(match v with| .x (.q .nil)=>true| .gl .. =>true|_=>false)&&ls.all (fun l=>match l.2 with| .gl .. =>true| .x (.q .nil)=>true|_=>false)then .aA e sz else .drop
  |none=>if v.ly.isSome&&ls.all (fun l=>l.2.ly.isSome)then .var else .drop
 | .var=>if ls.all (fun l=>l.2.ly.isSome)then .var else .drop
 | .aA e sz=>if ls.all (fun l=>match l.2 with| .gl .. =>true| .x (.q .nil)=>true|_=>false)then .aA e sz else .drop
def atT(Y:Sy)(i j:Nat):SV:=match find Y.s i with
 |some (.tup vs)=>vs.getD j .un
 |_=> .un
def atO(Y:Sy)(n j:Nat):SV:=match find Y.h n with
 |some o=>o.cells.getD j .un
 |none=> .un
def refine(k:Nat)(h0:List (Nat×SO))(h:Hs)(ls:List Sy):Hs:=
 let o:=h.o.filter fun p=>ls.all fun(Y:Sy)=>match find Y.h p.1 with|some o=>decide (o.sk=p.2.1)|none=>false
 let ns:=o.map (·.1);let f:=Z9 k ns h0
 {s:=h.s.map fun p=>(p.1,f (Rs p.2 (ls.map fun(Y:Sy)=>(Y.h,(find Y.s p.1).getD SV.un)))),
  t:=(h.t.filter fun p=>ls.all fun(Y:Sy)=>match find Y.s p.1 with|some (SV.tup vs)=>vs.length==p.2.length|_=>false).map fun p=>
   (p.1,p.2.zipIdx.map fun q=>f (Rs q.1 (ls.map fun(Y:Sy)=>(Y.h,atT Y p.1 q.2)))),
  o:=o.map fun p=>(p.1,p.2.1,p.2.2.zipIdx.map fun q=>f (Rs q.1 (ls.map fun(Y:Sy)=>(Y.h,atO Y p.1 q.2))))}
def Vm(B:Nat)(l:List Sy):Nat:=l.foldl (fun a Y=>if a<Y.nx then Y.nx else a) B
def sY(k:Nat):List Sy→Option (Hd×Nat)
 |Y::Z::r=>
  let ls:=Y::Z::r;let B:=Vm 0 ls;let hd:=(refine k Y.h (UF k [] Y (dedup (Jt Y ls))) ls).hd B
  if hd.ok k&&ls.all fun(W:Sy)=>(hd.mt W).isSome&&W.h.all (fun p=>match p.2 with| .raw _=>hd.ns.contains p.1|_=>true)then some (hd,B+hd.row.length)else none
 |_=>none
theorem vQ{k:Nat}{l:List Sy}{hd:Hd×Nat}(h:sY k l=some hd):hd.1.ok k=true:=by
 unfold sY at h
 grind
def tC:Operand→List Nat
 | .tmp t=> [t]
 |_=> []
def IZ:List Nat→List Oper→List Nat
 |_,[]=> []
 |dn,o::r=>(o.op.operands.toList.flatMap tC).filter (fun i=> !dn.contains i)++IZ ((match o.dst with|some x=> [x]|none=> [])++dn) r
def cD:Code→List Nat
 | .region _ ops _=>IZ [] ops.toList
 | .seq a b=>cD a++cD b
 | .cond c a b=>tC c++cD a++cD b
 | .block _ c| .loop c=>cD c
 | .rangeFunc g _ a b=>tC g++cD a++cD b
 |_=> []
def uniq:List Nat→List Nat→List Nat
 |acc,[]=>acc
 |acc,a::r=>if acc.contains a then uniq acc r else uniq (a::acc) r
mutual
def SV.nms:SV→List Nat
 | .un| .x _=> []
 | .agg vs| .tup vs=>SV.HU vs
 | .clo _ vs=>SV.HU vs
 | .ptr k _| .dp k _ _ _ _ _| .gl k _| .gs k _ _| .gc k _ _| .gt k _ _| .ep k _ _ _| .sb k _ _| .rb k _| .mp k| .yl k| .bp k _ _| .it k=> [k]
 | .gd _ v=>SV.nms v
def SV.HU:List SV→List Nat
 | []=> []
 | .x _::r=>SV.HU r
 |v::r=>SV.nms v++SV.HU r
end
def BQ:List (Nat×SV)→List Nat
 | []=> []
 |(_, .x _)::r=>BQ r
 |(_,v)::r=>v.nms++BQ r
def tK(h:List (Nat×SO)):Nat→List Nat→List Nat→List Nat
 |0,_,acc=>acc
 |_+1,[],acc=>acc
 |f+1,a::r,acc=>bif Km acc a then tK h f r acc else match find h a with
  |some (.box us)=>tK h f (SV.HU us++r) (a::acc)
  |some (.itr (some m) _)=>tK h f (m::r) (a::acc)
  |_=>tK h f r (a::acc)
def SO.UN:SO→Bool
 | .raw _=>true
 |_=>false
def Sy.gc(Y:Sy):Sy:=(((Y.h.filter fun p=> !p.2.UN).map (·.1)).filter fun n=> !Km (tK Y.h 4000 (BQ Y.s) []) n).foldl Sy.kill Y
def qd{α:Type}(n:Nat):List (Nat×α)→List (Nat×α)
 | []=> []
 |(i,a)::r=>(i+n,a)::qd n r
def jd{α:Type}(n:Nat):List (Nat×α)→List (Nat×α)
 | []=> []
 |(i,a)::r=>bif decide (i<n)then jd n r else(i-n,a)::jd n r
def yG:Nat→List SV→List (Nat×SV)
 |_,[]=> []
 |i,v::r=>(i,v)::yG (i+1) r
def Sy.enter(Y:Sy)(n' n:Nat)(vs:List SV):Sy:={Y with s:=yG 0 vs++qd n' Y.s,nx:=Y.nx+n}
def Sy.leave(Y:Sy)(n':Nat):Sy:={Y with s:=jd n' Y.s}
def wB{α:Type}(n:Nat):List (Nat×α)→List (Nat×α)
 | []=> []
 |(i,a)::r=>bif decide (i<n)then(i,a)::wB n r else wB n r
def H_:List Nat→List SV→List (Nat×SV)→List (Nat×SV)
 |p::ps,v::vs,l=>H_ ps vs (bF p v l)
 |_,_,l=>l
def Sy.round(Z:Sy)(n off:Nat)(ps:List Nat)(vs:List SV)(n0:Nat):Sy:={Z with s:=H_ ps vs (wB n (jd off Z.s)++qd n Z.s),nx:=Z.nx+n0}
def Sy.raw(Y:Sy)(nm:Nat)(k:RS):Sy:={Y with h:=bF nm (.raw k) Y.h}
def Sy.jE(Y:Sy)(nm:Nat):Sy:={(Y.kill nm).raw nm .ready with nx:=Y.nx+1}
def Ip:VE→RS
 | .normal=> .ready
 |e=> .done e
def Sy.iy(Y:Sy)(x:Option Nat)(v:SV):Sy:=match x with
 |some x=>Y.set x v
 |none=>Y
def Sy.bump(Y:Sy)(n:Nat):Sy:={Y with nx:=Y.nx+n}
inductive e8 where
 |t (i:Nat)
 |cell (i n:Nat) (agg:Bool)
 deriving Inhabited
def uO(P:Program)(n:Nat):ResultVar→Option e8
 | .tmp t=>if t<n then some (.t t)else none
 | .cell a t=>if a<n then(dF P t).bind fun g=>if(P.info? t).isSome∧(g=true∨P.cellsOf t=1)then some (.cell a (P.cellsOf t) g)else none else none
def tH(Y:Sy):e8→Option SV
 | .t i=>some (bH Y (.t i))
 | .cell i n g=>(uk Y.h (.load n g) [bH Y (.t i)]).bind fun q=>if q.2.isEmpty then some q.1 else none
def Af(rs:List e8)(Y:Sy):Option SV:=
 match rs with
 | [r]=>tH Y r
 |rs=>(rs.mapM (tH Y)).map .tup
def Xw:ResultVar→Nat
 | .tmp t=>t
 | .cell a _=>a
def s_(fn:Func):List Nat:=uniq [] (fn.results.toList.map Xw)
structure Ya where
 S:List Nat
 run:List Nat→Nat→Nat→List SV→Option Nat→Nat→Sy→List Sy
def Ya.push(ya:Ya)(k:Nat):Ya:=⟨ya.S,fun S nm off=>ya.run S nm (off+k)⟩
def Ya.under(ya:Ya)(S:List Nat)(k:Nat):Ya:=⟨S,fun S' nm off=>if ya.S.contains nm then ya.run S' nm (off+k)else fun _ _ _ _=> []⟩
abbrev InA:=Ya→Nat→List SV→Option Nat→Nat→Sy→List Sy
structure Cx where
 P:Program
 cfg:Nat→mZ
 un:Nat→Nat→Nat
 it:Nat→Option (Nat×Nat)
 ia:InA
 fj:Nat→Bool
 rt:Nat:=0
 hint:Nat→Nat→Option (Option (Hd×Nat)):=fun _ _=>none
def LL:Code→Nat
 | .region id _ _=>2*id+1
 | .block id _=>2*id+2
 | .seq a _=>LL a
 | .cond _ a b=>match LL a with
  |0=>LL b
  |k=>k
 | .loop c=>LL c
 | .rangeFunc _ _ _ b=>LL b
 |_=>0
def Bu(k cf a b:Nat)(Y:Sy):List Nat:= [k,cf,a,b,Y.nv,Y.nx-1000000,Y.d,Y.s.length,Y.h.length]
def P9:Nat→List Nat→Nat
 |acc,[]=>acc
 |acc,a::r=>P9 (acc*10000000+a) r
def Cx.Dj(C:Cx)(key:List Nat)(Y:Sy)(nv:Nat)(l:Unit→Option (Hd×Nat)):Option (Hd×Nat):=match C.hint C.rt (P9 1 key)with
 |some (some h)=>if(h.1.fill (Y.nx+h.2-h.1.row.length) Y).ok nv then some (h.1.fill (Y.nx+h.2-h.1.row.length) Y,Y.nx+h.2)else none
 |some none=>none
 |none=>l ()
def Cx.LZ(C:Cx)(key:List Nat)(Y:Sy)(l:Unit→Hd):Hd:=match C.hint C.rt (P9 1 key)with
 |some (some h)=>h.1.fill Y.nx Y
 |_=>l ()
theorem zK{C:Cx}{key:List Nat}{Y:Sy}{nv:Nat}{l:Unit→Option (Hd×Nat)}{h:Hd×Nat}(hl: ∀h,l ()=some h→h.1.ok nv=true)(hs:C.Dj key Y nv l=some h):h.1.ok nv=true:=by
 unfold Cx.Dj at hs;split at hs
 ·split at hs
  ·cases hs;assumption
  ·cases hs
 ·cases hs
 ·exact hl h hs
structure Yh where
 S:List Nat
 run:List Nat→Nat→Nat→List SV→Option Nat→Nat→Sy→(Sy→FT)→FT
 a:Ya
def Yh.push(yl:Yh)(k:Nat):Yh:=⟨yl.S,fun S nm off=>yl.run S nm (off+k),yl.a.push k⟩
def Yh.under(yl:Yh)(S:List Nat)(k:Nat):Yh:=⟨S,fun S' nm off=>if yl.S.contains nm then yl.run S' nm (off+k)else fun _ _ _ _ _=> .bad 100048,yl.a.under S k⟩
abbrev FH:=Yh→Nat→List SV→Option Nat→Nat→Sy→(Sy→FT)→FT
inductive Tg where
 |fn (f:Nat)
 |yld (nm:Nat)
def pz(fr:mZ)(n:Nat)(o:Oper)(Y:Sy):Option (Tg×List SV):=
 match o.op with
 | .call c=>if o.dst.all (· <n)then(match c.callee with
  | .value (.func f)=>if fr.fr f=1 then(c.args.toList.mapM (dO n)).map fun gs=>(.fn f,gs.map (bH Y))else none
  | .value (.tmp t)=>if t<n then(match find Y.s t with
   |some (.clo f eT)=>if f<1000000 then(if fr.fr f=1 then(c.args.toList.mapM (dO n)).map fun gs=>(.fn f,gs.map (bH Y)++eT)else none)else if fr.fr (f-1000000)=1 then(c.args.toList.mapM (dO n)).map fun gs=>(.fn (f-1000000),eT++gs.map (bH Y))else none
   |some (.yl nm)=>(c.args.toList.mapM (dO n)).map fun gs=>(.yld nm,gs.map (bH Y))
   |_=>none)else none
  |_=>none)else none
 |_=>none
def JO(yl:Yh)(inl:FH):Tg→List SV→Option Nat→Nat→Sy→(Sy→FT)→FT
 | .fn f=>inl yl f
 | .yld nm=>if yl.S.contains nm then yl.run yl.S nm 0 else fun _ _ _ _ _=> .bad 100047
def DK(it:Option (Nat×Nat))(n:Nat)(g:Operand)(Y:Sy):Option ((Nat×List SV)×List X):=
 match g with
 | .func f=>some ((f,[]),[])
 | .tmp t=>if t<n then(match find Y.s t with
  |some (.clo f eT)=>if f<1000000 then some ((f,eT),[])else none
  |some (.x e)=>it.bind fun q=>if q.1<1000000 then some ((q.1,(List.range q.2).map fun i=> .x (.mk (.capc q.1 i q.2) [e])),[.mk (.isc q.1 q.2) [e]])else none
  |_=>none)else none
 |_=>none
def rE(fr:mZ):Op→Bool
 | .call c=>match c.callee with
  | .value (.func f)=>decide (fr.fr f=1)
  | .value (.tmp _)=>true
  |_=>false
 |_=>false
def UO:Op→Bool
 | .range .. | .next .. =>true
 |_=>false
def CW(fr:mZ)(ops:Array Oper):Bool:=ops.toList.any fun o=>rE fr o.op||UO o.op
def xE(P:Program)(fr:mZ)(n:Nat)(ops:Array Oper)(c:Nat)(Y:Sy):Option (Nat×Sy×List X):=
 ((List.range (ops.size+1)).find? fun k=>decide (c<k)&&Pt ops (fun i=>(Region.before ops).getD i 0) k).bind fun c'=>(uo P fr n ops c c' Y).map fun q=>(c',q)
inductive RO where
 |rg (Y:Sy) (O:List X)
 |nx (c:X) (Y0 Y1:Sy)
def HP(h:List (Nat×SO))(m:Nat):Option X:=match find h m with
 |some (.map c)|some (.bL _ 0 c)=>some c
 |_=>none
def qj(P:Program)(n:Nat)(o:Oper)(Y:Sy):Option RO:=
 match o.op,o.dst,o.guard with
 | .range t a,some x,none=>match P.underlying t,dO n a with
  |some (.map _ _),some g=>match bH (Y.nw x) g with
   | .mp m=>if x<n then(HP (Y.nw x).h m).map fun c=> .rg ((Y.nw x).add x (Y.nx+x) (.itr (some m) (.mk (.pm 0 [] 0 0) [c])) (.it (Y.nx+x))) [.mk (.pm 0 [] 0 0) [c]]else none
   |_=>none
  |_,_=>none
 | .next a false,some x,none=>match dO n a with
  |some g=>match bH Y g with
   | .it j=>match find Y.h j with
    |some (.itr (some m) c)=>if x<n then some (.nx c (Y.set x (.tup [.x (.q (bv false))])) (Sy.set {Y with nv:=Y.nv+1,h:=bF j (.itr (some m) (.t Y.nv)) Y.h} x (.tup [.x (.q (bv true)), .un, .un])))else none
    |_=>none
   |_=>none
  |none=>none
 |_,_,_=>none
def Sy.jK(Y:Sy)(e:X):Sy:={Y with s:=mapA (strip e) Y.s}
def L_:BinOp→Bool
 | .eql| .neq| .lss| .leq| .gtr| .geq=>true
 |_=>false
def fC:X→Bool
 | .q (.v (.bool _))=>true
 | .mk (.gv _) _=>true
 | .mk (.pk k) _=>match k with
  | .ibin op=>L_ op
  | .inot=>true
  | .beq _| .seq _| .aeq .. | .snil _| .pnil _=>true
  |_=>false
 | .ite _ a b=>fC a&&fC b
 |_=>false
def fZ(w:Bool)(g:X):SV→SV
 | .x e=>if cZ e g then .x (.q (.v (.bool (!w))))else .x e
 |v=>v
def Sy.fZ(Y:Sy):X→Sy
 | .mk (.gv w) [g]=>if fC g then{Y with s:=mapA (Go.Proofs.YtdepmampjnlgiaaGreatDoor.fZ w g) Y.s}else Y
 |_=>Y
inductive GV where
 |go (b:Bool)
 |ask (e:X)
def guardOf(Y:Sy):Option (Option (Nat×Bool))→Option GV
 |none=>none
 |some none=>some (.go true)
 |some (some (j,w))=>match find Y.s j with
  |some (.x (.q (.v (.bool b))))=>some (.go (b==w))
  |some (.x g)=>some (.ask (.mk (.gv w) [g]))
  |_=>none
def LI(n:Nat)(ops:Array Oper)(c:Nat)(Y:Sy):Option X:=(ops.toList.drop c).findSome? fun o=>match iK n ops o with
 |some (some (j,_))=>match find Y.s j with
  |some (.x (.q _))=>none
  |some (.x g)=>some g
  |_=>none
 |_=>none
def Sy.qf(Y:Sy)(g:X)(b:Bool):Sy:={Y with s:=mapA (Go.Proofs.YtdepmampjnlgiaaGreatDoor.fZ (!b) g) Y.s}
def yp(body:Sy→(VE→Sy→FT)→FT):Nat→Sy→(VE→Sy→FT)→FT
 |0,_,_=> .bad 100031
 |k+1,Y,κ=>body Y fun e Y'=>match e with
  | .normal=>yp body k Y' κ
  |e=>κ e Y'
def settle(ks:List Nat)(n:Nat)(Y:Sy):Sy×List X:=((Y.trim n ks).gc.bump n).atom
def yD.kind:yD→Nat
 | .drop=>0
 | .same _=>1
 | .var=>2
 | .aA .. =>3
def Hs.kinds(h:Hs):List Nat:=h.s.map (·.2.kind)++(h.t.flatMap fun p=>p.1::p.2.map yD.kind)++h.o.flatMap fun p=>p.1::p.2.2.map yD.kind
def PF:List Nat→List Nat→Bool
 | [],[]=>true
 |a::r,b::s=>a==b&&PF r s
 |_,_=>false
def js:List (VE×Sy)→List Sy
 | []=> []
 |(.normal,Y)::r=>Y::js r
 |_::r=>js r
def others:List (VE×Sy)→List (VE×Sy)
 | []=> []
 |(.normal,_)::r=>others r
 |p::r=>p::others r
def BN(k:Nat)(l:List Sy):List Sy:=match sY k l with
 |some hd=> [hd.1.mk' k (gQ hd.1.row) 0 hd.2]
 |none=>l
def QS(b:Bool)(k:Nat)(l:List Sy):List Sy:=bif b then l else BN k l
def LY(run:Hs→List (VE×Sy))(Y:Sy)(c:Code):Hs×List (VE×Sy):=
 let al:=tF Y.s;let h0:=UF Y.nv (YY c) Y (dedup Y.h);let l0:=run h0;let h1:=refine Y.nv Y.h h0 ((js l0).map fun Z=>Z.align al)
 if PF h1.kinds h0.kinds then(h1,l0)else
 let l1:=run h1;let h2:=refine Y.nv Y.h h1 ((js l1).map fun Z=>Z.align al)
 if PF h2.kinds h1.kinds then(h2,l1)else(h2,run h2)
def DX(body:Sy→List (VE×Sy)):Nat→Sy→List (VE×Sy)
 |0,_=> []
 |k+1,Y=>others (body Y)++(js (body Y)).flatMap (DX body k)
def Ya.rng(n:Nat)(fa fb:Ya→List Nat→Sy→List (VE×Sy))(ya:Ya)(nm0:Nat)(ps:Array Nat)(body:Code):Ya:=
 ⟨nm0::ya.S,fun S nm off vs x n0 Z=>if nm=nm0 then(match find Z.h nm with
  |some (.raw .ready)=>if vs.length=ps.size then
    (fa (ya.under S (n+off)) (cD body) (Z.round n off ps.toList vs n0)).flatMap fun p=>match p.1,find p.2.h nm with
     | .normal,some (.raw .ready)=>(fb (ya.under S (n+off)) [] (p.2.raw nm .busy)).filterMap fun p2=>match find p2.2.h nm with
      |some (.raw .busy)=>some (((p2.2.raw nm (Ip p2.1)).leave n).iy x (.x (.q (bv (decide (p2.1= .normal))))))
      |_=>none
     |_,_=> []
   else []
  |_=> [])else ya.run S nm off vs x n0 Z⟩
def kV:Code→Bool
 | .loop _| .rangeFunc .. =>true
 | .seq a b| .cond _ a b=>kV a||kV b
 | .block _ c=>kV c
 |_=>false
def hasNext:Code→Bool
 | .region _ ops _=>ops.toList.any fun o=>match o.op with
  | .next .. =>true
  |_=>false
 |_=>false
def Mw(P:Program)(f:Nat):Bool:=match P.funcs[f]? with
 |some fn=>match fn.body with
  |some c=>kV c
  |none=>false
 |none=>false
def Re(fr:mZ)(fj:Bool):Code→Bool
 | .region _ ops _=>ops.toList.all fun o=> !(rE fr o.op&&o.guard.isSome)
 | .skip| .exit _| .ret=>true
 |c=>kV c&& !fj
section
variable (C : Cx) (ia : InA) (cf n : Nat)
def oQ(ya:Ya)(ops:Array Oper):List Oper→Sy→List Sy
 | [],Y=> [Y]
 |o::r,Y=>match qj C.P n o Y with
  |some (.rg Y' _)=>oQ ya ops r Y'
  |some (.nx _ Y0 Y1)=>oQ ya ops r Y0++oQ ya ops r Y1
  |none=>
  let go:=fun(Y0:Sy)=>(pz (C.cfg cf) n o Y0.gc.atom.1).map fun q=>match q.1 with
   | .fn f=>if Mw C.P f&& !C.fj f then ia ya f q.2 o.dst n Y0.gc.atom.1 else BN Y0.gc.atom.1.nv (ia ya f q.2 o.dst n Y0.gc.atom.1)
   | .yld nm=>if ya.S.contains nm then ya.run ya.S nm 0 q.2 o.dst n Y0.gc.atom.1 else []
  match(if rE (C.cfg cf) o.op&&o.dst.all (· <n)then(match guardOf Y (iK n ops o)with
   |some (.go true)=>(go Y).map fun l=>l.flatMap (oQ ya ops r)
   |some (.go false)=>some (oQ ya ops r (Y.iy o.dst (.x kH)))
   |some (.ask e)=>(go (Y.jK e)).map fun l=>l.flatMap (oQ ya ops r)++oQ ya ops r ((Y.fZ e).iy o.dst (.x kH))
   |none=>none)else none)with
  |some l=>l
  |none=>match gf (pC C.P (C.cfg cf) n ops o) Y with
   |some q=>oQ ya ops r q.1
   |none=>if o.guard.isSome&&o.dst.all (· <n)then(match guardOf Y (iK n ops o)with
    |some (.go true)=>match gf (pC C.P (C.cfg cf) n ops {o with guard:=none}) Y with
     |some q=>oQ ya ops r q.1
     |none=> []
    |some (.go false)=>oQ ya ops r (Y.iy o.dst (.x kH))
    |some (.ask e)=>(match gf (pC C.P (C.cfg cf) n ops {o with guard:=none}) (Y.jK e)with
     |some q=>oQ ya ops r q.1
     |none=> [])++oQ ya ops r ((Y.fZ e).iy o.dst (.x kH))
    |none=> [])else []
def KX(ya:Ya)(ops:Array Oper):Nat→Nat→Sy→List Sy
 |0,_,_=> []
 |f+1,c,Y=>if cF ops (fun i=>(Region.before ops).getD i 0)&&DS ops (fun i=>(Region.before ops).getD i 0) c then oQ C ia cf n ya ops (ops.toList.drop c) Y else
  match xE C.P (C.cfg cf) n ops c Y with
  |some q=>KX ya ops f q.1 q.2.1
  |none=>match LI n ops c Y with
   |some g=>KX ya ops f c (Y.qf g true)++KX ya ops f c (Y.qf g false)
   |none=> []
def nD:Ya→Bool→Nat→List Nat→Code→Sy→List (VE×Sy)
 |_,_,_,_, .skip,Y=> [(.normal,Y)]
 |ya,_,_,ks, .region id ops draw,Y=>match(if draw=false∧CW (C.cfg cf) ops then none else f_ C.P (C.cfg cf) n ops draw (Y.sN (C.un cf (2000000+id))))with
  |some q=> [(.normal,(settle ks n q.1).1)]
  |none=>if draw then(KX C ia cf n ya ops (ops.size+9) 0 (Y.sN (C.un cf (2000000+id)))).map fun Y'=>(.normal,(settle ks n Y').1)else(oQ C ia cf n ya ops ops.toList (Y.sN (C.un cf (2000000+id)))).map fun Y'=>(.normal,(settle ks n Y').1)
 |ya,rd,_,ks, .seq a b,Y=>
  let l:=nD ya rd 0 (uniq ks (cD b)) a Y
  others l++(if kV a&& !C.fj cf||hasNext a then js l else BN Y.nv (js l)).flatMap fun Y'=>nD ya rd 0 ks b Y'
 |ya,rd,_,ks, .cond c a b,Y=>match(dO n c).map (bH Y)with
  |some (.x (.q (.v (.bool true))))=>nD ya rd 0 ks a Y
  |some (.x (.q (.v (.bool false))))=>nD ya rd 0 ks b Y
  |some (.x _)=>nD ya rd 0 ks a Y++nD ya rd 0 ks b Y
  |_=> []
 |ya,rd,_,ks, .block id c,Y=>(nD ya rd (id+1) ks c (Y.SP (C.un cf (id+1)))).map fun p=>match p.1 with
  | .exit i=>if i=id then(.normal,p.2)else(.exit i,p.2)
  |e=>(e,p.2)
 |ya,rd,bi,ks, .loop c,Y=>
  if 0<C.un cf bi∧C.un cf bi<1000000 then DX (fun Y=>nD ya rd 0 (uniq ks (cD c)) c Y) (C.un cf bi) Y else
  others (LY (fun h=>nD ya rd 0 (uniq ks (cD c)) c ((h.hd Y.nx).mk' Y.nv (gQ (h.hd Y.nx).row) Y.d (Y.nx+(h.hd Y.nx).row.length))) Y c).2
 |ya,rd,_,_, .rangeFunc g ps assign body,Y=>
  if rd=false∧ya.S.contains Y.nx=false∧ps.all (· <n)=true then match DK (C.it cf) n g (Y.jE Y.nx)with
   |some q=>(QS (Mw C.P q.1.1&& !C.fj q.1.1) Y.nv (ia (Ya.rng n (fun ya ks Y=>nD ya true 0 ks assign Y) (fun ya ks Y=>nD ya true 0 ks body Y) ya Y.nx ps body) q.1.1 (.yl Y.nx::q.1.2) none n (Y.jE Y.nx))).flatMap fun(Y2:Sy)=>match find Y2.h Y.nx with
    |some (.raw .ready)=> [(.normal,Y2.kill Y.nx)]
    |some (.raw (.done e))=> [(e,Y2.kill Y.nx)]
    |_=> []
   |none=> []
  else []
 |_,_,_,_, .exit id,Y=> [(.exit id,Y)]
 |_,_,_,_, .ret,Y=> [(.ret,Y)]
 |_,_,_,_,_,_=> []
end
section
variable (C : Cx) (inl : FH) (cf n : Nat)
def ca(yl:Yh)(id:Nat)(ops:Array Oper):List Oper→Sy→(Sy→FT)→FT
 | [],Y,κ=>κ Y
 |o::r,Y,κ=>match qj C.P n o Y with
  |some (.rg Y' O)=>ni O (ca yl id ops r Y' κ)
  |some (.nx c Y0 Y1)=> .any c (ca yl id ops r Y0 κ) (ca yl id ops r Y1 κ)
  |none=>match(if rE (C.cfg cf) o.op&&o.dst.all (· <n)then(match guardOf Y (iK n ops o)with
   |some (.go true)=>(pz (C.cfg cf) n o Y.gc.atom.1).map fun q=>ma Y.gc.atom.2 (JO yl inl q.1 q.2 o.dst n Y.gc.atom.1 fun Y'=>ca yl id ops r Y' κ)
   |some (.go false)=>some (ca yl id ops r (Y.iy o.dst (.x kH)) κ)
   |some (.ask e)=>(pz (C.cfg cf) n o (Y.jK e).gc.atom.1).map fun q=> .ite e (ma (Y.jK e).gc.atom.2 (JO yl inl q.1 q.2 o.dst n (Y.jK e).gc.atom.1 fun Y'=>ca yl id ops r Y' κ)) (ca yl id ops r ((Y.fZ e).iy o.dst (.x kH)) κ)
   |none=>none)else none)with
  |some t=>t
  |none=>match gf (pC C.P (C.cfg cf) n ops o) Y with
   |some q=>ni q.2 (ca yl id ops r q.1 κ)
   |none=>match(if o.guard.isSome&&o.dst.all (· <n)then(match guardOf Y (iK n ops o)with
    |some (.go true)=>(gf (pC C.P (C.cfg cf) n ops {o with guard:=none}) Y).map fun q=>ni q.2 (ca yl id ops r q.1 κ)
    |some (.go false)=>some (ca yl id ops r (Y.iy o.dst (.x kH)) κ)
    |some (.ask e)=>(gf (pC C.P (C.cfg cf) n ops {o with guard:=none}) (Y.jK e)).map fun q=> .ite e (ni q.2 (ca yl id ops r q.1 κ)) (ca yl id ops r ((Y.fZ e).iy o.dst (.x kH)) κ)
    |none=>none)else none)with
    |some t=>t
    |none=> .bad id (some Y)
def mE(yl:Yh)(id:Nat)(ops:Array Oper)(κ:Sy→FT):Nat→Nat→Sy→FT
 |0,_,Y=> .bad id (some Y)
 |f+1,c,Y=>if cF ops (fun i=>(Region.before ops).getD i 0)&&DS ops (fun i=>(Region.before ops).getD i 0) c then ca C inl cf n yl id ops (ops.toList.drop c) Y κ else
  match xE C.P (C.cfg cf) n ops c Y with
  |some q=>ni q.2.2 (mE yl id ops κ f q.1 q.2.1)
  |none=>match LI n ops c Y with
   |some g=> .ite g (mE yl id ops κ f c (Y.qf g true)) (mE yl id ops κ f c (Y.qf g false))
   |none=> .bad id (some Y)
def c_:Yh→Bool→Nat→List Nat→Code→Sy→(VE→Sy→FT)→FT
 |_,_,_,_, .skip,Y,κ=>κ .normal Y
 |yl,_,_,ks, .region id ops draw,Y,κ=>match(if draw=false∧CW (C.cfg cf) ops then none else f_ C.P (C.cfg cf) n ops draw (Y.sN (C.un cf (2000000+id))))with
  |some q=>ni (prune (settle ks n q.1).2 q.2) (ma (settle ks n q.1).2 (κ .normal (settle ks n q.1).1))
  |none=>if draw then mE C inl cf n yl id ops (fun Y'=>ma (settle ks n Y').2 (κ .normal (settle ks n Y').1)) (ops.size+9) 0 (Y.sN (C.un cf (2000000+id)))else ca C inl cf n yl id ops ops.toList (Y.sN (C.un cf (2000000+id))) fun Y'=>ma (settle ks n Y').2 (κ .normal (settle ks n Y').1)
 |yl,rd,_,ks, .seq a b,Y,κ=>match(if Re (C.cfg cf) (C.fj cf) a then none else C.Dj (Bu 1 cf (LL a) (LL b) Y) Y Y.nv fun _=>sY Y.nv (js (nD C C.ia cf n yl.a rd 0 (uniq ks (cD b)) a Y)))with
  |some hd=> .jp (c_ yl rd 0 ks b (hd.1.mk' Y.nv (gQ hd.1.row) Y.d hd.2) κ) (c_ yl rd 0 (uniq ks (cD b)) a {Y with d:=Y.d+1} fun e Y'=>match e with
   | .normal=>match hd.1.mt Y' with
    |some p=> .next (Y'.d-(Y.d+1)) p.1
    |none=> .bad (100000+1)
   |e=>κ e Y')
  |none=>c_ yl rd 0 (uniq ks (cD b)) a Y fun e Y'=>match e with
   | .normal=>c_ yl rd 0 ks b Y' κ
   |e=>κ e Y'
 |yl,rd,_,ks, .cond c a b,Y,κ=>match(dO n c).map (bH Y)with
  |some (.x (.q (.v (.bool true))))=>c_ yl rd 0 ks a Y κ
  |some (.x (.q (.v (.bool false))))=>c_ yl rd 0 ks b Y κ
  |some (.x e)=> .ite e (c_ yl rd 0 ks a Y κ) (c_ yl rd 0 ks b Y κ)
  |_=> .bad (100000+2)
 |yl,rd,_,ks, .block id c,Y,κ=>c_ yl rd (id+1) ks c (Y.SP (C.un cf (id+1))) fun e Y'=>match e with
  | .exit i=>if i=id then κ .normal Y' else κ (.exit i) Y'
  |e=>κ e Y'
 |yl,rd,bi,ks, .loop c,Y,κ=>
  if 0<C.un cf bi∧C.un cf bi<1000000 then yp (fun Y κ=>c_ yl rd 0 (uniq ks (cD c)) c Y κ) (C.un cf bi) Y κ else
  let al:=tF Y.s;let hd:=C.LZ (Bu 2 cf bi (LL c) Y) Y fun _=>(LY (fun h=>nD C C.ia cf n yl.a rd 0 (uniq ks (cD c)) c ((h.hd Y.nx).mk' Y.nv (gQ (h.hd Y.nx).row) Y.d (Y.nx+(h.hd Y.nx).row.length))) Y c).1.hd Y.nx
  if hd.ok Y.nv then match hd.mt Y with
   |some q=> .loop q.1 (c_ yl rd 0 (uniq ks (cD c)) c (hd.mk' Y.nv q.1.length (Y.d+1) (Y.nx+hd.row.length)) fun e Y'=>match e with
    | .normal=>match hd.mt (Y'.align al)with
     |some p=> .next (Y'.d-(Y.d+1)) p.1
     |none=> .bad (100000+3)
    |e=>κ e Y')
   |none=> .bad (100000+4)
  else .bad (100000+5)
 |yl,rd,_,_, .rangeFunc g ps assign body,Y,κ=>
  if rd=false∧yl.S.contains Y.nx=false∧ps.all (· <n)=true then match DK (C.it cf) n g (Y.jE Y.nx)with
   |some q=>ni q.2 (inl ⟨Y.nx::yl.S,fun S nm off vs x n0 Z κ'=>if nm=Y.nx then(match find Z.h nm with
     |some (.raw .ready)=>if vs.length=ps.size then
       c_ (yl.under S (n+off)) true 0 (cD body) assign (Z.round n off ps.toList vs n0) fun e Z1=>match e,find Z1.h nm with
        | .normal,some (.raw .ready)=>c_ (yl.under S (n+off)) true 0 [] body (Z1.raw nm .busy) fun e2 Z2=>match find Z2.h nm with
         |some (.raw .busy)=>κ' (((Z2.raw nm (Ip e2)).leave n).iy x (.x (.q (bv (decide (e2= .normal))))))
         |_=> .bad 100042
        |_,_=> .bad 100043
      else .bad 100044
     |_=> .bad 100045)else yl.run S nm off vs x n0 Z κ',Ya.rng n (fun ya ks Y=>nD C C.ia cf n ya true 0 ks assign Y) (fun ya ks Y=>nD C C.ia cf n ya true 0 ks body Y) yl.a Y.nx ps body⟩ q.1.1 (.yl Y.nx::q.1.2) none n (Y.jE Y.nx) fun Y2=>match find Y2.h Y.nx with
    |some (.raw .ready)=>κ .normal (Y2.kill Y.nx)
    |some (.raw (.done e))=>κ e (Y2.kill Y.nx)
    |_=> .bad 100046)
   |none=> .bad 100041
  else .bad 100040
 |_,_,_,_, .exit id,Y,κ=>κ (.exit id) Y
 |_,_,_,_, .ret,Y,κ=>κ .ret Y
 |_,_,_,_,_,_,_=> .bad (100000+6)
end
section
variable (C : Cx)
def Qj(inl:FH)(yl:Yh)(f:Nat)(vs:List SV)(x:Option Nat)(n:Nat)(Y:Sy)(κ:Sy→FT):FT:=
 match C.P.funcs[f]? with
 |some fn=>match fn.body,fn.results.toList.mapM (uO C.P fn.ntmps)with
  | some c, some rs => if (fn.name == "runtime.NumGoroutine") = false ∧ vs.length ≤ fn.ntmps then
    let ks:=s_ fn
    let fin:(Sy→FT)→VE→Sy→FT:=fun κ e Y2=>match e with
     | .exit _=> .bad 100032
     |_=>match Af rs Y2 with
      |some v=>κ ((Y2.leave fn.ntmps).iy x v)
      |none=> .bad 100033
    match(if kV c&& !C.fj f then none else C.Dj (Bu 3 f 0 0 Y) Y Y.nv fun _=>sY Y.nv (C.ia yl.a f vs x n Y))with
    |some hd=> .jp (κ (hd.1.mk' Y.nv (gQ hd.1.row) Y.d hd.2)) (c_ C inl f fn.ntmps (yl.push fn.ntmps) false 0 ks c {Y.enter fn.ntmps n vs with d:=Y.d+1} (fin fun Y'=>match hd.1.mt Y' with
     |some p=> .next (Y'.d-(Y.d+1)) p.1
     |none=> .bad 100034))
    |none=>c_ C inl f fn.ntmps (yl.push fn.ntmps) false 0 ks c (Y.enter fn.ntmps n vs) (fin κ)
   else .bad 100035
  |_,_=> .bad 100036
 |none=> .bad 100037
def vD:Nat→FH
 |0=>fun _ _ _ _ _ _ _=> .bad 100030
 |k+1=>Qj C (vD k)
end
def Td:Yh:=⟨[],fun _ _ _ _ _ _ _ _=> .bad 100048,⟨[],fun _ _ _ _ _ _ _=> []⟩⟩
def kW:X→Bool
 | .mk .own _=>true
 |_=>false
def Ma:SV→Bool
 | .gl .. | .gs .. | .gc .. | .gt .. =>true
 |_=>false
def EX(v:SV)(e:X):Option X:=if Ma v then some (.mk .own [e])else if kW e then none else some e
def nX(Y:Sy):e8→Option X
 | .t i=>(bC Y.h (bH Y (.t i))).bind (EX (bH Y (.t i)))
 | .cell i n g=>(uk Y.h (.load n g) [bH Y (.t i)]).bind fun q=>if q.2.isEmpty then(bC Y.h q.1).bind (EX q.1)else none
def KP(rs:List e8)(Y:Sy):Option X:=
 match rs with
 | [r]=>nX Y r
 |rs=>(rs.mapM (nX Y)).map (.mk .tup)
def kR(rs:List e8)(e:VE)(Y:Sy):FT:=
 match e with
 | .exit _=> .bad 100021
 |_=>match KP rs Y with
  |some x=> .ret x
  |none=> .bad 100022
def AR(k:Nat):Sy:={s:=(List.range k).map fun i=>(i, .x (.t i)),h:= [],nv:=k,d:=0,nx:=1000000,pd:=none}
def lW(C:Cx)(f:Nat):Option (Nat×FT):=
 match C.P.funcs[f]? with
 |some fn=>match fn.body,fn.results.toList.mapM (uO C.P fn.ntmps)with
  | some c, some rs => if (fn.name == "runtime.NumGoroutine") = false ∧ fn.params.size + fn.nfree ≤ fn.ntmps then some (fn.params.size + fn.nfree, c_ { C with rt := f } (vD { C with rt := f } 8) f fn.ntmps Td false 0 (s_ fn) c (AR (fn.params.size + fn.nfree)) (kR rs)) else none
  |_,_=>none
 |none=>none
end
section
structure Cs where
 rs:List Nat
 av:List (X×Nat)
 n:Nat
 ar:List Nat
def Dg:XK→Bool
 | .call .. | .ccall _| .ecall .. =>true
 |_=>false
def C4:X:= .mk (.isc 0 0) []
def zT:List (X×Nat)→X→Option Nat
 | [],_=>none
 |(e,j)::r,x=>if cZ e x then some j else zT r x
def J6:X→Bool
 | .mk k _=>Dg k
 |_=>false
def RA(s:Cs)(y:X):X:=if J6 y then(match zT s.av y with
  |some j=> .t j
  |none=>y)else y
mutual
def n5(s:Cs):X→X
 | .t i=>match s.rs[i]? with
  |some j=> .t j
  |none=>C4
 | .q d=> .q d
 | .mk k xs=>RA s (.mk k (CG s xs))
 | .ite c a b=> .ite (n5 s c) (n5 s a) (n5 s b)
def CG(s:Cs):List X→List X
 | []=> []
 |x::r=>n5 s x::CG s r
end
def Cs.name(s:Cs)(y:X):Cs:={s with av:=(y,s.n)::s.av,n:=s.n+1}
mutual
def kp(s:Cs):X→(List X×Cs)×X
 | .t i=>(([],s),n5 s (.t i))
 | .q d=>(([],s), .q d)
 | .mk k xs=>match gY s xs with
  |((p,s1),ys)=>if Dg k then(match zT s1.av (.mk k ys)with
   |some j=>((p,s1), .t j)
   |none=>((p++ [.mk k ys],s1.name (.mk k ys)), .t s1.n))else((p,s1), .mk k ys)
 | .ite c a b=>match kp s c with
  |((p,s1),c')=>((p,s1), .ite c' (n5 s1 a) (n5 s1 b))
def gY(s:Cs):List X→(List X×Cs)×List X
 | []=>(([],s),[])
 |x::r=>match kp s x with
  |((p,s1),y)=>match gY s1 r with
   |((q,s2),ys)=>((p++q,s2),y::ys)
end
def nA:List X→FT→FT
 | [],k=>k
 |x::r,k=> .lets [x] (nA r k)
def QY:X→Bool
 | .t _| .q _=>false
 |_=>true
def wP(j:Nat):FT→Option Nat
 | .bm _ k| .lets _ k=>wP j k
 | .ite _ a b=>(wP j a).or (wP j b)
 | .loop _ b=>wP (j+1) b
 | .next i xs=>if i=j then some xs.length else none
 | .jp k b=>(wP (j+1) b).or (wP j k)
 | .any _ a b=>(wP j a).or (wP j b)
 |_=>none
def Cs.vars(s:Cs)(m:Nat):Cs:={s with rs:=s.rs++List.range' s.n m,n:=s.n+m}
def cse:Cs→FT→FT
 |s, .ret x=>match kp s x with
  |((p,_),y)=>nA p (.ret y)
 |s, .bm xs k=>match gY s xs with
  |((p,s1),ys)=>nA p (ni (ys.filter QY) (cse s1 k))
 |s, .lets xs k=>match gY s xs with
  |((p,s1),ys)=>nA p (letsY s1 ys fun s2=>cse s2 k)
 |s, .ite c a b=>match kp s c with
  |((p,s1),c')=>nA p (.ite c' (cse s1 a) (cse s1 b))
 |s, .loop xs b=>match gY s xs with
  |((p,s1),ys)=>nA p (.loop ys (cse {s1.vars ys.length with ar:=ys.length::s1.ar} b))
 |s, .next j xs=>match gY s xs with
  |((p,s1),ys)=>if s1.ar[j]?=some ys.length then nA p (.next j ys)else .bad 100060
 |s, .jp k b=>match wP 0 b with
  |some m=> .jp (cse (s.vars m) k) (cse {s with ar:=m::s.ar} b)
  |none=> .jp (.bad 100062) (cse {s with ar:=0::s.ar} b)
 |s, .any x a b=>match kp s x with
  |((p,s1),y)=>nA p (.any y (cse s1 a) (cse (s1.vars 1) b))
 |_, .st _=> .bad 100061
 |_, .bad w _=> .bad w
 where
 letsY (s:Cs):List X→(Cs→FT)→FT
  | [],κ=>κ s
  | .t j::r,κ=>letsY {s with rs:=s.rs++ [j]} r κ
  |y::r,κ=> .lets [y] (letsY {s with rs:=s.rs++ [s.n],n:=s.n+1} r κ)
def Jv(n:Nat):Cs:=⟨List.range n,[],n,[]⟩
def ZW(q:Nat×FT):Nat×FT:=(q.1,cse (Jv q.1) q.2)
end
end Go.Proofs.YtdepmampjnlgiaaGreatDoor
