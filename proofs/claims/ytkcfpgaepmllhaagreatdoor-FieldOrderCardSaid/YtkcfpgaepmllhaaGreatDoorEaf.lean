/- Part of the proof: symbolic execution of the program, its soundness, and the closing lemmas. No condition. -/
import Derived.Test.YtkcfpgaepmllhaaGreatDoorEae
namespace Go.Proofs.YtkcfpgaepmllhaaGreatDoor
open Go.RowKit
set_option maxRecDepth 100000
set_option linter.all false
section
section
variable {P : Program} {B : fe} {n : Nat} {r : Option Nat} {G : FP} {N : Nat} {dr : D} {Ω : bM}
theorem LS{h:List (Nat×SO)}{nm:Nat}{p:zr}{v:SV}{x:List X×Ren}(hx:mR h nm p v=some x):x.1.length=gZ [(nm,p)]:=by
 cases p with
 |drop=>simp only[mR]at hx;cases hx;rfl
 |same v'=>simp only[mR]at hx;split at hx<;>cases hx;rfl
 |var=>simp only[mR]at hx;obtain⟨y,_,hy⟩:=Mz.1 hx;cases hy;rfl
 |az e sz=>
  cases v
  case gl n sz'=>
   simp only[mR]at hx;split at hx
   ·split at hx<;>cases hx;rfl
   ·cases hx
  case x ex=>
   cases ex
   case q dq=>
    cases dq
    case nil=>simp only[mR]at hx;cases hx;rfl
    all_goals (simp[mR]at hx;done)
   all_goals (simp[mR]at hx;done)
  all_goals (simp[mR]at hx;done)
theorem wE{h:List (Nat×SO)}: ∀{r:Row} {v:List SV} {x:List X×Ren},gp h r v=some x→x.1.length=gZ r
 | [],v,x,h1=>by cases v<;>simp[gp]at h1;rw[←h1];rfl
 |(nm,p)::r,[],x,h1=>by simp[gp]at h1
 |(nm,p)::r,u::v,x,h1=>by
  simp only[gp,Bz,Mz]at h1;obtain⟨a1,b1,a2,b2,rfl⟩:=h1;rw[List.length_append,wE b2,LS b1];cases p<;>simp[gZ]<;>omega
theorem Hd.yi{hd:Hd}{Y:Sy}{q:List X×Ren}(h:hd.mt Y=some q):q.1.length=gZ hd.row:=by
 simp only[Hd.mt]at h;split at h
 ·simp only[Bz]at h;obtain⟨_,_,b1,_,x1,g1,g2⟩:=h;split at g2<;>cases g2;exact wE g1
 ·cases h
theorem u9{α:Type}{F:Fence}{m:Nat}{c:Code}{Q:Exit→Act→World→Prop}{a:Act}{w:World}(I:α→Act→World→Prop)(μ:α→Nat){x:α}(h₀:I x a w)
  (round: ∀x a w,I x a w→c.wpIn F m P (Exit.then (fun a' w'=> ∃y,I y a' w'∧μ y<μ x) Q) a w):(Code.loop c).wpIn F m P Q a w:=by
 intro b k cs hro hb hr
 have key: ∀j x a w,μ x=j→I x a w→
   ∃e a' w',Q e a' w'∧ArrivesIn (Machine.fenced P F) P (lone (b.atR a (.code c:: .inLoop c::k)) cs w) b k cs e a' w':=by
  intro j
  induction j using Nat.strongRecOn with
  |_ j ih=>
   intro x a w hn hI;obtain⟨e,a₁,w₁,hq,AD⟩:=round x a w hI b (.inLoop c::k) cs hro hb hr;cases e with
   |normal=>
    obtain⟨y,hI₁,hlt⟩:=hq;obtain⟨e₂,a₂,w₂,hq₂,KN⟩:=ih (μ y) (hn▸hlt) y a₁ w₁ rfl hI₁;exact⟨e₂,a₂,w₂,hq₂, .of_steps (StepsIn.trans AD (.one (fenced_calm hb hr rfl) stepR_inLoop)) KN⟩
   |exit id=>exact⟨_,a₁,w₁,hq, .pass (x:= .inLoop c) rfl (fun _ _=> .inl (by simp)) AD⟩
   |goto l=>exact⟨_,a₁,w₁,hq, .pass (x:= .inLoop c) rfl (fun _ _=> .inl (by simp)) AD⟩
   |ret=>exact⟨_,a₁,w₁,hq, .pass (x:= .inLoop c) rfl (fun _ _=> .inl (by simp)) AD⟩
   |panic ch=>exact⟨_,a₁,w₁,hq, .pass (x:= .inLoop c) rfl (fun _ _=> .inl (by simp)) AD⟩
   |outgrown=>exact⟨_,a₁,w₁,hq, .pass (x:= .inLoop c) rfl (fun _ _=> .inl (by simp)) AD⟩
 obtain⟨e,a',w',hq,AD⟩:=key _ x a w rfl h₀;exact⟨e,a',w',hq, .of_steps (.one (fenced_calm hb hr rfl) stepR_loop) AD⟩
def nq(P:Program)(B:fe)(n:Nat)(G:FP)(N:Nat)(dr:D)(Ω0:bM)(S:List Nat)(Ω:bM)(κ:Sy→FT)(L:List (List D→Option D))(E:List D)(Q:Act→World→Prop):Prop:=
 ∀(Ω':bM) (Y':Sy) (L':List (List D→Option D)) (E':List D) (ι' γ':Nat→Tok) (J':St) (a':Act) (w':World),Ω.le S Ω'→Mt Ω' G E' ι' γ' Y' J'→dm P B n w' a'.tmps J'→DM Ω0 Ω' a'.defers→L'.length=Y'.d→
  (∃pre,L'=pre++L)→(∃suf,E'=E++suf)→ae G N (κ Y') L' E'=some dr→Q a' w'
abbrev aba(P:Program)(B:fe)(n:Nat)(G:FP)(N:Nat)(dr:D)(Ω0:bM)(S:List Nat)(Ω:bM)(κ:VE→Sy→FT)(L:List (List D→Option D))(E:List D)(Q:Exit→Act→World→Prop):Prop:=
 ∀e:VE,nq P B n G N dr Ω0 S Ω (κ e) L E (Q e.ex)
theorem nq.more{Ω0 Ω Ω1:bM}{S:List Nat}{κ:Sy→FT}{L pre:List (List D→Option D)}{E suf:List D}{Q:Act→World→Prop}(h:nq P B n G N dr Ω0 S Ω κ L E Q)(hΩ:Ω.le S Ω1):nq P B n G N dr Ω0 S Ω1 κ (pre++L) (E++suf) Q:=by
 rintro Ω' Y' L' E' ι' γ' J' a' w' hle M' R' hd' hL' ⟨ad8,rfl⟩ ⟨aer,rfl⟩ he;exact h Ω' Y' _ _ ι' γ' J' a' w' (hΩ.trans hle) M' R' hd' hL' ⟨ad8++pre,by simp⟩ ⟨suf++aer,by simp⟩ he
def ig(P:Program)(G:FP)(N:Nat)(dr:D)(yl:Yh)(V:Nat→Value)(m:Nat)(Ω:bM):Prop:=
 ∀{S:List Nat} {Bc:fe} {Ω0 Ω':bM} {nm off n0:Nat} {vs:List SV} {x:Option Nat} {Z:Sy} {κ:Sy→FT} {L:List (List D→Option D)} {E:List D} {ι γ:Nat→Tok} {J:St} {w1 w:World} {pr:aX} {A:iJ} {tk:ahw} {a:Act} {cargs:Array Value} {ds:List D} {next:Act→World→Prop},
  nm∈yl.S→(∀x,x∈yl.S→x∈S)→Ω.le yl.S Ω'→(∀i,m≤i→n0≤off+i∧Bc.A.sv (off+i)=V i)→Mt Ω' G E ι γ Z J→Rel P w1 pr A n0 w a.tmps J tk→iL Bc w1 pr A→a_ w pr tk cargs.toList ds→bA G E ι Z.h vs ds→(∀i,x=some i→i<n0)→DM Ω0 Ω' a.defers→L.length=Z.d→
  ae G N (yl.run S nm off vs x n0 Z κ) L E=some dr→nq P Bc n0 G N dr Ω0 S Ω' κ L E next→
  ∀r:Option Nat,∃l fnl tmps assign body,Ω'.t nm= [l+1]∧(Instr.yield l cargs).run P w= .ok (.round l fnl tmps assign body) w∧RoundIn (wF r) 0 P l fnl tmps assign body w (fun e w'=> ∃v,e= .returned v∧next (a.put x v) w')
theorem ig.mono{yl:Yh}{V:Nat→Value}{m:Nat}{Ω Ω1:bM}(h:ig P G N dr yl V m Ω)(k:Ω.le yl.S Ω1):ig P G N dr yl V m Ω1:=
 fun h1 hS h2 h3=>h h1 hS (k.trans h2) h3
theorem ig.push{yl:Yh}{V V':Nat→Value}{m m' k:Nat}{Ω:bM}(h:ig P G N dr yl V m Ω)(hV: ∀j,m≤j→m'≤k+j∧V' (k+j)=V j):ig P G N dr (yl.push k) V' m' Ω:=
 fun{S Bc Ω0 Ω' nm off n0} {vs x Z κ L E ι γ J w1 w pr A tk a cargs ds next} h1 hS h2 h3=>h (off:=off+k) h1 hS h2 fun j hj=>by
  grind
theorem ig.aeN{yl:Yh}{V V':Nat→Value}{m m':Nat}{Ω:bM}(h:ig P G N dr yl V m Ω)(hm:m'≤m)(hV: ∀j,m≤j→V' j=V j):ig P G N dr yl V' m' Ω:=
 fun h1 hS h2 h3=>h h1 hS h2 fun j hj=>⟨(h3 j (by omega)).1,(h3 j (by omega)).2.trans (hV j hj)⟩
theorem ig.under{yl:Yh}{V V':Nat→Value}{m m' k:Nat}{Ω:bM}{S:List Nat}(h:ig P G N dr yl V m Ω)(hS: ∀x,x∈yl.S→x∈S)(hV: ∀j,m≤j→m'≤k+j∧V' (k+j)=V j):ig P G N dr (yl.under S k) V' m' Ω:=by
 intro S' Bc Ω0 Ω' nm off n0 vs x Z κ L E ι γ J w1 w pr A tk a cargs ds next h1 hS' h2 h3 M R U hr hv hx hd hL he hκ
 simp only[Yh.under]at he;split at he
 ·rename_i hc
  exact h (off:=off+k) (by simpa using hc) (fun x hx=>hS' x (hS x hx)) (h2.sub hS) (fun j hj=>by
   obtain⟨g1,g2⟩:=hV j hj;obtain⟨g3,g4⟩:=h3 (k+j) g1;rw[Nat.add_assoc]
   exact⟨g3,g4.trans g2⟩) M R U hr hv hx hd hL he hκ
 ·cases he
def sP(P:Program)(G:FP)(N:Nat)(dr:D)(inl:JJ):Prop:=
 ∀{yl:Yh} {B:fe} {Ω0 Ω:bM} {f n:Nat} {vs:List SV} {x:Option Nat} {Y:Sy} {κ:Sy→FT} {L:List (List D→Option D)} {E:List D} {ι γ:Nat→Tok} {J:St} {w1 w:World} {pr:aX} {A:iJ} {tk:ahw} {a:Act} {cargs:Array Value} {ds:List D} {next:Act→World→Prop},
  ig P G N dr yl (g_ 0 n a.tmps B.A.sv) 0 Ω→Mt Ω G E ι γ Y J→Rel P w1 pr A n w a.tmps J tk→iL B w1 pr A→a_ w pr tk cargs.toList ds→bA G E ι Y.h vs ds→(∀i,x=some i→i<n)→DM Ω0 Ω a.defers→L.length=Y.d→ae G N (inl yl f vs x n Y κ) L E=some dr→
  nq P B n G N dr Ω0 yl.S Ω κ L E next→dw P f∧Calls P f cargs w fun e w'=> ∃v,e= .returned v∧next (a.put x v) w'
theorem vS{v:D}{b:Bool}(h:v.asBool=some b):v= .v (.bool b):=by
 cases v<;>simp only[D.asBool]at h<;>try (cases h;done)
 grind
theorem Mt.Hn{E:List D}{ι γ:Nat→Tok}{Y:Sy}{J:St}(M:Mt Ω G E ι γ Y J){d:Nat}:Mt Ω G E ι γ {Y with d:=d} J:=M.sub (fun _ _ h=>h) (fun _=>rfl) rfl
theorem jF{E:List D}: ∀(x:X) {d:D},fU x=true→X.ev G E x=some d→ ∃b,d=bv b
 | .t _,d,h,_=>by simp[fU]at h
 | .q v,d,h,he=>by
  cases v with
  |v y=>cases y with
   |bool b=>exact⟨b,(Option.some.inj he).symm⟩
   |_=>simp[fU]at h
  |_=>simp[fU]at h
 | .ite c a b,d,h,he=>by
  simp only[fU,Az]at h;simp only[X.ev,Bz]at he;obtain⟨v,_,x,_,h3⟩:=he;cases x
  ·exact jF b h.2 h3
  ·exact jF a h.1 h3
 | .mk k xs,d,h,he=>by
  obtain⟨ds,_,h2⟩:=bc he;cases k with
  |gv w=>
   simp only[XK.run]at h2
   grind
  |pk k=>
   simp only[XK.run,Bz]at h2;obtain⟨d0,h3,h4⟩:=h2;split at h4<;>cases h4;cases k with
   |ibin op=>
    simp only[PK.run]at h3;unfold jd at h3;split at h3
    ·split at h3
     ·cases op<;>simp only[fU,NH,Bool.false_eq_true]at h<;>(simp only[cZ]at h3;cases h3;exact⟨_,rfl⟩)
     ·cases h3
    ·cases h3
   |inot=>simp only[PK.run]at h3;unfold TN at h3;split at h3<;>first|(cases h3;exact⟨_,rfl⟩)|cases h3
   |beq n=>simp only[PK.run]at h3;unfold RG at h3;split at h3<;>first|(cases h3;exact⟨_,rfl⟩)|cases h3
   |seq n=>simp only[PK.run]at h3;unfold Ud at h3;split at h3<;>first|(cases h3;exact⟨_,rfl⟩)|cases h3
   |aeq n ks=>
    simp only[PK.run]at h3;unfold JX at h3;split at h3
    ·obtain⟨r,_,rfl⟩:=Mz.1 h3;exact⟨_,rfl⟩
    ·cases h3
   |snil n=>
    simp only[PK.run]at h3;unfold ER at h3
    grind
   |_=>simp[fU]at h
  |_=>simp[fU]at h
theorem yC{Y:Sy}{E:List D}{ι γ:Nat→Tok}{J:St}(M:Mt Ω G E ι γ Y J){e:X}(h:X.ev G E e=some (bv false)):Mt Ω G E ι γ (Y.mE e) J:=by
 unfold Sy.mE;split
 ·rename_i w g;split
  ·rename_i hb;refine M.uy rfl rfl fun i v hv=> ?_;simp only[dY]at hv;obtain⟨u,hu,rfl⟩:=Mz.1 hv;have H:=M.slot i u hu;unfold mE;split
   ·rename_i e';split
    ·rename_i he;obtain rfl:=ba _ _ he;obtain⟨h1,_⟩:=H.b7;obtain⟨b,hd⟩:=jF e' hb h1;obtain⟨ds,a1,a2⟩:=bc h;obtain⟨dj,rfl,a3⟩:=jf a1;simp only[XK.run]at a2;rw[hd];have:b= !w:=by cases b<;>cases w<;>simp_all
     rw[this];exact .x rfl rfl
    ·exact H
   ·exact H
  ·exact M
 ·exact M
theorem jE{E:List D}{ι γ:Nat→Tok}{Y:Sy}{J:St}(M:Mt Ω G E ι γ Y J){g:Option (Option (Nat×Bool))}{q:GV}(h:guardOf Y g=some q):
  ∃g',g=some g'∧match q with
   | .go b=>bC J g'=some b
   | .ask e=> ∀d,X.ev G E e=some d→ ∃b,d=bv b∧bC J g'=some b:=by
 cases g with
 |none=>cases h
 |some g'=>
  cases g' with
  |none=>cases h;exact⟨none,rfl,rfl⟩
  |some p=>
   obtain⟨j,w⟩:=p;refine⟨_,rfl, ?_⟩;simp only[guardOf]at h;split at h
   ·rename_i b hg;cases h;obtain⟨k1,_⟩:=(M.slot j _ hg).b7;have:J.s j= .v (.bool b):=(Option.some.inj (show some (D.v (.bool b))=some (J.s j)from k1)).symm;simp[bC,this]
   ·rename_i g hg;cases h;intro d hd;obtain⟨ds,a1,a2⟩:=bc hd;obtain⟨dj,rfl,a3⟩:=jf a1;obtain⟨k1,k2⟩:=(M.slot j _ hg).b7;rw[k1]at a3;cases a3;simp only[XK.run]at a2;split at a2
    ·rename_i b heq;simp only[List.cons.injEq]at heq;cases a2;exact⟨_,rfl,by simp[bC,heq]⟩
    ·rename_i heq;simp only[List.cons.injEq]at heq;cases a2;exact⟨_,rfl,by simp[bC,heq]⟩
    ·cases a2
   ·cases h
theorem Gc{Y:Sy}{x:Option Nat}{v:SV}:Y.cU (Y.kK x v):=by cases x<;>exact⟨rfl,rfl⟩
theorem xr{Ω:bM}{fr:pI}{o:Oper}{Y:Sy}{tg:Tg}{vs:List SV}(h:pS fr n o Y=some (tg,vs)){E:List D}{ι γ:Nat→Tok}{J:St}(M:Mt Ω G E ι γ Y J){w1 w:World}{pr:aX}{A:iJ}{tk:ahw}{a:Act}(R:Rel P w1 pr A n w a.tmps J tk):
  (∀i,o.dst=some i→i<n)∧mS o.op=true∧ ∃cargs ds,a_ w pr tk cargs.toList ds∧bA G E ι Y.h vs ds∧match tg with
   | .fn f=>dw P f→(execOp a.eval o).run P w= .ok (.enter f cargs) w
   | .yld nm=>(∃k,find Y.h nm=some (.raw k))∧ ∀l,ι nm= [l+1]→(execOp a.eval o).run P w=(Instr.yield l cargs).run P w:=by
 have uY: ∀(gs:List aL),bA G E ι Y.h (gs.map (b6 Y)) (gs.map (aL.val J.s)):=fun gs=>
  ⟨by simp,fun i v d hv hd=>by
   rw[Dz,Mz]at hv hd;obtain⟨g,hg,rfl⟩:=hv;obtain⟨g',hg',rfl⟩:=hd;rw[hg]at hg';cases hg'
   exact aJ M g⟩
 unfold pS at h;split at h
 ·rename_i c ho;split at h
  ·rename_i b_;have hx: ∀i,o.dst=some i→i<n:=fun i hi=>by rw[hi]at b_;simpa using b_
   refine⟨hx,by rw[ho];rfl, ?_⟩;split at h
   ·rename_i f' hc;split at h
    ·obtain⟨gs,hgs,h2⟩:=Mz.1 h;cases h2;exact⟨c.args.map a.eval,gs.map (aL.val J.s),by simpa using fi R hgs,uY gs,fun hb=>by simp[execOp,ho,resolve,hc,Act.eval,Deferred.ofValue,invoke,bD hb]⟩
    ·cases h
   ·rename_i t hc;split at h
    ·rename_i ht;split at h
     ·rename_i f' eK hf;split at h
      ·rename_i Cn;split at h
       ·obtain⟨gs,hgs,h2⟩:=Mz.1 h;cases h2;have H:=M.slot _ _ hf;have hfv:=R.slot t ht;generalize hJ:J.s t=dt at H hfv;cases H with
        | @clo _ _ ds hl hh=>
         have hev:a.eval (.tmp t)=a.tmps.getD t undef:=rfl;generalize a.tmps.getD t undef=fv at hfv hev;cases hfv with
         | @clo _ _ cv _ _ hs hr=>
          refine⟨c.args.map a.eval++cv,gs.map (aL.val J.s)++ds, ?_, ?_,fun hb=>by simp[execOp,ho,resolve,hc,hev,Deferred.ofValue,invoke,bD hb]⟩
          ·rw[Array.toList_append];exact jx (by simpa using fi R hgs) (mX (by simpa using hs) fun i c x hc hx=>hr i c x (by simpa using hc) hx)
          ·exact(uY gs).append ⟨hl,hh⟩
         |bclo=>omega
       ·cases h
      ·rename_i Cn;split at h
       ·obtain⟨gs,hgs,h2⟩:=Mz.1 h;cases h2;have H:=M.slot _ _ hf;have hfv:=R.slot t ht;generalize hJ:J.s t=dt at H hfv;cases H with
        | @clo _ _ ds hl hh=>
         have hev:a.eval (.tmp t)=a.tmps.getD t undef:=rfl;generalize a.tmps.getD t undef=fv at hfv hev;generalize hfq:f'=fq at hfv;cases hfv with
         |clo=>omega
         | @bclo _ f2 cv _ hs hr=>
          have e2:f2+1000000-1000000=f2:=by omega
          rw[e2];refine⟨cv++c.args.map a.eval,ds++gs.map (aL.val J.s), ?_, ?_,fun hb=>by simp[execOp,ho,resolve,hc,hev,Deferred.ofValue,invoke,bD hb]⟩
          ·rw[Array.toList_append];exact jx (mX (by simpa using hs) fun i c x hc hx=>hr i c x (by simpa using hc) hx) (by simpa using fi R hgs)
          ·exact bA.append ⟨hl,hh⟩ (uY gs)
       ·cases h
     ·rename_i nm hf;obtain⟨gs,hgs,h2⟩:=Mz.1 h;cases h2;have H:=M.slot _ _ hf;have hfv:=R.slot t ht;generalize hJ:J.s t=dt at H hfv;cases H with
      |yl nk=>
       obtain⟨hev,_⟩:=aU.1 hfv;have Sv:a.eval (.tmp t)= .func (.yield ((ι nm).headD 0-1)) #[] #[]:=hev;refine⟨c.args.map a.eval,gs.map (aL.val J.s),by simpa using fi R hgs,uY gs,⟨_,nk⟩,fun l hl=> ?_⟩;rw[hl]at Sv;simp only[List.headD_cons,Nat.add_sub_cancel]at Sv;simp[execOp,ho,resolve,hc,Sv,Deferred.ofValue,invoke]
     ·cases h
    ·cases h
   ·cases h
  ·cases h
 ·cases h
theorem jD{Ω0:bM}{yl:Yh}{C:Cx}{inl:JJ}{cf id:Nat}(hP:C.P=P)(hG:Sound P (bw G))(hI:sP P G N dr inl){ops:Array Oper}{Q:Exit→Act→World→Prop}{κ:Sy→FT}:
  ∀(l:List Oper) (k:Nat),(∀j,j<l.length→l[j]?=ops[k+j]?)→ ∀{Ω:bM} {Y:Sy} {L:List (List D→Option D)} {E:List D} {ι γ:Nat→Tok} {J:St} {a:Act} {w:World},ig P G N dr yl B.A.sv n Ω→
  Mt Ω G E ι γ Y J→dm P B n w a.tmps J→DM Ω0 Ω a.defers→L.length=Y.d→ae G N (fQ C inl cf n yl id ops l Y κ) L E=some dr→nq P B n G N dr Ω0 yl.S Ω κ L E (Q .normal)→jT r P ops Q (List.range' k l.length) a w
 | [],k,_,Ω,Y,L,E,ι,γ,J,a,w,hY,M,R,hd,hL,he,hκ=>hκ Ω Y L E ι γ J a w .np M R hd hL ⟨[],rfl⟩ ⟨[],by simp⟩ he
 |o::l,k,hl,Ω,Y,L,E,ι,γ,J,a,w,hY,M,R,hd,hL,he,hκ=>by
  have ho:ops[k]?=some o:=by have:=hl 0 (by simp);simpa using this.symm
  have hl': ∀j,j<l.length→l[j]?=ops[k+1+j]?:=fun j hj=>by have:=hl (j+1) (by simpa using hj);simpa[Nat.add_assoc,Nat.add_comm 1 j]using this
  have ih:=fun{Ω:bM} {Y:Sy} {L':List (List D→Option D)} {E':List D} {ι γ:Nat→Tok} {J:St} {a:Act} {w:World}=>jD (id:=id) (cf:=cf) (κ:=κ) (Ω:=Ω) (Y:=Y) (L:=L') (E:=E') (ι:=ι) (γ:=γ) (J:=J) (a:=a) (w:=w) (yl:=yl) (Ω0:=Ω0) hP hG hI (Q:=Q) l (k+1) hl'
  have RW: ∀{Y0:Sy} {tg:Tg} {vs:List SV},Mt Ω G E ι γ Y0 J→Y0.d=Y.d→pS (C.cfg cf) n o Y0.gc.atom.1=some (tg,vs)→ae G N (oh Y0.gc.atom.2 (KJ yl inl tg vs o.dst n Y0.gc.atom.1 fun Y'=>fQ C inl cf n yl id ops l Y' κ)) L E=some dr→Oper.vP r P o a w (jT r P ops Q (List.range' (k+1) l.length)) Q:=by
   intro Y0 tg vs MY hYd hq he;rw[pX,Bz]at he;obtain⟨ds0,h2,he⟩:=he;have M0:=MY.gc.atom h2;have hL0:L.length=Y0.gc.atom.1.d:=by rw[hL,←hYd];exact Eb.1.symm
   generalize Y0.gc.atom.1=Y1 at*;have hκ0:nq P B n G N dr Ω0 yl.S Ω κ L (E++ds0) (Q .normal):=hκ.more (pre:= []) .np
   have next:nq P B n G N dr Ω0 yl.S Ω (fun Y'=>fQ C inl cf n yl id ops l Y' κ) L (E++ds0) (jT r P ops Q (List.range' (k+1) l.length)):=by
    rintro Ω' Y' L' E' ι' γ' J' a' w' hle M' R' hd' hL' ⟨pre,rfl⟩ ⟨suf,rfl⟩ he';exact ih (hY.mono hle) M' R' hd' hL' he' (hκ0.more hle)
   obtain⟨w1,pr,A,tk,R1,U⟩:=R;obtain⟨hx,hnd,cargs,ds,k1,k2,k3⟩:=xr hq M0 R1;cases tg with
   |fn f=>
    obtain⟨hb,hc⟩:=hI (hY.aeN (Nat.zero_le _) fun j hj=>by simp only[g_,Nat.sub_zero,if_neg (show¬j<n by omega)]) M0 R1 U k1 k2 hx hd hL0 he next
    exact kQ hnd (k3 hb) hc
   |yld nm=>
    simp only[KJ]at he;split at he
    ·rename_i hS;have hS':nm∈yl.S:=by simpa using hS
     obtain⟨⟨kk,nk⟩,k4⟩:=k3;obtain⟨ln,fnl,tmps,assign,body,g1,g2,g3⟩:=hY hS' (fun _ h=>h) .np (fun i hi=>⟨by omega,by rw[Nat.zero_add]⟩) M0 R1 U k1 k2 hx hd hL0 he next r
     refine zj hnd ?_;rw[k4 ln ((M0.rwo _ _ nk).1.trans g1),g2,Oper.uponIn_round];refine⟨fun h=>(by simp[wF,Fence.wide]at h),RoundIn.mono g3 ?_⟩
     grind
    ·cases he
  have TL: ∀{Y:Sy},Mt Ω G E ι γ Y J→L.length=Y.d→(∀i,o.dst=some i→i<n)→ae G N (fQ C inl cf n yl id ops l (Y.kK o.dst (.x pF)) κ) L E=some dr→jT r P ops Q (List.range' (k+1) l.length) (a.put o.dst undef) w:=fun{Y} M hL hx he=>by
   obtain⟨w1,pr,A,tk,R1,U⟩:=R;refine ih hY (M.kK fun _ _=> .x rfl rfl) ⟨_,_,_,_,(show Rel P w1 pr A n w (a.put o.dst undef).tmps (J.kK o.dst (.tup [])) tk from R1.void hx),U⟩ (by cases o.dst<;>exact hd) (by rw[hL];exact Gc.1.symm) he hκ
  simp only[fQ]at he;refine wpOps_cons ho ?_;split at he
  ·rename_i t ht;split at ht
   ·rename_i hc;rw[Az]at hc;have hx: ∀i,o.dst=some i→i<n:=fun i hi=>by have:=hc.2;rw[hi]at this;simpa using this
    obtain⟨w1,pr,A,tk,R1,U⟩:=(fun x=>x) R;split at ht
    ·rename_i hg;obtain⟨q,hq,rfl⟩:=Mz.1 ht;obtain⟨g',hg',hgv⟩:=jE M hg;rw[eR R1 hg' hgv]
     grind
    ·rename_i hg;obtain⟨g',hg',hgv⟩:=jE M hg;rw[eR R1 hg' hgv]
     grind
    ·rename_i e hg;obtain⟨q,hq,rfl⟩:=Mz.1 ht;obtain⟨g',hg',hgv⟩:=jE M hg;simp only[ae,Bz]at he;obtain⟨v,h3,b,h4,he⟩:=he;obtain⟨b',hb',hgv⟩:=hgv v h3;obtain rfl:=vS h4;cases hb';rw[eR R1 hg' hgv];cases b
     ·exact TL (yC M h3) (by rw[hL];unfold Sy.mE;split<;>(try split)<;>rfl) hx (by simpa using he)
     ·have M1:Mt Ω G E ι γ (Y.qz e) J:=M.uy rfl rfl fun i v hv=>by
       simp only[Sy.qz,dY]at hv;obtain⟨u,hu,rfl⟩:=Mz.1 hv;exact wV (M.slot i u hu) h3
      exact RW M1 rfl hq (by simpa using he)
    ·cases ht
   ·cases ht
  ·split at he
   ·rename_i q hs;rw[oM,Bz]at he;obtain⟨ds0,h1,he⟩:=he;obtain⟨J',ι',γ',g1,g2⟩:=pE M (Y':=q.1) (O:=q.2) hs (so h1);rw[hP]at g1;exact qy (r:=r) hG R g1 _ Q fun a' w' hdf R'=>jD hP hG hI l (k+1) hl' hY g2 R' (hdf▸hd) (by rw[hL];exact(rq hs).1.symm) he hκ
   ·cases he
end
end
section
section
variable {P : Program} {n : Nat} {G : FP} {N : Nat} {dr : D}
theorem o8{F:Fence}{fn:Func}{R:Ending→World→Prop}{a:Act}{w1:World}{pr:aX}{A:iJ}{tk:ahw}: ∀(l:List Deferred) {w:World} {J:St},Rel P w1 pr A n w a.tmps J tk→l.Nodup→(∀d∈l,∃b,d=mark b∧J.m [b+1]=some (.raw (.deferred (some []))))→
  (∀w' J',Rel P w1 pr A n w' a.tmps J' tk→J'.s=J.s→J'.c=J.c→(∀t,(∀d∈l,∀b,d=mark b→t≠ [b+1])→J'.m t=J.m t)→ ∃v,(results fn a.tmps).run P w'= .ok v w'∧R (.returned v) w')→LeavesInM F 0 P fn a.tmps R l .returning w
 | [],w,J,R1,_,_,h=>h w J R1 rfl rfl fun _ _=>rfl
 |d::l,w,J,R1,hnd,hm,h=>by
  obtain⟨b,rfl,hb⟩:=hm d (List.mem_cons_self ..);obtain⟨hd,acE⟩:=List.nodup_cons.1 hnd;refine⟨by simp, .inl ⟨b,_,rfl,run_takeDeferred (R1.wQ hb).2, ?_⟩⟩;refine o8 l (R1.yp hb (.deferred none)) acE (fun d' hd'=> ?_) fun w' J' R' hs hc hmm=> ?_
  ·obtain⟨b',rfl,hb'⟩:=hm d' (Cz _ hd');refine⟨b',rfl, ?_⟩;rw[eD,if_neg fun e=> ?_]
   ·exact hb'
   ·simp only[List.cons.injEq,Nat.add_right_cancel_iff,and_true]at e;subst e;exact hd hd'
  ·refine h w' J' R' hs hc fun t ht=> ?_;rw[hmm t fun d' hd' b' hb'=>ht d' (Cz _ hd') b' hb',eD,if_neg (ht _ (List.mem_cons_self ..) b rfl)]
theorem p9{F:Fence}{fn:Func}{R:Ending→World→Prop}{S:List Nat}{Ω Ω2:bM}{E:List D}{ι γ:Nat→Tok}{Y:Sy}{J:St}{B:fe}{a:Act}{w:World}(M:Mt Ω2 G E ι γ Y J)(RE:dm P B n w a.tmps J)(hd:DM Ω Ω2 a.defers)(hle:Ω.le S Ω2)
  (h: ∀Ω3 w' J',Ω.le S Ω3→Mt Ω3 G E ι γ Y J'→dm P B n w' a.tmps J'→ ∃v,(results fn a.tmps).run P w'= .ok v w'∧R (.returned v) w'):LeavesInM F 0 P fn a.tmps R a.defers .returning w:=by
 obtain⟨w1,pr,A,tk,R1,U⟩:=RE;refine o8 a.defers R1 hd.2.1 (fun d hdd=> ?_) fun w' J' R' hs hc hm=> ?_
 ·obtain⟨b,h1,h2,_⟩:=hd.2.2 d hdd;exact⟨b,h1,M.con _ h2⟩
 ·refine h ⟨Ω2.t,Ω2.f,fun t=>Ω2.c t∧ ∀d∈a.defers,∀b,d=mark b→t≠ [b+1]⟩ w' J' ⟨fun t ht=>⟨hle.1 t ht,fun d hdd b hb e=> ?_⟩,hle.2⟩ ?_ ⟨w1,pr,A,tk,R',U⟩
  ·obtain⟨b',h1,_,h3⟩:=hd.2.2 d hdd
   grind
  ·refine M.mem hs hc R'.wf (fun k o hk hi=>hm _ fun d hdd b hb e=> ?_) (fun q hq=>hm _ fun d hdd b hb e=> ?_) (fun k q hk=>⟨rfl,rfl,fun hh=>(M.rwo k q hk).2.2.2 hh.1⟩) fun t ht=>by rw[hm t ht.2];exact M.con t ht.1
   rotate_left
   ·obtain⟨b',h1,h2,_⟩:=hd.2.2 d hdd;have hr:=M.con _ h2
    grind
   obtain⟨b',h1,h2,_⟩:=hd.2.2 d hdd;have:b=b':=by rw[hb]at h1;simpa[mark]using h1
   subst this;have hr:=M.con _ h2;rw[←e]at hr;cases o with
   |box vs=>obtain⟨ds,_,g,_⟩:=M.box k vs hk;rw[g]at hr;cases hr
   |map c=>obtain⟨_,_,_,g⟩:=M.mpo k c hk;rw[g]at hr;cases hr
   |mpl e' sz c=>obtain⟨_,_,_,g,_⟩:=M.own k e' sz c hk;rw[g]at hr;cases hr
   |raw q=>exact(M.rwo k q hk).2.2.2 (e▸h2)
   |az e' sz c=>
    obtain⟨_,_,_,g⟩:=M.az k _ _ _ hk
    grind
theorem Bb{Ω:bM}{it:Option (Nat×Nat)}{g:Operand}{Y:Sy}{f:Nat}{vs:List SV}{O:List X}(h:EK it n g Y=some ((f,vs),O)){E:List D}(hO: ∀e∈O,∃d,X.ev G E e=some d){ι γ:Nat→Tok}{J:St}(M:Mt Ω G E ι γ Y J){w1 w:World}{pr:aX}{A:iJ}{tk:ahw}{a:Act}(R:Rel P w1 pr A n w a.tmps J tk):
  ∃cv ds,a.eval g= .func (.func f) #[] cv∧a_ w pr tk cv.toList ds∧bA G E ι Y.h vs ds:=by
 unfold EK at h;split at h
 ·cases h;exact⟨#[],[],rfl,trivial,bA.nil⟩
 ·rename_i t;split at h
  ·rename_i ht;have hev:a.eval (.tmp t)=a.tmps.getD t undef:=rfl;have hfv:=R.slot t ht;split at h
   ·rename_i f' eK hf;split at h
    rotate_left
    ·cases h
    cases h;have H:=M.slot _ _ hf;generalize hJ:J.s t=dt at H hfv;cases H with
    | @clo _ _ ds hl hh=>
     generalize a.tmps.getD t undef=fv at hfv hev;cases hfv with
     | @clo _ _ cv _ _ hs hr=>exact⟨cv,ds,hev,mX (by simpa using hs) fun i c x hc hx=>hr i c x (by simpa using hc) hx,hl,hh⟩
     |bclo=>omega
   ·rename_i e hf;obtain⟨⟨g0,k⟩,_,h2⟩:=Bz.1 h;split at h2
    rotate_left
    ·cases h2
    obtain⟨⟨rfl,rfl⟩,rfl⟩:=h2;obtain⟨d0,hd0⟩:=hO _ (List.mem_singleton.2 rfl);obtain⟨ds',a1,a2⟩:=bc hd0;obtain⟨de,rfl,a3⟩:=jf a1;obtain⟨k1,k2⟩:=(M.slot _ _ hf).b7;rw[k1]at a3;have hst:J.s t=de:=Option.some.inj a3;rw[hst]at hfv k1 k2;simp only[XK.run]at a2;split at a2
    ·rename_i g1 xs heq;simp only[List.cons.injEq,and_true]at heq;subst heq;split at a2
     ·rename_i hc;obtain⟨rfl,hlen⟩:=hc;generalize a.tmps.getD t undef=fv at hfv hev;cases hfv with
      | @clo _ _ cv _ _ hs hr=>
       refine⟨cv,xs,hev,mX (by simpa using hs) fun i c x hc hx=>hr i c x (by simpa using hc) hx,by simp[hlen],fun i v d hv hd=> ?_⟩;rw[Dz,Mz]at hv;obtain⟨j,hj,rfl⟩:=hv
       have hnd:d.aF=true:=by
        simp only[D.aF,Tz]at k2;have:=k2 d (Lz hd);exact mw this
       refine .x ?_ hnd;simp only[X.ev,X.bm,k1,Oz,Pz,XK.run]
       grind
      |bclo=>omega
     ·cases a2
    ·cases a2
   ·cases h
  ·cases h
 ·cases h
def Ms:RS→LoopState
 | .ready=> .ready
 | .busy=> .busy
 | .done _=> .done
 | .over=> .exhausted
def jmp:VE→Option Code
 | .normal=>none
 | .exit id=>some (.exit id)
 | .ret=>some .ret
def ZD:RS→Option Code
 | .done e=>jmp e
 |_=>none
def Pe(fn:Nat)(tmps:Array Value)(ps:Array Tmp)(assign body:Code)(df:Nat)(k:RS):Loop:={state:=Ms k,pending:=ZD k,fn,tmps,params:=ps,assign,body,defers:=df}
set_option maxHeartbeats 2000000 in
theorem jl{C:Cx}{inl:JJ}{cf:Nat}(hP:C.P=P)(hG:Sound P (bw G))(hm:P.follows .mixedOrders=true)(hI:sP P G N dr inl):
    ∀(c:Code) {B:fe} {r:Option Nat} {Ω0 Ω:bM} {yl:Yh} {rd:Bool} {bi:Nat} {ks:List Nat} {Y:Sy} {κ:VE→Sy→FT} {L:List (List D→Option D)} {E:List D} {ι γ:Nat→Tok} {J:St} {a:Act} {w:World} {Q:Exit→Act→World→Prop},
    (rd=false→r=none)→ig P G N dr yl B.A.sv n Ω→Mt Ω G E ι γ Y J→dm P B n w a.tmps J→DM Ω0 Ω a.defers→L.length=Y.d→ae G N (cX C inl cf n yl rd bi ks c Y κ) L E=some dr→aba P B n G N dr Ω0 yl.S Ω κ L E Q→Code.vP r P c Q a w:=by
  intro c
  induction c with
  |skip=>intro B r Ω0 Ω yl rd bi ks Y κ L E ι γ J a w Q hr hY M R hd hL he hκ;exact wpIn_skip (hκ .normal Ω Y L E ι γ J a w .np M R hd hL ⟨[],rfl⟩ ⟨[],by simp⟩ he)
  |region id ops draw=>
    intro B r Ω0 Ω yl rd bi ks Y κ L E ι γ J0 a w Q hr hY M0 R0 hd hL he hκ
    simp only[cX]at he
    obtain⟨J,M,R⟩: ∃J',Mt Ω G E ι γ (Y.xS (C.un cf (2000000+id))) J'∧dm P B n w a.tmps J':=by
      unfold Sy.xS
      split
      · exact Cg M0 R0
      · exact⟨J0,M0,R0⟩
    replace hL:L.length=(Y.xS (C.un cf (2000000+id))).d:=by rw[hL];unfold Sy.xS;split<;>rfl
    clear M0 R0
    generalize Y.xS (C.un cf (2000000+id))=Y1 at he M hL
    split at he
    · rename_i q hs
      rw[oM,Bz]at he
      obtain⟨_,h1,he⟩:=he
      rw[pX,Bz]at he
      obtain⟨ds,h2,he⟩:=he
      have hO:=mz (so h2) (so h1)
      replace hs:gF C.P (C.cfg cf) n ops draw Y1=some q:=by
        split at hs
        · cases hs
        · exact hs
      rw[hP]at hs
      refine rU hG hm (Y':=q.1) (O:=q.2) hs hO M R fun a' w' J' ι' γ' hd' R' M'=> ?_
      exact hκ .normal Ω _ L (E++ds) ι' γ' J' a' w' .np (M'.settle h2) R' (hd'▸hd) (by rw[hL,←(uP hs).1];exact rj.1.symm) ⟨[],rfl⟩ ⟨ds,rfl⟩ he
    · split at he
      · cases he
      · rename_i HT
        have HT:draw=false:=by simpa using HT
        subst HT
        apply wpIn_region
        rw[List.range_eq_range']
        have:=jD (r:=r) (Q:=Q) (Ω0:=Ω0) hP hG hI (ops:=ops) ops.toList 0 (by simp) hY M R hd hL he (by
          rintro Ω' Y' L' E' ι' γ' J' a' w' hle M' R' hd' hL' ⟨pre,rfl⟩ ⟨suf,rfl⟩ he'
          rw[pX,Bz]at he'
          obtain⟨ds,h2,he'⟩:=he'
          exact hκ .normal Ω' _ _ _ ι' γ' J' a' w' hle (M'.settle h2) R' hd' (by rw[hL'];exact rj.1.symm) ⟨pre,rfl⟩ ⟨suf++ds,by simp⟩ he')
        simpa using this
  |seq x y ihx ihy=>
    intro B r Ω0 Ω yl rd bi ks Y κ L E ι γ J a w Q hr hY M R hd hL he hκ
    simp only[cX]at he
    split at he
    · rename_i jh hj
      simp only[ae]at he
      have ok:jh.1.ok Y.nv=true:=by
        split at hj
        · cases hj
        · exact AL (fun _=>wo) hj
      refine wpIn_seq (ihx hr hY M.Hn R hd (by simp[hL]) he ?_)
      rintro e Ω' Y' L' E' ι' γ' J' a' w' hle M' R' hd' hL' ⟨pre,rfl⟩ ⟨suf,rfl⟩ he'
      cases e with
      |normal=>
        simp only[]at he'
        split at he'
        · rename_i p hp
          simp only[ae,Bz]at he'
          obtain⟨ds',h3,f,h4,h5⟩:=he'
          have hix:Y'.d-(Y.d+1)=pre.length:=by
            simp only[List.length_append,List.length_cons,hL]at hL'
            omega
          rw[hix,Xz (Nat.le_refl _),Nat.sub_self]at h4
          simp only[List.getElem?_cons_zero,Jz]at h4
          subst h4
          have hnv:=M.nv
          obtain⟨ι3,γ3,M3⟩:=jh.1.sound M' ok hp h3 M.nv (fun i hi=>by rw[Yz (by omega)]) Y.d jh.2
          rw[cY h3,Hd.yi hp]at M3
          refine ihy hr (hY.mono hle) M3 R' hd' (by simp[hL,Hd.mk']) h5 ?_
          exact fun e=>(hκ e).more (pre:= []) hle
        · cases he'
      |exit id=>exact hκ (.exit id) Ω' Y' _ _ ι' γ' J' a' w' hle M' R' hd' hL' ⟨_,List.append_cons pre _ L⟩ ⟨suf,rfl⟩ he'
      |ret=>exact hκ .ret Ω' Y' _ _ ι' γ' J' a' w' hle M' R' hd' hL' ⟨_,List.append_cons pre _ L⟩ ⟨suf,rfl⟩ he'
    refine wpIn_seq (ihx hr hY M R hd hL he ?_)
    rintro e Ω' Y' L' E' ι' γ' J' a' w' hle M' R' hd' hL' ⟨pre,rfl⟩ ⟨suf,rfl⟩ he'
    cases e with
    |normal=>exact ihy hr (hY.mono hle) M' R' hd' hL' he' fun e=>(hκ e).more hle
    |exit id=>exact hκ (.exit id) Ω' Y' _ _ ι' γ' J' a' w' hle M' R' hd' hL' ⟨pre,rfl⟩ ⟨suf,rfl⟩ he'
    |ret=>exact hκ .ret Ω' Y' _ _ ι' γ' J' a' w' hle M' R' hd' hL' ⟨pre,rfl⟩ ⟨suf,rfl⟩ he'
  |cond c x y ihx ihy=>
    intro B r Ω0 Ω yl rd bi ks Y κ L E ι γ J a w Q hr hY M R hd hL he hκ
    simp only[cX]at he
    have branch: ∀(e:X) (v:D) (b:Bool),(ft n c).map (b6 Y)=some (.x e)→X.ev G E e=some v→v.asBool=some b→ae G N (if b then cX C inl cf n yl rd 0 ks x Y κ else cX C inl cf n yl rd 0 ks y Y κ) L E=some dr→Code.vP r P (.cond c x y) Q a w:=by
      intro e v b hc h1 h2 he
      obtain⟨g,hg,hv⟩:=Mz.1 hc
      have hvr:=aJ M g
      rw[hv]at hvr
      obtain⟨h3,_⟩:=hvr.b7
      rw[h1]at h3
      have hgv:g.val J.s= .v (.bool b):=by
        have h4:=Option.some.inj h3
        rw[←h4];exact vS h2
      obtain⟨w1,pr,A,tk,R1,_⟩:=id R
      have hr1:=cy R1 hg
      rw[hgv]at hr1
      obtain⟨hev,_⟩:=aU.1 hr1
      cases b
      · exact wpIn_cond_false hev (ihy hr hY M R hd hL (by simpa using he) hκ)
      · exact wpIn_cond_true hev (ihx hr hY M R hd hL (by simpa using he) hκ)
    split at he
    · rename_i hc
      exact branch _ _ true hc rfl rfl he
    · rename_i hc
      exact branch _ _ false hc rfl rfl he
    · rename_i e _ _ hc
      simp only[ae,Bz]at he
      obtain⟨v,h1,b,h2,he⟩:=he
      exact branch e v b hc h1 h2 (by cases b<;>exact he)
    · cases he
  |block id c ih=>
    intro B r Ω0 Ω yl rd bi ks Y κ L E ι γ J a w Q hr hY M R hd hL he hκ
    obtain⟨J0,M0,R0⟩: ∃J',Mt Ω G E ι γ (Y.U_ (C.un cf (id+1))) J'∧dm P B n w a.tmps J':=by
      unfold Sy.U_
      split
      · exact xQ M R
      · exact⟨J,M,R⟩
    have hL0:L.length=(Y.U_ (C.un cf (id+1))).d:=by rw[hL];unfold Sy.U_;split<;>rfl
    refine wpIn_block (ih hr hY M0 R0 hd hL0 he ?_)
    rintro e Ω' Y' L' E' ι' γ' J' a' w' hle M' R' hd' hL' hp hs he'
    cases e with
    |normal=>exact hκ .normal Ω' Y' _ _ ι' γ' J' a' w' hle M' R' hd' hL' hp hs he'
    |ret=>exact hκ .ret Ω' Y' _ _ ι' γ' J' a' w' hle M' R' hd' hL' hp hs he'
    |exit i=>
      simp only[VE.ex,Exit.inBlock]
      simp only[]at he'
      split at he'<;>rename_i hi
      · rw[if_pos hi];exact hκ .normal Ω' Y' _ _ ι' γ' J' a' w' hle M' R' hd' hL' hp hs he'
      · rw[if_neg hi];exact hκ (.exit i) Ω' Y' _ _ ι' γ' J' a' w' hle M' R' hd' hL' hp hs he'
  |loop c ih=>
    intro B r Ω0 Ω yl rd bi ks Y κ L E ι γ J a w Q hr hY M R hd hL he hκ
    simp only[cX]at he
    split at he
    · generalize hB:(fun(Y:Sy) (κ:VE→Sy→FT)=>cX C inl cf n yl rd 0 (uniq ks (cC c)) c Y κ)=BB at he
      refine u9 (fun(j:Nat) a w=> ∃Ω' Y L' E' ι γ J,Ω.le yl.S Ω'∧ae G N (yZ BB j Y κ) L' E'=some dr∧Mt Ω' G E' ι γ Y J∧dm P B n w a.tmps J∧DM Ω0 Ω' a.defers∧L'.length=Y.d∧(∃pre,L'=pre++L)∧ ∃suf,E'=E++suf) id
        ⟨Ω,Y,L,E,ι,γ,J, .np,he,M,R,hd,hL,⟨[],rfl⟩,[],by simp⟩ ?_
      rintro j a1 w1 ⟨Ω1,Y1,_,_,ι1,γ1,J1,o6,he1,M1,R1,hd1,hL1,⟨TZ,rfl⟩,Uf,rfl⟩
      cases j with
      |zero=>cases he1
      |succ j=>
        simp only[yZ]at he1
        rw[←hB]at he1
        refine ih hr (hY.mono o6) M1 R1 hd1 hL1 he1 ?_
        rintro e Ω' Y' L' E' ι' γ' J' a' w' hle M' R' hd' hL' ⟨pre,rfl⟩ ⟨suf,rfl⟩ he'
        cases e with
        |normal=>rw[hB]at he';exact⟨j,⟨Ω',Y',_,_,ι',γ',J',o6.trans hle,he',M',R',hd',hL',⟨pre++TZ,by simp⟩,Uf++suf,by simp⟩,Nat.lt_succ_self j⟩
        |exit i=>exact hκ (.exit i) Ω' Y' _ _ ι' γ' J' a' w' (o6.trans hle) M' R' hd' hL' ⟨pre++TZ,by simp⟩ ⟨Uf++suf,by simp⟩ he'
        |ret=>exact hκ .ret Ω' Y' _ _ ι' γ' J' a' w' (o6.trans hle) M' R' hd' hL' ⟨pre++TZ,by simp⟩ ⟨Uf++suf,by simp⟩ he'
    generalize hhd:Cx.Nt _ _ _ _=hd0 at he
    split at he
    · rename_i ok
      split at he
      · rename_i q hq
        simp only[ae,Bz]at he
        obtain⟨ds,h1,he⟩:=he
        generalize hnx:Y.nx+hd0.row.length=nx at he
        obtain⟨ι1,γ1,M1⟩:=hd0.sound M ok hq h1 M.nv (fun _ _=>rfl) (Y.d+1) nx
        have hlen:=cY h1
        rw[hlen]at M1
        generalize hF:(fun rec vs=>ae G N (cX C inl cf n yl rd 0 _ c (hd0.mk' Y.nv q.1.length (Y.d+1) nx) _) (rec::L) (E++vs))=F at he
        refine u9 (fun(j:Nat) a w=> ∃Ω' vs ι γ J,Ω.le yl.S Ω'∧iter F j vs=some dr∧Mt Ω' G (E++vs) ι γ (hd0.mk' Y.nv q.1.length (Y.d+1) nx) J∧dm P B n w a.tmps J∧DM Ω0 Ω' a.defers) id (x:=N) ⟨Ω,ds,ι1,γ1,J, .np,he,M1,R,hd⟩ ?_
        rintro j a1 w1 ⟨Ω1,vs,ι2,γ2,J2,o6,hit,M2,R2,hd2⟩
        cases j with
        |zero=>cases hit
        |succ j=>
          simp only[iter]at hit
          rw[←hF]at hit
          refine ih (L:=iter F j::L) hr (hY.mono o6) M2 R2 hd2 (by simp[hL,Hd.mk']) (by rw[←hF];exact hit) ?_
          rintro e Ω' Y' L' E' ι' γ' J' a' w' hle M' R' hd' hL' ⟨pre,rfl⟩ ⟨suf,rfl⟩ he'
          cases e with
          |normal=>
            simp only[]at he'
            split at he'
            · rename_i p hp
              simp only[ae,Bz]at he'
              obtain⟨ds',h3,f,h4,h5⟩:=he'
              have hix:Y'.d-(Y.d+1)=pre.length:=by
                simp only[List.length_append,List.length_cons,hL]at hL'
                omega
              rw[hix,Xz (Nat.le_refl _),Nat.sub_self]at h4
              simp only[List.getElem?_cons_zero,Jz]at h4
              subst h4
              have hnv:=M.nv
              obtain⟨ι4,γ4,M4⟩:=M'.align (ui Y.s)
              obtain⟨ι3,γ3,M3⟩:=hd0.sound M4 ok hp h3 M.nv (fun i hi=>by rw[List.append_assoc,Yz (by omega)]) (Y.d+1) nx
              have hl1:=cY h3
              have hl2:p.1.length=q.1.length:=by
                rw[Hd.yi hp,Hd.yi hq]
              rw[hl1,hl2]at M3
              exact⟨j,⟨Ω',ds',ι3,γ3,J',o6.trans hle,h5,M3,R',hd'⟩,Nat.lt_succ_self j⟩
            · cases he'
          |exit i=>exact hκ (.exit i) Ω' Y' _ _ ι' γ' J' a' w' (o6.trans hle) M' R' hd' hL' ⟨pre++ [iter F j],by simp⟩ ⟨vs++suf,by simp⟩ he'
          |ret=>exact hκ .ret Ω' Y' _ _ ι' γ' J' a' w' (o6.trans hle) M' R' hd' hL' ⟨pre++ [iter F j],by simp⟩ ⟨vs++suf,by simp⟩ he'
      · cases he
    · cases he
  |exit id=>intro B r Ω0 Ω yl rd bi ks Y κ L E ι γ J a w Q hr hY M R hd hL he hκ;exact wpIn_exit (hκ (.exit id) Ω Y L E ι γ J a w .np M R hd hL ⟨[],rfl⟩ ⟨[],by simp⟩ he)
  |ret=>intro B r Ω0 Ω yl rd bi ks Y κ L E ι γ J a w Q hr hY M R hd hL he hκ;exact wpIn_ret (hκ .ret Ω Y L E ι γ J a w .np M R hd hL ⟨[],rfl⟩ ⟨[],by simp⟩ he)
  |rangeFunc g ps assign body iha ihb=>
    intro B r Ω0 Ω yl rd bi ks Y κ L E ι γ J a w Q hr hY M R hd hL he hκ
    simp only[cX]at he
    split at he
    · rename_i hc
      obtain⟨hrd,hS,hps⟩:=hc
      have hS:Y.nx∉yl.S:=by simpa using hS
      obtain rfl:=hr hrd
      have SJ: ∀p∈ps.toList,p<n:=fun p hp=>by
        rw[Array.all_eq_true_iff_forall_mem]at hps
        simpa using hps p (by simpa using hp)
      split at he
      · rename_i q hq
        obtain⟨⟨f,eK⟩,OO⟩:=q
        rw[oM,Bz]at he
        obtain⟨_,hOO,he⟩:=he
        obtain⟨w1,pr,A,tk,R1,U⟩:=(fun x=>x) R
        refine wpIn_rangeFunc fun Hz _=> ?_
        generalize hnm:Y.nx=nm at*
        let vw:RS→Obj:=fun k=> .loop (Pe Hz a.tmps ps assign body w.heap.size k)
        obtain⟨hn1,tk1,Ra,_,_⟩:=R1.IF (.deferred (some []))
        obtain⟨hn2,tk2,Rb,_,_⟩:=Ra.IF (vw .ready)
        have hsz:(w.alloc (.deferred (some []))).heap.size=w.heap.size+1:=World.size_alloc ..
        rw[hsz]at hn2 Rb
        have acD:J.m [w.heap.size+1+1]=none:=by
          rw[eD,if_neg (by simp)]at hn2;exact hn2
        have M1:=M.jH (nm:=nm) (g:=vw) hn1 acD
        generalize hw2:((w.alloc (.deferred (some []))).alloc (vw .ready))=w2 at Rb
        generalize hJ2:((J.raw w.heap.size (.deferred (some []))).raw (w.heap.size+1) (vw .ready))=J2 at Rb M1
        obtain⟨cv,dcs,hev,hrc,hvc⟩:=Bb hq (so hOO) M1 Rb
        generalize hΩ1:(⟨oy Ω.t nm [w.heap.size+1+1],oy Ω.f nm vw,fun t=>Ω.c t∨t= [w.heap.size+1]⟩:bM)=Ω1 at M1
        have o6:Ω.le yl.S Ω1:=by
          subst hΩ1
          refine⟨fun t h=> .inl h,fun k hk=> ?_⟩
          have hne:k≠nm:=fun e=>hS (e▸hk)
          exact⟨if_neg hne,if_neg hne⟩
        have ht1:Ω1.t nm= [w.heap.size+1+1]:=by subst hΩ1;exact if_pos rfl
        have hf1:Ω1.f nm=vw:=by subst hΩ1;exact if_pos rfl
        have hc1:Ω1.c [w.heap.size+1]:=by subst hΩ1;exact .inr rfl
        generalize hyl:(⟨nm::yl.S,_,_⟩:Yh)=yl' at he
        have Xf:yl'.S=nm::yl.S:=by rw[←hyl]
        have hYl:ig P G N dr yl' (g_ 0 n a.tmps B.A.sv) 0 Ω1:=by
          intro S Bc Ω0' Ω' nm' off n0 vs x Z κ' L' E' ι' γ' J' w1' w' pr' A' tk' a' cargs ds next h1 hSS hle hV M' R' U' hr' hv hx hd' hL' he' hκ' r'
          rw[Xf]at h1 hle hSS
          rw[←hyl]at he'
          simp only[]at he'
          split at he'
          · rename_i SG
            subst SG
            split at he'
            · rename_i SK
              split at he'
              · rename_i hlen
                have hnS:nm'∈S:=hSS _ (List.mem_cons_self ..)
                have ht:Ω'.t nm'= [w.heap.size+1+1]:=((hle.2 _ (List.mem_cons_self ..)).1).trans ht1
                have hf:Ω'.f nm'=vw:=((hle.2 _ (List.mem_cons_self ..)).2).trans hf1
                obtain⟨k1,k2,k3,_⟩:=M'.rwo _ _ SK
                rw[ht]at k1
                rw[k1,hf]at k3
                have qV:=(R'.wQ k3).2
                have hcs:cargs.size=ps.size:=by
                  have:=hr'.length
                  have:=hv.1
                  simp at*;omega
                have htm:(ps.zip cargs).foldl (fun tmps (t,a)=>tmps.setIfInBounds t a) a.tmps=uj ps.toList cargs.toList a.tmps:=by
                  rw[←Array.foldl_toList,Array.toList_zip];exact BK _ _ _
                refine⟨w.heap.size+1,Hz,uj ps.toList cargs.toList a.tmps,assign,body,ht, ?_,roundIn_of_wpIn trivial ?_⟩
                · rw[←htm];exact run_yield qV hcs
                have hVr: ∀j,n≤j→n≤n+off+j∧g_ n n0 a'.tmps Bc.A.sv (n+off+j)=B.A.sv j:=fun j hj=>by
                  obtain⟨v1,v2⟩:=hV j (Nat.zero_le _)
                  refine⟨by omega, ?_⟩
                  have e1:n+off+j-n=off+j:=by omega
                  simp only[g_,e1,if_neg (show¬off+j<n0 by omega)]
                  rw[v2]
                  simp only[g_,Nat.sub_zero,if_neg (show¬j<n by omega)]
                have hYr:ig P G N dr (yl.under S (n+off)) (g_ n n0 a'.tmps Bc.A.sv) n Ω':=ig.under (ig.mono hY (o6.trans (hle.sub fun x hx=>Cz _ hx))) (fun x hx=>hSS x (Cz _ hx)) hVr
                have Rr:=R'.round (n:=n) (off:=off) (T:=a.tmps) R1.size (fun i hi=>by
                  obtain⟨v1,v2⟩:=hV i (Nat.zero_le _)
                  refine⟨v1, ?_⟩
                  rw[U'.sv,v2]
                  simp only[g_,Nat.sub_zero,if_pos hi]) hr' SJ
                have Ur:=U'.enter n n0 a'.tmps
                have Mr:=M'.round (n:=n) (off:=off) (n0:=n0) (ps:=ps.toList) hv
                refine iha (r:=some (w.heap.size+1)) (B:={Bc with A:={Bc.A with sv:=g_ n n0 a'.tmps Bc.A.sv}}) (Ω0:=Ω') (a:={tmps:=uj ps.toList cargs.toList a.tmps,defers:= []}) (fun h=>by cases h) hYr Mr ⟨w1',pr',_,tk',Rr,Ur⟩ DM.nil hL' he' ?_
                rintro e Ω2 Z1 L2 E2 ι2 γ2 J3 a2 w3 vm M2 R2 hd2 hL2 ⟨pre,rfl⟩ ⟨suf,rfl⟩ he2
                simp only[]at he2
                split at he2
                · rename_i hr1
                  obtain⟨q1,q2,q3,_⟩:=M2.rwo _ _ hr1
                  have ht2:=(vm.2 _ hnS).1.trans ht
                  have hf2:=(vm.2 _ hnS).2.trans hf
                  rw[ht2]at q1
                  rw[q1,hf2]at q3
                  obtain⟨wq,prq,Aq,tkq,Rq,Uq⟩:=R2
                  have Sz:=(Rq.wQ q3).2
                  refine⟨_,run_beginRound Sz rfl, ?_⟩
                  have Mb:=M2.Jc hr1 q1 .busy
                  rw[hf2]at Mb
                  refine ihb (r:=some (w.heap.size+1)) (Ω0:=Ω') (fun h=>by cases h) (ig.mono hYr vm) Mb ⟨wq,prq,Aq,tkq,Rq.yp q3 (vw .busy),Uq⟩ hd2 hL2 he2 ?_
                  rintro e2 Ω3 Z2 L3 E3 ι3 γ3 J4 a3 w4 xZ M3 R3 _ hL3 ⟨T0,rfl⟩ ⟨Z6,rfl⟩ he3
                  simp only[]at he3
                  split at he3
                  · rename_i Nr
                    obtain⟨p1,p2,p3,_⟩:=M3.rwo _ _ Nr
                    have ht3:=(xZ.2 _ hnS).1.trans ht2
                    have hf3:=(xZ.2 _ hnS).2.trans hf2
                    rw[ht3]at p1
                    rw[p1,hf3]at p3
                    obtain⟨wz,prz,Az,tkz,Rz,Uz⟩:=R3
                    have Co:=(Rz.wQ p3).2
                    have Me:=M3.Jc Nr p1 (I' e2)
                    rw[hf3]at Me
                    have fin:next (a'.put x (.bool (decide (e2= .normal)))) (w4.putObj (w.heap.size+1) (vw (I' e2))):=
                      hκ' Ω3 _ _ _ ι3 γ3 _ _ _ (vm.trans xZ) ((Me.leave n).kK (d:=bv (decide (e2= .normal))) fun _ _=> .x rfl rfl) (dm.leave (Rz.yp p3 (vw (I' e2))) Uz R'.size hx (aU.2 ⟨rfl,rfl⟩))
                        (by cases x<;>exact hd'.mono (vm.trans xZ)) (by rw[hL3];cases x<;>rfl) ⟨T0++pre,by simp⟩ ⟨suf++Z6,by simp⟩ he3
                    cases e2 with
                    |normal=>exact⟨_,_,run_endRound none Co,_,rfl,fin⟩
                    |ret=>exact⟨_,_,run_endRound (some .ret) Co,_,rfl,fin⟩
                    |exit id=>exact⟨_,_,run_endRound (some (.exit id)) Co,_,rfl,fin⟩
                  · cases he3
                · cases he2
              · cases he'
            · cases he'
          · rename_i SG
            have h1':nm'∈yl.S:=by
              rcases List.mem_cons.1 h1 with h|h
              · exact absurd h SG
              · exact h
            exact hY h1' (fun x hx=>hSS x (Cz _ hx)) (o6.trans (hle.sub fun x hx=>Cz _ hx)) (fun j hj=>by
              obtain⟨v1,v2⟩:=hV j (Nat.zero_le _)
              refine⟨v1,v2.trans ?_⟩
              simp only[g_,Nat.sub_zero,if_neg (show¬j<n by omega)]) M' R' U' hr' hv hx hd' hL' he' hκ' r'
        have hdm:DM Ω0 Ω1 ([mark w.heap.size]++a.defers):=by
          have hno: ¬Ω.c [w.heap.size+1]:=fun h=>by have:=M.con _ h;rw[hn1]at this;cases this
          have h1:=hd.mono o6
          refine⟨h1.1,List.nodup_cons.2 ⟨fun qc=> ?_,h1.2.1⟩,fun d hdd=> ?_⟩
          · obtain⟨b',e1,e2,_⟩:=hd.2.2 _ qc
            have:w.heap.size=b':=by simpa[mark]using e1
            subst this
            exact hno e2
          · rcases List.mem_cons.1 hdd with rfl|hdd
            · exact⟨_,rfl,hc1,fun h=>hno (hd.1 _ h)⟩
            · exact h1.2.2 d hdd
        have W8:a_ w2 pr tk2 (#[Value.func (.yield (w.heap.size+1)) #[] #[]]++cv).toList (.v (.func (.yield (w.heap.size+1)) #[] #[])::dcs):=by
          rw[Array.toList_append]
          exact⟨aU.2 ⟨rfl,rfl⟩,hrc⟩
        have acP:bA G E (oy ι nm [w.heap.size+1+1]) (Y.jH nm).h (.yl nm::eK) (.v (.func (.yield (w.heap.size+1)) #[] #[])::dcs):=by
          refine bA.mk ?_ hvc
          have:=VR.yl (G:=G) (E:=E) (ι:=oy ι nm [w.heap.size+1+1]) (h:=(Y.jH nm).h) (n:=nm) (k:= .ready) (by simp[Sy.jH,Sy.raw,bB])
          simpa[oy]using this
        obtain⟨hb,oZ⟩:=hI (B:=B) (Ω0:=Ω0) (a:={a with defers:= [mark w.heap.size]++a.defers}) (x:=none) (next:=fun a' w3=> ∃jump w4,(Instr.endLoop (w.heap.size+1)).run P w3= .ok jump w4∧
            (match jump with
             |none=>Q .normal a' w4
             |some c=>c.wpIn (wF none) 0 P Q a' w4)) hYl M1 Rb U W8 acP (fun i h=>by cases h) hdm hL he (by
          rintro Ω2 Y2 L2 E2 ι2 γ2 J3 a2 w3 vm M2 R2 hd2 hL2 ⟨pre,rfl⟩ ⟨suf,rfl⟩ he2
          rw[Xf]at vm
          have xZ:Ω.le yl.S Ω2:=o6.trans (vm.sub fun x hx=>Cz _ hx)
          have go: ∀{k:RS} {e:VE},find Y2.h nm=some (.raw k)→Ms k≠ .busy→ZD k=jmp e→ae G N (κ e (Y2.kill nm)) (pre++L) (E++suf)=some dr→ ∃jump w4,(Instr.endLoop (w.heap.size+1)).run P w3= .ok jump w4∧
              (match jump with
               |none=>Q .normal a2 w4
               |some c=>c.wpIn (wF none) 0 P Q a2 w4):=by
            intro k e nk hst hpd he3
            obtain⟨p1,p2,p3,_⟩:=M2.rwo _ _ nk
            have ht2:=(vm.2 _ (List.mem_cons_self ..)).1.trans ht1
            have hf2:=(vm.2 _ (List.mem_cons_self ..)).2.trans hf1
            rw[ht2]at p1
            rw[p1,hf2]at p3
            obtain⟨wz,prz,Az,tkz,Rz,Uz⟩:=R2
            have qV:=(Rz.wQ p3).2
            have fin:=fun o=>hκ e Ω2 (Y2.kill nm) _ _ ι2 γ2 _ a2 _ xZ (M2.Kr nk p1 o) ⟨wz,prz,Az,tkz,Rz.yp p3 o,Uz⟩ hd2 hL2 ⟨pre,rfl⟩ ⟨suf,rfl⟩ he3
            refine⟨_,_,run_endLoop qV hst, ?_⟩
            have acM:(Pe Hz a.tmps ps assign body w.heap.size k).pending=jmp e:=hpd
            rw[acM]
            cases e with
            |normal=>exact fin _
            |ret=>exact wpIn_ret (fin _)
            |exit id=>exact wpIn_exit (fin _)
          simp only[]at he2
          split at he2
          · rename_i nk
            exact go (e:= .normal) nk (by simp[Ms]) rfl he2
          · rename_i e nk
            exact go (e:=e) nk (by simp[Ms]) rfl he2
          · cases he2)
        have Su:(Instr.enterLoop Hz a.tmps ps assign body none).run P w= .ok (w.heap.size+1,[mark w.heap.size]) w2:=by
          rw[←hw2];exact run_enterLoop_outer Hz a.tmps ps assign body
        have KW:(resolve a.eval (rangeCall g (w.heap.size+1)) 0).run P w2= .ok {target:= .fn (.func f) cv,args:= #[.func (.yield (w.heap.size+1)) #[] #[]]} w2:=by
          have hconst:a.eval (.const (.func (.yield (w.heap.size+1)) #[] #[]))= .func (.yield (w.heap.size+1)) #[] #[]:=rfl
          simp[resolve,hev,hconst,Deferred.ofValue]
        have hinv:(invoke (.fn (.func f) cv) #[.func (.yield (w.heap.size+1)) #[] #[]]).run P w2= .ok (.enter f (#[.func (.yield (w.heap.size+1)) #[] #[]]++cv)) w2:=by
          simp[invoke,bD hb]
        have Sq:CallsIn (wF none) (0-1) P f (#[.func (.yield (w.heap.size+1)) #[] #[]]++cv) w2 (rangePost (wF none) 0 P (w.heap.size+1) Q {a with defers:= [mark w.heap.size]++a.defers}):=by
          refine iO.2 (oZ.mono ?_)
          rintro e w' ⟨v,rfl,h⟩
          exact h
        exact⟨_,_,_,_,_,_,_,_,Su,KW,fun _ _=>trivial,hinv,fun h=>(by simp[wF,Fence.wide]at h),Sq⟩
      · cases he
    · cases he
  |scope=>intro B r Ω0 Ω yl rd bi ks Y κ L E ι γ J a w Q hr hY M R hd hL he hκ;cases he
  |label=>intro B r Ω0 Ω yl rd bi ks Y κ L E ι γ J a w Q hr hY M R hd hL he hκ;cases he
  |goto=>intro B r Ω0 Ω yl rd bi ks Y κ L E ι γ J a w Q hr hY M R hd hL he hκ;cases he
  |refuse=>intro B r Ω0 Ω yl rd bi ks Y κ L E ι γ J a w Q hr hY M R hd hL he hκ;cases he
theorem KZ{C:Cx}{inl:JJ}(hP:C.P=P)(hG:Sound P (bw G))(hm:P.follows .mixedOrders=true)(hI:sP P G N dr inl):sP P G N dr (SR C inl):=by
 intro yl B Ω0 Ω f n vs x Y κ L E ι γ J w1 w pr A tk a cargs ds next hY M R U hr hv hx hd hL he hκ
 unfold SR at he;rw[hP]at he;split at he
 ·rename_i fn hfn;split at he
  ·rename_i c rs hb hrs;split at he
   ·rename_i hc;obtain⟨W5,hlen⟩:=hc;refine⟨⟨fn,hfn,by rw[hb];rfl,W5⟩, ?_⟩;have hds:ds.length≤fn.ntmps:=by have:=hv.1;omega
    have Mc:=M.enter (n:=fn.ntmps) (n0:=n) hv hlen
    have Rc:dm P {B with A:={B.A with sv:=g_ fn.ntmps n a.tmps B.A.sv}} fn.ntmps w (cargs++Array.replicate (fn.ntmps-cargs.size) undef) ⟨nY fn.ntmps ds J.s,J.m,J.c⟩:=
     ⟨w1,pr,_,tk,R.enter hr hds,U.enter fn.ntmps n a.tmps⟩
    have hYc:ig P G N dr (yl.push fn.ntmps) (g_ fn.ntmps n a.tmps B.A.sv) fn.ntmps Ω:=ig.push hY fun j _=>⟨by omega,by simp only[g_,Nat.add_sub_cancel_left,Nat.sub_zero]⟩
    have fin: ∀{Ω':bM} {κ':Sy→FT} {L':List (List D→Option D)} {E':List D},Ω.le yl.S Ω'→nq P B n G N dr Ω0 yl.S Ω κ' L' E' next→ ∀{e:VE} {Y2:Sy} {L2:List (List D→Option D)} {E2:List D} {ι2 γ2:Nat→Tok} {J2:St} {a2:Act} {w2:World},Mt Ω' G E2 ι2 γ2 Y2 J2→
      dm P {B with A:={B.A with sv:=g_ fn.ntmps n a.tmps B.A.sv}} fn.ntmps w2 a2.tmps J2→DM Ω Ω' a2.defers→L2.length=Y2.d→(∃pre,L2=pre++L')→(∃suf,E2=E'++suf)→
      ae G N (match e with| .exit _=> .bad 100032|_=>match A9 rs Y2 with|some v=>κ' ((Y2.leave fn.ntmps).kK x v)|none=> .bad 100033) L2 E2=some dr→
      bodyPostM (wF none) 0 P fn (fun e w'=> ∃v,e= .returned v∧next (a.put x v) w') e.ex a2 w2:=by
     intro Ω' κ' L' E' hle hκ' e Y2 L2 E2 ι2 γ2 J2 a2 w2 M2 R2 hd2 hL2 hp hs he2
     have go:ae G N (match A9 rs Y2 with|some v=>κ' ((Y2.leave fn.ntmps).kK x v)|none=> .bad 100033) L2 E2=some dr→LeavesInM (wF none) 0 P fn a2.tmps (fun e w'=> ∃v,e= .returned v∧next (a.put x v) w') a2.defers .returning w2:=fun he2=>by
      split at he2
      ·rename_i v hvv;refine p9 (S:=yl.S) M2 R2 hd2 hle fun Ω3 w3 J3 xZ M3 R3=> ?_;obtain⟨d0,k1,k2⟩:=A_ M3 hvv;obtain⟨wq,prq,Aq,tkq,Rq,Uq⟩:=R3;obtain⟨u,hu1,hu2⟩:=jJ Rq hrs k1;exact⟨u,hu1,u,rfl,hκ' Ω3 _ L2 E2 ι2 γ2 _ _ w3 xZ ((M3.leave fn.ntmps).kK fun _ _=>k2) (dm.leave Rq Uq R.size hx hu2) (by cases x<;>exact hd.mono xZ) (by rw[hL2];cases x<;>rfl) hp hs he2⟩
      ·cases he2
     cases e with
     |normal=>exact go he2
     |ret=>exact go he2
     |exit i=>cases he2
    refine iO.1 (callsIn_of_wp_marks (F:=wF none) (n:=0) hfn hb trivial ?_);simp only[]at he;split at he
    ·rename_i jh hj
     have ok:jh.1.ok Y.nv=true:=by
      split at hj
      ·cases hj
      ·exact AL (fun _=>wo) hj
     simp only[ae]at he;refine jl (r:=none) (Ω0:=Ω) hP hG hm hI c (fun _=>rfl) hYc Mc.Hn Rc DM.nil (by simp[hL]) he ?_;rintro e Ω' Y2 L2 E2 ι2 γ2 J2 a2 w2 hle M2 R2 hd2 hL2 ⟨pre,rfl⟩ ⟨suf,rfl⟩ he2;refine fin (κ':=fun Y'=>match jh.1.mt Y' with|some p=> .next (Y'.d-(Y.d+1)) p.1|none=> .bad 100034) (L':=(fun vs=>ae G N (κ (jh.1.mk' Y.nv (gZ jh.1.row) Y.d jh.2)) L (E++vs))::L) (E':=E) hle ?_ M2 R2 hd2 hL2 ⟨pre,rfl⟩ ⟨suf,rfl⟩ he2;rintro Ω' Y' L3 E3 ι' γ' J' a' w' acB M' R' hd' hL' ⟨T0,rfl⟩ ⟨Z6,rfl⟩ he';simp only[]at he';split at he'
     ·rename_i p hp;simp only[ae,Bz]at he';obtain⟨ds',h3,f',h4,h5⟩:=he'
      have hix:Y'.d-(Y.d+1)=T0.length:=by
       simp only[List.length_append,List.length_cons,hL]at hL';omega
      rw[hix,Xz (Nat.le_refl _),Nat.sub_self]at h4;simp only[List.getElem?_cons_zero,Jz]at h4;subst h4;have hnv:=M.nv;obtain⟨ι3,γ3,M3⟩:=jh.1.sound M' ok hp h3 M.nv (fun i hi=>by rw[Yz (by omega)]) Y.d jh.2;rw[cY h3,Hd.yi hp]at M3;exact hκ Ω' _ _ _ ι3 γ3 J' a' w' acB M3 R' hd' (by simp[hL,Hd.mk']) ⟨[],rfl⟩ ⟨ds',rfl⟩ h5
     ·cases he'
    ·refine jl (r:=none) (Ω0:=Ω) hP hG hm hI c (fun _=>rfl) hYc Mc Rc DM.nil hL he ?_;rintro e Ω' Y2 L2 E2 ι2 γ2 J2 a2 w2 hle M2 R2 hd2 hL2 hp hs he2;exact fin hle hκ M2 R2 hd2 hL2 hp hs he2
   ·cases he
  ·cases he
 ·cases he
theorem ti{C:Cx}(hP:C.P=P)(hG:Sound P (bw G))(hm:P.follows .mixedOrders=true): ∀k,sP P G N dr (vZ C k)
 |0=>fun _ _ _ _ _ _ _ _ _ he _=>by cases he
 |k+1=>KZ hP hG hm (ti hP hG hm k)
end
end
section
theorem HF{P:Program}{C:Cx}{inl:JJ}{ks:List Nat}{G:FP}{N:Nat}(hP:C.P=P)(hG:Sound P (bw G))(hm:P.follows .mixedOrders=true){f:Nat}(hI: ∀dr,sP P G N dr inl){fn:Func}{c:Code}{rs:List fB}(h1:P.funcs[f]?=some fn)
  (h2 : (fn.name == "runtime.NumGoroutine") = false) (h3 : fn.body = some c) (h4 : fn.results.toList.mapM (vh P fn.ntmps) = some rs) {ds : List D} {d : D} (hlen : ds.length ≤ fn.ntmps) (hn : ds.all D.aF = true)
  (he:ae G N (cX C inl f fn.ntmps Vq false 0 ks c (C_ ds.length) (kR rs)) [] ds=some d):U7 P f ds d:=by
 have hb:dw P f:=⟨fn,h1,by rw[h3];rfl,h2⟩
 suffices key: ∀(w:World) (pr:aX) (cargs:Array Value),(∀b o,pr b o→b<w.heap.size)→BN w pr→a_ w pr aA cargs.toList ds→
   Calls P f cargs w fun e w'=> ∃v pr',e= .returned v∧dU (fun _=>False) w w'∧(d.eS=false→ ∀b o,pr b o→pr' b o)∧(∀b o,pr' b o→d.eS=false∧pr b o∨(w.heap.size≤b∧b<w'.heap.size))∧ao w' pr' aA v d.bare by
  cases ho:d.eS with
  |false=>
   refine xk.toR (.inr ⟨hb,fun w pr cargs k1 k2 k3=>(key w pr cargs k1 k2 k3).mono ?_⟩) ho;rintro e w' ⟨v,pr',k1,k2,k3,k4,k5⟩;rw[sh ho]at k5;exact⟨v,pr',k1,k2,k3 ho,fun b o h=>(k4 b o h).imp And.right id,k5⟩
  |true=>
   have hn:M9 P f ds d.bare:=⟨hb,fun w pr cargs k1 k2 k3=>(key w pr cargs k1 k2 k3).mono (by
    rintro e w' ⟨v,pr',k1,k2,k3,k4,k5⟩
    exact⟨v,pr',k1,k2,fun b o h=>(k4 b o h).resolve_left (fun h=>by rw[ho]at h;cases h.1),k5⟩)⟩
   exact⟨hn.toP,fun _=>hn⟩
 intro w pr cargs hpr hg jq;have hY0:ig P G N d Vq (⟨w,pr,qn⟩:fe).A.sv fn.ntmps um:=fun h=>by cases h
 refine iO.1 (callsIn_of_wp_marks (F:=wF none) (n:=0) h1 h3 trivial ?_);refine jl (r:=none) (Ω0:=um) (Ω:=um) hP hG hm (hI d) c (fun _=>rfl) hY0 (mt0 hn) (AI hpr hg jq hlen) DM.nil rfl he ?_;rintro e Ω' Y' L' E' ι' γ' J' a' w' hle M' R' hd' _ _ _ he'
 have fin:ae G N (match Mf rs Y' with|some x=>FT.ret x|none=> .bad 100022) L' E'=some d→LeavesInM (wF none) 0 P fn a'.tmps (fun e w'=> ∃v pr',e= .returned v∧dU (fun _=>False) w w'∧(d.eS=false→ ∀b o,pr b o→pr' b o)∧(∀b o,pr' b o→d.eS=false∧pr b o∨(w.heap.size≤b∧b<w'.heap.size))∧ao w' pr' aA v d.bare) a'.defers .returning w':=fun h'=>by
  split at h'
  ·rename_i x hx;simp only[ae,Bz]at h';obtain⟨d0,g1,g2⟩:=h';split at g2
   rotate_left
   ·cases g2
   rename_i KU;injection g2 with g2
   refine p9 (S:= []) M' R' hd' hle fun Ω3 w3 J3 _ M3 R3=> ?_;obtain⟨w1,pr1,A1,tk,R1,U⟩:=R3;obtain⟨d1,k1,k2,k3⟩:=CS M3 hx g1;obtain⟨v,hv1,hv2⟩:=jJ R1 h4 k1
   have lt: ∀t q b c,J3.m t=some q→tk t=some (b,c)→b<w3.heap.size:=fun t q b c hm ht=>by
    obtain⟨b1,c1,g1,g2⟩:=(R1.mem.obj t q hm).place;rw[ht]at g1;cases g1;exact g2
   have hv3:=BA (pr':=fun b o=>pr1 b o∨bY tk J3.m b) R1.mem (fun _ _ h=> .inl h) (fun _ h _=> .inr h) k2 hv2;have hsz:=U.chg.size;have afN:=R1.chg.size
   have HY: ∀b,bY tk J3.m b→w.heap.size≤b∧b<w3.heap.size:=by
    rintro b ⟨t,q,c,hm,ht⟩;have hlt:=lt t q b c hm ht;rcases R1.live t q b c hm ht with h|h
    ·exact⟨by have:(⟨w,pr,qn⟩:fe).w.heap.size=w.heap.size:=rfl;omega,hlt⟩
    ·refine⟨Nat.le_of_not_lt fun hb=> ?_,hlt⟩;exact(U.sub b hb h:False)
   have hch:dU (fun _=>False) w w3:=U.chg.trans R1.chg fun b hb h=>(U.sub b hb h:False)
   have hd0:d0.eS=false:=by
    unfold D.eS;split
    ·simp[D.aF,D.aO,D.eT]at KU
    ·rfl
   unfold bU at g2;split at g2
   ·subst g2
    exact⟨v,hv1,v,fun b o=>pr1 b o∨bY tk J3.m b,rfl,hch,fun _ b o h=> .inl (U.sup b o h),fun b o h=>by
     rcases h with h|h
     ·have hlt:=R1.prlt b o h;rcases U.inf b o h with h|h|h
      ·exact .inl ⟨hd0,h⟩
      ·exact .inr ⟨h,by omega⟩
      ·exact(show False from h).elim
     ·exact .inr (HY b h),by rw[sh hd0];exact hv3⟩
   ·split at g2
    ·rename_i hn;subst g2;exact⟨v,hv1,v,_,rfl,hch,(fun h=>by cases h),fun b o h=> .inr (HY b h),Gl R1.mem k3 hn k2 hv2⟩
    ·subst g2
     exact⟨v,hv1,v,fun b o=>pr1 b o∨bY tk J3.m b,rfl,hch,fun _ b o h=> .inl (U.sup b o h),fun b o h=>by
      rcases h with h|h
      ·have hlt:=R1.prlt b o h;rcases U.inf b o h with h|h|h
       ·exact .inl ⟨hd0,h⟩
       ·exact .inr ⟨h,by omega⟩
       ·exact(show False from h).elim
      ·exact .inr (HY b h),by rw[sh hd0];exact hv3⟩
  ·cases h'
 cases e with
 |normal=>exact fin he'
 |ret=>exact fin he'
 |exit i=>cases he'
end
section
section
variable (C : Cx) (H : FP) (N : Nat)
def stepG(G:FP):FP:=fun f ds=>(H f ds).or ((mc C f).bind fun q=>if(ds.length=q.1∧ds.all D.aF=true)∧f<1000000 then ae G N q.2 [] ds else none)
def Gs:Nat→FP
 |0=>X3
 |k+1=>stepG C H N (Gs k)
end
def M8{α β:Type}(g:α→Option β)(gs:Nat→α→Option β):Prop:= ∀a b,g a=some b→ ∃k0,∀k,k0≤k→gs k a=some b
section
variable {G : FP} {Gk : Nat → FP}
def GT(G:FP)(Gk:Nat→FP):Prop:= ∀f ds d,G f ds=some d→ ∃k0,∀k,k0≤k→Gk k f ds=some d
theorem qI(hG:GT G Gk){fl:Bool}{f:Nat}{ds:List D}{d:D}(h:gn G fl f ds=some d): ∃k0,∀k,k0≤k→gn (Gk k) fl f ds=some d:=by
 unfold gn at h;obtain⟨d0,h1,h2⟩:=Bz.1 h;obtain⟨k0,hk⟩:=hG f ds d0 h1;exact⟨k0,fun k hkk=>by unfold gn;rw[hk k hkk];exact h2⟩
theorem Ga(hG:GT G Gk){k:XK}{ds:List D}{d:D}(h:k.run G ds=some d): ∃k0,∀j,k0≤j→k.run (Gk j) ds=some d:=by
 cases k with
 |call fl f=>exact qI hG h
 |ccall fl=>
  simp only[XK.run]at h⊢;split at h
  ·split at h
   ·rename_i hlt;obtain⟨cs,h1,h2⟩:=Bz.1 h;obtain⟨k0,hk⟩:=qI hG h2;exact⟨k0,fun j hj=>by rw[if_pos hlt];simp only[h1,Oz];exact hk j hj⟩
   ·cases h
  ·cases h
 |ecall k f sz=>
  simp only[XK.run]at h⊢;split at h
  ·rename_i hc;split at h
   ·obtain⟨r,h1,h2⟩:=Bz.1 h;obtain⟨k0,hk⟩:=hG _ _ _ h1;exact⟨k0,fun j hj=>by rw[if_pos hc,hk j hj];exact h2⟩
   ·cases h
  ·cases h
 |_=>exact⟨0,fun j _=>h⟩
mutual
theorem ky(hG:GT G Gk){E:List D}: ∀(x:X) {d:D},X.ev G E x=some d→ ∃k0,∀k,k0≤k→X.ev (Gk k) E x=some d
 | .t i,d,h=>⟨0,fun _ _=>h⟩
 | .q e,d,h=>⟨0,fun _ _=>h⟩
 | .mk kk xs,d,h=>by
  obtain⟨ds,h1,h2⟩:=bc h;obtain⟨k1,g1⟩:=iG hG xs h1;obtain⟨k2,g2⟩:=Ga hG h2;exact⟨max k1 k2,fun k hk=>by simp only[X.ev,g1 k (by omega),Oz,g2 k (by omega)]⟩
 | .ite c a b,d,h=>by
  simp only[X.ev,Bz]at h;obtain⟨v,h1,x,h2,h3⟩:=h;obtain⟨k1,g1⟩:=ky hG c h1;cases x
  ·obtain⟨k2,g2⟩:=ky hG b (by simpa using h3);exact⟨max k1 k2,fun k hk=>by simp only[X.ev,g1 k (by omega),Oz,h2,cond_false,g2 k (by omega)]⟩
  ·obtain⟨k2,g2⟩:=ky hG a (by simpa using h3);exact⟨max k1 k2,fun k hk=>by simp only[X.ev,g1 k (by omega),Oz,h2,cond_true,g2 k (by omega)]⟩
theorem iG(hG:GT G Gk){E:List D}: ∀(xs:List X) {ds:List D},X.bm G E xs=some ds→ ∃k0,∀k,k0≤k→X.bm (Gk k) E xs=some ds
 | [],ds,h=>⟨0,fun _ _=>h⟩
 |x::r,ds,h=>by
  simp only[X.bm,Bz,Mz]at h;obtain⟨d,h1,ds',h2,rfl⟩:=h;obtain⟨k1,g1⟩:=ky hG x h1;obtain⟨k2,g2⟩:=iG hG r h2;exact⟨max k1 k2,fun k hk=>by simp only[X.bm,g1 k (by omega),g2 k (by omega),Oz,Pz]⟩
end
theorem fR(hG:GT G Gk){N:Nat}: ∀(t:FT) {L:List (List D→Option D)} {Lk:Nat→List (List D→Option D)} {E:List D} {d:D},
  (∀(j:Nat) (f:List D→Option D),L[j]?=some f→ ∃fk:Nat→List D→Option D,(∀k,(Lk k)[j]?=some (fk k))∧M8 f fk)→ae G N t L E=some d→ ∃k0,∀k,k0≤k→ae (Gk k) N t (Lk k) E=some d:=by
 intro t
 induction t with
 |ret x=>
  intro L Lk E d hL h;simp only[ae,Bz]at h;obtain⟨d0,h1,h2⟩:=h;obtain⟨k0,g⟩:=ky hG x h1;exact⟨k0,fun k hk=>by simp only[ae,g k hk,Oz];exact h2⟩
 |fC xs k ih=>
  intro L Lk E d hL h;simp only[ae,Bz]at h;obtain⟨ds,h1,h2⟩:=h;obtain⟨k1,g1⟩:=iG hG xs h1;obtain⟨k2,g2⟩:=ih hL h2;exact⟨max k1 k2,fun k hk=>by simp only[ae,g1 k (by omega),Oz,g2 k (by omega)]⟩
 |lets xs k ih=>
  intro L Lk E d hL h;simp only[ae,Bz]at h;obtain⟨ds,h1,h2⟩:=h;obtain⟨k1,g1⟩:=iG hG xs h1;obtain⟨k2,g2⟩:=ih hL h2;exact⟨max k1 k2,fun k hk=>by simp only[ae,g1 k (by omega),Oz,g2 k (by omega)]⟩
 |ite c a b iha ihb=>
  intro L Lk E d hL h;simp only[ae,Bz]at h;obtain⟨v,h1,x,h2,h3⟩:=h;obtain⟨k1,g1⟩:=ky hG c h1;cases x
  ·obtain⟨k2,g2⟩:=ihb hL (by simpa using h3);exact⟨max k1 k2,fun k hk=>by simp only[ae,g1 k (by omega),Oz,h2,cond_false,g2 k (by omega)]⟩
  ·obtain⟨k2,g2⟩:=iha hL (by simpa using h3);exact⟨max k1 k2,fun k hk=>by simp only[ae,g1 k (by omega),Oz,h2,cond_true,g2 k (by omega)]⟩
 |loop xs body ih=>
  intro L Lk E d hL h;simp only[ae,Bz]at h;obtain⟨ds,h1,h2⟩:=h;obtain⟨k1,g1⟩:=iG hG xs h1
  have key: ∀n,M8 (iter (fun rec vs=>ae G N body (rec::L) (E++vs)) n) (fun k=>iter (fun rec vs=>ae (Gk k) N body (rec::Lk k) (E++vs)) n):=by
   intro n
   induction n with
   |zero=>intro a b h;cases h
   |succ n ihn=>
    intro a b h;simp only[iter]at h⊢;refine ih (Lk:=fun k=>iter (fun rec vs=>ae (Gk k) N body (rec::Lk k) (E++vs)) n::Lk k) (fun j f hf=> ?_) h;cases j with
    |zero=>simp at hf;subst hf;exact⟨_,fun k=>rfl,ihn⟩
    |succ j=>exact(hL j f (by simpa using hf)).imp fun fk hfk=>⟨fun k=>by simpa using hfk.1 k,hfk.2⟩
  obtain⟨k2,g2⟩:=key N ds d h2;exact⟨max k1 k2,fun k hk=>by simp only[ae,g1 k (by omega),Oz];exact g2 k (by omega)⟩
 |next j xs=>
  intro L Lk E d hL h;simp only[ae,Bz]at h;obtain⟨ds,h1,f,h2,h3⟩:=h;obtain⟨k1,g1⟩:=iG hG xs h1;obtain⟨fk,g2,g3⟩:=hL j f h2;obtain⟨k2,g4⟩:=g3 ds d h3;exact⟨max k1 k2,fun k hk=>by simp only[ae,g1 k (by omega),Oz,g2 k,g4 k (by omega)]⟩
 |jp b body ihb ih=>
  intro L Lk E d hL h;simp only[ae]at h⊢;refine ih (Lk:=fun k=>(fun vs=>ae (Gk k) N b (Lk k) (E++vs))::Lk k) (fun j f hf=> ?_) h;cases j with
  |zero=>simp at hf;subst hf;exact⟨_,fun k=>rfl,fun vs d' h'=>ihb hL h'⟩
  |succ j=>exact(hL j f (by simpa using hf)).imp fun fk hfk=>⟨fun k=>by simpa using hfk.1 k,hfk.2⟩
 |st Y=>intro L Lk E d hL h;cases h
 |bad _=>intro L Lk E d hL h;cases h
end
section
variable {P : Program} {C : Cx} {H : FP} {N : Nat}
theorem jX(hP:C.P=P)(hH:Sound P (bw H))(hm:P.follows .mixedOrders=true): ∀k,Sound P (bw (Gs C H N k))
 |0=>⟨fun f ds d _ h=>(by cases h),fun k f ds d _ _ h=>(by cases h),fun e f ds r _ h=>(by cases h)⟩
 |k+1=>⟨fun f ds d hlt h=>(by
  have h':(H f ds).or ((mc C f).bind fun q=>if(ds.length=q.1∧ds.all D.aF=true)∧f<1000000 then ae (Gs C H N k) N q.2 [] ds else none)=some d:=h;cases hh:H f ds with
  |some d0=>
   rw[hh]at h';cases h';exact hH.p f ds d hlt hh
  |none=>
   rw[hh,Option.none_or]at h';obtain⟨⟨n,t⟩,h1,h2⟩:=Bz.1 h';simp only[]at h2;split at h2
   ·rename_i hc;have hS:=jX hP hH hm k;unfold mc at h1;subst hP;split at h1
    ·rename_i fn hfn;split at h1
     ·rename_i c rs hb hr;split at h1<;>cases h1;rename_i hcc;refine HF (C:={C with rt:=f}) (inl:=vZ {C with rt:=f} 8) (N:=N) (ks:=tM fn) rfl hS hm (fun dr=>ti (C:={C with rt:=f}) rfl hS hm 8) hfn hcc.1 hb hr (by omega) hc.1.2 ?_;rw[hc.1.1];exact h2
     ·cases h1
    ·cases h1
   ·cases h2),fun k' f ds d hlt h6 h=>(by
  have h':(H (1000000+(1000000*k'+f)) ds).or ((mc C (1000000+(1000000*k'+f))).bind fun q=>if(ds.length=q.1∧ds.all D.aF=true)∧1000000+(1000000*k'+f)<1000000 then ae (Gs C H N k) N q.2 [] ds else none)=some d:=h;cases hh:H (1000000+(1000000*k'+f)) ds with
  |some d0=>
   rw[hh]at h';cases h';exact hH.e k' f ds d hlt h6 hh
  |none=>
   rw[hh,Option.none_or]at h';obtain⟨q,_,h2⟩:=Bz.1 h';rw[if_neg (by omega)]at h2;cases h2),fun e f ds r hlt h=>(by
  obtain⟨d,hd,rfl⟩:=Mz.1 (show(Gs C H N (k+1) (1000001000000+(1000000*e+f)) ds).map _=some r from h);have h':(H (1000001000000+(1000000*e+f)) ds).or ((mc C (1000001000000+(1000000*e+f))).bind fun q=>if(ds.length=q.1∧ds.all D.aF=true)∧1000001000000+(1000000*e+f)<1000000 then ae (Gs C H N k) N q.2 [] ds else none)=some d:=hd;cases hh:H (1000001000000+(1000000*e+f)) ds with
  |some d0=>
   rw[hh]at h';cases h';exact hH.q e f ds _ hlt (show(H (1000001000000+(1000000*e+f)) ds).map _=_ by rw[hh];rfl)
  |none=>
   rw[hh,Option.none_or]at h';obtain⟨q,_,h2⟩:=Bz.1 h';rw[if_neg (by omega)]at h2
   cases h2)⟩
theorem Dx: ∀k f ds d,Gs C H N k f ds=some d→Gs C H N (k+1) f ds=some d
 |0,f,ds,d,h=>by cases h
 |k+1,f,ds,d,h=>by
  have h':(H f ds).or ((mc C f).bind fun q=>if(ds.length=q.1∧ds.all D.aF=true)∧f<1000000 then ae (Gs C H N k) N q.2 [] ds else none)=some d:=h;show(H f ds).or ((mc C f).bind fun q=>if(ds.length=q.1∧ds.all D.aF=true)∧f<1000000 then ae (Gs C H N (k+1)) N q.2 [] ds else none)=some d;cases hh:H f ds with
  |some d0=>rw[hh]at h';exact h'
  |none=>
   rw[hh,Option.none_or]at h';rw[Option.none_or];obtain⟨q,h1,h2⟩:=Bz.1 h';rw[h1];simp only[Oz];split at h2
   ·rename_i hc;rw[if_pos hc];obtain⟨k0,hk⟩:=fR (G:=Gs C H N k) (Gk:=fun _=>Gs C H N (k+1)) (fun f ds d h=>⟨0,fun _ _=>Dx k f ds d h⟩) (Lk:=fun _=> []) q.2 (fun j f hf=>by simp at hf) h2;exact hk k0 (Nat.le_refl _)
   ·cases h2
theorem Gx{k j:Nat}(h:k≤j){f:Nat}{ds:List D}{d:D}(hd:Gs C H N k f ds=some d):Gs C H N j f ds=some d:=by
 induction h with
 |refl=>exact hd
 |step _ ih=>exact Dx _ f ds d ih
open Classical in
noncomputable def GG(C:Cx)(H:FP)(N:Nat):FP:=fun f ds=>if h: ∃d,∃k,Gs C H N k f ds=some d then some h.choose else none
theorem M6{k f:Nat}{ds:List D}{d:D}(h:Gs C H N k f ds=some d):GG C H N f ds=some d:=by
 have hex: ∃d,∃k,Gs C H N k f ds=some d:=⟨d,k,h⟩;simp only[GG,dif_pos hex];obtain⟨j,hj⟩:=hex.choose_spec;have h1:=Gx (Nat.le_max_left k j) h;have h2:=Gx (Nat.le_max_right k j) hj;rw[h1]at h2;exact h2.symm
theorem rY{f:Nat}{ds:List D}{d:D}(h:GG C H N f ds=some d): ∃k,Gs C H N k f ds=some d:=by
 by_cases hex: ∃d,∃k,Gs C H N k f ds=some d
 ·simp only[GG,dif_pos hex,Jz]at h;rw[←h];exact hex.choose_spec
 ·simp only[GG,dif_neg hex]at h;cases h
theorem oD(hP:C.P=P)(hH:Sound P (bw H))(hm:P.follows .mixedOrders=true):Sound P (bw (GG C H N)):=
 ⟨fun f ds d hlt h=>let⟨k,hk⟩:=rY (show GG C H N f ds=some d from h);(jX hP hH hm k).p f ds d hlt hk,
  fun k' f ds d hlt h6 h=>let⟨k,hk⟩:=rY (show GG C H N (1000000+(1000000*k'+f)) ds=some d from h);(jX hP hH hm k).e k' f ds d hlt h6 hk,
  fun e f ds r hlt h=>(by
   obtain⟨d,hd,rfl⟩:=Mz.1 (show(GG C H N (1000001000000+(1000000*e+f)) ds).map _=some r from h);obtain⟨k,hk⟩:=rY hd
   exact(jX hP hH hm k).q e f ds _ hlt (show(Gs C H N k (1000001000000+(1000000*e+f)) ds).map _=_ by rw[hk];rfl))⟩
theorem du{f:Nat}{ds:List D}{d:D}(h:H f ds=some d):GG C H N f ds=some d:=
 M6 (k:=1) (show(H f ds).or _=some d by rw[h];rfl)
theorem JR{f n:Nat}{t:FT}(hc:mc C f=some (n,t)){ds:List D}{d:D}(h0:H f ds=none)(hlt:f<1000000)(hl:ds.length=n)(hn:ds.all D.aF=true)(he:ae (GG C H N) N t [] ds=some d):GG C H N f ds=some d:=by
 obtain⟨k0,hk⟩:=fR (G:=GG C H N) (Gk:=fun k=>Gs C H N k) (fun f ds d h=>let⟨k,hk⟩:=rY h;⟨k,fun j hj=>Gx hj hk⟩) (Lk:=fun _=> []) t (fun j f hf=>by simp at hf) he;refine M6 (k:=k0+1) ?_;show(H f ds).or ((mc C f).bind fun q=>if(ds.length=q.1∧ds.all D.aF=true)∧f<1000000 then ae (Gs C H N k0) N q.2 [] ds else none)=some d;rw[h0,hc];simp only[Option.none_or,Oz];rw[if_pos ⟨⟨hl,hn⟩,hlt⟩];exact hk k0 (Nat.le_refl _)
end
end
section
structure sO(G:FP)(s:Cs)(E E':List D):Prop where
 l:s.rs.length=E.length
 v: ∀(i j:Nat),s.rs[i]?=some j→E'[j]?=E[i]?
 a: ∀(e:X) (j:Nat),(e,j)∈s.av→ ∃d,X.ev G E' e=some d∧E'[j]?=some d
section
variable {G : FP} {N : Nat} {s : Cs} {E E' : List D}
theorem sO.get(I:sO G s E E'){i j:Nat}(h:s.rs[i]?=some j): ∃d,E[i]?=some d∧E'[j]?=some d:=by
 have hi:i<E.length:=by rw[←I.l];exact(Gz.1 h).1
 exact⟨E[i],Ez hi,(I.v i j h).trans (Ez hi)⟩
theorem sO.more(I:sO G s E E')(t:List D):sO G s E (E'++t):=
 ⟨I.l,fun i j h=>by
  obtain⟨d,h1,h2⟩:=I.get h;rw[h1,Yz (Gz.1 h2).1,h2],fun e j h=>by
  obtain⟨d,h1,h2⟩:=I.a e j h
  exact⟨d,bx _ _ h1,by rw[Yz (Gz.1 h2).1,h2]⟩⟩
theorem mP: ∀{l:List (X×Nat)} {y:X} {j:Nat},AT l y=some j→(y,j)∈l
 |(e,i)::r,y,j,h=>by
  simp only[AT]at h;split at h
  ·rename_i hb;cases h;rw[ba e y hb];exact List.mem_cons_self ..
  ·exact Cz _ (mP h)
theorem Uc(I:sO G s E E'){y:X}{d:D}(h:X.ev G E' (Ub s y)=some d):X.ev G E' y=some d:=by
 unfold Ub at h;split at h
 ·split at h
  ·rename_i j hj;obtain⟨d',h1,h2⟩:=I.a y j (mP hj);have h:E'[j]?=some d:=h
   grind
  ·exact h
 ·exact h
mutual
theorem nP(I:sO G s E E'): ∀(x:X) {d:D},X.ev G E' (oF s x)=some d→X.ev G E x=some d
 | .t i,d,h=>by
  simp only[oF]at h;split at h
  ·rename_i j hj;have h:E'[j]?=some d:=h;rw[I.v i j hj]at h;exact h
  ·cases h
 | .q _,d,h=>h
 | .mk k xs,d,h=>by
  simp only[oF]at h;obtain⟨ds,h1,h2⟩:=bc (Uc I h);simp only[X.ev,DA I xs h1,Oz,h2]
 | .ite c a b,d,h=>by
  simp only[oF,X.ev,Bz]at h⊢;obtain⟨v,h1,x,h2,h3⟩:=h;refine⟨v,nP I c h1,x,h2, ?_⟩;cases x
  ·exact nP I b h3
  ·exact nP I a h3
theorem DA(I:sO G s E E'): ∀(xs:List X) {ds:List D},X.bm G E' (Dy s xs)=some ds→X.bm G E xs=some ds
 | [],ds,h=>h
 |x::r,ds,h=>by
  simp only[Dy,X.bm,Bz,Mz]at h⊢;obtain⟨d,h1,ds',h2,rfl⟩:=h;exact⟨d,nP I x h1,ds',DA I r h2,rfl⟩
end
def Hr(G:FP):List X→List D→Option (List D)
 | [],E=>some E
 |x::r,E=>(X.ev G E x).bind fun d=>Hr G r (E++ [d])
theorem nZ: ∀(p q:List X) (E:List D),Hr G (p++q) E=(Hr G p E).bind (Hr G q)
 | [],q,E=>rfl
 |x::r,q,E=>by
  simp only[List.cons_append,Hr,Option.bind_assoc];congr 1;funext d;exact nZ r q _
theorem gz{L:List (List D→Option D)}{k:FT}: ∀(p:List X) (E:List D),ae G N (pG p k) L E=(Hr G p E).bind (ae G N k L)
 | [],E=>rfl
 |x::r,E=>by
  simp only[pG,ae,X.bm,Hr];cases hx:X.ev G E x with
  |none=>rfl
  |some d=>simp only[Oz,Pz,gz r]
structure zx(G:FP)(s s':Cs)(E E1 E2:List D):Prop where
 i:sO G s' E E2
 n:s'.n=E2.length
 rs:s'.rs=s.rs
 ar:s'.ar=s.ar
 e: ∃t,E2=E1++t
theorem zx.np(I:sO G s E E')(hn:s.n=E'.length):zx G s s E E' E':=⟨I,hn,rfl,rfl,[],by simp⟩
theorem zx.trans{s s1 s2:Cs}{E r0 r1 r2:List D}(h:zx G s s1 E r0 r1)(k:zx G s1 s2 E r1 r2):zx G s s2 E r0 r2:=by
 obtain⟨t,rfl⟩:=h.e;obtain⟨t',rfl⟩:=k.e;exact⟨k.i,k.n,k.rs.trans h.rs,k.ar.trans h.ar,t++t',by simp⟩
abbrev JU(E':List D)(y:X):Prop:= ∀j,y= .t j→ ∃d,E'[j]?=some d
theorem JU.more{E':List D}{y:X}(h:JU E' y)(t:List D):JU (E'++t) y:=fun j hj=>by
 obtain⟨d,h⟩:=h j hj;exact⟨d,by rw[Yz (Gz.1 h).1,h]⟩
mutual
theorem ub: ∀(x:X) {s s':Cs} {p:List X} {y:X} {E r1 r2:List D},sO G s E r1→s.n=r1.length→lR s x=((p,s'),y)→Hr G p r1=some r2→
  zx G s s' E r1 r2∧JU r2 y∧lh y=lh x∧ ∀t d,X.ev G (r2++t) y=some d→X.ev G E x=some d
 | .t i,s,s',p,y,E,r1,r2,I,hn,h,hp=>by
  simp only[lR,Prod.mk.injEq]at h;obtain⟨⟨rfl,rfl⟩,rfl⟩:=h;cases hp;refine⟨.np I hn,fun j hj=> ?_, ?_,fun t d hd=>nP (I.more t) (.t i) hd⟩
  ·simp only[oF]at hj;split at hj
   ·rename_i j' hj';cases hj;obtain⟨d,_,h⟩:=I.get hj';exact⟨d,h⟩
   ·cases hj
  ·simp only[oF];split<;>rfl
 | .q e,s,s',p,y,E,r1,r2,I,hn,h,hp=>by
  simp only[lR,Prod.mk.injEq]at h;obtain⟨⟨rfl,rfl⟩,rfl⟩:=h;cases hp;exact⟨.np I hn,(fun j hj=>by cases hj),rfl,fun t d hd=>hd⟩
 | .mk k xs,s,s',p,y,E,r1,r2,I,hn,h,hp=>by
  simp only[lR]at h;cases hq:h_ s xs with
  |mk ps ys=>
   obtain⟨p1,s1⟩:=ps;rw[hq]at h;simp only[]at h
   have run: ∀{r:List D} {d:D},(∀ds,X.bm G r ys=some ds→X.bm G E xs=some ds)→X.ev G r (.mk k ys)=some d→X.ev G E (.mk k xs)=some d:=fun hh hd=>by
    obtain⟨ds,h1,h2⟩:=bc hd;simp only[X.ev,hh ds h1,Oz,h2]
   split at h
   ·rename_i oZ;have Fy:lh (.mk k xs)=false:=by cases k<;>first|rfl|cases oZ
    split at h
    ·rename_i j hj;simp only[Prod.mk.injEq]at h;obtain⟨⟨rfl,rfl⟩,rfl⟩:=h;obtain⟨h1,h2⟩:=ix xs I hn hq hp;obtain⟨d0,a1,a2⟩:=h1.i.a _ _ (mP hj);refine⟨h1,fun j' hj'=>by cases hj';exact⟨d0,a2⟩,Fy.symm,fun t d hd=> ?_⟩;obtain⟨d1,b1,b2⟩:=(h1.i.more t).a _ _ (mP hj);have hd:(r2++t)[j]?=some d:=hd;rw[b2]at hd;cases hd;exact run (h2.2 t) b1
    ·simp only[Prod.mk.injEq]at h;obtain⟨⟨rfl,rfl⟩,rfl⟩:=h;rw[nZ]at hp;obtain⟨r3,hp1,hp2⟩:=Bz.1 hp;obtain⟨h1,h2⟩:=ix xs I hn hq hp1;simp only[Hr,Bz]at hp2;obtain⟨dc,c1,c2⟩:=hp2;cases c2;have gY:(r3++ [dc])[s1.n]?=some dc:=by rw[h1.n];simp
     refine⟨h1.trans ⟨⟨h1.i.l,(h1.i.more [dc]).v,fun e j hm=> ?_⟩,by simp[Cs.name,h1.n],rfl,rfl,[dc],rfl⟩,fun j hj=>by cases hj;exact⟨dc,gY⟩,Fy.symm,fun t d hd=> ?_⟩
     ·simp only[Cs.name,List.mem_cons,Prod.mk.injEq]at hm;rcases hm with⟨rfl,rfl⟩|hm
      ·exact⟨dc,bx _ _ c1,gY⟩
      ·exact(h1.i.more [dc]).a e j hm
     ·have hd:(r3++ [dc]++t)[s1.n]?=some d:=hd;rw[Yz (by rw[h1.n];simp),gY]at hd;cases hd;exact run (fun ds he=>h2.2 [] ds (by simpa using he)) c1
   ·simp only[Prod.mk.injEq]at h;obtain⟨⟨rfl,rfl⟩,rfl⟩:=h;obtain⟨h1,h2⟩:=ix xs I hn hq hp;refine⟨h1,(fun j hj=>by cases hj), ?_,fun t d hd=>run (h2.2 t) hd⟩;cases k<;>rfl
 | .ite c a b,s,s',p,y,E,r1,r2,I,hn,h,hp=>by
  simp only[lR]at h;cases hq:lR s c with
  |mk ps c'=>
   obtain⟨p1,s1⟩:=ps;rw[hq]at h;simp only[Prod.mk.injEq]at h;obtain⟨⟨rfl,rfl⟩,rfl⟩:=h;obtain⟨h1,_,_,h2⟩:=ub c I hn hq hp;refine⟨h1,(fun j hj=>by cases hj),rfl,fun t d hd=> ?_⟩;simp only[X.ev,Bz]at hd⊢;obtain⟨v,g1,x,g2,g3⟩:=hd;refine⟨v,h2 t v g1,x,g2, ?_⟩;cases x
   ·exact nP (h1.i.more t) b g3
   ·exact nP (h1.i.more t) a g3
theorem ix: ∀(xs:List X) {s s':Cs} {p:List X} {ys:List X} {E r1 r2:List D},sO G s E r1→s.n=r1.length→h_ s xs=((p,s'),ys)→Hr G p r1=some r2→
  zx G s s' E r1 r2∧((∀y∈ys,JU r2 y)∧(∀ds,uc ys ds=uc xs ds)∧ys.length=xs.length)∧ ∀t ds,X.bm G (r2++t) ys=some ds→X.bm G E xs=some ds
 | [],s,s',p,ys,E,r1,r2,I,hn,h,hp=>by
  simp only[h_,Prod.mk.injEq]at h;obtain⟨⟨rfl,rfl⟩,rfl⟩:=h;cases hp;exact⟨.np I hn,⟨(fun y hy=>by cases hy),fun ds=>rfl,rfl⟩,fun t ds hd=>hd⟩
 |x::r,s,s',p,ys,E,r1,r2,I,hn,h,hp=>by
  simp only[h_]at h;cases hq:lR s x with
  |mk ps y=>
   obtain⟨p1,s1⟩:=ps;rw[hq]at h;simp only[]at h;cases hq2:h_ s1 r with
   |mk ps2 zs=>
    obtain⟨p2,s2⟩:=ps2;rw[hq2]at h;simp only[Prod.mk.injEq]at h;obtain⟨⟨rfl,rfl⟩,rfl⟩:=h;rw[nZ]at hp;obtain⟨r3,hp1,hp2⟩:=Bz.1 hp;obtain⟨h1,h2,h3,h4⟩:=ub x I hn hq hp1;obtain⟨k1,⟨k2,k3,k5⟩,k4⟩:=ix r h1.i h1.n hq2 hp2;obtain⟨u,rfl⟩:=k1.e;refine⟨h1.trans k1,⟨fun z hz=> ?_,fun ds=> ?_,by simp[k5]⟩,fun t ds hd=> ?_⟩
    ·rcases List.mem_cons.1 hz with rfl|hz
     ·exact h2.more u
     ·exact k2 z hz
    ·cases ds with
     |nil=>rfl
     |cons d ds=>
      simp only[uc,k3 ds];congr 1;cases d<;>first|rfl|skip
      rename_i es;cases es with
      |nil=>rfl
      |cons e es=>
       have own: ∀(z:X),iy z (.list (e::es))=if lh z then(e::es).all fun c=>c.all D.aY else false:=fun z=>by
        cases z with
        |mk k xs=>cases k<;>rfl
        |_=>rfl
       rw[own,own,h3]
    ·simp only[X.bm,Bz,Mz]at hd⊢;obtain⟨d,g1,ds',g2,rfl⟩:=hd;exact⟨d,h4 (u++t) d (by simpa using g1),ds',k4 t ds' g2,rfl⟩
end
theorem iX{x y:X}(h:lh y=lh x)(d:D):iy y d=iy x d:=by
 cases d<;>first|rfl|skip
 rename_i es;cases es with
 |nil=>rfl
 |cons e es=>
  have own: ∀(z:X),iy z (.list (e::es))=if lh z then(e::es).all fun c=>c.all D.aY else false:=fun z=>by
   cases z with
   |mk k xs=>cases k<;>rfl
   |_=>rfl
  grind
theorem LV{x:X}{s s':Cs}{p:List X}{y:X}{r1 r2:List D}(I:sO G s E r1)(hn:s.n=r1.length)(h:lR s x=((p,s'),y))(hp:Hr G p r1=some r2)(d:D):bU y d=bU x d:=by
 obtain⟨_,_,h3,_⟩:=ub x I hn h hp
 have hT:lS y d=lS x d:=by
  cases d with
  |tup ds=>
   cases x with
   |mk k xs=>
    simp only[lR]at h;cases hq:h_ s xs with
    |mk ps ys=>
     rw[hq]at h;split at h
     ·rename_i oZ;have:lS (.mk k xs) (.tup ds)=false:=by cases k<;>first|rfl|cases oZ
      rw[this];split at h<;>(simp only[Prod.mk.injEq]at h;obtain⟨_,rfl⟩:=h;rfl)
     ·simp only[Prod.mk.injEq]at h;obtain⟨⟨rfl,rfl⟩,rfl⟩:=h;obtain⟨_,⟨_,k3,_⟩,_⟩:=ix xs I hn hq hp;cases k<;>first|exact k3 ds|rfl
   |t i=>
    simp only[lR,oF]at h;obtain⟨_,rfl⟩:=h;split<;>rfl
   |q e=>
    simp only[lR]at h
    grind
   |ite c a b=>
    cases hq:lR s c with
    |mk ps c'=>
     obtain⟨_,rfl⟩:=h;rfl
  |_=>
   have nt: ∀(z:X) (d:D),(∀ds,d≠ .tup ds)→lS z d=iy z d:=fun z d hd=>by
    unfold lS;split
    ·exact absurd rfl (hd _)
    ·rfl
   rw[nt y _ (fun ds h=>by cases h),nt x _ (fun ds h=>by cases h),iX h3]
 unfold bU;rw[hT]
theorem k_: ∀{ys:List X} {E' ds:List D},(∀y∈ys,JU E' y)→X.bm G E' (ys.filter TM)=some ds→ ∃ds',X.bm G E' ys=some ds'
 | [],E',ds,_,_=>⟨[],rfl⟩
 |y::r,E',ds,ht,h=>by
  have one: ∀d,X.ev G E' y=some d→(∃ds',X.bm G E' r=some ds')→ ∃ds',X.bm G E' (y::r)=some ds':=fun d h1 ⟨ds',h2⟩=>⟨d::ds',by simp only[X.bm,h1,h2,Oz,Pz]⟩;have htr: ∀y∈r,JU E' y:=fun y hy=>ht y (Cz _ hy);cases hy:TM y with
  |true=>
   rw[List.filter_cons_of_pos hy]at h;simp only[X.bm,Bz,Mz]at h;obtain⟨d,h1,ds',h2,_⟩:=h;exact one d h1 (k_ htr h2)
  |false=>
   cases y with
   |t j=>obtain⟨d,hd⟩:=ht (.t j) (List.mem_cons_self ..) j rfl;exact one d hd (k_ htr h)
   |q e=>exact one e rfl (k_ htr h)
   |mk=>cases hy
   |ite=>cases hy
theorem sO.snoc(I:sO G s E E'){j:Nat}{d:D}(h:E'[j]?=some d):sO G {s with rs:=s.rs++ [j]} (E++ [d]) E':=
 ⟨by simp[I.l],fun i k hk=>by
  by_cases hi:i<s.rs.length
  ·rw[Yz hi]at hk;rw[Yz (by rw[←I.l];exact hi)];exact I.v i k hk
  ·have hl:=(Gz.1 hk).1;simp only[List.length_append,List.length_cons,List.length_nil]at hl;have he:i=s.rs.length:=by omega
   subst he;rw[Xz (Nat.le_refl _),Nat.sub_self]at hk;simp only[List.getElem?_cons_zero,Jz]at hk;subst hk;rw[I.l,Xz (Nat.le_refl _),Nat.sub_self,h]
   rfl,I.a⟩
theorem LC(s:Cs)(j:Nat)(r:List X)(κ:Cs→FT):cse.letsY s (.t j::r) κ=cse.letsY {s with rs:=s.rs++ [j]} r κ:=by
 rfl
theorem LB(s:Cs)(y:X)(hy: ∀j,y≠ .t j)(r:List X)(κ:Cs→FT):cse.letsY s (y::r) κ= .lets [y] (cse.letsY {s with rs:=s.rs++ [s.n],n:=s.n+1} r κ):=by
 cases y with
 |t j=>exact absurd rfl (hy j)
 |_=>simp only[cse.letsY]
theorem tT{L:List (List D→Option D)}{κ:Cs→FT}{d:D}: ∀(ys:List X) {s:Cs} {E E':List D},sO G s E E'→s.n=E'.length→(∀y∈ys,JU E' y)→ae G N (cse.letsY s ys κ) L E'=some d→
  ∃ds s2 E2,ae G N (κ s2) L E2=some d∧sO G s2 (E++ds) E2∧s2.n=E2.length∧s2.ar=s.ar∧(∃t,E2=E'++t)∧X.bm G E2 ys=some ds
 | [],s,E,E',I,hn,_,h=>⟨[],s,E',by simpa[cse.letsY]using h,by simpa using I,hn,rfl,⟨[],by simp⟩,rfl⟩
 |y::r,s,E,E',I,hn,ht,h=>by
  have htr: ∀t:List D,∀y∈r,JU (E'++t) y:=fun t y hy=>(ht y (Cz _ hy)).more t;by_cases hy: ∃j,y= .t j
  ·obtain⟨j,rfl⟩:=hy;rw[LC]at h;obtain⟨d0,h0⟩:=ht (.t j) (List.mem_cons_self ..) j rfl;obtain⟨ds,s2,E2,k1,k2,k3,k4,⟨t,rfl⟩,k6⟩:=tT r (I.snoc h0) hn (fun y hy=>ht y (Cz _ hy)) h;refine⟨d0::ds,s2,_,k1,by simpa using k2,k3,k4,⟨t,rfl⟩, ?_⟩;simp only[X.bm,X.ev,k6,Pz]
   grind
  ·have hy': ∀j,y≠ .t j:=fun j e=>hy ⟨j,e⟩;rw[LB s y hy']at h;simp only[ae,X.bm,Bz,Mz]at h;obtain⟨ds0,⟨d0,g1,_,g2,rfl⟩,g3⟩:=h;cases g2;have gY:(E'++ [d0])[s.n]?=some d0:=by rw[hn];simp
   have I2:sO G {s with rs:=s.rs++ [s.n],n:=s.n+1} (E++ [d0]) (E'++ [d0]):=by
    have:=(I.more [d0]).snoc gY;exact⟨this.l,this.v,this.a⟩
   obtain⟨ds,s2,E2,k1,k2,k3,k4,⟨t,rfl⟩,k6⟩:=tT r I2 (by simp[hn]) (fun y hy=>htr [d0] y hy) g3;refine⟨d0::ds,s2,_,k1,by simpa using k2,k3,k4,⟨d0::t,by simp⟩, ?_⟩;simp only[X.bm,k6,Pz];rw[show E'++ [d0]++t=E'++(d0::t) by simp,bx _ _ g1];rfl
theorem sO.vars(I:sO G s E E')(hn:s.n=E'.length){vs:List D}{m:Nat}(hm:vs.length=m)(ar:List Nat):sO G {s.vars m with ar:=ar} (E++vs) (E'++vs):=
 ⟨by simp[Cs.vars,I.l,hm],fun i j h=>by
  simp only[Cs.vars]at h;by_cases hi:i<s.rs.length
  ·rw[Yz hi]at h;obtain⟨d,h1,h2⟩:=I.get h;rw[Yz (Gz.1 h2).1,Yz (Gz.1 h1).1,h1,h2]
  ·have hi:s.rs.length≤i:=by omega
   rw[Xz hi]at h;obtain⟨h3,h4⟩:=Gz.1 h;rw[List.getElem_range']at h4;have e1:E'.length≤j:=by omega
   rw[Xz e1,Xz (by rw[←I.l];exact hi)];congr 1
   rw[←I.l];omega,fun e j h=>(I.more vs).a e j h⟩
def Vs(ar:List Nat)(L L':List (List D→Option D)):Prop:= ∀(j m:Nat),ar[j]?=some m→ ∀f':List D→Option D,L'[j]?=some f'→ ∃f:List D→Option D,L[j]?=some f∧ ∀(vs:List D) (d:D),vs.length=m→f' vs=some d→f vs=some d
theorem Vs.cons{ar:List Nat}{L L':List (List D→Option D)}(h:Vs ar L L'){m:Nat}{f f':List D→Option D}(hf: ∀vs d,vs.length=m→f' vs=some d→f vs=some d):Vs (m::ar) (f::L) (f'::L'):=fun j k hj g hg=>by
 cases j with
 |zero=>
  grind
 |succ j=>exact h j k (by simpa using hj) g (by simpa using hg)
theorem RQ: ∀(t:FT) {s:Cs} {E E':List D} {L L':List (List D→Option D)} {d:D},sO G s E E'→s.n=E'.length→Vs s.ar L L'→ae G N (cse s t) L' E'=some d→ae G N t L E=some d:=by
 intro t
 induction t with
 |ret x=>
  intro s E E' L L' d I hn hL h;simp only[cse]at h;cases hq:lR s x with
  |mk ps y=>
   obtain⟨p,s1⟩:=ps;rw[hq]at h;simp only[gz,Bz]at h;obtain⟨r2,hp,h⟩:=h;simp only[ae,Bz]at h⊢;obtain⟨d0,g1,g2⟩:=h;refine⟨d0,(ub x I hn hq hp).2.2.2 [] d0 (by simpa using g1), ?_⟩;rw[←LV I hn hq hp d0];exact g2
 |fC xs k ih=>
  intro s E E' L L' d I hn hL h;simp only[cse]at h;cases hq:h_ s xs with
  |mk ps ys=>
   obtain⟨p,s1⟩:=ps;rw[hq]at h;simp only[gz,Bz]at h;obtain⟨r2,hp,h⟩:=h;obtain⟨h1,⟨h2,_,_⟩,h3⟩:=ix xs I hn hq hp;rw[oM,Bz]at h;obtain⟨ds,g1,g2⟩:=h;obtain⟨ds',g3⟩:=k_ h2 g1;simp only[ae,h3 [] ds' (by simpa using g3),Oz];exact ih h1.i h1.n (by rw[h1.ar];exact hL) g2
 |lets xs k ih=>
  intro s E E' L L' d I hn hL h;simp only[cse]at h;cases hq:h_ s xs with
  |mk ps ys=>
   obtain⟨p,s1⟩:=ps;rw[hq]at h;simp only[gz,Bz]at h;obtain⟨r2,hp,h⟩:=h;obtain⟨h1,⟨h2,_,_⟩,h3⟩:=ix xs I hn hq hp;obtain⟨ds,s2,E2,k1,k2,k3,k4,⟨t,rfl⟩,k6⟩:=tT ys h1.i h1.n h2 h;simp only[ae,h3 t ds k6,Oz];exact ih k2 k3 (by rw[k4,h1.ar];exact hL) k1
 |ite c a b iha ihb=>
  intro s E E' L L' d I hn hL h;simp only[cse]at h;cases hq:lR s c with
  |mk ps y=>
   obtain⟨p,s1⟩:=ps;rw[hq]at h;simp only[gz,Bz]at h;obtain⟨r2,hp,h⟩:=h;obtain⟨h1,_,_,h3⟩:=ub c I hn hq hp;simp only[ae,Bz]at h⊢;obtain⟨v,g1,x,g2,g3⟩:=h;refine⟨v,h3 [] v (by simpa using g1),x,g2, ?_⟩;cases x
   ·exact ihb h1.i h1.n (by rw[h1.ar];exact hL) g3
   ·exact iha h1.i h1.n (by rw[h1.ar];exact hL) g3
 |loop xs b ih=>
  intro s E E' L L' d I hn hL h;simp only[cse]at h;cases hq:h_ s xs with
  |mk ps ys=>
   obtain⟨p,s1⟩:=ps;rw[hq]at h;simp only[gz,Bz]at h;obtain⟨r2,hp,h⟩:=h;obtain⟨h1,⟨_,_,h5⟩,h3⟩:=ix xs I hn hq hp;simp only[ae,Bz]at h⊢;obtain⟨ds,g1,g2⟩:=h;refine⟨ds,h3 [] ds (by simpa using g1), ?_⟩;have hlen:=cY g1
   have key: ∀n vs d,vs.length=ys.length→iter (fun rec vs=>ae G N (cse {s1.vars ys.length with ar:=ys.length::s1.ar} b) (rec::L') (r2++vs)) n vs=some d→iter (fun rec vs=>ae G N b (rec::L) (E++vs)) n vs=some d:=by
    intro n
    induction n with
    |zero=>intro vs d _ h;cases h
    |succ n ihn=>
     intro vs d hv h;simp only[iter]at h⊢;exact ih (h1.i.vars h1.n hv _) (by simp[Cs.vars,h1.n,hv]) ((show Vs s1.ar L L' by rw[h1.ar];exact hL).cons fun vs d hv h=>ihn vs d hv h) h
   exact key N ds d hlen g2
 |next j xs=>
  intro s E E' L L' d I hn hL h;simp only[cse]at h;cases hq:h_ s xs with
  |mk ps ys=>
   obtain⟨p,s1⟩:=ps;rw[hq]at h;simp only[]at h;split at h
   ·rename_i har;simp only[gz,Bz]at h;obtain⟨r2,hp,h⟩:=h;obtain⟨h1,⟨_,_,h5⟩,h3⟩:=ix xs I hn hq hp;simp only[ae,Bz]at h⊢;obtain⟨ds,g1,f',g2,g3⟩:=h;rw[h1.ar]at har;obtain⟨f,k1,k2⟩:=hL j _ har f' g2;exact⟨ds,h3 [] ds (by simpa using g1),f,k1,k2 ds d (cY g1) g3⟩
   ·cases h
 |jp k b ihk ihb=>
  intro s E E' L L' d I hn hL h;simp only[cse]at h;split at h
  ·rename_i m _;simp only[ae]at h⊢;refine ihb (s:={s with ar:=m::s.ar}) ⟨I.l,I.v,I.a⟩ hn (hL.cons fun vs d hv h=> ?_) h;exact ihk (s:=s.vars m) (I.vars hn hv s.ar) (by simp[Cs.vars,hn,hv]) hL h
  ·simp only[ae]at h⊢;refine ihb (s:={s with ar:=0::s.ar}) ⟨I.l,I.v,I.a⟩ hn (hL.cons fun vs d hv h=> ?_) h;cases h
 |st Y=>intro s E E' L L' d I hn hL h;cases h
 |bad w Y=>intro s E E' L L' d I hn hL h;cases h
theorem xC{q:Nat×FT}{ds:List D}{d:D}(hl:ds.length=q.1)(h:ae G N (abG q).2 [] ds=some d):ae G N q.2 [] ds=some d:=by
 refine RQ q.2 (s:=Kk q.1) ⟨by simp[Kk,hl],fun i j h=> ?_,fun e j h=>by cases h⟩ hl.symm (fun j m h=>by simp[Kk]at h) h;simp only[Kk]at h;obtain⟨h1,h2⟩:=Gz.1 h;simp at h2;rw[h2]
end
end
section
def kA(e:Nat)(rs:List fB)(x:VE)(Y:Sy):FT:=
 match x with
 | .exit _=> .bad 100021
 |_=>match rs with
  | [.t i]=>(match b6 Y (.t i)with
   | .gl n _=>(match find Y.h n with
    |some (.az e' _ c)=>if e'=e then .ret c else .bad 100051
    |_=> .bad 100052)
   |_=> .bad 100053)
  |_=> .bad 100054
def D0(C:Cx)(e f:Nat):Option (Nat×FT):=
 match C.P.funcs[f]? with
 |some fn=>match fn.body,fn.results.toList.mapM (vh C.P fn.ntmps)with
  | some c, some rs => if (fn.name == "runtime.NumGoroutine") = false ∧ fn.params.size + fn.nfree ≤ fn.ntmps then some (fn.params.size + fn.nfree, cX { C with rt := f } (vZ { C with rt := f } 8) f fn.ntmps Vq false 0 (tM fn) c (C_ (fn.params.size + fn.nfree)) (kA e rs)) else none
  |_,_=>none
 |none=>none
theorem Td{G:FP}{N e:Nat}{rs:List fB}{x:VE}{Y:Sy}{L:List (List D→Option D)}{E:List D}{d:D}:ae G N (kA e rs x Y) L E=some d→
  ∃i n sz sz' c,rs= [.t i]∧b6 Y (.t i)= .gl n sz∧find Y.h n=some (.az e sz' c)∧ae G N (.ret c) L E=some d:=by
 have key: ∀(rs:List fB),ae G N (match rs with
  | [.t i]=>(match b6 Y (.t i)with
   | .gl n _=>(match find Y.h n with
    |some (.az e' _ c)=>if e'=e then FT.ret c else .bad 100051
    |_=> .bad 100052)
   |_=> .bad 100053)
  |_=> .bad 100054) L E=some d→ ∃i n sz sz' c,rs= [.t i]∧b6 Y (.t i)= .gl n sz∧find Y.h n=some (.az e sz' c)∧ae G N (.ret c) L E=some d:=fun rs h=>by
  split at h
  ·split at h
   ·rename_i hv;split at h
    ·rename_i hf;split at h
     ·grind
     ·cases h
    ·cases h
   ·cases h
  ·cases h
 intro h;cases x with
 |normal=>exact key rs h
 |ret=>exact key rs h
 |exit i=>cases h
theorem Fu{P:Program}{C:Cx}{inl:JJ}{ks:List Nat}{G:FP}{N:Nat}(hP:C.P=P)(hG:Sound P (bw G))(hm:P.follows .mixedOrders=true){f e0:Nat}(hI: ∀dr,sP P G N dr inl){fn:Func}{c:Code}{rs:List fB}(h1:P.funcs[f]?=some fn)
  (h2 : (fn.name == "runtime.NumGoroutine") = false) (h3 : fn.body = some c) (h4 : fn.results.toList.mapM (vh P fn.ntmps) = some rs) {ds : List D} {es : List (List D)} (hlen : ds.length ≤ fn.ntmps) (hn : ds.all D.aF = true) (hne : es ≠ []) (hes : (es.all fun c => c.all D.aY) = true)
  (he:(ae G N (cX C inl f fn.ntmps Vq false 0 ks c (C_ ds.length) (kA e0 rs)) [] ds).map D.bare=some (.list es)):VCa P f e0 ds es:=by
 refine⟨⟨fn,h1,by rw[h3];rfl,h2⟩,fun w pr cargs hpr hg jq=> ?_⟩;obtain⟨d,he,hd⟩:=Mz.1 he;have hY0:ig P G N d Vq (⟨w,pr,qn⟩:fe).A.sv fn.ntmps um:=fun h=>by cases h
 refine iO.1 (callsIn_of_wp_marks (F:=wF none) (n:=0) h1 h3 trivial ?_);refine jl (r:=none) (Ω0:=um) (Ω:=um) hP hG hm (hI d) c (fun _=>rfl) hY0 (mt0 hn) (AI hpr hg jq hlen) DM.nil rfl he ?_;rintro ex Ω' Y' L' E' ι' γ' J' a' w' hle M' R' hd' _ _ _ he';obtain⟨i,n,sz,sz',c',rfl,hv,hf,h'⟩:=Td he'
 have fin:LeavesInM (wF none) 0 P fn a'.tmps (fun ex w'=> ∃b cap C,ex= .returned (.slice (some ⟨b,0,none⟩) es.length cap)∧dU (fun _=>False) w w'∧w.heap.size≤b∧w'.heap[b]?=some (.cells C e0 (0,0))∧es.length≤cap∧cap≤maxLen∧C.size=cap*P.cellsOf e0∧bk P w' (fun _ _=>False) aA C e0 es) a'.defers .returning w':=by
  simp only[ae,Bz]at h';obtain⟨d0,g1,g2⟩:=h';split at g2
  rotate_left
  ·cases g2
  rename_i KU;injection g2 with g2
  have hd0:d0.bare= .list es→d0= .list es:=fun h=>by
   unfold D.bare at h;split at h
   ·simp[D.aF,D.aO,D.eT]at KU
   ·exact h
  have hd1:d0= .list es:=by
   refine hd0 ?_;rw[←hd,←g2];unfold bU;split
   ·rfl
   ·split
    ·have:d0.bare=d0:=by
      unfold D.bare;split
      ·simp[D.aF,D.aO,D.eT]at KU
      ·rfl
     rw[this];rfl
    ·rfl
  subst hd1;refine p9 (S:= []) M' R' hd' hle fun Ω3 w3 J3 _ M3 R3=> ?_;obtain⟨w1,pr1,A1,tk,R1,U⟩:=R3;obtain⟨v,hv1,hv2⟩:=jJ (rs:= [.t i]) (d:=J3.s i) R1 h4 rfl;have hVR:=aJ M3 (.t i);rw[hv]at hVR;obtain⟨es2,q1,q2,q3⟩:=M3.az _ _ _ _ hf;rw[g1]at q1;injection q1 with q1
  injection q1 with q1
  subst q1;rcases q3 with⟨_,q3⟩|⟨q3,q4⟩
  ·grind
  have hsl:J3.s i= .sl (ι' n) sz 0 es.length none:=by
   generalize hz:aL.val J3.s (.t i)=z at hVR;have hz:J3.s i=z:=hz;rw[hz];cases hVR with
   |gln hf' hi=>exact absurd hi q3
   |gl hf' hc hi=>
    grind
  rw[hsl]at hv2;obtain⟨b,cap,C2,p1,p2,p3,p4,p5,p6⟩:=R1.mem.obj _ _ q4;cases hv2 with
  |sl ht hc hl ho=>
   rw[p1]at ht;cases ht;simp at hc;subst hc;have ho2:=ho.resolve_right (by omega);simp at ho2;subst ho2;have hlt:b<w3.heap.size:=(Array.getElem?_eq_some_iff.1 p2).1;refine⟨_,hv1,b,_,C2,rfl,U.chg.trans R1.chg fun b hb h=>(U.sub b hb h:False), ?_,p2,p3,p4,p5,p6.1,fun i c hc j x hx=> ?_⟩
   ·rcases R1.live _ _ b _ q4 p1 with h|h
    ·have:=U.chg.size;have:(⟨w,pr,qn⟩:fe).w.heap.size=w.heap.size:=rfl;omega
    ·exact Nat.le_of_not_lt fun hb=>(U.sub b hb h:False)
   ·obtain⟨u,u1,u2,u3⟩:=p6.2 i c hc j x hx;exact⟨u,u1,u2,cK u3 (Tz.1 (Tz.1 hes c (Lz hc)) x (Lz hx))⟩
 cases ex with
 |normal=>exact fin
 |ret=>exact fin
 |exit i=>cases he'
theorem zT{P:Program}{C:Cx}{H:FP}{N k f e n:Nat}{t:FT}(hP:C.P=P)(hH:Sound P (bw H))(hm:P.follows .mixedOrders=true)(h1:D0 C e f=some (n,t)){ds:List D}{es:List (List D)}(hl:ds.length=n)(hn:ds.all D.aF=true)
  (hne:es≠ []) (hes:(es.all fun c=>c.all D.aY)=true) (he:(ae (Gs C H N k) N t [] ds).map D.bare=some (.list es)):VCa P f e ds es:=by
 have hS:=jX (N:=N) hP hH hm k;unfold D0 at h1;subst hP;split at h1
 ·rename_i fn hfn;split at h1
  ·rename_i c rs hb hr;split at h1<;>cases h1;rename_i hcc;refine Fu (C:={C with rt:=f}) (inl:=vZ {C with rt:=f} 8) (N:=N) (ks:=tM fn) rfl hS hm (fun dr=>ti (C:={C with rt:=f}) rfl hS hm 8) hfn hcc.1 hb hr (by omega) hn hne hes ?_;rw[hl];exact he
  ·cases h1
 ·cases h1
end
noncomputable section
abbrev Rd(α:Type):=List Nat→α×List Nat
def rN:Rd Nat
 |a::r=>(a,r)
 | []=>(0,[])
def rB:Rd Bool:=fun l=>match rN l with|(a,r)=>(a==1,r)
def rI:Rd Int:=fun l=>match rN l with
 |(0,r)=>(match rN r with|(m,r)=>(Int.ofNat m,r))
 |(_,r)=>(match rN r with|(m,r)=>(Int.negSucc m,r))
def rL{α:Type}(p:Rd α):Nat→Rd (List α)
 |0,l=>([],l)
 |k+1,l=>match rN l with
  |(0,r)=>([],r)
  |(_,r)=>match p r with
   |(a,r)=>match rL p k r with
    |(as,r)=>(a::as,r)
def Xg(n:Nat):IntKind:=match n with|0=> .i8|1=> .i16|2=> .i32|3=> .i64|4=> .u8|5=> .u16|6=> .u32|_=> .u64
def RH(n:Nat):BinOp:=match n with|0=> .add|1=> .sub|2=> .mul|3=> .quo|4=> .rem|5=> .and|6=> .or|7=> .xor|8=> .shl|9=> .shr|10=> .andNot|11=> .eql|12=> .neq|13=> .lss|14=> .leq|15=> .gtr|_=> .geq
def rV:Rd Value:=fun l=>match rN l with
 |(0,r)=>(match rN r with|(k,r)=>match rI r with|(z,r)=>(.int (Xg k) z,r))
 |(1,r)=>(match rB r with|(b,r)=>(.bool b,r))
 |(3,r)=>(.nilFunc,r)
 |(4,r)=>(.nilIface,r)
 |(5,r)=>(.pointer none,r)
 |(_,r)=>(.bool false,r)
def rD:Nat→Rd D
 |0,l=>(.undef,l)
 |n+1,l=>match rN l with
  |(1,r)=>(match rV r with|(v,r)=>(.v v,r))
  |(2,r)=>(.nil,r)
  |(3,r)=>(.mt,r)
  |(4,r)=>(match rL (rL (rD n) 99) 99 r with|(es,r)=>(.list es,r))
  |(5,r)=>(match rL (rD n) 999 r with|(xs,r)=>(.agg xs,r))
  |(6,r)=>(match rL (rD n) 999 r with|(xs,r)=>(.tup xs,r))
  |(7,r)=>(match rL (rD n) 999 r with|(xs,r)=>(.lptr xs,r))
  |(8,r)=>(match rN r with|(f,r)=>match rL (rD n) 999 r with|(xs,r)=>(.clo f xs,r))
  |(9,r)=>(.nilmap,r)
  |(_,r)=>(.undef,r)
def rNP:Rd (Nat×Nat):=fun l=>match rN l with|(a,r)=>match rN r with|(b,r)=>((a,b),r)
def rPK:Rd PK:=fun l=>match rN l with
 |(0,r)=>(.mv,r)
 |(1,r)=>(.pick,r)
 |(2,r)=>(match(fun l=>match rN l with|(a,r)=>(RH a,r)) r with|(a0,r)=>(.ibin a0,r))
 |(3,r)=>(match(fun l=>match rN l with|(a,r)=>(RH a,r)) r with|(a0,r)=>(.ishift a0,r))
 |(4,r)=>(match rB r with|(a0,r)=>(.beq a0,r))
 |(5,r)=>(match rB r with|(a0,r)=>(.seq a0,r))
 |(6,r)=>(match rB r with|(a0,r)=>match rL rN 999 r with|(a1,r)=>(.aeq a0 a1,r))
 |(7,r)=>(match rB r with|(a0,r)=>(.snil a0,r))
 |(8,r)=>(match(fun l=>match rN l with|(a,r)=>(RH a,r)) r with|(a0,r)=>(.sop a0,r))
 |(9,r)=>(.inot,r)
 |(10,r)=>(.ineg,r)
 |(11,r)=>(.llen,r)
 |(12,r)=>(.slen,r)
 |(13,r)=>(match rN r with|(a0,r)=>match rB r with|(a1,r)=>(.load a0 a1,r))
 |(14,r)=>(match rN r with|(a0,r)=>(.fld a0,r))
 |(15,r)=>(match rN r with|(a0,r)=>match rN r with|(a1,r)=>(.idx a0 a1,r))
 |(16,r)=>(match rN r with|(a0,r)=>match rN r with|(a1,r)=>(.aidx a0 a1,r))
 |(17,r)=>(match rN r with|(a0,r)=>(.ext a0,r))
 |(18,r)=>(match(fun l=>match rN l with|(a,r)=>(Xg a,r)) r with|(a0,r)=>(.conv a0,r))
 |(19,r)=>(match rN r with|(a0,r)=>match rN r with|(a1,r)=>match rB r with|(a2,r)=>(.afld a0 a1 a2,r))
 |(20,r)=>(match rL (rD 9) 999 r with|(a0,r)=>match rL rNP 999 r with|(a1,r)=>(.build a0 a1,r))
 |(21,r)=>(match rN r with|(a0,r)=>(.clo a0,r))
 |(22,r)=>(match rB r with|(a0,r)=>(.mx2 a0,r))
 |(23,r)=>(match rB r with|(a0,r)=>(.mx3 a0,r))
 |(24,r)=>(match rN r with|(a0,r)=>match rN r with|(a1,r)=>match rB r with|(a2,r)=>(.aix a0 a1 a2,r))
 |(25,r)=>(.fC,r)
 |(26,r)=>(match rN r with|(a0,r)=>match rB r with|(a1,r)=>match rB r with|(a2,r)=>match rB r with|(a3,r)=>(.slc a0 a1 a2 a3,r))
 |(27,r)=>(match rN r with|(a0,r)=>match rN r with|(a1,r)=>match rB r with|(a2,r)=>match rB r with|(a3,r)=>(.sla a0 a1 a2 a3,r))
 |(28,r)=>(match rL rN 999 r with|(a0,r)=>match rD 9 r with|(a1,r)=>match rB r with|(a2,r)=>(.lkp a0 a1 a2,r))
 |(29,r)=>(.ent,r)
 |(30,r)=>(match rN r with|(a0,r)=>(.call a0,r))
 |(32,r)=>(match rN r with|(a0,r)=>(.fbox a0,r))
 |(_,r)=>(.mv,r)
def rXK:Rd XK:=fun l=>match rN l with
 |(0,r)=>(match rPK r with|(k,r)=>(.pk k,r))
 |(1,r)=>(match rB r with|(a0,r)=>match rN r with|(a1,r)=>(.call a0 a1,r))
 |(2,r)=>(match rB r with|(a0,r)=>(.ccall a0,r))
 |(3,r)=>(.agg,r)
 |(4,r)=>(.tup,r)
 |(5,r)=>(match rN r with|(a0,r)=>(.clo a0,r))
 |(6,r)=>(.lptr,r)
 |(7,r)=>(match rN r with|(a0,r)=>match rN r with|(a1,r)=>(.cell a0 a1,r))
 |(8,r)=>(.qo,r)
 |(9,r)=>(match rB r with|(a0,r)=>(.gv a0,r))
 |(10,r)=>(.bt,r)
 |(11,r)=>(.eu,r)
 |(12,r)=>(match rN r with|(a0,r)=>(.app a0,r))
 |(13,r)=>(match rN r with|(a0,r)=>match rN r with|(a1,r)=>match rL (rD 9) 999 r with|(a2,r)=>match rL rNP 999 r with|(a3,r)=>(.lit a0 a1 a2 a3,r))
 |(14,r)=>(match rN r with|(a0,r)=>match rL (rD 9) 999 r with|(a1,r)=>(.mks a0 a1,r))
 |(15,r)=>(match rN r with|(a0,r)=>match rN r with|(a1,r)=>match rN r with|(a2,r)=>(.setl a0 a1 a2,r))
 |(16,r)=>(.take,r)
 |(17,r)=>(match rL rN 999 r with|(a0,r)=>match rD 9 r with|(a1,r)=>match rB r with|(a2,r)=>(.mget a0 a1 a2,r))
 |(18,r)=>(match rL rN 999 r with|(a0,r)=>(.mset a0,r))
 |(19,r)=>(match rN r with|(a0,r)=>(.rngi a0,r))
 |(20,r)=>(match rN r with|(a0,r)=>match rN r with|(a1,r)=>match rN r with|(a2,r)=>match rN r with|(a3,r)=>match rB r with|(a4,r)=>(.geta a0 a1 a2 a3 a4,r))
 |(21,r)=>(match rN r with|(a0,r)=>match rN r with|(a1,r)=>match rN r with|(a2,r)=>match rN r with|(a3,r)=>(.seta a0 a1 a2 a3,r))
 |(22,r)=>(match rN r with|(a0,r)=>match rN r with|(a1,r)=>match rN r with|(a2,r)=>(.ecall a0 a1 a2,r))
 |(23,r)=>(.mkl,r)
 |(24,r)=>(match rN r with|(a0,r)=>match rN r with|(a1,r)=>(.isc a0 a1,r))
 |(25,r)=>(match rN r with|(a0,r)=>match rN r with|(a1,r)=>match rN r with|(a2,r)=>(.capc a0 a1 a2,r))
 |(26,r)=>(match rL rN 999 r with|(a0,r)=>match rN r with|(a1,r)=>(.mapp a0 a1,r))
 |(27,r)=>(.fmk,r)
 |(28,r)=>(.drp,r)
 |(29,r)=>(match rL (rD 9) 999 r with|(a0,r)=>(.clr a0,r))
 |(30,r)=>(.adn,r)
 |(31,r)=>(.own,r)
 |(_,r)=>(.tup,r)
def rX:Nat→Rd X
 |0,l=>(D8,l)
 |n+1,l=>match rN l with
  |(0,r)=>(match rN r with|(k,r)=>(.t k,r))
  |(1,r)=>(match rD 9 r with|(d,r)=>(.q d,r))
  |(2,r)=>(match rXK r with|(k,r)=>match rL (rX n) 999 r with|(xs,r)=>(.mk k xs,r))
  |(_,r)=>(match rX n r with|(c,r)=>match rX n r with|(a,r)=>match rX n r with|(b,r)=>(.ite c a b,r))
def ZG:Nat→Rd SV
 |0,l=>(.un,l)
 |n+1,l=>match rN l with
  |(1,r)=>(match rX 99 r with|(x,r)=>(.x x,r))
  |(2,r)=>(match rL (ZG n) 999 r with|(vs,r)=>(.agg vs,r))
  |(3,r)=>(match rL (ZG n) 999 r with|(vs,r)=>(.tup vs,r))
  |(4,r)=>(match rN r with|(f,r)=>match rL (ZG n) 999 r with|(vs,r)=>(.clo f vs,r))
  |(5,r)=>(match rN r with|(a,r)=>match rN r with|(b,r)=>(.ptr a b,r))
  |(7,r)=>(match rN r with|(a,r)=>match rN r with|(b,r)=>(.gl a b,r))
  |(8,r)=>(match rN r with|(a,r)=>match rN r with|(b,r)=>match rX 99 r with|(k,r)=>(.gs a b k,r))
  |(9,r)=>(match rN r with|(a,r)=>match rN r with|(b,r)=>match rX 99 r with|(i,r)=>match rN r with|(j,r)=>(.ep a b i j,r))
  |(10,r)=>(match rN r with|(a,r)=>match rN r with|(b,r)=>match rN r with|(c,r)=>(.sb a b c,r))
  |(11,r)=>(match rN r with|(a,r)=>match rN r with|(b,r)=>(.rb a b,r))
  |(12,r)=>(match rN r with|(a,r)=>(.mp a,r))
  |(13,r)=>(match rN r with|(a,r)=>(.yl a,r))
  |(14,r)=>(match rX 99 r with|(g,r)=>match ZG n r with|(v,r)=>(.gd g v,r))
  |(15,r)=>(match rN r with|(a,r)=>match rN r with|(b,r)=>match rX 99 r with|(k,r)=>(.gt a b k,r))
  |(_,r)=>(.un,r)
def rRS:Rd RS:=fun l=>match rN l with
 |(0,r)=>(.ready,r)
 |(1,r)=>(.busy,r)
 |(2,r)=>(match rN r with
  |(0,r)=>(.done .normal,r)
  |(1,r)=>(match rN r with|(i,r)=>(.done (.exit i),r))
  |(_,r)=>(.done .ret,r))
 |(_,r)=>(.over,r)
def rSk:Rd Sk:=fun l=>match rN l with
 |(0,r)=>(match rN r with|(k,r)=>(.box k,r))
 |(1,r)=>(match rN r with|(e,r)=>match rN r with|(s,r)=>(.az e s,r))
 |(2,r)=>(.map,r)
 |(3,r)=>(match rN r with|(e,r)=>match rN r with|(s,r)=>(.mpl e s,r))
 |(_,r)=>(match rRS r with|(k,r)=>(.raw k,r))
def rLc{α:Type}(p:Rd α):Nat→Rd (List α)
 |0,l=>([],l)
 |k+1,l=>match p l with
  |(a,r)=>match rLc p k r with
   |(as,r)=>(a::as,r)
def rLn{α:Type}(p:Rd α):Rd (List α):=fun l=>match rN l with
 |(k,r)=>rLc p k r
def ad9:Rd zr:=fun l=>match rN l with
 |(4,r)=>(.same .un,r)
 |(0,r)=>(.drop,r)
 |(1,r)=>(match ZG 99 r with|(v,r)=>(.same v,r))
 |(2,r)=>(.var,r)
 |(_,r)=>(match rN r with|(e,r)=>match rN r with|(s,r)=>(.az e s,r))
def rHd:Rd Hd:=fun l=>match rLn rN l with
 |(ids,r)=>match rLn rNP r with
  |(ts,r)=>match rLn (fun l=>match rN l with|(n,r)=>match rSk r with|(k,r)=>((n,k),r)) r with
   |(os,r)=>match rLn ad9 r with
    |(row,r)=>(⟨ids,ts,os,row.map fun p=>(0,p)⟩,r)
def CN{α:Type}(i:Nat)(l:List α):Option α:= @Nat.rec (fun _=>List α→Option α) (fun l=>l.casesOn none fun a _=>some a) (fun _ ih l=>l.casesOn none fun _ r=>ih r) i l
def nn{α:Type}(d:α)(T:List (List α))(i:Nat):α:=((CN (i/32) T).bind (CN (i%32))).getD d
def ex(T:List (List (List Nat)))(k:Nat):List Nat→List Nat:= @Nat.rec (fun _=>List Nat→List Nat) (fun l=>l) (fun _ ih l=> @List.rec Nat (fun _=>List Nat) [] (fun a _ r=>
 (nn [] T a).casesOn r fun v s=>s.casesOn (v::r) fun b s=>List.append (ih (v::b::s)) r) l) k
def unx:Nat→Nat→List Nat
 |0,_=> []
 |k+1,n=>match Nat.ble n 1 with
  |true=> []
  |false=>match Nat.blt (n%16) 12 with
   |true=>(n%16*16+n/16%16)::unx k (n/256)
   |false=>((n%16-12)*256+(192+n/16%256))::unx k (n/4096)
def dl(l:List Nat):Nat→List Nat:= @List.rec Nat (fun _=>Nat→List Nat) (fun _=> []) (fun a _ r p=>
 bif Nat.blt a 100 then a::r p else(fun v=>v::r v) (bif Nat.beq (a%2) 0 then p+(a-100)/2 else p-(a-99)/2)) l
def hn(l:List Nat):Nat:=l.foldl (fun a x=>a*10000000+x) 1
inductive Gw where
 |cst (d:D)
 |op (k:XK) (n:Nat)
 |ite
def T1(p:Rd X):Nat→Rd (List X)
 |0,l=>([],l)
 |k+1,l=>match p l with
  |(a,r)=>match T1 p k r with
   |(as,r)=>(a::as,r)
def gX(O:Nat→Gw):Nat→Rd X
 |0,l=>(D8,l)
 |n+1,l=>match l with
  | []=>(D8,[])
  |a::r=>bif Nat.beq (a%2) 0 then(.t (a/2),r)else match O (a/2)with
   | .cst d=>(.q d,r)
   | .op k m=>match T1 (gX O n) m r with
    |(xs,r)=>(.mk k xs,r)
   | .ite=>match gX O n r with
    |(c,r)=>match gX O n r with
     |(a,r)=>match gX O n r with
      |(b,r)=>(.ite c a b,r)
def gXs(O:Nat→Gw):Rd (List X):=fun l=>match rN l with|(n,r)=>T1 (gX O 99) n r
def KF(O:Nat→Gw)(B:List FT):Nat→Rd FT
 |0,l=>(.bad 0,l)
 |n+1,l=>match rN l with
  |(0,r)=>(match gX O 99 r with|(x,r)=>(.ret x,r))
  |(1,r)=>(match gXs O r with|(xs,r)=>match KF O B n r with|(k,r)=>(.fC xs k,r))
  |(2,r)=>(match gXs O r with|(xs,r)=>match KF O B n r with|(k,r)=>(.lets xs k,r))
  |(3,r)=>(match gX O 99 r with|(c,r)=>match KF O B n r with|(a,r)=>match KF O B n r with|(b,r)=>(.ite c a b,r))
  |(4,r)=>(match gXs O r with|(xs,r)=>match KF O B n r with|(k,r)=>(.loop xs k,r))
  |(5,r)=>(match rN r with|(j,r)=>match gXs O r with|(xs,r)=>(.next j xs,r))
  |(6,r)=>(match KF O B n r with|(b,r)=>match KF O B n r with|(k,r)=>(.jp k b,r))
  |(8,r)=>(match rN r with|(k,r)=>(B.getD k (.bad 0),r))
  |(_,r)=>(match rN r with|(w,r)=>(.bad w,r))
def hintOf(T:List (Nat×List (Nat×List Nat)))(f key:Nat):Option (Option (Hd×Nat)):=match find ((find T f).getD []) key with
 |some (n::l)=>some (some ((rHd l).1,n))
 |_=>some none
def GI(l:List (Nat×List Nat))(f:Nat):List Nat:=(find l f).getD []
def Rx(l:List (Nat×List (Nat×Nat)))(f i:Nat):Nat:=(find ((find l f).getD []) i).getD 0
end
noncomputable section
def fx(k:PK)(ds:List D):Option D:=(k.run (bw X3) dI ds).bind fun d=>if d.aF then some d else none
def Dv(G:FP)(fl:Bool)(f:Nat)(ds:List D):Option D:=gn G fl f ds
def MW(G:FP)(fl:Bool)(ds:List D):Option D:=match ds with
  | .clo f eK::r=>if f<1000000 then(eK.mapM (bu dI)).bind fun cs=>gn G fl f (r++cs)else none
  |_=>none
def JG(ds:List D):Option D:=if ds.all D.aO then some (.agg ds)else none
def aa0(ds:List D):Option D:=some (.tup ds)
def aaQ(f:Nat)(ds:List D):Option D:=if ds.all D.aO then some (.clo f ds)else none
def U0(ds:List D):Option D:=some (.lptr ds)
def zk(j n:Nat)(ds:List D):Option D:=match ds with
  | [d]=>if d.cells.length=n∧d.cells.all D.gH=true∧d.cells.all D.aO=true then d.cells[j]? else none
  |_=>none
def aaY(ds:List D):Option D:=match ds with
  | [d]=>if d.gH=true∧d.aF=true then some d else none
  |_=>none
def JH(w:Bool)(ds:List D):Option D:=match ds with
  | [.v (.bool b)]=>some (bv (b==w))
  | [.tup _]=>some (bv false)
  |_=>none
def rH(ds:List D):Option D:=match ds with
  | [d]=>if d.aF then bu dI d else none
  |_=>none
def zm(ds:List D):Option D:=match ds with
  | [d]=>if d.aO then ay dI 6 d else none
  |_=>none
def aaP(size:Nat)(ds:List D):Option D:=match ds with
  | [a,b]=>(lN a).bind fun a=>(lN b).bind fun b=>if aQ size b=true∧a.length+b.length≤aD then some (.list (a++b))else none
  |_=>none
def aaV(size len:Nat)(zero:List D)(places:List (Nat×Nat))(ds:List D):Option D:=if ds.all (fun d=>d.cells.all D.gH)then(ahI zero places ds).bind fun cs=>if cs.length=len*size∧aQ size (kV size len (cs.map D.nz))=true then some (.list (kV size len (cs.map D.nz)))else none else none
def aaX(size:Nat)(zero:List D)(ds:List D):Option D:=match ds with
  | [.v (.int _ l), .v (.int _ c)]=>if 0≤l∧l≤c∧c≤aD∧c.toNat*size≤16777216∧zero.length=size∧zero.all D.nG=true then some (.list (List.replicate l.toNat zero))else none
  |_=>none
def U4(size j n:Nat)(ds:List D):Option D:=match ds with
  | [.list es, .v (.int _ i),v]=>if i<0 then none else(es[i.toNat]?).bind fun c=>if v.cells.length=n∧j+n≤size∧c.length=size∧v.cells.all D.gH=true∧v.cells.all D.nG=true then some (.list (es.set i.toNat (putAt c j v.cells)))else none
  |_=>none
def qD(ds:List D):Option D:=match ds with
  | [.list es, .v (.int _ k)]=>if 0≤k∧k≤es.length then some (.list (es.take k.toNat))else none
  |_=>none
def zl(ks:List Nat)(z:D)(ok:Bool)(ds:List D):Option D:=match ds with
  | [.list rows,k]=>(aC rows).bind fun es=>(pa ks z ok es k).bind fun d=>if d.aF then some d else none
  |_=>none
def mJ(ks:List Nat)(ds:List D):Option D:=match ds with
  | [.list rows,k,v]=>(aC rows).bind fun es=>(ua ks es k v).map fun es=> .list (aH es)
  |_=>none
def U2(n:Nat)(ds:List D):Option D:=match ds with
  | [.v (.int _ i)]=>if 0≤i∧i<n then some (.tup [])else none
  |_=>none
def UZ(n s j m:Nat)(g:Bool)(ds:List D):Option D:=match ds with
  | [.agg xs, .v (.int _ i)]=>if 0≤i∧i<n∧j+m≤s∧n*s≤xs.length then(if g then(if((xs.drop (i.toNat*s+j)).take m).all D.aO then some (.agg ((xs.drop (i.toNat*s+j)).take m))else none)else(xs[i.toNat*s+j]?).bind fun d=>if d.aF then some d else none)else none
  |_=>none
def U3(n s j m:Nat)(ds:List D):Option D:=match ds with
  | [.agg xs, .v (.int _ i),v]=>if 0≤i∧i<n∧j+m≤s∧n*s≤xs.length∧v.cells.length=m∧v.cells.all D.gH=true∧v.cells.all D.aO=true∧xs.all D.aO=true then some (.agg (putAt xs (i.toNat*s+j) v.cells))else none
  |_=>none
def MX(G:FP)(k f sz:Nat)(ds:List D):Option D:=if(ds.set k .nil).all D.aF=true∧f<1000000 then(match ds[k]? with
  |some (.list es)=>(G (1000000+(1000000*k+f)) ds).bind fun r=>match r with
   | .tup [d, .list es']=>if d.aF=true∧es'.length=es.length∧aQ sz es'=true then some (.tup [d, .list es'])else none
   |_=>none
  |_=>none)else none
def aaS(ds:List D):Option D:=match ds with
  | [.list es, .v (.int _ k)]=>if 0≤k∧k≤es.length then some (.list (es.drop k.toNat))else none
  |_=>none
def aaR(zero:List D)(ds:List D):Option D:=match ds with
  | [.list es, .v (.int _ k)]=>if 0≤k∧k≤es.length then some (.list (es.take k.toNat++List.replicate (es.length-k.toNat) zero))else none
  |_=>none
def aaO(ds:List D):Option D:=match ds with
  | [.v (.int _ a), .v (.int q b)]=>if 0≤a∧0≤b then some (.v (.int q (a+b)))else none
  |_=>none
def aaT(ds:List D):Option D:=match ds with
  | [.list rows]=>(aC rows).bind fun es=>if es.all (fun p=>p.1.aF&&p.2.aF)then some (.fm rows)else none
  |_=>none
def U1(ks:List Nat)(sz:Nat)(ds:List D):Option D:=match ds with
  | [.list rows,k,b]=>(aC rows).bind fun es=>(lN b).bind fun b=>(tW ks sz es k b).map fun es=> .list (aH es)
  |_=>none
def aaZ(ds:List D):Option D:=match ds with
  | [d]=>some d
  |_=>none
def aaW(ds:List D):Option D:=some (.list (ds.map fun d=> [d]))
def aaU(f n:Nat)(ds:List D):Option D:=match ds with
  | [.clo g xs]=>if g=f∧xs.length=n then some (.tup [])else none
  |_=>none
def UY(f i n:Nat)(ds:List D):Option D:=match ds with
  | [.clo g xs]=>if g=f∧xs.length=n then(xs[i]?).bind fun d=>if d.aF then some d else none else none
  |_=>none
def CV(G:FP):XK→List D→Option D
 | .pk k=>fx k
 | .call fl f=>Dv G fl f
 | .ccall fl=>MW G fl
 | .agg=>JG
 | .tup=>aa0
 | .clo f=>aaQ f
 | .lptr=>U0
 | .cell j n=>zk j n
 | .qo=>aaY
 | .gv w=>JH w
 | .bt=>rH
 | .eu=>zm
 | .app size=>aaP size
 | .lit size len zero places=>aaV size len zero places
 | .mks size zero=>aaX size zero
 | .setl size j n=>U4 size j n
 | .take=>qD
 | .mget ks z ok=>zl ks z ok
 | .mset ks=>mJ ks
 | .rngi n=>U2 n
 | .geta n s j m g=>UZ n s j m g
 | .seta n s j m=>U3 n s j m
 | .ecall k f sz=>MX G k f sz
 | .drp=>aaS
 | .clr zero=>aaR zero
 | .adn=>aaO
 | .fmk=>aaT
 | .mapp ks sz=>U1 ks sz
 | .own=>aaZ
 | .mkl=>aaW
 | .isc f n=>aaU f n
 | .capc f i n=>UY f i n
theorem Mi(G:FP)(k:XK)(ds:List D):CV G k ds=k.run G ds:=by cases k<;>rfl
def nth(l:List D)(i:Nat):Option D:= @Nat.rec (fun _=>List D→Option D) (fun l=>l.casesOn none fun a _=>some a) (fun _ ih l=>l.casesOn none fun _ r=>ih r) i l
theorem oi: ∀(i:Nat) (l:List D),nth l i=l[i]?
 |0,[]=>rfl
 |0,_::_=>rfl
 |_+1,[]=>rfl
 |i+1,_::r=>oi i r
def D5(G:FP)(x:X):List D→Option D:=
 @X.rec (fun _=>List D→Option D) (fun _=>List D→Option (List D)) (fun i E=>nth E i) (fun d _=>some d) (fun k _ ih E=>(ih E).bind (CV G k))
  (fun _ _ _ hc ha hb E=>(hc E).bind fun v=>v.asBool.bind fun x=>bif x then ha E else hb E) (fun _=>some []) (fun _ _ hx hr E=>(hx E).bind fun d=>(hr E).bind fun ds=>some (d::ds)) x
def lQ(G:FP)(xs:List X):List D→Option (List D):=
 @X.rec_1 (fun _=>List D→Option D) (fun _=>List D→Option (List D)) (fun i E=>nth E i) (fun d _=>some d) (fun k _ ih E=>(ih E).bind (CV G k))
  (fun _ _ _ hc ha hb E=>(hc E).bind fun v=>v.asBool.bind fun x=>bif x then ha E else hb E) (fun _=>some []) (fun _ _ hx hr E=>(hx E).bind fun d=>(hr E).bind fun ds=>some (d::ds)) xs
mutual
theorem pY(G:FP)(E:List D): ∀(x:X),D5 G x E=X.ev G E x
 | .t i=>oi i E
 | .q _=>rfl
 | .mk k xs=>by
  show(lQ G xs E).bind (CV G k)=_;rw[mN G E xs];simp only[X.ev];congr 1;funext ds;exact Mi G k ds
 | .ite c a b=>by
  show(D5 G c E).bind _=_;rw[pY G E c];simp only[X.ev];congr 1;funext v;congr 1;funext x;cases x
  ·exact pY G E b
  ·exact pY G E a
theorem mN(G:FP)(E:List D): ∀(xs:List X),lQ G xs E=X.bm G E xs
 | []=>rfl
 |x::r=>by
  show(D5 G x E).bind (fun d=>(lQ G r E).bind fun ds=>some (d::ds))=_;rw[pY G E x,mN G E r];simp only[X.bm];congr 1;funext d;cases X.bm G E r<;>rfl
end
def sn(G:FP)(N:Nat)(t:FT):List (List D→Option D)→List D→Option D:=
 @FT.rec (fun _=>List (List D→Option D)→List D→Option D)
  (fun x _ E=>(D5 G x E).bind fun d=>bif d.aF then some (bU x d)else none)
  (fun xs _ ih L E=>(lQ G xs E).bind fun _=>ih L E)
  (fun xs _ ih L E=>(lQ G xs E).bind fun ds=>ih L (E++ds))
  (fun c _ _ ha hb L E=>(D5 G c E).bind fun v=>v.asBool.bind fun x=>bif x then ha L E else hb L E)
  (fun xs _ ih L E=>(lQ G xs E).bind fun ds=>iter (fun rec vs=>ih (rec::L) (E++vs)) N ds)
  (fun j xs L E=>(lQ G xs E).bind fun ds=>(L[j]?).bind fun f=>f ds)
  (fun _ _ hk hb L E=>hb ((fun vs=>hk L (E++vs))::L) E)
  (fun _ _ _=>none) (fun _ _ _ _=>none) t
theorem n5(G:FP)(N:Nat): ∀(t:FT) (L:List (List D→Option D)) (E:List D),sn G N t L E=ae G N t L E:=by
 intro t
 induction t with
 |ret x=>
  intro L E;show(D5 G x E).bind _=_;rw[pY];simp only[ae]
  grind
 |fC xs k ih=>
  intro L E;show(lQ G xs E).bind (fun _=>sn G N k L E)=_;simp only[mN,ih,ae]
 |lets xs k ih=>
  intro L E;show(lQ G xs E).bind (fun ds=>sn G N k L (E++ds))=_;simp only[mN,ih,ae]
 |ite c a b iha ihb=>
  intro L E;show(D5 G c E).bind (fun v=>v.asBool.bind fun x=>bif x then sn G N a L E else sn G N b L E)=_;simp only[pY,iha,ihb,ae]
 |loop xs k ih=>
  intro L E;show(lQ G xs E).bind (fun ds=>iter (fun rec vs=>sn G N k (rec::L) (E++vs)) N ds)=_;simp only[mN,ih,ae]
 |next j xs=>
  intro L E;show(lQ G xs E).bind _=_;simp only[mN,ae]
 |jp k b ihk ihb=>
  intro L E;show sn G N b ((fun vs=>sn G N k L (E++vs))::L) E=_;simp only[ihk,ihb,ae]
 |st Y=>intro L E;rfl
 |bad w Y=>intro L E;rfl
def KC(T:Nat→Option (Nat×FT))(H:FP)(N k:Nat):FP:=
 @Nat.rec (fun _=>FP) (fun _ _=>none) (fun _ ih f ds=>(H f ds).casesOn ((T f).bind fun q=>bif Nat.beq ds.length q.1&&ds.all D.aF&&Nat.blt f 1000000 then sn ih N q.2 [] ds else none) some) k
end
section
def e_:FT→FT→Bool
 | .ret x, .ret y=>eJ x y
 | .fC xs k, .fC ys l=>oH xs ys&&e_ k l
 | .lets xs k, .lets ys l=>oH xs ys&&e_ k l
 | .ite c a b, .ite c' a' b'=>eJ c c'&&(e_ a a'&&e_ b b')
 | .loop xs k, .loop ys l=>oH xs ys&&e_ k l
 | .next i xs, .next j ys=>Nat.beq i j&&oH xs ys
 | .jp a b, .jp a' b'=>e_ a a'&&e_ b b'
 | .bad w none, .bad w' none=>Nat.beq w w'
 |_,_=>false
theorem fN: ∀(a b:FT),e_ a b=true→a=b
 | .ret x,b,h=>by cases b<;>simp[e_]at h;rw[ba _ _ h]
 | .fC xs k,b,h=>by cases b<;>simp[e_]at h;rw[ke _ _ h.1,fN _ _ h.2]
 | .lets xs k,b,h=>by cases b<;>simp[e_]at h;rw[ke _ _ h.1,fN _ _ h.2]
 | .ite c x y,b,h=>by cases b<;>simp[e_]at h;rw[ba _ _ h.1,fN _ _ h.2.1,fN _ _ h.2.2]
 | .loop xs k,b,h=>by cases b<;>simp[e_]at h;rw[ke _ _ h.1,fN _ _ h.2]
 | .next i xs,b,h=>by cases b<;>simp[e_]at h;rw[h.1,ke _ _ h.2]
 | .jp x y,b,h=>by cases b<;>simp[e_]at h;rw[fN _ _ h.1,fN _ _ h.2]
 | .st Y,b,h=>by cases b<;>simp[e_]at h
 | .bad w o,b,h=>by
  cases o with
  |some Y=>cases b<;>simp[e_]at h
  |none=>
   cases b with
   |bad w' o'=>
    cases o' with
    |some Y=>simp[e_]at h
    |none=>simp[e_]at h;rw[h]
   |_=>simp[e_]at h
def okF(C:Cx)(f n:Nat)(t:FT):Bool:=match mc C f with
 |some q=>Nat.beq q.1 n&&e_ (cse (Kk q.1) q.2) t
 |none=>false
def aM(C:Cx)(f n:Nat)(t:FT):Prop:= ∃t0,mc C f=some (n,t0)∧cse (Kk n) t0=t
theorem okF_eq{C:Cx}{f n:Nat}{t:FT}(h:okF C f n t=true):aM C f n t:=by
 unfold okF at h;split at h
 ·rename_i q hq;obtain⟨m,t0⟩:=q;simp only[Az]at h;obtain rfl:=Nat.eq_of_beq_eq_true h.1;exact⟨t0,hq,fN _ _ h.2⟩
 ·cases h
inductive Tr where
 |no
 |lf (f n:Nat) (t:FT)
 |nd (m:Nat) (a b:Tr)
noncomputable def Tr.get(r:Tr)(f:Nat):Option (Nat×FT):=
 @Tr.rec (fun _=>Option (Nat×FT)) none (fun g n t=>bif Nat.beq f g then some (n,t)else none) (fun m _ _ a b=>bif Nat.blt f m then a else b) r
def Tr.Rp(C:Cx):Tr→Prop
 | .no=>True
 | .lf f n t=>aM C f n t
 | .nd _ a b=>a.Rp C∧b.Rp C
theorem Tr.Ci{C:Cx}{f n:Nat}{t:FT}: ∀{r:Tr},r.Rp C→r.get f=some (n,t)→aM C f n t
 | .no,_,h=>by cases h
 | .lf g m u,ha,h=>by
  have h:(bif Nat.beq f g then some (m,u)else none)=some (n,t):=h;cases hb:Nat.beq f g with
  |true=>rw[hb]at h;cases h;rw[Nat.eq_of_beq_eq_true hb];exact ha
  |false=>rw[hb]at h;cases h
 | .nd m a b,ha,h=>by
  have h:(bif Nat.blt f m then a.get f else b.get f)=some (n,t):=h;cases hb:Nat.blt f m with
  |true=>rw[hb]at h;exact Ci ha.1 h
  |false=>rw[hb]at h;exact Ci ha.2 h
theorem Ca{C:Cx}{H:FP}{N:Nat}{r:Tr}(hr:r.Rp C): ∀(k f:Nat) (ds:List D) (d:D),KC r.get H N k f ds=some d→Gs C H N k f ds=some d
 |0,f,ds,d,h=>by cases h
 |k+1,f,ds,d,h=>by
  show(H f ds).or _=some d;cases hh:H f ds with
  |some d0=>
   have h:(H f ds).casesOn ((r.get f).bind fun q=>bif Nat.beq ds.length q.1&&ds.all D.aF&&Nat.blt f 1000000 then sn (KC r.get H N k) N q.2 [] ds else none) some=some d:=h;rw[hh]at h;exact h
  |none=>
   have h:(H f ds).casesOn ((r.get f).bind fun q=>bif Nat.beq ds.length q.1&&ds.all D.aF&&Nat.blt f 1000000 then sn (KC r.get H N k) N q.2 [] ds else none) some=some d:=h;rw[hh]at h;obtain⟨⟨n,t⟩,h1,h2⟩:=Bz.1 (show((r.get f).bind fun q=>bif Nat.beq ds.length q.1&&ds.all D.aF&&Nat.blt f 1000000 then sn (KC r.get H N k) N q.2 [] ds else none)=some d from h);cases hc:(Nat.beq ds.length n&&ds.all D.aF&&Nat.blt f 1000000)with
   |false=>rw[hc]at h2;cases h2
   |true=>
    rw[hc]at h2;simp only[Az]at hc;obtain⟨⟨c1,c2⟩,c3⟩:=hc;obtain rfl:=Nat.eq_of_beq_eq_true c1;have c3:f<1000000:=by simpa[Nat.blt_eq]using c3
    obtain⟨t0,k1,k2⟩:=Tr.Ci hr h1;rw[k1,Oz];rw[if_pos ⟨⟨rfl,c2⟩,c3⟩];rw[n5]at h2;obtain⟨k0,hk⟩:=fR (G:=KC r.get H N k) (Gk:=fun _=>Gs C H N k) (fun f ds d h=>⟨0,fun _ _=>Ca hr k f ds d h⟩) (Lk:=fun _=> []) t (fun j f hf=>by simp at hf) h2;exact xC (q:=(ds.length,t0)) rfl (by rw[←k2]at hk;exact hk k0 (Nat.le_refl _))
structure cS where
 ds:List D
 r:D
abbrev KT:=List (Nat×List cS)
def KT.OK(P:Program)(l:KT):Prop:= ∀p∈l,∀e∈p.2,p.1<1000000∧U7 P p.1 e.ds e.r
theorem KT.OK.append{P:Program}{l m:KT}(h:l.OK P)(k:m.OK P):KT.OK P (l++m):=fun p hp=>(List.mem_append.1 hp).elim (h p) (k p)
end
noncomputable section
def gh{α β:Type}(o:Option α)(f:α→Option β):Option β:= @Option.rec α (fun _=>Option β) none f o
theorem cm{α β:Type}(o:Option α)(f:α→Option β):gh o f=o.bind f:=by cases o<;>rfl
def bZ{α:Type}(b:Bool)(x y:α):α:= @Bool.rec (fun _=>α) y x b
theorem bX{α:Type}(b:Bool)(x y:α):bZ b x y=if b=true then x else y:=by cases b<;>rfl
theorem tJ{α:Type}(x y:α):bZ true x y=x:=rfl
theorem FC{α:Type}(x y:α):bZ false x y=y:=rfl
def dV{α:Type}(z:α)(f:Value→α)(d:D):α:= @D.casesOn (fun _=>α) d z f z z (fun _=>z) (fun _=>z) (fun _=>z) (fun _=>z) (fun _ _=>z) (fun _ _ _ _ _=>z) (fun _ _=>z) (fun _ _ _ _=>z) (fun _=>z) z (fun _=>z)
def dList{α:Type}(z:α)(f:List (List D)→α)(d:D):α:= @D.casesOn (fun _=>α) d z (fun _=>z) z z f (fun _=>z) (fun _=>z) (fun _=>z) (fun _ _=>z) (fun _ _ _ _ _=>z) (fun _ _=>z) (fun _ _ _ _=>z) (fun _=>z) z (fun _=>z)
def oJ{α:Type}(z:α)(f:List D→α)(d:D):α:= @D.casesOn (fun _=>α) d z (fun _=>z) z z (fun _=>z) f (fun _=>z) (fun _=>z) (fun _ _=>z) (fun _ _ _ _ _=>z) (fun _ _=>z) (fun _ _ _ _=>z) (fun _=>z) z (fun _=>z)
def Ff{α:Type}(z:α)(f:List D→α)(d:D):α:= @D.casesOn (fun _=>α) d z (fun _=>z) z z (fun _=>z) (fun _=>z) f (fun _=>z) (fun _ _=>z) (fun _ _ _ _ _=>z) (fun _ _=>z) (fun _ _ _ _=>z) (fun _=>z) z (fun _=>z)
def v8{α:Type}(z:α)(f:List D→α)(d:D):α:= @D.casesOn (fun _=>α) d z (fun _=>z) z z (fun _=>z) (fun _=>z) (fun _=>z) f (fun _ _=>z) (fun _ _ _ _ _=>z) (fun _ _=>z) (fun _ _ _ _=>z) (fun _=>z) z (fun _=>z)
def vI{α:Type}(z:α)(f:IntKind→Int→α)(v:Value):α:= @Value.casesOn (fun _=>α) v (fun _=>z) f (fun _ _=>z) (fun _ _ _=>z) (fun _=>z) (fun _=>z) (fun _ _ _=>z) (fun _=>z) (fun _=>z) (fun _ _ _=>z) z (fun _ _=>z) z (fun _=>z) (fun _=>z)
def vB{α:Type}(z:α)(f:Bool→α)(v:Value):α:= @Value.casesOn (fun _=>α) v f (fun _ _=>z) (fun _ _=>z) (fun _ _ _=>z) (fun _=>z) (fun _=>z) (fun _ _ _=>z) (fun _=>z) (fun _=>z) (fun _ _ _=>z) z (fun _ _=>z) z (fun _=>z) (fun _=>z)
def gq(p:D→Bool)(l:List D):Bool:= @List.rec D (fun _=>Bool) true (fun a _ ih=>bZ (p a) ih false) l
theorem dO(p:D→Bool): ∀l,gq p l=l.all p
 | []=>rfl
 |a::r=>by
  show bZ (p a) (gq p r) false=_;rw[dO p r,List.all_cons];cases p a<;>rfl
def R_(d:D):Bool:= @D.casesOn (fun _=>Bool) d false (fun _=>true) true true (fun _=>true) (fun _=>false) (fun _=>false) (fun _=>true) (fun _ _=>false) (fun _ _ _ _ _=>false) (fun _ _=>false) (fun _ _ _ _=>false) (fun _=>false) true (fun _=>true)
theorem Cc:R_=D.eT:=by funext d;cases d<;>rfl
def No(d:D):Bool:= @D.casesOn (fun _=>Bool) d false (fun _=>true) true true (fun _=>true) (fun _=>false) (fun _=>false) (fun _=>true) (fun _ xs=>gq R_ xs) (fun _ _ _ _ _=>false) (fun _ _=>false) (fun _ _ _ _=>false) (fun _=>false) true (fun _=>true)
theorem xO:No=D.aO:=by
 funext d;cases d<;>try rfl
 show gq R_ _=_;rw[dO,Cc];rfl
def fTU(d:D):Bool:= @D.casesOn (fun _=>Bool) d false (fun _=>true) true true (fun _=>true) (fun xs=>gq No xs) (fun _=>false) (fun _=>true) (fun _ xs=>gq R_ xs) (fun _ _ _ _ _=>false) (fun _ _=>false) (fun _ _ _ _=>false) (fun _=>false) true (fun _=>true)
theorem Sa:fTU=fun d=>match d with
  | .agg ys=>ys.all D.aO
  |d=>d.aO:=by
 funext d;cases d<;>first|rfl|(show gq No _=_;rw[dO,xO];done)|(show gq R_ _=_;rw[dO,Cc];rfl)
def fT(d:D):Bool:= @D.casesOn (fun _=>Bool) d false (fun _=>true) true true (fun _=>true) (fun xs=>gq No xs) (fun xs=>gq fTU xs) (fun _=>true) (fun _ xs=>gq No xs) (fun _ _ _ _ _=>false) (fun _ _=>false) (fun _ _ _ _=>false) (fun _=>false) true (fun _=>true)
theorem tw:fT=D.aF:=by
 funext d;cases d<;>first|rfl|(show gq No _=_;rw[dO,xO];rfl)|(show gq fTU _=_;rw[dO,Sa];rfl)
def fOk(d:D):Bool:= @D.casesOn (fun _=>Bool) d false (fun _=>true) true true (fun _=>true) (fun _=>false) (fun _=>false) (fun _=>true) (fun _ xs=>gq R_ xs) (fun _ _ _ _ _=>false) (fun _ _=>false) (fun _ _ _ _=>false) (fun _=>false) true (fun _=>true)
theorem R9(d:D):fOk d=(d.gH&&d.aO):=by
 cases d<;>first|rfl|(show gq R_ _=_;rw[dO,Cc];rfl)
def JL(d:D):Bool:=dV false (fun _=>true) d
theorem xN:JL=D.aY:=by funext d;cases d<;>rfl
def rR{α:Type}(l:List α):Nat→Nat:= @List.rec α (fun _=>Nat→Nat) (fun n=>n) (fun _ _ ih n=>ih (Nat.add n 1)) l
theorem iw{α:Type}: ∀(l:List α) (n:Nat),rR l n=n+l.length
 | [],_=>rfl
 |_::r,n=>by
  show rR r (n+1)=_;rw[iw r,List.length_cons];omega
def Iz(l:List D)(n:Nat):Bool:=Nat.beq (rR l 0) n
theorem IA(l:List D)(n:Nat):Iz l n=decide (l.length=n):=by
 unfold Iz;rw[iw,Nat.zero_add];cases h:Nat.beq l.length n with
 |true=>simp[Nat.eq_of_beq_eq_true h]
 |false=>symm;simp only[decide_eq_false_iff_not];intro e;rw[e,Nat.beq_refl]at h;cases h
def Sc{α:Type}(n:Nat)(f:Nat→α):α:= @Nat.casesOn (fun _=>α) n (f 0) fun m=>f (Nat.succ m)
theorem pZ{α:Type}(n:Nat)(f:Nat→α):Sc n f=f n:=by cases n<;>rfl
def fcI{α:Type}(z:Int)(f:Int→α):α:= @Int.casesOn (fun _=>α) z (fun n=>Sc n fun n=>f (Int.ofNat n)) fun n=>Sc n fun n=>f (Int.negSucc n)
theorem Sb{α:Type}(z:Int)(f:Int→α):fcI z f=f z:=by
 cases z with
 |ofNat n=>exact pZ n fun n=>f (Int.ofNat n)
 |negSucc n=>exact pZ n fun n=>f (Int.negSucc n)
def vp(m n:Nat):Int:=bZ (Nat.ble n m) (Int.ofNat (Nat.sub m n)) (Int.negSucc (Nat.sub (Nat.sub n m) 1))
theorem sF(m n:Nat):vp m n=(m:Int)-n:=by
 unfold vp;cases h:Nat.ble n m with
 |true=>
  have h:=Nat.le_of_ble_eq_true h;show((m-n:Nat):Int)=_;omega
 |false=>
  have h: ¬n≤m:=fun e=>by rw[Nat.ble_eq_true_of_le e]at h;cases h
  show Int.negSucc (n-m-1)=_;omega
def Vu(a b:Int):Int:= @Int.casesOn (fun _=>Int) a (fun m=> @Int.casesOn (fun _=>Int) b (fun n=>Int.ofNat (Nat.add m n)) fun n=>vp m (Nat.succ n)) fun m=> @Int.casesOn (fun _=>Int) b (fun n=>vp n (Nat.succ m)) fun n=>Int.negSucc (Nat.succ (Nat.add m n))
theorem JV(a b:Int):Vu a b=a+b:=by
 cases a<;>cases b<;>rename_i m n
 ·rfl
 ·show vp _ _=_;rw[sF,Int.ofNat_eq_natCast];omega
 ·show vp _ _=_;rw[sF,Int.ofNat_eq_natCast];omega
 ·rfl
def Z5(a b:Int):Int:= @Int.casesOn (fun _=>Int) a (fun m=> @Int.casesOn (fun _=>Int) b (fun n=>vp m n) fun n=>Int.ofNat (Nat.add m (Nat.succ n))) fun m=> @Int.casesOn (fun _=>Int) b (fun n=>Int.negSucc (Nat.add m n)) fun n=>vp n m
theorem Mw(a b:Int):Z5 a b=a-b:=by
 cases a<;>cases b
 ·show vp _ _=_;rw[sF];rfl
 ·rename_i m n;show((m+(n+1):Nat):Int)=(m:Int)-Int.negSucc n;omega
 ·rename_i m n;show Int.negSucc (m+n)=Int.negSucc m-(n:Int);omega
 ·rename_i m n;show vp _ _=_;rw[sF];omega
def wD(a b:Int):Bool:= @Int.casesOn (fun _=>Bool) a (fun m=> @Int.casesOn (fun _=>Bool) b (fun n=>Nat.blt m n) fun _=>false) fun m=> @Int.casesOn (fun _=>Bool) b (fun _=>true) fun n=>Nat.blt n m
theorem TB(a b:Int):wD a b=decide (a<b):=by
 cases a<;>cases b<;>rename_i m n
 ·show Nat.blt m n=_;rw[Bool.eq_iff_iff];simp[Nat.blt_eq]
 ·symm;show decide ((m:Int)<Int.negSucc n)=false;simp only[decide_eq_false_iff_not];omega
 ·symm;show decide (Int.negSucc m<(n:Int))=true;simp only[decide_eq_true_eq];omega
 ·show Nat.blt n m=_;rw[Bool.eq_iff_iff,Nat.blt_eq,decide_eq_true_eq];omega
def VS(a b:Int):Bool:= @Int.casesOn (fun _=>Bool) a (fun m=> @Int.casesOn (fun _=>Bool) b (fun n=>Nat.beq m n) fun _=>false) fun m=> @Int.casesOn (fun _=>Bool) b (fun _=>false) fun n=>Nat.beq m n
theorem FU(m n:Nat):Nat.beq m n=decide (m=n):=by
 cases h:Nat.beq m n with
 |true=>simp[Nat.eq_of_beq_eq_true h]
 |false=>symm;simp only[decide_eq_false_iff_not];intro e;rw[e,Nat.beq_refl]at h;cases h
theorem B_(a b:Int):VS a b=(a==b):=by
 cases a<;>cases b<;>rename_i m n
 ·show Nat.beq m n=_;rw[Bool.eq_iff_iff];simp;omega
 ·rfl
 ·rfl
 ·show Nat.beq m n=_;rw[Bool.eq_iff_iff];simp
def hiK(k:IntKind):Nat:= @IntKind.casesOn (fun _=>Nat) k 128 32768 2147483648 9223372036854775808 256 65536 4294967296 18446744073709551616
def loK(k:IntKind):Nat:= @IntKind.casesOn (fun _=>Nat) k 128 32768 2147483648 9223372036854775808 0 0 0 0
def JE(k:IntKind)(z:Int):Int:= @Int.casesOn (fun _=>Int) z (fun n=>bZ (Nat.blt n (hiK k)) (Int.ofNat n) (k.wrap (Int.ofNat n))) fun n=>bZ (Nat.blt n (loK k)) (Int.negSucc n) (k.wrap (Int.negSucc n))
theorem iC(k:IntKind)(z:Int)(h1: -(loK k:Int)≤z)(h2:z<(hiK k:Int)):k.wrap z=z:=by
 cases k
 case i8=>replace h1: -(128:Int)≤z:=h1;replace h2:z<(128:Int):=h2;simp only[IntKind.wrap,IntKind.bits,IntKind.signed,Bool.true_and];split<;>rename_i h<;>simp at h<;>omega
 case i16=>replace h1: -(32768:Int)≤z:=h1;replace h2:z<(32768:Int):=h2;simp only[IntKind.wrap,IntKind.bits,IntKind.signed,Bool.true_and];split<;>rename_i h<;>simp at h<;>omega
 case i32=>replace h1: -(2147483648:Int)≤z:=h1;replace h2:z<(2147483648:Int):=h2;simp only[IntKind.wrap,IntKind.bits,IntKind.signed,Bool.true_and];split<;>rename_i h<;>simp at h<;>omega
 case i64=>replace h1: -(9223372036854775808:Int)≤z:=h1;replace h2:z<(9223372036854775808:Int):=h2;simp only[IntKind.wrap,IntKind.bits,IntKind.signed,Bool.true_and];split<;>rename_i h<;>simp at h<;>omega
 case u8=>replace h1: -(0:Int)≤z:=h1;replace h2:z<(256:Int):=h2;simp[IntKind.wrap,IntKind.bits,IntKind.signed];omega
 case u16=>replace h1: -(0:Int)≤z:=h1;replace h2:z<(65536:Int):=h2;simp[IntKind.wrap,IntKind.bits,IntKind.signed];omega
 case u32=>replace h1: -(0:Int)≤z:=h1;replace h2:z<(4294967296:Int):=h2;simp[IntKind.wrap,IntKind.bits,IntKind.signed];omega
 case u64=>replace h1: -(0:Int)≤z:=h1;replace h2:z<(18446744073709551616:Int):=h2;simp[IntKind.wrap,IntKind.bits,IntKind.signed];omega
theorem JF(k:IntKind)(z:Int):JE k z=k.wrap z:=by
 cases z with
 |ofNat n=>
  show bZ (Nat.blt n (hiK k)) (Int.ofNat n) (k.wrap (Int.ofNat n))=_;cases h:Nat.blt n (hiK k)with
  |false=>rfl
  |true=>
   rw[Nat.blt_eq]at h;rw[tJ,iC k _ (by rw[Int.ofNat_eq_natCast];omega) (by rw[Int.ofNat_eq_natCast];omega)]
 |negSucc n=>
  show bZ (Nat.blt n (loK k)) (Int.negSucc n) (k.wrap (Int.negSucc n))=_;cases h:Nat.blt n (loK k)with
  |false=>rfl
  |true=>
   rw[Nat.blt_eq]at h;rw[tJ,iC k _ (by omega) (by omega)]
def Xu(k:IntKind):Nat:= @IntKind.casesOn (fun _=>Nat) k 0 1 2 3 4 5 6 7
def KA(k k':IntKind):Bool:=Nat.beq (Xu k) (Xu k')
theorem D4(k k':IntKind):KA k k'=decide (k=k'):=by cases k<;>cases k'<;>rfl
end
noncomputable section
def vq(z:Option D)(f:D→Option D)(ds:List D):Option D:=ds.casesOn z fun a r=>r.casesOn (f a) fun _ _=>z
def A4(z:Option D)(f:D→D→Option D)(ds:List D):Option D:=ds.casesOn z fun a r=>r.casesOn z fun b s=>s.casesOn (f a b) fun _ _=>z
theorem iz{z:Option D}{f:D→Option D}{ds:List D}(h: ∀a,ds= [a]→f a=z):vq z f ds=z:=by
 rcases ds with _|⟨a,_|⟨b,r⟩⟩
 ·rfl
 ·exact h a rfl
 ·rfl
theorem mV{z:Option D}{f:D→D→Option D}{ds:List D}(h: ∀a b,ds= [a,b]→f a b=z):A4 z f ds=z:=by
 rcases ds with _|⟨a,_|⟨b,_|⟨c,r⟩⟩⟩
 ·rfl
 ·rfl
 ·exact h a b rfl
 ·rfl
theorem qK{α:Type}{z:α}{f:Value→α}{d:D}(h: ∀v,d= .v v→f v=z):dV z f d=z:=by cases d<;>first|rfl|exact h _ rfl
theorem mh{α:Type}{z:α}{f:List (List D)→α}{d:D}(h: ∀v,d= .list v→f v=z):dList z f d=z:=by cases d<;>first|rfl|exact h _ rfl
theorem sj{α:Type}{z:α}{f:List D→α}{d:D}(h: ∀v,d= .agg v→f v=z):oJ z f d=z:=by cases d<;>first|rfl|exact h _ rfl
theorem Ko{α:Type}{z:α}{f:List D→α}{d:D}(h: ∀v,d= .tup v→f v=z):Ff z f d=z:=by cases d<;>first|rfl|exact h _ rfl
theorem Aa{α:Type}{z:α}{f:List D→α}{d:D}(h: ∀v,d= .lptr v→f v=z):v8 z f d=z:=by cases d<;>first|rfl|exact h _ rfl
theorem rz{α:Type}{z:α}{f:IntKind→Int→α}{v:Value}(h: ∀k n,v= .int k n→f k n=z):vI z f v=z:=by cases v<;>first|rfl|exact h _ _ rfl
theorem Rj{α:Type}{z:α}{f:Bool→α}{v:Value}(h: ∀b,v= .bool b→f b=z):vB z f v=z:=by cases v<;>first|rfl|exact h _ rfl
def wY{α:Type}(p:α→Bool)(n:Nat):List α→(List α→Option D)→Option D:= @Nat.rec (fun _=>List α→(List α→Option D)→Option D) (fun _ f=>f []) (fun _ ih l f=>l.casesOn none fun a r=>bZ (p a) (ih r fun t=>f (a::t)) none) n
theorem uR{α:Type}(p:α→Bool): ∀(n:Nat) (l:List α) (f:List α→Option D),wY p n l f=if n≤l.length∧(l.take n).all p=true then f (l.take n)else none
 |0,l,f=>by show f []=_;simp
 |n+1,[],f=>by simp[wY]
 |n+1,a::r,f=>by
  show bZ (p a) (wY p n r fun t=>f (a::t)) none=_;rw[uR p n r,bX];simp only[List.length_cons,List.take_succ_cons,List.all_cons,Az,Nat.add_le_add_iff_right];cases p a<;>simp
def Ho(n:Nat):List D→(List D→Option D)→Option D:= @Nat.rec (fun _=>List D→(List D→Option D)→Option D) (fun l f=>f l) (fun _ ih l f=>l.casesOn (f []) fun _ r=>ih r f) n
theorem Ag: ∀(n:Nat) (l:List D) (f:List D→Option D),Ho n l f=f (l.drop n)
 |0,_,_=>rfl
 |n+1,[],f=>rfl
 |n+1,a::r,f=>by
  show Ho n r f=_;rw[Ag n r,List.drop_succ_cons]
theorem yj{α:Type}: ∀(i:Nat) (l:List α),CN i l=l[i]?
 |0,[]=>rfl
 |0,_::_=>rfl
 |_+1,[]=>rfl
 |i+1,_::r=>yj i r
def okL(n:Nat)(l:List D):Nat→Bool:= @List.rec D (fun _=>Nat→Bool) (fun m=>Nat.beq m n) (fun a _ ih m=>bZ (fOk a) (ih (Nat.add m 1)) false) l
theorem IP(n:Nat): ∀(l:List D) (m:Nat),okL n l m=(decide (m+l.length=n)&&(l.all D.gH&&l.all D.aO))
 | [],m=>by show Nat.beq m n=_;rw[FU];simp
 |a::r,m=>by
  show bZ (fOk a) (okL n r (m+1)) false=_;rw[IP n r,R9,List.length_cons,List.all_cons,List.all_cons,show m+1+r.length=m+(r.length+1) by omega];cases a.gH<;>cases a.aO<;>simp[bZ]
def sB(b:Bool):Option D:=bZ b (some (bv true)) (some (bv false))
theorem Pf(b:Bool):sB b=some (bv b):=by cases b<;>rfl
def sI(k:IntKind)(z:Int):Option D:=fcI z fun z=>some (.v (.int k z))
theorem ZW(k:IntKind)(z:Int):sI k z=some (.v (.int k z)):=Sb _ _
def ibK(op:BinOp):IntKind→Int→Int→Option D:=match op with
 | .add=>fun k a b=>sI k (JE k (Vu a b))
 | .sub=>fun k a b=>sI k (JE k (Z5 a b))
 | .eql=>fun _ a b=>sB (VS a b)
 | .neq=>fun _ a b=>sB (not (VS a b))
 | .lss=>fun _ a b=>sB (wD a b)
 | .leq=>fun _ a b=>sB (not (wD b a))
 | .gtr=>fun _ a b=>sB (wD b a)
 | .geq=>fun _ a b=>sB (not (wD a b))
 |op=>fun k a b=>cZ op k a b
theorem SQ(op:BinOp)(k:IntKind)(a b:Int):ibK op k a b=cZ op k a b:=by
 cases op<;>try rfl
 all_goals simp only[ibK,cZ,Pf,ZW,JF,JV,Mw,B_,TB]
 ·rfl
 ·congr 2;simp[←Bool.decide_eq_false,Int.not_lt]
 ·congr 2;simp[←Bool.decide_eq_false,Int.not_lt]
theorem FA{op:BinOp}{k:IntKind}{a b:Int}{d:D}(h:cZ op k a b=some d):d.aF=true:=by
 unfold cZ at h;split at h<;>first|(cases h;rfl)|(split at h<;>cases h;rfl)|cases h
def Xo(op:BinOp)(k:IntKind)(a:Int)(k':IntKind)(b:Int):Option D:=bZ (KA k k') (ibK op k a b) none
def Xn(z:Option D)(op:BinOp)(y:D)(k:IntKind)(a:Int):Option D:=dV z (vI z (Xo op k a)) y
def NM(op:BinOp)(ds:List D):Option D:=A4 (fx (.ibin op) ds) (fun x y=>dV (fx (.ibin op) ds) (vI (fx (.ibin op) ds) (Xn (fx (.ibin op) ds) op y)) x) ds
theorem Ig(op:BinOp):NM op=fx (.ibin op):=funext fun ds=>mV fun x y e=>qK fun v ev=>rz fun k a ea=>qK fun w ew=>rz fun k' b eb=>by
 subst e ev ea ew eb;show bZ (KA k k') (ibK op k a b) none=(if k=k' then cZ op k a b else none).bind fun d=>if d.aF then some d else none
 rw[D4,bX,SQ];by_cases h:k=k'
 ·rw[if_pos h,if_pos (by simp[h])];cases hb:cZ op k a b with
  |none=>rfl
  |some d=>rw[Oz,if_pos (FA hb)]
 ·rw[if_neg h,if_neg (by simp[h])];rfl
def NQ(ds:List D):Option D:=vq (fx .llen ds) (dList (fx .llen ds) fun es=>Sc (rR es 0) fun n=>some (.v (.int .i64 (Int.ofNat n)))) ds
theorem Il:NQ=fx .llen:=funext fun ds=>iz fun d e=>mh fun es ee=>by
 subst e ee;rw[pZ,iw,Nat.zero_add];rfl
def kl1(n:Nat)(xs:List D):Option D:=bZ (Nat.ble n (rR xs 0)) (gh (nth xs 0) fun d=>bZ (fT d) (some d) none) none
def Im(n:Nat)(g:Bool)(ds:List D):Option D:=vq (fx (.load n g) ds) (v8 (fx (.load n g) ds) fun xs=>bZ g (wY No n xs fun l=>some (.agg l)) (kl1 n xs)) ds
theorem FH(n:Nat)(g:Bool):Im n g=fx (.load n g):=funext fun ds=>iz fun d e=>Aa fun xs ee=>by
 subst e ee;show _=(if n≤xs.length then(if g then some (.agg (xs.take n))else xs[0]?)else none).bind fun d=>if d.aF then some d else none
 cases g with
 |true=>
  rw[tJ,uR,xO];by_cases h1:n≤xs.length
  ·rw[if_pos h1];show _=if(xs.take n).all D.aO=true then _ else none
   by_cases h2:(xs.take n).all D.aO=true
   ·rw[if_pos ⟨h1,h2⟩,if_pos h2]
   ·rw[if_neg (fun c=>h2 c.2),if_neg h2]
  ·rw[if_neg h1,if_neg (fun c=>h1 c.1)];rfl
 |false=>
  rw[FC];unfold kl1;rw[iw,Nat.zero_add,oi,cm,bX,tw];by_cases h1:n≤xs.length
  ·rw[if_pos (Nat.ble_eq_true_of_le h1),if_pos h1];congr 1;funext d;rw[bX]
  ·rw[if_neg h1,if_neg (fun c=>h1 (Nat.le_of_ble_eq_true c))];rfl
def ki1(size:Nat)(c:List D):Option D:=bZ (Iz c size) (some (.lptr c)) none
def ki2(es:List (List D))(size:Nat)(i:Int):Option D:= @Int.casesOn (fun _=>Option D) i (fun n=>gh (CN n es) (ki1 size)) fun _=>none
def ki3(z:Option D)(size:Nat)(b:D)(es:List (List D)):Option D:=dV z (vI z fun _ i=>ki2 es size i) b
def NP(e size:Nat)(ds:List D):Option D:=A4 (fx (.idx e size) ds) (fun a b=>dList (fx (.idx e size) ds) (ki3 (fx (.idx e size) ds) size b) a) ds
theorem Ik(e size:Nat):NP e size=fx (.idx e size):=funext fun ds=>mV fun a b e1=>mh fun es e2=>qK fun v e3=>rz fun k i e4=>by
 subst e1 e2 e3 e4;show ki2 es size i=(if i<0 then none else(es[i.toNat]?).bind fun c=>if c.length=size then some (D.lptr c)else none).bind fun d=>if d.aF then some d else none
 cases i with
 |ofNat n=>
  show gh (CN n es) (ki1 size)=_;rw[if_neg (by rw[Int.ofNat_eq_natCast];omega),cm,yj];show _=((es[n]?).bind _).bind _;cases es[n]? with
  |none=>rfl
  |some c=>
   rw[Oz,Oz];unfold ki1;rw[IA,bX];by_cases h:c.length=size
   ·rw[if_pos h,if_pos (by simp[h])];rfl
   ·rw[if_neg h,if_neg (by simp[h])];rfl
 |negSucc n=>rw[if_pos (by omega)];rfl
def NO(off:Nat)(ds:List D):Option D:=vq (fx (.fld off) ds) (v8 (fx (.fld off) ds) fun xs=>Ho off xs fun l=>some (.lptr l)) ds
theorem Ij(off:Nat):NO off=fx (.fld off):=funext fun ds=>iz fun d e=>Aa fun xs ee=>by
 subst e ee;rw[Ag];rfl
def NR(ds:List D):Option D:=vq (fx .inot ds) (dV (fx .inot ds) (vB (fx .inot ds) fun b=>sB (not b))) ds
theorem Iq:NR=fx .inot:=funext fun ds=>iz fun d e=>qK fun v e1=>Rj fun b e2=>by
 subst e e1 e2;rw[Pf];rfl
def K'(d:D):Option D:=bZ (fT d) (some d) none
def NN(k:Nat)(ds:List D):Option D:=vq (fx (.ext k) ds) (Ff (fx (.ext k) ds) fun xs=>gh (nth xs k) K') ds
theorem Ii(k:Nat):NN k=fx (.ext k):=funext fun ds=>iz fun d e=>Ko fun xs ee=>by
 subst e ee;rw[cm,oi];show(xs[k]?).bind K'=(xs[k]?).bind _;congr 1;funext d;unfold K';rw[bX,tw]
def fp(n:Nat)(x y:D):Option Bool:=aa [n] [x] [y]
def kq2(z:Option Bool)(n:Nat)(k:IntKind)(a:Int)(k':IntKind)(b:Int):Option Bool:=bZ (Nat.beq n (Xu k)) (bZ (Nat.beq n (Xu k')) (some (VS a b)) z) z
def kq1(z:Option Bool)(n:Nat)(y:D)(k:IntKind)(a:Int):Option Bool:=dV z (vI z (kq2 z n k a)) y
def vY(n:Nat)(x y:D):Option Bool:=dV (fp n x y) (vI (fp n x y) (kq1 (fp n x y) n y)) x
theorem Iv(k:IntKind):Xu k=bn k:=by cases k<;>rfl
theorem zL(n:Nat)(x y:D):vY n x y=fp n x y:=qK fun v e1=>rz fun k a e2=>qK fun w e3=>rz fun k' b e4=>by
 subst e1 e2 e3 e4;unfold kq2;rw[Iv,Iv,FU,FU,bX,bX];by_cases h:n=bn k
 ·by_cases h':n=bn k'
  ·rw[if_pos (by simp[h]),if_pos (by simpa using h')];show _=if n=bn k∧n=bn k' then _ else none
   rw[if_pos ⟨h,h'⟩,B_];simp[aa]
  ·rw[if_pos (by simp[h]),if_neg (by simpa using h')]
 ·rw[if_neg (by simpa using h)]
def Hp(ks:List Nat):List D→List D→Option Bool:= @List.rec Nat (fun _=>List D→List D→Option Bool) (fun xs ys=>xs.casesOn (ys.casesOn (some true) fun _ _=>none) fun _ _=>none)
 (fun n _ ih xs ys=>xs.casesOn none fun x r=>ys.casesOn none fun y s=>gh (vY n x y) fun a=>gh (ih r s) fun b=>some (bZ a b false)) ks
theorem kZ(n:Nat)(ks:List Nat)(x:D)(xs:List D)(y:D)(ys:List D):aa (n::ks) (x::xs) (y::ys)=(fp n x y).bind fun a=>(aa ks xs ys).bind fun b=>some (a&&b):=by
 unfold fp;have key:aa [] [] []=some true:=rfl;have a: ∀(a:Bool),((aa ks xs ys).map fun r=>a&&r)=(aa ks xs ys).bind fun b=>some (a&&b):=fun a=>by cases aa ks xs ys<;>rfl
 rw[aa.eq_def (n::ks),aa.eq_def [n]];split
 ·rename_i h _ _;cases h
 ·rename_i n0 ks0 k a0 xs0 k' b0 ys0 h1 h2 h3;cases h1;cases h2;cases h3;simp only[key,Pz,Bool.and_true];split
  ·exact a _
  ·rfl
 ·rename_i h1 h2 h3;cases h1;cases h2;cases h3;simp only[key,Pz,Bool.and_true];exact a _
 ·rename_i h1 h2 h3;cases h1;cases h2;cases h3;simp only[key,Pz,Bool.and_true];exact a _
 ·rename_i h0 h1 h2 h3;split
  ·rename_i h _ _;cases h
  ·rename_i e1 e2 e3;cases e1;cases e2;cases e3;exact(h1 _ _ _ _ _ _ _ _ rfl rfl rfl).elim
  ·rename_i e1 e2 e3;cases e1;cases e2;cases e3;exact(h2 _ _ _ _ _ rfl rfl rfl).elim
  ·rename_i e1 e2 e3;cases e1;cases e2;cases e3;exact(h3 _ _ _ _ _ rfl rfl rfl).elim
  ·rfl
theorem xL: ∀(ks:List Nat) (xs ys:List D),Hp ks xs ys=aa ks xs ys
 | [],[],[]=>rfl
 | [],[],_::_=>by simp[aa];rfl
 | [],_::_,_=>by simp[aa];rfl
 |n::ks,[],_=>by simp[aa];rfl
 |n::ks,x::xs,[]=>by simp[aa];rfl
 |n::ks,x::xs,y::ys=>by
  show gh (vY n x y) (fun a=>gh (Hp ks xs ys) fun b=>some (bZ a b false))=_;rw[kZ,cm,zL,xL ks xs ys];congr 1;funext a;rw[cm];congr 1;funext b;cases a<;>rfl
def kae(neg:Bool)(r:Bool):Option D:=bZ neg (sB (not r)) (sB r)
def NL(neg:Bool)(ks:List Nat)(ds:List D):Option D:=A4 (fx (.aeq neg ks) ds) (fun a b=>oJ (fx (.aeq neg ks) ds) (fun xs=>oJ (fx (.aeq neg ks) ds) (fun ys=>gh (Hp ks xs ys) (kae neg)) b) a) ds
theorem Ib(neg:Bool)(ks:List Nat):NL neg ks=fx (.aeq neg ks):=funext fun ds=>mV fun a b e=>sj fun xs e1=>sj fun ys e2=>by
 subst e e1 e2;rw[cm,xL];show _=((aa ks xs ys).map fun r=>bv (if neg then !r else r)).bind fun d=>if d.aF then some d else none
 cases aa ks xs ys with
 |none=>rfl
 |some r=>cases neg<;>cases r<;>rfl
def pkK(k:PK):List D→Option D:=match k with
 | .ibin op=>NM op
 | .llen=>NQ
 | .load n g=>Im n g
 | .idx e s=>NP e s
 | .fld o=>NO o
 | .inot=>NR
 | .ext k=>NN k
 | .aeq n ks=>NL n ks
 |k=>fx k
theorem TW(k:PK):pkK k=fx k:=by
 cases k<;>first|rfl|exact Ig _|exact Il|exact FH _ _|exact Ik _ _|exact Ij _|exact Iq|exact Ii _|exact Ib _ _
def kce(j n:Nat)(v:Value):Option D:=bZ (Nat.beq n 1) (bZ (Nat.beq j 0) (some (.v v)) none) none
def Ih(j n:Nat)(ds:List D):Option D:=vq (zk j n ds) (fun d=>oJ (dV (zk j n ds) (kce j n) d) (fun xs=>bZ (okL n xs 0) (nth xs j) none) d) ds
theorem FG(j n:Nat):Ih j n=zk j n:=funext fun ds=>iz fun d e=>by
 subst e;cases d<;>try rfl
 ·rename_i v;show kce j n v=if([D.v v].length=n∧ [D.v v].all D.gH=true∧ [D.v v].all D.aO=true)then [D.v v][j]? else none
  unfold kce;rw[FU,bX];by_cases h:n=1
  ·rw[if_pos (by simp[h]),if_pos ⟨by simp[h],rfl,rfl⟩,FU,bX];cases j<;>simp
  ·rw[if_neg (by simp[h]),if_neg (fun c=>h c.1.symm)]
 ·rename_i xs;show bZ (okL n xs 0) (nth xs j) none=if(xs.length=n∧xs.all D.gH=true∧xs.all D.aO=true)then xs[j]? else none
  rw[IP,bX,oi,Nat.zero_add];by_cases h:xs.length=n<;>cases xs.all D.gH<;>cases xs.all D.aO<;>simp[h]
def Xm(w:Bool)(ds:List D):Option D:=vq (JH w ds) (dV (JH w ds) (vB (JH w ds) fun b=>bZ b (sB w) (sB (not w)))) ds
theorem K9(w:Bool):Xm w=JH w:=funext fun ds=>iz fun d e=>qK fun v e1=>Rj fun b e2=>by
 subst e e1 e2;cases b<;>cases w<;>rfl
def NS(ds:List D):Option D:=vq (rH ds) (fun d=>oJ (dV (dList (rH ds) (fun _=>some d) d) (fun _=>some d) d) (fun xs=>bZ (gq JL xs) (some d) (rH ds)) d) ds
theorem AM:NS=rH:=funext fun ds=>iz fun d e=>by
 subst e;cases d<;>try rfl
 rename_i xs;show bZ (gq JL xs) (some (.agg xs)) (rH [.agg xs])=rH [.agg xs];rw[dO,xN,bX];by_cases h:xs.all D.aY=true
 ·rw[if_pos h]
  have hn:(D.agg xs).aF=true:=by
   show xs.all D.aO=true;rw[Tz]at h⊢;intro x hx;have:=h x hx;cases x<;>first|rfl|(simp[D.aY]at this;done)
  show _=if(D.agg xs).aF then bu dI (.agg xs)else none
  rw[if_pos hn];show _=(aW (ay dI 6) xs).map D.agg;unfold aW;rw[if_pos h];rfl
 ·rw[if_neg h]
def Ir(ds:List D):Option D:=vq (zm ds) (fun d=>dV (dList (zm ds) (fun _=>some d) d) (fun _=>some d) d) ds
theorem FK:Ir=zm:=funext fun ds=>iz fun d e=>by
 subst e;cases d<;>rfl
def kt1(es:List (List D))(k:Int):Option D:= @Int.casesOn (fun _=>Option D) k (fun n=>wY (fun _=>true) n es fun l=>some (.list l)) fun _=>none
def Is(ds:List D):Option D:=A4 (qD ds) (fun a b=>dList (qD ds) (fun es=>dV (qD ds) (vI (qD ds) fun _ i=>kt1 es i) b) a) ds
theorem FL:Is=qD:=funext fun ds=>mV fun a b e1=>mh fun es e2=>qK fun v e3=>rz fun k i e4=>by
 subst e1 e2 e3 e4;show kt1 es i=if 0≤i∧i≤es.length then some (D.list (es.take i.toNat))else none
 cases i with
 |ofNat n=>
  show wY (fun _=>true) n es _=_;rw[uR];by_cases h:n≤es.length
  ·rw[if_pos ⟨h,by simp⟩,if_pos ⟨by rw[Int.ofNat_eq_natCast];omega,by rw[Int.ofNat_eq_natCast];omega⟩];rfl
  ·rw[if_neg (fun c=>h c.1),if_neg (fun c=>h (by have:=c.2;rw[Int.ofNat_eq_natCast]at this;omega))]
 |negSucc n=>rw[if_neg (fun c=>by omega)];rfl
def Ic(ds:List D):Option D:=bZ (gq No ds) (some (.agg ds)) none
theorem Ie:Ic=JG:=funext fun ds=>by
 unfold Ic JG;rw[dO,xO,bX]
def fFU(d:D):Bool:=oJ (JL d) (fun ys=>gq JL ys) d
def fF(d:D):Bool:=oJ (Ff (JL d) (fun xs=>gq fFU xs) d) (fun xs=>gq JL xs) d
theorem Nn:fF=D.flat:=by
 funext d;cases d<;>try rfl
 ·show gq JL _=_;rw[dO,xN];rfl
 ·rename_i xs;show gq fFU xs=_;rw[dO];unfold D.flat;congr 1;funext x;cases x<;>try rfl
  show gq JL _=_;rw[dO,xN]
def kr2(fl:Bool)(r b:D):Option D:=bZ (bZ fl (bZ (fF b) true (bZ r.eS (fT b) false)) (fT b)) (some b) none
def CB(G:FP)(fl:Bool)(f:Nat)(ds:List D):Option D:=gh (G f ds) fun r=>kr2 fl r r.bare
theorem FF(G:FP)(fl:Bool)(f:Nat):CB G fl f=Dv G fl f:=funext fun ds=>by
 unfold CB Dv gn;rw[cm];congr 1;funext r;unfold kr2;rw[bX,Nn,tw];cases fl<;>cases r.bare.flat<;>cases r.eS<;>cases r.bare.aF<;>rfl
def js(ks:List Nat)(x y:D):Option Bool:= @List.casesOn Nat (fun _=>Option Bool) ks none fun n r=>bZ (Nat.beq n 99) (oJ (cj (n::r) x y) (fun xs=>oJ (cj (n::r) x y) (fun ys=>Hp r xs ys) y) x) (r.casesOn (vY n x y) fun _ _=>none)
theorem tN(ks:List Nat)(x y:D):js ks x y=cj ks x y:=by
 cases ks with
 |nil=>rfl
 |cons n r=>
  show bZ (Nat.beq n 99) (oJ (cj (n::r) x y) (fun xs=>oJ (cj (n::r) x y) (fun ys=>Hp r xs ys) y) x) (r.casesOn (vY n x y) fun _ _=>none)=_;rw[FU,bX];by_cases h:n=99
  ·subst h;rw[if_pos (by simp)];exact sj fun xs e1=>sj fun ys e2=>by subst e1 e2;rw[xL];rfl
  ·rw[if_neg (by simpa using h)];cases r with
   |nil=>
    show vY n x y=_;rw[zL];unfold fp;simp[cj,h]
   |cons m s=>
    show(none:Option Bool)=_;simp[cj,h]
def vy{α:Type}(z:α)(f:D→D→α)(c:List D):α:= @List.casesOn D (fun _=>α) c z fun a r=> @List.casesOn D (fun _=>α) r z fun b s=> @List.casesOn D (fun _=>α) s (f a b) fun _ _=>z
def kJ(l:List (List D)):Bool:= @List.rec (List D) (fun _=>Bool) true (fun c _ ih=>vy false (fun _ _=>ih) c) l
def Aw(ks:List Nat)(k:D)(l:List (List D)):Option (Option D):= @List.rec (List D) (fun _=>Option (Option D)) (some none) (fun c r ih=>vy none (fun a b=>gh (js ks k a) fun e=>bZ e (bZ (kJ r) (some (some b)) none) ih) c) l
def Bk(ks:List Nat)(k v:D)(l:List (List D)):Option (List (List D)):= @List.rec (List D) (fun _=>Option (List (List D))) (some [[k,v]]) (fun c r ih=>vy none (fun a _=>gh (js ks k a) fun e=>bZ e (bZ (kJ r) (some ([a,v]::r)) none) (gh ih fun t=>some (c::t))) c) l
theorem lC{α:Type}{z:α}{f:D→D→α}{c:List D}:(∃a b,c= [a,b]∧vy z f c=f a b)∨(∀a b,c≠ [a,b])∧vy z f c=z:=by
 rcases c with _|⟨a,_|⟨b,_|⟨d,s⟩⟩⟩
 ·exact .inr ⟨fun a b h=>by simp at h,rfl⟩
 ·exact .inr ⟨fun a b h=>by simp at h,rfl⟩
 ·exact .inl ⟨a,b,rfl,rfl⟩
 ·exact .inr ⟨fun a b h=>by simp at h,rfl⟩
theorem ja{c:List D}{r:List (List D)}(h: ∀a b,c≠ [a,b]):aC (c::r)=none:=by
 rcases c with _|⟨a,_|⟨b,_|⟨d,s⟩⟩⟩<;>first|rfl|exact absurd rfl (h _ _)
theorem mB: ∀(l:List (List D)),kJ l=(aC l).isSome
 | []=>rfl
 |c::r=>by
  show vy false (fun _ _=>kJ r) c=_;rcases lC (z:=false) (f:=fun _ _=>kJ r) (c:=c)with⟨a,b,rfl,h⟩|⟨h1,h⟩
  ·rw[h,mB r];simp[aC]
  ·rw[h,ja h1];rfl
theorem tA{ks:List Nat}{k:D}: ∀{es:List (D×D)} {j i:Nat},cG ks k es j=some (some i)→j≤i
 | [],_,_,h=>by simp[cG]at h
 |p::r,j,i,h=>by
  simp only[cG,Bz]at h;obtain⟨b,_,h⟩:=h;cases b with
  |true=>simp at h;omega
  |false=>have:=tA (by simpa using h);omega
theorem Ec{ks:List Nat}{k:D}: ∀{l:List (List D)} {es:List (D×D)} {j:Nat},aC l=some es→Aw ks k l=(cG ks k es j).bind fun r=>match r with
  |none=>some none
  |some i=>(es[i-j]?).map fun p=>some p.2
 | [],es,j,h=>by cases h;rfl
 |c::r,es,j,h=>by
  show vy none (fun a b=>gh (js ks k a) fun e=>bZ e (bZ (kJ r) (some (some b)) none) (Aw ks k r)) c=_;rcases lC (z:=none) (f:=fun a b=>gh (js ks k a) fun e=>bZ e (bZ (kJ r) (some (some b)) none) (Aw ks k r)) (c:=c)with⟨a,b,rfl,h1⟩|⟨h1,_⟩
  ·rw[h1];obtain⟨es',h2,rfl⟩:=Mz.1 (show(aC r).map ((a,b):: ·)=some es from h);rw[cm,tN,mB,h2];simp only[cG,Option.bind_assoc];congr 1;funext e;cases e with
   |true=>simp[bZ]
   |false=>
    rw[bX,if_neg (by simp),if_neg (by simp),Ec (j:=j+1) h2];cases hf:cG ks k es' (j+1)with
    |none=>rfl
    |some o=>
     cases o with
     |none=>rfl
     |some i=>
      have:=tA hf;simp only[Oz];rw[show i-j=(i-(j+1))+1 by omega,List.getElem?_cons_succ]
  ·rw[ja h1]at h;cases h
theorem wh{ks:List Nat}{k:D}: ∀{l:List (List D)},aC l=none→Aw ks k l=none
 | [],h=>by cases h
 |c::r,h=>by
  show vy none (fun a b=>gh (js ks k a) fun e=>bZ e (bZ (kJ r) (some (some b)) none) (Aw ks k r)) c=_;rcases lC (z:=none) (f:=fun a b=>gh (js ks k a) fun e=>bZ e (bZ (kJ r) (some (some b)) none) (Aw ks k r)) (c:=c)with⟨a,b,rfl,h1⟩|⟨_,h1⟩
  ·rw[h1]
   have h2:aC r=none:=by
    cases hr:aC r with
    |none=>rfl
    |some es=>simp[aC,hr]at h
   rw[cm,mB,h2,wh h2];cases js ks k a with
   |none=>rfl
   |some e=>cases e<;>rfl
  ·exact h1
theorem EP{ks:List Nat}{k v:D}: ∀{l:List (List D)} {es:List (D×D)} {j:Nat},aC l=some es→Bk ks k v l=(cG ks k es j).bind fun r=>match r with
  |none=>some (aH (es++ [(k,v)]))
  |some i=>(es[i-j]?).map fun p=>aH (es.set (i-j) (p.1,v))
 | [],es,j,h=>by cases h;rfl
 |c::r,es,j,h=>by
  show vy none (fun a _=>gh (js ks k a) fun e=>bZ e (bZ (kJ r) (some ([a,v]::r)) none) (gh (Bk ks k v r) fun t=>some (c::t))) c=_;rcases lC (z:=none) (f:=fun a _=>gh (js ks k a) fun e=>bZ e (bZ (kJ r) (some ([a,v]::r)) none) (gh (Bk ks k v r) fun t=>some (c::t))) (c:=c)with⟨a,b,rfl,h1⟩|⟨h1,_⟩
  ·rw[h1];obtain⟨es',h2,rfl⟩:=Mz.1 (show(aC r).map ((a,b):: ·)=some es from h)
   have h3:aH es'=r:=by
    have: ∀{r:List (List D)} {es:List (D×D)},aC r=some es→aH es=r:=by
     intro r
     induction r with
     |nil=>intro es h;cases h;rfl
     |cons c r ih=>
      intro es h;rcases lC (z:=0) (f:=fun _ _=>1) (c:=c)with⟨a,b,rfl,_⟩|⟨h1,_⟩
      ·obtain⟨es',h2,rfl⟩:=Mz.1 (show(aC r).map ((a,b):: ·)=some es from h);show [a,b]::aH es'=_;rw[ih h2]
      ·rw[ja h1]at h;cases h
    exact this h2
   rw[cm,tN,mB,h2];simp only[cG,Option.bind_assoc];congr 1;funext e;cases e with
   |true=>simp[bZ,aH]at h3⊢;exact h3.symm
   |false=>
    rw[bX,if_neg (by simp),if_neg (by simp),cm,EP (j:=j+1) h2];cases hf:cG ks k es' (j+1)with
    |none=>rfl
    |some o=>
     cases o with
     |none=>rfl
     |some i=>
      have:=tA hf;simp only[Oz];rw[show i-j=(i-(j+1))+1 by omega,List.getElem?_cons_succ];cases es'[i-(j+1)]? with
      |none=>rfl
      |some p=>rfl
  ·rw[ja h1]at h;cases h
theorem wT{ks:List Nat}{k v:D}: ∀{l:List (List D)},aC l=none→Bk ks k v l=none
 | [],h=>by cases h
 |c::r,h=>by
  show vy none (fun a _=>gh (js ks k a) fun e=>bZ e (bZ (kJ r) (some ([a,v]::r)) none) (gh (Bk ks k v r) fun t=>some (c::t))) c=_;rcases lC (z:=none) (f:=fun a _=>gh (js ks k a) fun e=>bZ e (bZ (kJ r) (some ([a,v]::r)) none) (gh (Bk ks k v r) fun t=>some (c::t))) (c:=c)with⟨a,b,rfl,h1⟩|⟨_,h1⟩
  ·rw[h1]
   have h2:aC r=none:=by
    cases hr:aC r with
    |none=>rfl
    |some es=>simp[aC,hr]at h
   rw[cm,mB,h2,wT h2];cases js ks k a with
   |none=>rfl
   |some e=>cases e<;>rfl
  ·exact h1
def AZ(ks:List Nat)(k:D):Bool:=bZ k.zt (@Option.rec Bool (fun _=>Bool) false (fun b=>b) (js ks k k)) false
theorem ah_(ks:List Nat)(k:D):AZ ks k=decide (k.zt=true∧cj ks k k=some true):=by
 unfold AZ;rw[bX,tN];cases k.zt<;>cases h:cj ks k k with
 |none=>simp
 |some b=>cases b<;>simp
def Xr(z:D)(ok:Bool)(o:Option D):Option D:= @Option.rec D (fun _=>Option D) (bZ ok (K' (.tup [z,bv false])) (K' z)) (fun b=>bZ ok (K' (.tup [b,bv true])) (K' b)) o
def Io(ks:List Nat)(z:D)(ok:Bool)(ds:List D):Option D:=A4 (zl ks z ok ds) (fun a k=>dList (zl ks z ok ds) (fun rows=>bZ (AZ ks k) (gh (Aw ks k rows) (Xr z ok)) none) a) ds
theorem FI(ks:List Nat)(z:D)(ok:Bool):Io ks z ok=zl ks z ok:=funext fun ds=>mV fun a k e=>mh fun rows e1=>by
 subst e e1;rw[bX,ah_];show _=(aC rows).bind fun es=>(pa ks z ok es k).bind fun d=>if d.aF then some d else none
 have hk: ∀d,K' d=if d.aF then some d else none:=fun d=>by unfold K';rw[bX,tw]
 cases h:aC rows with
 |none=>rw[wh h];split<;>rfl
 |some es=>
  rw[Ec (j:=0) h];simp only[Oz];unfold pa;by_cases hc:k.zt=true∧cj ks k k=some true
  ·rw[if_pos (by simpa using hc),if_pos hc,cm,Option.bind_assoc,Option.bind_assoc];congr 1;funext r;cases r with
   |none=>
    show Xr z ok none=_;unfold Xr;simp only[];rw[bX,hk,hk];cases ok<;>simp
   |some i=>
    simp only[Nat.sub_zero];cases es[i]? with
    |none=>rfl
    |some p=>
     show Xr z ok (some p.2)=_;unfold Xr;simp only[];rw[bX,hk,hk];cases ok<;>simp
  ·rw[if_neg (by simpa using hc),if_neg hc];rfl
def Ip(ks:List Nat)(ds:List D):Option D:= @List.casesOn D (fun _=>Option D) ds none fun a r=>A4 (mJ ks ds) (fun k v=>dList (mJ ks ds) (fun rows=>bZ (Nat.blt (rR rows 0) 1048576) (bZ (bZ v.zt (AZ ks k) false) (gh (Bk ks k v rows) fun t=>some (.list t)) none) (mJ ks ds)) a) r
theorem uW: ∀{l:List (List D)} {es:List (D×D)},aC l=some es→es.length=l.length
 | [],es,h=>by cases h;rfl
 |c::r,es,h=>by
  rcases lC (z:=0) (f:=fun _ _=>1) (c:=c)with⟨a,b,rfl,_⟩|⟨h1,_⟩
  ·obtain⟨es',h2,rfl⟩:=Mz.1 (show(aC r).map ((a,b):: ·)=some es from h);simp[uW h2]
  ·rw[ja h1]at h;cases h
theorem FJ(ks:List Nat):Ip ks=mJ ks:=funext fun ds=>by
 cases ds with
 |nil=>rfl
 |cons a r=>
  show A4 (mJ ks (a::r)) (fun k v=>dList (mJ ks (a::r)) (fun rows=>bZ (Nat.blt (rR rows 0) 1048576) (bZ (bZ v.zt (AZ ks k) false) (gh (Bk ks k v rows) fun t=>some (.list t)) none) (mJ ks (a::r))) a) r=_;refine mV fun k v e=>mh fun rows e1=> ?_;subst e e1;rw[bX,iw,Nat.zero_add];split
  rotate_left
  ·rfl
  rename_i hlen;have hlen:rows.length<1048576:=by simpa[Nat.blt_eq]using hlen
  rw[bX,bX,ah_];show _=(aC rows).bind fun es=>(ua ks es k v).map fun es=>D.list (aH es);cases h:aC rows with
  |none=>rw[wT h];cases v.zt<;>simp[gh]
  |some es=>
   have hl:=uW h;rw[EP (j:=0) h];simp only[Oz];unfold ua;by_cases hv:v.zt=true
   ·by_cases hc:k.zt=true∧cj ks k k=some true
    ·rw[if_pos (by simp[hv,hc]),if_pos ⟨hv,hc⟩,cm,Option.bind_assoc,Option.map_bind];congr 1;funext r;cases r with
     |none=>
      simp only[Oz,Function.comp_def];rw[if_pos (show es.length<aD from by rw[hl];exact hlen)];rfl
     |some i=>
      simp only[Nat.sub_zero,Function.comp_def];cases es[i]? with
      |none=>rfl
      |some p=>rfl
    ·rw[if_neg (by simp[hv,hc]),if_neg (fun h=>hc h.2)];rfl
   ·rw[if_neg (by simp[hv]),if_neg (fun h=>hv h.1)];rfl
def runK(G:FP)(k:XK):List D→Option D:=match k with
 | .pk k=>pkK k
 | .call fl f=>CB G fl f
 | .cell j n=>Ih j n
 | .gv w=>Xm w
 | .bt=>NS
 | .eu=>Ir
 | .take=>Is
 | .agg=>Ic
 | .mget ks z ok=>Io ks z ok
 | .mset ks=>Ip ks
 |k=>CV G k
theorem Mj(G:FP)(k:XK):runK G k=CV G k:=by
 cases k<;>first|rfl|exact TW _|exact FF _ _ _|exact FG _ _|exact K9 _|exact AM|exact FK|exact FL|exact Ie|exact FI _ _ _|exact FJ _
end
end Go.Proofs.YtkcfpgaepmllhaaGreatDoor
