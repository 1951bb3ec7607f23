/- Part of the proof: symbolic execution of the program, its soundness, and the closing lemmas. No condition. -/
import Derived.Test.YtkcfpgaepmllhaaGreatDoorEad
import Derived.Test.YtkcfpgaepmllhaaGreatDoorEac
import Derived.RangeFuncRecord
namespace Go.Proofs.YtkcfpgaepmllhaaGreatDoor
open Go.RowKit
set_option maxRecDepth 100000
set_option linter.all false
section
theorem mu: ∀{l:List Nat},wH l=true→l.Nodup
 | [],_=>List.nodup_nil
 |a::r,h=>by
  simp only[wH,Az,Bool.not_eq_true',List.contains_eq_mem,decide_eq_false_iff_not]at h;exact List.nodup_cons.2 ⟨h.1,mu h.2⟩
theorem o9{α:Type}: ∀{l:List (Nat×α)} {n:Nat} {v:α},(l.map (·.1)).Nodup→(n,v)∈l→find l n=some v
 | [],_,_,_,h=>by simp at h
 |(i,a)::r,n,v,hd,h=>by
  simp only[List.map_cons,List.nodup_cons]at hd;rcases List.mem_cons.1 h with h|h
  ·cases h;simp[find]
  ·have:(i==n)=false:=by
    grind
   simp only[find,this];exact o9 hd.2 h
theorem lu{h:List (Nat×SO)}: ∀{r:Row} {vs:List SV} {xs:List X} {rn:Ren},gp h r vs=some (xs,rn)→(rn.map (·.1)).Sublist (r.map (·.1))
 | [],[],xs,rn,hm=>by simp[gp]at hm;obtain⟨rfl,rfl⟩:=hm;exact List.Sublist.refl _
 | [],_::_,_,_,hm=>by simp[gp]at hm
 |_::_,[],_,_,hm=>by simp[gp]at hm
 |(nm,p)::r,v::vs,xs,rn,hm=>by
  simp only[gp,Bz,Mz]at hm;obtain⟨⟨xs1,T'⟩,h1,⟨xs2,T_⟩,h3,h4⟩:=hm;have ih:=lu h3
  have h1':T'= []∨ ∃o,T'= [(nm,o)]:=by
   cases p with
   |drop=>simp only[mR]at h1;cases h1;exact .inl rfl
   |same v'=>simp only[mR]at h1;split at h1<;>cases h1;exact .inl rfl
   |var=>simp only[mR]at h1;obtain⟨x,_,hx⟩:=Mz.1 h1;cases hx;exact .inl rfl
   |az e sz=>
    cases v
    case gl n sz'=>
     simp only[mR]at h1
     grind
    case x ex=>
     cases ex
     case q dq=>
      cases dq
      case nil=>simp only[mR]at h1;cases h1;exact .inr ⟨_,rfl⟩
      all_goals (simp[mR]at h1;done)
     all_goals (simp[mR]at h1;done)
    all_goals (simp[mR]at h1;done)
  grind
theorem fI: ∀{k:Nat} {r:Row},((bP k r).map (·.1)).Sublist (r.map (·.1))
 |_,[]=>List.Sublist.refl _
 |_,(nm, .drop)::r=>by simp only[bP];exact fI.cons nm
 |_,(nm, .same _)::r=>by simp only[bP];exact fI.cons nm
 |_,(nm, .var)::r=>by simp only[bP];exact fI.cons nm
 |_,(nm, .az ..)::r=>by simp only[bP];exact fI.cons_cons nm
theorem tC{α:Type}: ∀{l:List (Nat×α)} {n:Nat},¬n∈l.map (·.1)→find l n=none
 | [],_,_=>rfl
 |(i,a)::r,n,h=>by
  simp only[List.map_cons,List.mem_cons,not_or]at h;have:(i==n)=false:=by simpa using fun e=>h.1 e.symm
  simp only[find,this];exact tC h.2
section
variable {Ω : bM} {G : FP} {E E2 : List D} {ι γ : Nat → Tok} {Y : Sy} {J : St}
theorem nE(M:Mt Ω G E ι γ Y J): ∀(ids:List Nat),bA G E ι Y.h (sr Y ids) (ids.map J.s)
 | []=>bA.nil
 |i::r=>bA.mk (by
   cases hf:find Y.s i with
   |none=>exact .un
   |some v=>exact M.slot i v hf) (nE M r)
theorem u_ {ι2 : Nat → Tok} {h2 : List (Nat × SO)} : ∀ {ids : List Nat} {s : List SV}, bA G E2 ι2 h2 s (ids.map J.s) → ∀ {i : Nat} {v : SV}, find (MZ ids s) i = some v → VR G E2 ι2 h2 v (J.s i)
  | [], s, _, i, v, h => by cases s <;> cases h
  | j :: r, [], H, _, _, _ => absurd (show 0 = (List.map J.s (j :: r)).length from H.1) (by rw [List.length_map, List.length_cons]; omega)
  | j :: r, u :: s, H, i, v, h => by
    obtain ⟨d, ds, he, h1, h3⟩ := H.cons
    obtain ⟨rfl, rfl⟩ := he
    simp only [MZ, find] at h
    cases hi : j == i with
    | true => rw [hi] at h; cases h; have : j = i := by simpa using hi
              grind
    | false => rw [hi] at h; exact u_ h3 h
theorem nF(M:Mt Ω G E ι γ Y J): ∀{ts:List (Nat×Nat)} {t:List SV},oY Y ts=some t→ ∃dt,bA G E ι Y.h t dt∧t.length=AR ts∧
  ∀{E2:List D} {ι2:Nat→Tok} {h2:List (Nat×SO)} {s:List SV},bA G E2 ι2 h2 s dt→ ∀{i:Nat} {v:SV},find (Dw ts s) i=some v→VR G E2 ι2 h2 v (J.s i)
 | [],t,h=>by
  simp[oY]at h;subst h;exact⟨[],bA.nil,rfl,fun{E2 ι2 h2 s} _ {i v} hf=>by cases hf⟩
 |(j,l)::r,t,h=>by
  simp only[oY]at h;split at h
  ·rename_i vs hf;split at h
   ·rename_i hl;obtain⟨t',ht,rfl⟩:=Mz.1 h;obtain⟨dt,h1,h2,h3⟩:=nF M ht;have hs:=M.slot j _ hf;generalize hd:J.s j=d at hs;cases hs with
    |tup hl2 hh=>
     rename_i ds;have k3:bA G E ι Y.h vs ds:=⟨hl2,hh⟩;have hdl:ds.length=l:=by omega
     refine⟨ds++dt,k3.append h1,by simp[AR,h2,hl],fun{E2 ι2 h2' s} H {i v} hfo=> ?_⟩;have ht:=H.take l;have hdr:=H.drop l;rw[←hdl,List.take_left,hdl]at ht;rw[←hdl,List.drop_left,hdl]at hdr;simp only[Dw,find]at hfo;cases hi:j==i with
     |true=>
      rw[hi]at hfo;cases hfo;have:j=i:=by simpa using hi
      subst this;rw[hd];exact .tup ht.1 ht.2
     |false=>rw[hi]at hfo;exact h3 hdr hfo
   ·cases h
  ·cases h
theorem LM{e sz:Nat}{s:List SV}{o:SO}(h:Sk.TF (.az e sz) s=some o): ∃c,s= [.x c]∧o= .az e sz c:=by
 rcases s with _|⟨v,_|⟨u,r⟩⟩
 ·cases h
 ·cases v<;>first|(cases h;done)|(cases h;exact⟨_,rfl,rfl⟩)
 ·cases v<;>cases h
theorem LN{s:List SV}{o:SO}(h:Sk.TF .map s=some o): ∃c,s= [.x c]∧o= .map c:=by
 rcases s with _|⟨v,_|⟨u,r⟩⟩
 ·cases h
 ·cases v<;>first|(cases h;done)|(cases h;exact⟨_,rfl,rfl⟩)
 ·cases v<;>cases h
theorem LO{e sz:Nat}{s:List SV}{o:SO}(h:Sk.TF (.mpl e sz) s=some o): ∃c,s= [.x c]∧o= .mpl e sz c:=by
 rcases s with _|⟨v,_|⟨u,r⟩⟩
 ·cases h
 ·cases v<;>first|(cases h;done)|(cases h;exact⟨_,rfl,rfl⟩)
 ·cases v<;>cases h
theorem LP{s:List SV}{o:SO}{k:RS}(h:Sk.TF (.raw k) s=some o):o= .raw k:=by
 cases s with
 |nil=>cases h;rfl
 |cons v r=>cases h
def Ob(Ω:bM)(G:FP)(E2:List D)(ι γ ι2:Nat→Tok)(h2:List (Nat×SO))(Yh:List (Nat×SO))(J:St)(m:Mem)(n:Nat):SO→Prop
 | .box vs=> ∃ds,ι n≠ []∧m (ι n)=some (.box ds)∧bA G E2 ι2 h2 vs ds
 | .az e sz c=> ∃es,X.ev G E2 c=some (.list es)∧aQ sz es=true∧(ι n= []∧es= []∨ι n≠ []∧m (ι n)=some (.row (γ n) e es))
 | .map c=> ∃es,X.ev G E2 c=some (.list (aH es))∧ι n≠ []∧m (ι n)=some (.map es)
 | .mpl e sz c=> ∃L:List OE,X.ev G E2 c=some (.list (aH (L.map OE.pr)))∧ι n≠ []∧m (ι n)=some (.map (L.map (OE.en sz)))∧JS Yh ι γ J e sz L
 | .raw k=>ι n=Ω.t n∧ι n≠ []∧m (ι n)=some (.raw (Ω.f n k))∧ ¬Ω.c (ι n)
theorem nD(M:Mt Ω G E ι γ Y J): ∀{os:List (Nat×Sk)} {b:List SV},oX Y os=some b→ ∃db,bA G E ι Y.h b db∧b.length=LA os∧
  ∀{E2:List D} {s:List SV} {AY:List (Nat×SO)},s.length=db.length→(∀(i:Nat) (e:X) (d:D),s[i]?=some (.x e)→db[i]?=some d→X.ev G E2 e=some d)→JI os s=some AY→
   AY.map (·.1)=os.map (·.1)∧ ∀{n:Nat} {o:SO},find AY n=some o→(∃o0,find Y.h n=some o0∧SO.cU G E E2 o0 o)∧ ∀{ι2:Nat→Tok} {h2:List (Nat×SO)},bA G E2 ι2 h2 s db→Ob Ω G E2 ι γ ι2 h2 Y.h J J.m n o
 | [],b,h=>by
  simp[oX]at h;subst h;exact⟨[],bA.nil,rfl,fun _ _ hz=>by cases hz;exact⟨rfl,fun{n o} hf=>by cases hf⟩⟩
 |(j,k)::r,b,h=>by
  simp only[oX,Bz]at h;obtain⟨o0,hf,h⟩:=h;split at h
  ·rename_i hsk;obtain⟨b',hb,rfl⟩:=Mz.1 h;obtain⟨db,h1,h2,h3⟩:=nD M hb
   have one: ∃dc,bA G E ι Y.h o0.cells dc∧o0.cells.length=k.len∧ ∀{E2:List D} {s:List SV} {o:SO},s.length=dc.length→(∀(i:Nat) (e:X) (d:D),s[i]?=some (.x e)→dc[i]?=some d→X.ev G E2 e=some d)→k.TF s=some o→
     SO.cU G E E2 o0 o∧ ∀{ι2:Nat→Tok} {h2:List (Nat×SO)},bA G E2 ι2 h2 s dc→Ob Ω G E2 ι γ ι2 h2 Y.h J J.m j o:=by
    cases o0 with
    |box us=>
     simp only[SO.sk]at hsk;subst hsk;obtain⟨ds,k1,k2,k3⟩:=M.box j us hf;refine⟨ds,k3,rfl,fun{E2 s o} hl _ hmk=> ?_⟩;simp only[Sk.TF]at hmk;split at hmk<;>cases hmk;rename_i hlen;exact⟨hlen,fun H=>⟨ds,k1,k2,H⟩⟩
    |az e sz c=>
     simp only[SO.sk]at hsk;subst hsk;obtain⟨es,k1,k2,k3⟩:=M.az j e sz c hf;refine⟨[.list es],bA.mk (.x k1 rfl) bA.nil,rfl,fun{E2 s o} hl hX hmk=> ?_⟩;obtain⟨c',rfl,rfl⟩:=LM hmk;have hc:=hX 0 c' _ rfl rfl;exact⟨⟨rfl,rfl,fun es' he'=>⟨es,hc,by rw[k1]at he';cases he';rfl⟩⟩,fun _=>⟨es,hc,k2,k3⟩⟩
    |map c=>
     simp only[SO.sk]at hsk;subst hsk;obtain⟨es,k1,k2,k3⟩:=M.mpo j c hf;refine⟨[.list (aH es)],bA.mk (.x k1 rfl) bA.nil,rfl,fun{E2 s o} hl hX hmk=> ?_⟩;obtain⟨c',rfl,rfl⟩:=LN hmk;exact⟨trivial,fun _=>⟨es,hX 0 c' _ rfl rfl,k2,k3⟩⟩
    |mpl e sz c=>
     simp only[SO.sk]at hsk;subst hsk;obtain⟨L,k1,k2,k3,k4⟩:=M.own j e sz c hf;refine⟨[.list (aH (L.map OE.pr))],bA.mk (.x k1 rfl) bA.nil,rfl,fun{E2 s o} hl hX hmk=> ?_⟩;obtain⟨c',rfl,rfl⟩:=LO hmk;exact⟨trivial,fun _=>⟨L,hX 0 c' _ rfl rfl,k2,k3,k4⟩⟩
    |raw kk=>
     simp only[SO.sk]at hsk;subst hsk;have k2:=M.rwo j kk hf;refine⟨[],bA.nil,rfl,fun{E2 s o} hl hX hmk=> ?_⟩;obtain rfl:=LP hmk;exact⟨trivial,fun _=>k2⟩
   obtain⟨dc,c1,c2,c3⟩:=one;have hdl:dc.length=k.len:=by rw[←c1.1];exact c2
   refine⟨dc++db,c1.append h1,by simp[LA,h2,c2],fun{E2 s AY} hl hX hz=> ?_⟩;simp only[JI,Bz,Mz]at hz;obtain⟨o,ho,afd,hz',rfl⟩:=hz;simp only[List.length_append]at hl
   have hX1: ∀(i:Nat) (e:X) (d:D),(s.take k.len)[i]?=some (.x e)→dc[i]?=some d→X.ev G E2 e=some d:=fun i e d hi hd=>by
    grind
   have hX2: ∀(i:Nat) (e:X) (d:D),(s.drop k.len)[i]?=some (.x e)→db[i]?=some d→X.ev G E2 e=some d:=fun i e d hi hd=>by
    grind
   obtain⟨g1,g2⟩:=c3 (by simp;omega) hX1 ho;obtain⟨g3,g4⟩:=h3 (by simp;omega) hX2 hz';refine⟨by simp[g3],fun{n q} hfo=> ?_⟩;simp only[find]at hfo;cases hi:j==n with
   |true=>
    rw[hi]at hfo;cases hfo;have:j=n:=by simpa using hi
    subst this;refine⟨⟨o0,hf,g1⟩,fun{ι2 h2'} H=>g2 ?_⟩;have:=H.take k.len;rw[←hdl,List.take_left,hdl]at this;exact this
   |false=>
    rw[hi]at hfo;obtain⟨e1,e2⟩:=g4 hfo;refine⟨e1,fun{ι2 h2'} H=>e2 ?_⟩;have:=H.drop k.len;rw[←hdl,List.drop_left,hdl]at this;exact this
  ·cases h
theorem uA{k0:Nat}{bs:List Nat}(hE: ∀i,i<k0→E[i]?=E2[i]?):
  ∀{r:Row} {q:Nat} {vs:List SV} {dt ds:List D} {xs:List X} {rn:Ren},bA G E ι Y.h vs dt→gp Y.h r vs=some (xs,rn)→X.bm G E xs=some ds→(∀j,j<ds.length→E2[q+j]?=ds[j]?)→
   (∀p∈r,(match p.2 with| .same v=>cN k0 bs v|_=>true)=true)→ ∀(i:Nat) (e:X) (d:D),(eC q r)[i]?=some (.x e)→dt[i]?=some d→X.ev G E2 e=some d
 | [],q,vs,dt,ds,xs,rn,hv,hm,_,_,_,i,e,d,hi,_=>by simp[eC]at hi
 |(nm,p)::r,q,vs,dt,ds,xs,rn,hv,hm,he,hq,hok,i,e,d,hi,hd=>by
  cases vs with
  |nil=>simp[gp]at hm
  |cons v vs=>
   simp only[gp,Bz,Mz]at hm;obtain⟨⟨xs1,T'⟩,h1,⟨xs2,T_⟩,h3,h4⟩:=hm;cases h4;simp only[]at he;obtain⟨d0,dt',rfl,H,K⟩:=hv.cons
   have Cu: ∃ds1 ds2,ds=ds1++ds2∧X.bm G E xs1=some ds1∧X.bm G E xs2=some ds2:=by
    have hl:=cY he;refine⟨ds.take xs1.length,ds.drop xs1.length,(List.take_append_drop ..).symm, ?_, ?_⟩
    ·refine tv (by simp at hl⊢;omega) fun i x dd hx hd=> ?_;have hi:=(Gz.1 hx).1;rw[List.getElem?_take_of_lt hi]at hd;exact fy he i x dd (by rw[Yz hi];exact hx) hd
    ·refine tv (by simp at hl⊢;omega) fun i x dd hx hd=> ?_;rw[List.getElem?_drop]at hd;exact fy he (xs1.length+i) x dd (by rw[Xz (by omega)];simpa using hx) hd
   obtain⟨ds1,ds2,rfl,e1,e2⟩:=Cu;have yb: ∀p∈r,(match p.2 with| .same v=>cN k0 bs v|_=>true)=true:=fun p hp=>hok p (Cz _ hp);have rest: ∀{q':Nat},(∀j,j<ds2.length→E2[q'+j]?=ds2[j]?)→ ∀(i:Nat) (e:X) (d:D),(eC q' r)[i]?=some (.x e)→dt'[i]?=some d→X.ev G E2 e=some d:=fun g1=>uA hE K h3 e2 g1 yb
   have zero:xs1= []→ ∀j,j<ds2.length→E2[q+j]?=ds2[j]?:=fun h0 j hj=>by
    subst h0;cases e1;simpa using hq j (by simpa using hj)
   have one: ∀{x:X},xs1= [x]→(∃dx,X.ev G E x=some dx∧E2[q]?=some dx)∧ ∀j,j<ds2.length→E2[q+1+j]?=ds2[j]?:=fun{x} h0=>by
    subst h0;obtain⟨dx,rfl,hdx⟩:=jf e1;refine⟨⟨dx,hdx,by have:=hq 0 (by simp);simpa using this⟩,fun j hj=> ?_⟩;have:=hq (j+1) (by simpa using hj);simpa[Nat.add_assoc,Nat.add_comm 1 j]using this
   cases p with
   |drop=>
    simp only[mR]at h1;cases h1;cases i with
    |zero=>simp[eC]at hi
    |succ i=>exact rest (zero rfl) i e d (by simpa[eC]using hi) (by simpa using hd)
   |same v'=>
    simp only[mR]at h1;split at h1<;>cases h1;rename_i hbe;obtain rfl:=lX _ _ hbe;cases i with
    |zero=>
     simp only[eC,List.getElem?_cons_zero,Jz]at hi hd;subst hi;subst hd;have:=hok _ (List.mem_cons_self ..);simp only[cN]at this;rw[←wa hE _ this];exact H.b7.1
    |succ i=>exact rest (zero rfl) i e d (by simpa[eC]using hi) (by simpa using hd)
   |var=>
    simp only[mR]at h1;obtain⟨x,hx,h5⟩:=Mz.1 h1;cases h5;obtain⟨⟨dx,hdx,hqx⟩,h6⟩:=one rfl;cases i with
    |zero=>
     simp only[eC,List.getElem?_cons_zero,Jz,SV.x.injEq]at hi hd;subst hi;subst hd;obtain rfl:=b8 H hx hdx;simpa only[X.ev]using hqx
    |succ i=>exact rest h6 i e d (by simpa[eC]using hi) (by simpa using hd)
   |az e0 sz0=>
    have h6: ∃x,xs1= [x]:=by
     cases v
     case gl n sz'=>
      simp only[mR]at h1;split at h1
      ·split at h1<;>cases h1;exact⟨_,rfl⟩
      ·cases h1
     case x ex=>
      cases ex
      case q dq=>
       cases dq
       case nil=>simp only[mR]at h1;cases h1;exact⟨_,rfl⟩
       all_goals (simp[mR]at h1;done)
      all_goals (simp[mR]at h1;done)
     all_goals (simp[mR]at h1;done)
    obtain⟨x,hx⟩:=h6;cases i with
    |zero=>simp[eC]at hi
    |succ i=>exact rest (one hx).2 i e d (by simpa[eC]using hi) (by simpa using hd)
theorem mi{α:Type}: ∀{l:List (Nat×α)} {n:Nat},n∈l.map (·.1)→ ∃o,find l n=some o
 | [],n,h=>by simp at h
 |(i,a)::r,n,h=>by
  simp only[find];cases hi:i==n with
  |true=>exact⟨_,rfl⟩
  |false=>
   simp only[List.map_cons,List.mem_cons]at h;rcases h with rfl|h
   ·grind
   ·exact mi h
theorem Hd.sound(M:Mt Ω G E ι γ Y J){hd:Hd}{k:Nat}(ok:hd.ok k=true){xs:List X}{rn:Ren}(hm:hd.mt Y=some (xs,rn)){ds:List D}(he:X.bm G E xs=some ds){E0:List D}(hk:E0.length=k)
  (hE: ∀i,i<k→E[i]?=E0[i]?) (dd nn:Nat): ∃ι2 γ2,Mt Ω G (E0++ds) ι2 γ2 (hd.mk' k ds.length dd nn) J:=by
 simp only[Hd.ok,Az,beq_iff_eq]at ok;obtain⟨⟨⟨⟨⟨ok1,ok2⟩,ok3⟩,ok4⟩,Vc⟩,ok6⟩:=ok;obtain⟨AY,Ny⟩:=Option.isSome_iff_exists.1 ok6;simp only[Hd.mt]at hm;split at hm
 rotate_left
 ·cases hm
 simp only[Bz]at hm;obtain⟨t,ht,b,hb,q,hq,hm⟩:=hm;split at hm
 ·rename_i hnd;cases hm;obtain⟨dt,hvt,htl,acO⟩:=nF M ht;obtain⟨db,hvb,hbl,abT⟩:=nD M hb;have hvs:=(nE M hd.ids).append (hvt.append hvb);have ndr:=mu ok2;have ndn:(rn.map (·.1)).Nodup:=ndr.sublist (lu hq);have ndl:((bP k hd.row).map (·.1)).Nodup:=ndr.sublist fI
  have CM: ∀nm,nm∈hd.row.map (·.1)→ ¬nm∈hd.ns:=fun nm h=>by
   obtain⟨p,hp,rfl⟩:=List.mem_map.1 h;have:=Tz.1 ok3 p hp;simpa using this
  let ι2:Nat→Tok:=fun m=>if m∈hd.ns then ι m else Ren.at ι ((find rn m).getD none)
  let γ2:Nat→Tok:=fun m=>if m∈hd.ns then γ m else Ren.at γ ((find rn m).getD none)
  have hI: ∀p∈rn,ι2 p.1=Ren.at ι p.2:=fun p hp=>by
   have h1: ¬p.1∈hd.ns:=CM _ ((lu hq).subset (List.mem_map.2 ⟨p,hp,rfl⟩));simp only[ι2,if_neg h1,o9 ndn (show(p.1,p.2)∈rn from hp),Option.getD_some]
  have hGm: ∀p∈rn,γ2 p.1=Ren.at γ p.2:=fun p hp=>by
   have h1: ¬p.1∈hd.ns:=CM _ ((lu hq).subset (List.mem_map.2 ⟨p,hp,rfl⟩));simp only[γ2,if_neg h1,o9 ndn (show(p.1,p.2)∈rn from hp),Option.getD_some]
  have hk2: ∀m,m∈hd.ns→ι2 m=ι m:=fun m hm=>by simp only[ι2,if_pos hm]
  have hg2: ∀m,m∈hd.ns→γ2 m=γ m:=fun m hm=>by simp only[γ2,if_pos hm]
  have hE2: ∀i,i<k→E[i]?=(E0++ds)[i]?:=fun i hi=>by rw[Yz (by omega)];exact hE i hi
  have hqd: ∀j,j<ds.length→(E0++ds)[k+j]?=ds[j]?:=fun j hj=>by rw[Xz (by omega),hk,Nat.add_sub_cancel_left]
  have okr: ∀p∈hd.row,(match p.2 with| .same v=>cN k hd.ns v|_=>true)=true:=fun p hp=>Tz.1 ok1 p hp;have gx:=uA (E2:=E0++ds) (bs:=hd.ns) hE2 hvs hq he hqd okr
  have hrl:(eC k hd.row).length=hd.ids.length+(dt.length+db.length):=by
   rw[kG,ok4,←hvt.1,←hvb.1,htl,hbl]
  have KO:dt.length=AR hd.ts:=by rw[←hvt.1,htl]
  have hcO: ∀(i:Nat) (e:X) (d:D),(hd.cO k)[i]?=some (.x e)→db[i]?=some d→X.ev G (E0++ds) e=some d:=fun i e d hi hd'=>by
   simp only[Hd.cO,Hd.cT,List.getElem?_drop]at hi;refine gx _ e d hi ?_;rw[Xz (by simp),List.length_map,Nat.add_sub_cancel_left,Xz (by omega),KO,Nat.add_sub_cancel_left];exact hd'
  obtain⟨SD,Nv⟩:=abT (E2:=E0++ds) (s:=hd.cO k) (by simp[Hd.cO,Hd.cT,hrl,KO];omega) hcO Ny;have KS: ∀m,m∈hd.ns↔m∈AY.map (·.1):=fun m=>by rw[SD];exact Iff.rfl
  let h2:=AY++bP k hd.row;have hfO: ∀{n:Nat} {o:SO},find AY n=some o→find h2 n=some o:=fun{n o} hf=>by simp only[h2,eQ,hf,Option.some_or]
  have hfL: ∀p∈bP k hd.row,find h2 p.1=some p.2:=fun p hp=>by
   have h1: ¬p.1∈hd.ns:=CM _ (fI.subset (List.mem_map.2 ⟨p,hp,rfl⟩));simp only[h2,eQ,tC (fun h=>h1 ((KS _).2 h)),Option.none_or];exact o9 ndl hp
  have hbk:Kp G E (E0++ds) ι ι2 Y.h h2 hd.ns:=fun n hn=>by
   have hn':n∈hd.ns:=by simpa using hn
   obtain⟨o,ho⟩:=mi ((KS n).1 hn');obtain⟨⟨o0,g1,g2⟩,_⟩:=Nv ho;exact⟨hk2 n hn',fun q hq=>⟨o,hfO ho,by rw[g1]at hq;cases hq;exact g2⟩⟩
  obtain⟨g1,g2⟩:=wS (E2:=E0++ds) (ι2:=ι2) (h2:=h2) M hE2 hbk hvs hq he hqd okr hfL hI;have gs:=g1.take hd.ids.length;have gr:=g1.drop hd.ids.length;rw[show hd.ids.length=(hd.ids.map J.s).length by simp,List.take_left]at gs;rw[show hd.ids.length=(hd.ids.map J.s).length by simp,List.drop_left]at gr;simp only[List.length_map]at gs gr;have gb:=gr.drop dt.length;rw[List.drop_left,KO]at gb
  have gt:bA G (E0++ds) ι2 h2 ((hd.cT k).take dt.length) dt:=by
   have:=gr.take dt.length;rw[List.take_left]at this;exact this
  have Gv: ∀{ts:List (Nat×Nat)} {s:List SV} {N:Nat},AR ts≤N→ ∀i,find (Dw ts (s.take N)) i=find (Dw ts s) i:=by
   intro ts
   induction ts with
   |nil=>intro s N _ i;rfl
   |cons p r ih=>
    intro s N hN i;obtain⟨j,l⟩:=p;simp only[AR]at hN;simp only[Dw,find,List.take_take,show min l N=l by omega,List.drop_take];cases j==i with
    |true=>rfl
    |false=>exact ih (by omega) i
  have look: ∀n o,find h2 n=some o→(n∈hd.ns∧ ∃o0,find Y.h n=some o0∧SO.cU G E (E0++ds) o0 o∧Ob Ω G (E0++ds) ι γ ι2 h2 Y.h J J.m n o)∨
    (∃e sz i,¬n∈hd.ns∧o= .az e sz (.t i)∧(((n,none)∈rn∧(E0++ds)[i]?=some (.list []))∨ ∃n0 c d,(n,some n0)∈rn∧find Y.h n0=some (.az e sz c)∧(E0++ds)[i]?=some d∧X.ev G E c=some d)):=fun n o hf=>by
   by_cases hn:n∈hd.ns
   ·left;obtain⟨o',ho'⟩:=mi ((KS n).1 hn);rw[hfO ho']at hf;cases hf;obtain⟨⟨o0,e1,e2⟩,e3⟩:=Nv ho';exact⟨hn,o0,e1,e2,e3 gb⟩
   ·right;simp only[h2,eQ,tC (fun h=>hn ((KS n).2 h)),Option.none_or]at hf;obtain⟨nm,e,sz,i,k1,k2⟩:=g2 _ (oU hf);cases k1;exact⟨e,sz,i,hn,rfl,k2⟩
  have nda:=mu hnd;have ndo:(rn.filterMap (·.2)).Nodup:=(List.nodup_append.1 nda).1
  have apart: ∀n n0,(n,some n0)∈rn→ ¬n0∈hd.ns:=fun n n0 h1 h3=>by
   have:=(List.nodup_append.1 nda).2.2 n0 (List.mem_filterMap.2 ⟨(n,some n0),h1,rfl⟩) n0 h3;exact this rfl
  have old: ∀n n' n0,(n,some n0)∈rn→(n',some n0)∈rn→n=n':=fun n n' n0 h1 h3=>by
   have key: ∀{l:Ren},(l.filterMap (·.2)).Nodup→(n,some n0)∈l→(n',some n0)∈l→n=n':=by
    intro l
    induction l with
    |nil=>intro _ h;simp at h
    |cons p l ih=>
     intro hnd a1 a2;obtain⟨m,o⟩:=p;cases o with
     |none=>
      simp only[List.filterMap_cons]at hnd;simp only[List.mem_cons,Prod.mk.injEq,reduceCtorEq,and_false,false_or]at a1 a2;exact ih hnd a1 a2
     |some m0=>
      simp only[List.filterMap_cons,List.nodup_cons]at hnd;simp only[List.mem_cons,Prod.mk.injEq,Jz]at a1 a2;rcases a1 with⟨rfl,rfl⟩|a1<;>rcases a2 with⟨rfl,h⟩|a2
      ·rfl
      ·exact absurd (List.mem_filterMap.2 (⟨(n',some _),a2,rfl⟩: ∃a,a∈l∧a.2=some _)) hnd.1
      ·subst h;exact absurd (List.mem_filterMap.2 (⟨(n,some _),a1,rfl⟩: ∃a,a∈l∧a.2=some _)) hnd.1
      ·exact ih hnd.2 a1 a2
   exact key ndo h1 h3
  have hmk:(hd.mk' k ds.length dd nn).h=h2:=by simp only[Hd.mk',Ny,Option.getD_some,h2]
  have src: ∀n o,find h2 n=some o→ι2 n≠ []→ ∃m q,find Y.h m=some q∧ι2 n=ι m∧γ2 n=γ m∧((n∈hd.ns∧m=n)∨(¬n∈hd.ns∧(n,some m)∈rn))∧ ∀e sz c,o= .az e sz c→ ∃c0,q= .az e sz c0:=fun n o hf hi=>by
   rcases look n o hf with⟨hn,o0,e1,e2,_⟩|⟨e,sz,i,hn,rfl,k2⟩
   ·refine⟨n,o0,e1,hk2 n hn,hg2 n hn, .inl ⟨hn,rfl⟩,fun e sz c ho=> ?_⟩;subst ho;cases o0<;>simp only[SO.cU]at e2;obtain⟨rfl,rfl,_⟩:=e2;exact⟨_,rfl⟩
   ·rcases k2 with⟨a1,_⟩|⟨n0,c0,d,a1,a2,_⟩
    ·exact absurd (hI _ a1) hi
    ·exact⟨n0,_,a2,hI _ a1,hGm _ a1, .inr ⟨hn,a1⟩,fun e' sz' c' ho=>by cases ho;exact⟨c0,rfl⟩⟩
  have uniq: ∀{n n' m:Nat},((n∈hd.ns∧m=n)∨(¬n∈hd.ns∧(n,some m)∈rn))→((n'∈hd.ns∧m=n')∨(¬n'∈hd.ns∧(n',some m)∈rn))→n=n':=fun{n n' m} h1 h3=>by
   rcases h1 with⟨a1,rfl⟩|⟨a1,a2⟩<;>rcases h3 with⟨b1,b2⟩|⟨b1,b2⟩
   ·exact b2
   ·exact absurd a1 (apart _ _ b2)
   ·subst b2;exact absurd b1 (apart _ _ a2)
   ·exact old _ _ _ a2 b2
  refine⟨ι2,γ2,⟨fun i v hv=> ?_,fun n vs hn=> ?_,fun n e sz c hn=> ?_,fun n c hn=> ?_,fun n e sz c hn=> ?_,fun n n' _ _ _ _ _ _ h1 h3=> ?_,fun n kk hn=> ?_,fun n n' o o' h1 h3 e1 e2=> ?_,fun n n' e e' sz sz' c c' h1 h3 e1 e2 eg=> ?_,M.wf,fun n e sz c hn hi y kk r hg=> ?_,by simp[Hd.mk',hk],M.con⟩⟩
  ·rw[hmk];simp only[Hd.mk',eQ,Option.or_eq_some_iff]at hv;rcases hv with hv|⟨_,hv⟩
   ·exact u_ gs hv
   ·rw[←Gv (Nat.le_of_eq KO.symm)]at hv;exact acO gt hv
  ·rw[hmk]at hn⊢;rcases look n _ hn with⟨hn',o0,_,_,e3⟩|⟨e,sz,i,_,k1,_⟩
   ·obtain⟨xs',k1,k2,k3⟩:=e3;exact⟨xs',by rw[hk2 n hn'];exact k1,by rw[hk2 n hn'];exact k2,k3⟩
   ·cases k1
  ·rw[hmk]at hn;rcases look n _ hn with⟨hn',o0,_,_,e3⟩|⟨e',sz',i,hnk,k1,k2⟩
   ·obtain⟨es,k1,k2,k3⟩:=e3;exact⟨es,k1,k2,by rw[hk2 n hn',hg2 n hn'];exact k3⟩
   ·cases k1;rcases k2 with⟨a1,a2⟩|⟨n0,c0,d,a1,a2,a3,a4⟩
    ·exact⟨[],by simpa[X.ev]using a2,rfl, .inl ⟨by rw[hI _ a1];rfl,rfl⟩⟩
    ·obtain⟨es,b1,b2,b3⟩:=M.az n0 _ _ _ a2;rw[a4]at b1;cases b1;have e1:ι2 n=ι n0:=hI _ a1;have e2:γ2 n=γ n0:=hGm _ a1;refine⟨es,by simpa[X.ev]using a3,b2, ?_⟩;rw[e1,e2];exact b3
  ·rw[hmk]at hn;rcases look n _ hn with⟨hn',o0,_,_,e3⟩|⟨e,sz,i,_,k1,_⟩
   ·obtain⟨es,k1,k2,k3⟩:=e3;exact⟨es,k1,by rw[hk2 n hn'];exact k2,by rw[hk2 n hn'];exact k3⟩
   ·cases k1
  ·rw[hmk]at hn;rcases look n _ hn with⟨hn',o0,_,_,e3⟩|⟨e,sz,i,_,k1,_⟩
   ·obtain⟨L,k1,k2,k3,k4⟩:=e3;refine⟨L,k1,by rw[hk2 n hn'];exact k2,by rw[hk2 n hn'];exact k3,fun q hq=>(k4.1 q hq).lj rfl (fun k o hk=> ?_) (fun k e sz c hk hi=> ?_) fun _=>Nat.le_refl _,k4.2⟩
    ·rw[hmk]at hk;by_cases hi:ι2 k= []
     ·rw[hi];exact Ne.symm (k4.1 q hq).1
     ·obtain⟨m,q1,a1,a2,_⟩:=src k o hk hi;rw[a2];exact(k4.1 q hq).2.2.2.1 m q1 a1
    ·rw[hmk]at hk;obtain⟨m,q1,a1,a2,a3,a4,a5⟩:=src k _ hk hi;obtain⟨c0,rfl⟩:=a5 _ _ _ rfl;rw[a3];exact(k4.1 q hq).2.2.2.2.1 m _ _ _ a1 (by rw[←a2];exact hi)
   ·cases k1
  ·rw[hmk]at h1 h3
   have mp: ∀{n e sz c},find h2 n=some (.mpl e sz c)→n∈hd.ns∧ ∃e' sz' c',find Y.h n=some (.mpl e' sz' c'):=fun{n e sz c} h=>by
    rcases look n _ h with⟨hn',o0,g1,g2,_⟩|⟨_,_,_,_,k1,_⟩
    ·cases o0<;>simp only[SO.cU]at g2;exact⟨hn',_,_,_,g1⟩
    ·cases k1
   obtain⟨_,_,_,_,g1⟩:=mp h1;obtain⟨_,_,_,_,g3⟩:=mp h3;exact M.one n n' _ _ _ _ _ _ g1 g3
  ·rw[hmk]at hn;rcases look n _ hn with⟨hn',o0,_,_,e3⟩|⟨e,sz,i,_,k1,_⟩
   ·obtain⟨k1,k2,k3⟩:=e3;exact⟨by rw[hk2 n hn'];exact k1,by rw[hk2 n hn'];exact k2,by rw[hk2 n hn'];exact k3⟩
   ·cases k1
  ·rw[hmk]at h1 h3;obtain⟨m,q1,a1,a2,_,a4,_⟩:=src n o h1 e2;obtain⟨m',q2,b1,b2,_,b4,_⟩:=src n' o' h3 (e1▸e2);have:m=m':=M.inj m m' _ _ a1 b1 (by rw[←a2,←b2];exact e1) (by rw[←a2];exact e2);subst this;exact uniq a4 b4
  ·rw[hmk]at h1 h3;obtain⟨m,q1,a1,a2,a3,a4,a5⟩:=src n _ h1 e1;obtain⟨m',q2,b1,b2,b3,b4,b5⟩:=src n' _ h3 e2;obtain⟨c0,rfl⟩:=a5 _ _ _ rfl;obtain⟨c1,rfl⟩:=b5 _ _ _ rfl;have:m=m':=M.gV m m' _ _ _ _ _ _ a1 b1 (by rw[←a2];exact e1) (by rw[←b2];exact e2) (by rw[←a3,←b3];exact eg);subst this;exact uniq a4 b4
  ·rw[hmk]at hn;obtain⟨m,q1,a1,a2,a3,a4,a5⟩:=src n _ hn hi;obtain⟨c0,rfl⟩:=a5 _ _ _ rfl;rw[a3]at hg;exact M.old m _ _ _ a1 (by rw[←a2];exact hi) y kk r hg
 ·cases hm
end
end
section
def ib(a b n:Nat):Nat:=bif n==a then b else bif n==b then a else n
theorem lE(a b n:Nat):ib a b (ib a b n)=n:=by
 unfold ib
 grind
mutual
def JO(a b:Nat):SV→SV
 | .un=> .un
 | .x e=> .x e
 | .agg vs=> .agg (C9 a b vs)
 | .tup vs=> .tup (C9 a b vs)
 | .clo f vs=> .clo f (C9 a b vs)
 | .ptr n o=> .ptr (ib a b n) o
 | .dp n o c s i j=> .dp (ib a b n) o c s i j
 | .gl n s=> .gl (ib a b n) s
 | .gs n s k=> .gs (ib a b n) s k
 | .gc n s k=> .gc (ib a b n) s k
 | .gt n s k=> .gt (ib a b n) s k
 | .ep n s i j=> .ep (ib a b n) s i j
 | .sb n o l=> .sb (ib a b n) o l
 | .rb n o=> .rb (ib a b n) o
 | .mp n=> .mp (ib a b n)
 | .yl n=> .yl (ib a b n)
 | .gd g v=> .gd g (JO a b v)
def C9(a b:Nat):List SV→List SV
 | []=> []
 |v::r=>JO a b v::C9 a b r
end
theorem pz(a b:Nat): ∀(vs:List SV),C9 a b vs=vs.map (JO a b)
 | []=>by simp[C9]
 |v::r=>by simp[C9,pz a b r]
def Pn(a b:Nat):SO→SO
 | .box vs=> .box (vs.map (JO a b))
 |o=>o
def Ug(a b:Nat):List (Nat×SO)→List (Nat×SO)
 | []=> []
 |(i,o)::r=>(ib a b i,Pn a b o)::Ug a b r
theorem oV(a b n:Nat): ∀(h:List (Nat×SO)),find (Ug a b h) n=(find h (ib a b n)).map (Pn a b)
 | []=>rfl
 |(i,o)::r=>by
  simp only[Ug,find,oV a b n r]
  have:(ib a b i==n)=(i==ib a b n):=by
   by_cases h:ib a b i=n
   ·subst h;rw[lE];simp
   ·have h2:i≠ib a b n:=fun e=>h (by rw[e,lE])
    grind
  grind
def Sy.swap(Y:Sy)(a b:Nat):Sy:={Y with s:=mapA (JO a b) Y.s,h:=Ug a b Y.h}
section
variable {Ω : bM} {G : FP} {E : List D} {ι γ : Nat → Tok} {Y : Sy} {J : St}
theorem VR.swap{h:List (Nat×SO)}{v:SV}{d:D}(H:VR G E ι h v d)(a b:Nat):VR G E (fun n=>ι (ib a b n)) (Ug a b h) (JO a b v) d:=by
 have fb: ∀{n:Nat} {vs:List SV},find h n=some (.box vs)→find (Ug a b h) (ib a b n)=some (.box (vs.map (JO a b))):=fun hf=>by rw[oV,lE,hf];rfl
 have fo: ∀{n:Nat} {o:SO},(∀vs,o≠ .box vs)→find h n=some o→find (Ug a b h) (ib a b n)=some o:=fun{n o} ho hf=>by
  rw[oV,lE,hf];cases o<;>first|rfl|exact absurd rfl (ho _)
 have hi: ∀n,ι (ib a b (ib a b n))=ι n:=fun n=>by rw[lE]
 induction H with
 |un=>exact .un
 |x h1 h2=>exact .x h1 h2
 |agg hl hh ih=>
  simp only[JO,pz]
  exact .agg (by simpa using hl) fun i v d hv hd=>by
   grind
 |tup hl hh ih=>
  simp only[JO,pz]
  exact .tup (by simpa using hl) fun i v d hv hd=>by
   grind
 |clo hl hh ih=>
  simp only[JO,pz]
  exact .clo (by simpa using hl) fun i v d hv hd=>by
   grind
 | @ptr n o vs hf=>
  have:=VR.ptr (G:=G) (E:=E) (ι:=fun n=>ι (ib a b n)) (o:=o) (fb hf);simp only[hi]at this;exact this
 | @dp n o cnt s j i vs k z hf hv h0 hz hl=>
  have:=VR.dp (G:=G) (E:=E) (ι:=fun n=>ι (ib a b n)) (o:=o) (j:=j) (fb hf) hv h0 hz (by simpa using hl);simp only[hi]at this;exact this
 | @gln n sz e c hf h1=>exact .gln (fo (by simp) hf) (by rw[hi];exact h1)
 | @gl n sz e c es hf hc h1=>
  have:=VR.gl (G:=G) (E:=E) (ι:=fun n=>ι (ib a b n)) (fo (by simp) hf) hc (by rw[hi];exact h1);simp only[hi]at this;exact this
 | @gsn n sz e c k q hf h1 hk=>exact .gsn (fo (by simp) hf) (by rw[hi];exact h1) hk
 | @gs n sz e c k es q z hf hc h1 hk h0 hz=>
  have:=VR.gs (G:=G) (E:=E) (ι:=fun n=>ι (ib a b n)) (fo (by simp) hf) hc (by rw[hi];exact h1) hk h0 hz;simp only[hi]at this;exact this
 | @gcn n sz e c k q hf h1 hk=>exact .gcn (fo (by simp) hf) (by rw[hi];exact h1) hk
 | @gc n sz e c k es q z m hf hc h1 hk h0 hz=>
  have:=VR.gc (m:=m) (G:=G) (E:=E) (ι:=fun n=>ι (ib a b n)) (fo (by simp) hf) hc (by rw[hi];exact h1) hk h0 hz;simp only[hi]at this;exact this
 | @gtn n sz e c k q hf h1 hk=>exact .gtn (fo (by simp) hf) (by rw[hi];exact h1) hk
 | @gt n sz e c k es q z hf hc h1 hk h0 hz=>
  have:=VR.gt (G:=G) (E:=E) (ι:=fun n=>ι (ib a b n)) (fo (by simp) hf) hc (by rw[hi];exact h1) hk h0 hz;simp only[hi]at this;exact this
 | @ep n sz e j c i k z es hf hc h1 hv h0 hz=>
  have:=VR.ep (G:=G) (E:=E) (ι:=fun n=>ι (ib a b n)) (j:=j) (fo (by simp) hf) hc (by rw[hi];exact h1) hv h0 hz;simp only[hi]at this;exact this
 | @sb n o len lim vs hf hl=>
  have:=VR.sb (G:=G) (E:=E) (ι:=fun n=>ι (ib a b n)) (lim:=lim) (fb hf) (by simpa using hl);simp only[hi]at this;exact this
 | @rb n o vs hf hl=>
  have:=VR.rb (G:=G) (E:=E) (ι:=fun n=>ι (ib a b n)) (fb hf) (by simpa using hl);simp only[hi]at this;exact this
 | @mp n o hf hmp=>
  have:=VR.mp (G:=G) (E:=E) (ι:=fun n=>ι (ib a b n)) (fo (fun vs e=>by subst e;cases hmp) hf) hmp;simp only[hi]at this;exact this
 | @yl n k hf=>
  have:=VR.yl (G:=G) (E:=E) (ι:=fun n=>ι (ib a b n)) (fo (by simp) hf);simp only[hi]at this;exact this
 |gd hg h1 h2 ih=>exact .gd hg ih h2
def wJ(Y:Sy)(n:Nat):Bool:=match find Y.h n with
 |some (.raw _)=>false
 |_=>true
theorem Mt.swap(M:Mt Ω G E ι γ Y J){a b:Nat}(ha:wJ Y a=true)(hb:wJ Y b=true):Mt Ω G E (fun n=>ι (ib a b n)) (fun n=>γ (ib a b n)) (Y.swap a b) J:=by
 have back: ∀{n:Nat} {o:SO},find (Y.swap a b).h n=some o→ ∃o0,find Y.h (ib a b n)=some o0∧o=Pn a b o0:=fun{n o} h=>by
  simp only[Sy.swap,oV]at h;obtain⟨o0,h1,h2⟩:=Mz.1 h
  grind
 have bl: ∀{n e sz:Nat} {c:X},find (Y.swap a b).h n=some (.az e sz c)→find Y.h (ib a b n)=some (.az e sz c):=fun{n e sz c} h=>by
  obtain⟨o0,h1,h2⟩:=back h;cases o0<;>simp only[Pn,reduceCtorEq]at h2;rw[h1,h2]
 have bp: ∀{n e sz:Nat} {c:X},find (Y.swap a b).h n=some (.mpl e sz c)→find Y.h (ib a b n)=some (.mpl e sz c):=fun{n e sz c} h=>by
  obtain⟨o0,h1,h2⟩:=back h;cases o0<;>simp only[Pn,reduceCtorEq]at h2;rw[h1,h2]
 have inj: ∀{n n':Nat},ib a b n=ib a b n'→n=n':=fun{n n'} h=>by have:=congrArg (ib a b) h;rwa[lE,lE]at this
 refine⟨fun i v hv=> ?_,fun n vs hn=> ?_,fun n e sz c hn=>M.az _ e sz c (bl hn),fun n c hn=> ?_,fun n e sz c hn=> ?_,fun n n' _ _ _ _ _ _ h1 h2=>inj (M.one _ _ _ _ _ _ _ _ (bp h1) (bp h2)),fun n k hn=> ?_,fun n n' o o' h1 h2 he hi=> ?_,fun n n' e e' sz sz' c c' h1 h2 g1 g2 hg=>inj (M.gV _ _ e e' sz sz' c c' (bl h1) (bl h2) g1 g2 hg),M.wf,fun n e sz c hn hi=>M.old _ e sz c (bl hn) hi,M.nv,M.con⟩
 ·simp only[Sy.swap,dY]at hv;obtain⟨u,hu,rfl⟩:=Mz.1 hv;exact(M.slot i u hu).swap a b
 ·obtain⟨o0,h1,h2⟩:=back hn;cases o0<;>simp only[Pn,reduceCtorEq,SO.box.injEq]at h2;subst h2;obtain⟨ds,k1,k2,k3⟩:=M.box _ _ h1;refine⟨ds,k1,k2,by simpa using k3.1,fun i v d hv hd=> ?_⟩;rw[Dz,Mz]at hv;obtain⟨u,hu,rfl⟩:=hv;exact(k3.2 i u d hu hd).swap a b
 ·obtain⟨o0,h1,h2⟩:=back hn;cases o0<;>simp only[Pn,reduceCtorEq,SO.map.injEq]at h2;subst h2;exact M.mpo _ c h1
 ·obtain⟨L,k1,k2,k3,k4⟩:=M.own _ _ _ _ (bp hn);refine⟨L,k1,k2,k3,fun q hq=>(k4.1 q hq).lj rfl (fun k o hk=> ?_) (fun k e sz c hk=> ?_) fun _=>Nat.le_refl _,k4.2⟩
  ·grind
  ·exact(k4.1 q hq).2.2.2.2.1 _ e sz c (bl hk)
 ·obtain⟨o0,h1,h2⟩:=back hn;cases o0<;>simp only[Pn,reduceCtorEq,SO.raw.injEq]at h2;subst h2
  have lM:ib a b n=n:=by
   unfold ib;by_cases e1:n=a
   ·subst e1;have:ib n b n=b:=by simp[ib]
    rw[this]at h1;simp[wJ,h1]at hb
   ·by_cases e2:n=b
    ·subst e2;have h0:(n==a)=false:=by simpa using e1
     have:ib a n n=a:=by simp[ib,h0]
     rw[this]at h1;simp[wJ,h1]at ha
    ·have h0:(n==a)=false:=by simpa using e1
     have h3:(n==b)=false:=by simpa using e2
     simp[h0,h3]
  rw[lM]at h1;simp only[lM];exact M.rwo n k h1
 ·obtain⟨o1,g1,_⟩:=back h1;obtain⟨o2,g2,_⟩:=back h2;exact inj (M.inj _ _ o1 o2 g1 g2 he hi)
end
def vi:SO→SO
 | .mpl _ _ c=> .map c
 |o=>o
def Sy.freeze(Y:Sy):Sy:={Y with h:=mapA vi Y.h}
def Sy.U_(Y:Sy)(k:Nat):Sy:=if k=1000000 then Y.freeze else Y
mutual
def nj(h:List (Nat×SO)):SV→SV
 | .gl n _=>match find h n with
  |some (.az _ _ c)=> .x c
  |_=> .un
 | .gs n _ k=>match find h n with
  |some (.az _ _ c)=> .x (.mk .take [c,k])
  |_=> .un
 | .gc n _ k=>match find h n with
  |some (.az _ _ c)=> .x (.mk .take [c,k])
  |_=> .un
 | .gt n _ k=>match find h n with
  |some (.az _ _ c)=> .x (.mk .drp [c,k])
  |_=> .un
 | .ep .. => .un
 | .agg vs=> .agg (iS h vs)
 | .tup vs=> .tup (iS h vs)
 | .clo f vs=> .clo f (iS h vs)
 | .gd g v=> .gd g (nj h v)
 | .un=> .un
 | .x e=> .x e
 | .ptr n o=> .ptr n o
 | .dp n o cnt s i j=> .dp n o cnt s i j
 | .sb n o l=> .sb n o l
 | .rb n o=> .rb n o
 | .mp n=> .mp n
 | .yl n=> .yl n
def iS(h:List (Nat×SO)):List SV→List SV
 | []=> []
 |v::r=>nj h v::iS h r
end
def p_(h:List (Nat×SO)):SO→SO
 | .box vs=> .box (iS h vs)
 |o=>o
def wI:List (Nat×SO)→List (Nat×SO)
 | []=> []
 |(i, .az ..)::r=>qL i (wI r)
 |(i,o)::r=>(i,o)::wI r
def Sy.oa(Y:Sy):Sy:={Y with s:=mapA (nj Y.h) Y.s,h:=mapA (p_ Y.h) (wI Y.h)}
def Sy.xS(Y:Sy)(k:Nat):Sy:=if k=1 then Y.oa else Y
def ui:List (Nat×SV)→List (Nat×Nat)
 | []=> []
 |(i, .ptr n 0)::r=>(i,n)::ui r
 |_::r=>ui r
def Sy.align(Y:Sy):List (Nat×Nat)→Sy
 | []=>Y
 |(i,a)::r=>match find Y.s i with
  |some (.ptr n 0)=>if n≠a∧wJ Y n=true∧wJ Y a=true then(Y.swap n a).align r else Y.align r
  |_=>Y.align r
theorem Mt.align{Ω:bM}{G:FP}{E:List D}: ∀(l:List (Nat×Nat)) {ι γ:Nat→Tok} {Y:Sy} {J:St},Mt Ω G E ι γ Y J→ ∃ι' γ',Mt Ω G E ι' γ' (Y.align l) J
 | [],ι,γ,Y,J,M=>⟨ι,γ,M⟩
 |(i,a)::r,ι,γ,Y,J,M=>by
  simp only[Sy.align];split
  ·split
   ·rename_i n _ hc;exact Mt.align r (M.swap hc.2.1 hc.2.2)
   ·exact Mt.align r M
  ·exact Mt.align r M
def D9:Nat→Row→List SV→Row
 |_,[],_=> []
 |k,(_,p)::r,vs=>(k,match p with
  | .same .un=> .same (vs.headD .un)
  |p=>p)::D9 (k+1) r vs.tail
def As(Y:Sy):List (Nat×Nat)→List SV
 | []=> []
 |(i,l)::r=>(match find Y.s i with
  |some (.tup vs)=>bif vs.length==l then vs else List.replicate l .un
  |_=>List.replicate l .un)++As Y r
def Ar(Y:Sy):List (Nat×Sk)→List SV
 | []=> []
 |(n,k)::r=>(match find Y.h n with
  |some o=>bif o.cells.length==k.len then o.cells else List.replicate k.len .un
  |none=>List.replicate k.len .un)++Ar Y r
def Hd.fill(h:Hd)(b:Nat)(Y:Sy):Hd:={h with row:=D9 b h.row (sr Y h.ids++(As Y h.ts++Ar Y h.os))}
end
section
inductive FT where
 |ret (x:X)
 |fC (xs:List X) (k:FT)
 |lets (xs:List X) (k:FT)
 |ite (c:X) (a b:FT)
 |loop (init:List X) (body:FT)
 |next (j:Nat) (xs:List X)
 |jp (k body:FT)
 |st (Y:Sy)
 |bad (why:Nat) (Y:Option Sy:=none)
def iy:X→D→Bool
 |_, .list []=>true
 | .mk .own _, .list es=>es.all fun c=>c.all D.aY
 |_, .agg xs=>xs.all D.aY
 |_,d=>d.aY
def uc:List X→List D→Bool
 |x::xs,d::ds=>iy x d&&uc xs ds
 | [],[]=>true
 |_,_=>false
def lS:X→D→Bool
 | .mk .tup xs, .tup ds=>uc xs ds
 |x,d=>iy x d
def bU(x:X)(d:D):D:=if d.flat then d else if lS x d then d.own else d
def ae(G:FP)(N:Nat):FT→List (List D→Option D)→List D→Option D
 | .ret x,_,E=>(X.ev G E x).bind fun d=>if d.aF then some (bU x d)else none
 | .fC xs k,L,E=>(X.bm G E xs).bind fun _=>ae G N k L E
 | .lets xs k,L,E=>(X.bm G E xs).bind fun ds=>ae G N k L (E++ds)
 | .ite c a b,L,E=>(X.ev G E c).bind fun v=>v.asBool.bind fun x=>bif x then ae G N a L E else ae G N b L E
 | .loop xs body,L,E=>(X.bm G E xs).bind fun ds=>iter (fun rec vs=>ae G N body (rec::L) (E++vs)) N ds
 | .next j xs,L,E=>(X.bm G E xs).bind fun ds=>(L[j]?).bind fun f=>f ds
 | .jp k body,L,E=>ae G N body ((fun vs=>ae G N k L (E++vs))::L) E
 | .st _,_,_=>none
 | .bad _ _,_,_=>none
def AW(xs:List X)(k:FT):FT:=match xs with
 | []=>k
 |xs=> .fC xs k
def oh(xs:List X)(k:FT):FT:=match xs with
 | []=>k
 |xs=> .lets xs k
theorem oM{G:FP}{N:Nat}{xs:List X}{k:FT}{L:List (List D→Option D)}{E:List D}:ae G N (AW xs k) L E=(X.bm G E xs).bind fun _=>ae G N k L E:=by cases xs<;>rfl
theorem pX{G:FP}{N:Nat}{xs:List X}{k:FT}{L:List (List D→Option D)}{E:List D}:ae G N (oh xs k) L E=(X.bm G E xs).bind fun ds=>ae G N k L (E++ds):=by
 cases xs
 ·simp[oh,X.bm]
 ·rfl
def asg:Code→List Nat
 | .region _ ops _=>ops.toList.filterMap (·.dst)
 | .seq a b| .cond _ a b=>asg a++asg b
 | .block _ c| .loop c=>asg c
 |_=> []
structure Hs where
 s:List (Nat×zr)
 t:List (Nat×List zr)
 o:List (Nat×Sk×List zr)
def rowOf(B:Nat):Nat→List zr→Row
 |_,[]=> []
 |i,p::r=>(B+i,p)::rowOf B (i+1) r
def Hs.hd(B:Nat)(h:Hs):Hd:=
 {ids:=h.s.map (·.1),ts:=h.t.map fun p=>(p.1,p.2.length),os:=h.o.map fun p=>(p.1,p.2.1),row:=rowOf B 0 (h.s.map (·.2)++(h.t.flatMap (·.2)++h.o.flatMap (·.2.2)))}
def gZ:Row→Nat
 | []=>0
 |(_, .var)::r|(_, .az ..)::r=>gZ r+1
 |_::r=>gZ r
def TA(h:List (Nat×SO))(n:Nat):zr:=match find h n with
 |some (.az e sz _)=> .az e sz
 |_=> .drop
def TV(k:Nat)(ns:List Nat)(h:List (Nat×SO))(chg:Bool)(v:SV):zr:=
 match v with
 | .gl n _=>if chg then TA h n else if ns.contains n then .same v else TA h n
 | .x (.q d)=>if chg&& !(match d with| .nil=>true|_=>false)then .var else .same (.x (.q d))
 |v=>if chg&&v.oB.isSome then .var else if cN k ns v then .same v else if v.oB.isSome then .var else .drop
def abK(k:Nat)(ns:List Nat)(h:List (Nat×SO)):zr→zr
 | .same v=>if cN k ns v then .same v else match v with
  | .gl n _=>TA h n
  |v=>if v.oB.isSome then .var else .drop
 |p=>p
def Ki(Y:Sy)(ls:List Sy):List (Nat×SO):=Y.h.filter fun p=>ls.all fun(Z:Sy)=>match find Z.h p.1 with
 |some o=>decide (o.sk=p.2.sk)
 |none=>false
def dedup(l:List (Nat×SO)):List (Nat×SO):=l.foldl (fun acc p=>if acc.any (·.1==p.1)then acc else acc++ [p]) []
def W9(k:Nat)(as:List Nat)(Y:Sy)(os:List (Nat×SO)):Hs:=
 let ns:=os.map (·.1)
 {s:=(Y.s.filter fun p=>match p.2 with| .tup _=>false|_=>true).map fun p=>(p.1,TV k ns Y.h (as.contains p.1) p.2),
  t:=Y.s.filterMap fun p=>match p.2 with| .tup vs=>some (p.1,vs.map (TV k ns Y.h (as.contains p.1)))|_=>none,
  o:=os.map fun p=>(p.1,p.2.sk,p.2.cells.map (TV k ns Y.h false))}
def T5(p:zr)(ls:List (List (Nat×SO)×SV)):zr:=
 match p with
 | .drop=> .drop
 | .same v=>if ls.all (fun l=>eO v l.2)then .same v else
  match ls.findSome? (fun l=>match l.2 with| .gl n _=>(match find l.1 n with|some (.az e sz _)=>some (e,sz)|_=>none)|_=>none)with
  |some (e,sz)=>if(match v with| .x (.q .nil)=>true| .gl .. =>true|_=>false)&&ls.all (fun l=>match l.2 with| .gl .. =>true| .x (.q .nil)=>true|_=>false)then .az e sz else .drop
  |none=>if v.oB.isSome&&ls.all (fun l=>l.2.oB.isSome)then .var else .drop
 | .var=>if ls.all (fun l=>l.2.oB.isSome)then .var else .drop
 | .az e sz=>if ls.all (fun l=>match l.2 with| .gl .. =>true| .x (.q .nil)=>true|_=>false)then .az e sz else .drop
def atT(Y:Sy)(i j:Nat):SV:=match find Y.s i with
 |some (.tup vs)=>vs.getD j .un
 |_=> .un
def atO(Y:Sy)(n j:Nat):SV:=match find Y.h n with
 |some o=>o.cells.getD j .un
 |none=> .un
def refine(k:Nat)(h0:List (Nat×SO))(h:Hs)(ls:List Sy):Hs:=
 let o:=h.o.filter fun p=>ls.all fun(Y:Sy)=>match find Y.h p.1 with|some o=>decide (o.sk=p.2.1)|none=>false
 let ns:=o.map (·.1);let f:=abK k ns h0
 {s:=h.s.map fun p=>(p.1,f (T5 p.2 (ls.map fun(Y:Sy)=>(Y.h,(find Y.s p.1).getD SV.un)))),
  t:=(h.t.filter fun p=>ls.all fun(Y:Sy)=>match find Y.s p.1 with|some (SV.tup vs)=>vs.length==p.2.length|_=>false).map fun p=>
   (p.1,p.2.zipIdx.map fun q=>f (T5 q.1 (ls.map fun(Y:Sy)=>(Y.h,atT Y p.1 q.2)))),
  o:=o.map fun p=>(p.1,p.2.1,p.2.2.zipIdx.map fun q=>f (T5 q.1 (ls.map fun(Y:Sy)=>(Y.h,atO Y p.1 q.2))))}
def XY(B:Nat)(l:List Sy):Nat:=l.foldl (fun a Y=>if a<Y.nx then Y.nx else a) B
def tK(k:Nat):List Sy→Option (Hd×Nat)
 |Y::Z::r=>
  let ls:=Y::Z::r;let B:=XY 0 ls;let hd:=(refine k Y.h (W9 k [] Y (dedup (Ki Y ls))) ls).hd B
  if hd.ok k&&ls.all fun(W:Sy)=>(hd.mt W).isSome&&W.h.all (fun p=>match p.2 with| .raw _=>hd.ns.contains p.1|_=>true)then some (hd,B+hd.row.length)else none
 |_=>none
theorem wo{k:Nat}{l:List Sy}{hd:Hd×Nat}(h:tK k l=some hd):hd.1.ok k=true:=by
 unfold tK at h
 grind
def ug:Operand→List Nat
 | .tmp t=> [t]
 |_=> []
def Ju:List Nat→List Oper→List Nat
 |_,[]=> []
 |dn,o::r=>(o.op.operands.toList.flatMap ug).filter (fun i=> !dn.contains i)++Ju ((match o.dst with|some x=> [x]|none=> [])++dn) r
def cC:Code→List Nat
 | .region _ ops _=>Ju [] ops.toList
 | .seq a b=>cC a++cC b
 | .cond c a b=>ug c++cC a++cC b
 | .block _ c| .loop c=>cC c
 | .rangeFunc g _ a b=>ug g++cC a++cC b
 |_=> []
def uniq:List Nat→List Nat→List Nat
 |acc,[]=>acc
 |acc,a::r=>if acc.contains a then uniq acc r else uniq (a::acc) r
mutual
def SV.nms:SV→List Nat
 | .un| .x _=> []
 | .agg vs| .tup vs=>SV.II vs
 | .clo _ vs=>SV.II vs
 | .ptr k _| .dp k _ _ _ _ _| .gl k _| .gs k _ _| .gc k _ _| .gt k _ _| .ep k _ _ _| .sb k _ _| .rb k _| .mp k| .yl k=> [k]
 | .gd _ v=>SV.nms v
def SV.II:List SV→List Nat
 | []=> []
 | .x _::r=>SV.II r
 |v::r=>SV.nms v++SV.II r
end
def CK:List (Nat×SV)→List Nat
 | []=> []
 |(_, .x _)::r=>CK r
 |(_,v)::r=>v.nms++CK r
def yq(h:List (Nat×SO)):Nat→List Nat→List Nat→List Nat
 |0,_,acc=>acc
 |_+1,[],acc=>acc
 |f+1,a::r,acc=>bif LI acc a then yq h f r acc else match find h a with
  |some (.box us)=>yq h f (SV.II us++r) (a::acc)
  |_=>yq h f r (a::acc)
def SO.Xh:SO→Bool
 | .raw _=>true
 |_=>false
def Sy.gc(Y:Sy):Sy:=(((Y.h.filter fun p=> !p.2.Xh).map (·.1)).filter fun n=> !LI (yq Y.h 4000 (CK Y.s) []) n).foldl Sy.kill Y
def qw{α:Type}(n:Nat):List (Nat×α)→List (Nat×α)
 | []=> []
 |(i,a)::r=>(i+n,a)::qw n r
def jb{α:Type}(n:Nat):List (Nat×α)→List (Nat×α)
 | []=> []
 |(i,a)::r=>bif decide (i<n)then jb n r else(i-n,a)::jb n r
def zC:Nat→List SV→List (Nat×SV)
 |_,[]=> []
 |i,v::r=>(i,v)::zC (i+1) r
def Sy.enter(Y:Sy)(n' n:Nat)(vs:List SV):Sy:={Y with s:=zC 0 vs++qw n' Y.s,nx:=Y.nx+n}
def Sy.leave(Y:Sy)(n':Nat):Sy:={Y with s:=jb n' Y.s}
def wX{α:Type}(n:Nat):List (Nat×α)→List (Nat×α)
 | []=> []
 |(i,a)::r=>bif decide (i<n)then(i,a)::wX n r else wX n r
def IX:List Nat→List SV→List (Nat×SV)→List (Nat×SV)
 |p::ps,v::vs,l=>IX ps vs (cq p v l)
 |_,_,l=>l
def Sy.round(Z:Sy)(n off:Nat)(ps:List Nat)(vs:List SV)(n0:Nat):Sy:={Z with s:=IX ps vs (wX n (jb off Z.s)++qw n Z.s),nx:=Z.nx+n0}
def Sy.raw(Y:Sy)(nm:Nat)(k:RS):Sy:={Y with h:=cq nm (.raw k) Y.h}
def Sy.jH(Y:Sy)(nm:Nat):Sy:={(Y.kill nm).raw nm .ready with nx:=Y.nx+1}
def I':VE→RS
 | .normal=> .ready
 |e=> .done e
def Sy.kK(Y:Sy)(x:Option Nat)(v:SV):Sy:=match x with
 |some x=>Y.set x v
 |none=>Y
def Sy.bump(Y:Sy)(n:Nat):Sy:={Y with nx:=Y.nx+n}
inductive fB where
 |t (i:Nat)
 |cell (i n:Nat) (agg:Bool)
 deriving Inhabited
def vh(P:Program)(n:Nat):ResultVar→Option fB
 | .tmp t=>if t<n then some (.t t)else none
 | .cell a t=>if a<n then(dG P t).bind fun g=>if(P.info? t).isSome∧(g=true∨P.cellsOf t=1)then some (.cell a (P.cellsOf t) g)else none else none
def uk(Y:Sy):fB→Option SV
 | .t i=>some (b6 Y (.t i))
 | .cell i n g=>(uO Y.h (.load n g) [b6 Y (.t i)]).bind fun q=>if q.2.isEmpty then some q.1 else none
def A9(rs:List fB)(Y:Sy):Option SV:=
 match rs with
 | [r]=>uk Y r
 |rs=>(rs.mapM (uk Y)).map .tup
def ZU:ResultVar→Nat
 | .tmp t=>t
 | .cell a _=>a
def tM(fn:Func):List Nat:=uniq [] (fn.results.toList.map ZU)
structure Ya where
 S:List Nat
 run:List Nat→Nat→Nat→List SV→Option Nat→Nat→Sy→List Sy
def Ya.push(ya:Ya)(k:Nat):Ya:=⟨ya.S,fun S nm off=>ya.run S nm (off+k)⟩
def Ya.under(ya:Ya)(S:List Nat)(k:Nat):Ya:=⟨S,fun S' nm off=>if ya.S.contains nm then ya.run S' nm (off+k)else fun _ _ _ _=> []⟩
abbrev InA:=Ya→Nat→List SV→Option Nat→Nat→Sy→List Sy
structure Cx where
 P:Program
 cfg:Nat→pI
 un:Nat→Nat→Nat
 it:Nat→Option (Nat×Nat)
 ia:InA
 fj:Nat→Bool
 rt:Nat:=0
 hint:Nat→Nat→Option (Option (Hd×Nat)):=fun _ _=>none
def Nd:Code→Nat
 | .region id _ _=>2*id+1
 | .block id _=>2*id+2
 | .seq a _=>Nd a
 | .cond _ a b=>match Nd a with
  |0=>Nd b
  |k=>k
 | .loop c=>Nd c
 | .rangeFunc _ _ _ b=>Nd b
 |_=>0
def Cp(k cf a b:Nat)(Y:Sy):List Nat:= [k,cf,a,b,Y.nv,Y.nx-1000000,Y.d,Y.s.length,Y.h.length]
def SH:Nat→List Nat→Nat
 |acc,[]=>acc
 |acc,a::r=>SH (acc*10000000+a) r
def Cx.El(C:Cx)(key:List Nat)(Y:Sy)(nv:Nat)(l:Unit→Option (Hd×Nat)):Option (Hd×Nat):=match C.hint C.rt (SH 1 key)with
 |some (some h)=>if(h.1.fill (Y.nx+h.2-h.1.row.length) Y).ok nv then some (h.1.fill (Y.nx+h.2-h.1.row.length) Y,Y.nx+h.2)else none
 |some none=>none
 |none=>l ()
def Cx.Nt(C:Cx)(key:List Nat)(Y:Sy)(l:Unit→Hd):Hd:=match C.hint C.rt (SH 1 key)with
 |some (some h)=>h.1.fill Y.nx Y
 |_=>l ()
theorem AL{C:Cx}{key:List Nat}{Y:Sy}{nv:Nat}{l:Unit→Option (Hd×Nat)}{h:Hd×Nat}(hl: ∀h,l ()=some h→h.1.ok nv=true)(hs:C.El key Y nv l=some h):h.1.ok nv=true:=by
 unfold Cx.El at hs;split at hs
 ·split at hs
  ·cases hs;assumption
  ·cases hs
 ·cases hs
 ·exact hl h hs
structure Yh where
 S:List Nat
 run:List Nat→Nat→Nat→List SV→Option Nat→Nat→Sy→(Sy→FT)→FT
 a:Ya
def Yh.push(yl:Yh)(k:Nat):Yh:=⟨yl.S,fun S nm off=>yl.run S nm (off+k),yl.a.push k⟩
def Yh.under(yl:Yh)(S:List Nat)(k:Nat):Yh:=⟨S,fun S' nm off=>if yl.S.contains nm then yl.run S' nm (off+k)else fun _ _ _ _ _=> .bad 100048,yl.a.under S k⟩
abbrev JJ:=Yh→Nat→List SV→Option Nat→Nat→Sy→(Sy→FT)→FT
inductive Tg where
 |fn (f:Nat)
 |yld (nm:Nat)
def pS(fr:pI)(n:Nat)(o:Oper)(Y:Sy):Option (Tg×List SV):=
 match o.op with
 | .call c=>if o.dst.all (· <n)then(match c.callee with
  | .value (.func f)=>if fr.fr f=1 then(c.args.toList.mapM (ft n)).map fun gs=>(.fn f,gs.map (b6 Y))else none
  | .value (.tmp t)=>if t<n then(match find Y.s t with
   |some (.clo f eK)=>if f<1000000 then(if fr.fr f=1 then(c.args.toList.mapM (ft n)).map fun gs=>(.fn f,gs.map (b6 Y)++eK)else none)else if fr.fr (f-1000000)=1 then(c.args.toList.mapM (ft n)).map fun gs=>(.fn (f-1000000),eK++gs.map (b6 Y))else none
   |some (.yl nm)=>(c.args.toList.mapM (ft n)).map fun gs=>(.yld nm,gs.map (b6 Y))
   |_=>none)else none
  |_=>none)else none
 |_=>none
def KJ(yl:Yh)(inl:JJ):Tg→List SV→Option Nat→Nat→Sy→(Sy→FT)→FT
 | .fn f=>inl yl f
 | .yld nm=>if yl.S.contains nm then yl.run yl.S nm 0 else fun _ _ _ _ _=> .bad 100047
def EK(it:Option (Nat×Nat))(n:Nat)(g:Operand)(Y:Sy):Option ((Nat×List SV)×List X):=
 match g with
 | .func f=>some ((f,[]),[])
 | .tmp t=>if t<n then(match find Y.s t with
  |some (.clo f eK)=>if f<1000000 then some ((f,eK),[])else none
  |some (.x e)=>it.bind fun q=>if q.1<1000000 then some ((q.1,(List.range q.2).map fun i=> .x (.mk (.capc q.1 i q.2) [e])),[.mk (.isc q.1 q.2) [e]])else none
  |_=>none)else none
 |_=>none
def sA(fr:pI):Op→Bool
 | .call c=>match c.callee with
  | .value (.func f)=>decide (fr.fr f=1)
  | .value (.tmp _)=>true
  |_=>false
 |_=>false
def DU(fr:pI)(ops:Array Oper):Bool:=ops.toList.any fun o=>sA fr o.op
def Sy.qz(Y:Sy)(e:X):Sy:={Y with s:=mapA (strip e) Y.s}
def NH:BinOp→Bool
 | .eql| .neq| .lss| .leq| .gtr| .geq=>true
 |_=>false
def fU:X→Bool
 | .q (.v (.bool _))=>true
 | .mk (.gv _) _=>true
 | .mk (.pk k) _=>match k with
  | .ibin op=>NH op
  | .inot=>true
  | .beq _| .seq _| .aeq .. | .snil _=>true
  |_=>false
 | .ite _ a b=>fU a&&fU b
 |_=>false
def mE(w:Bool)(g:X):SV→SV
 | .x e=>if eJ e g then .x (.q (.v (.bool (!w))))else .x e
 |v=>v
def Sy.mE(Y:Sy):X→Sy
 | .mk (.gv w) [g]=>if fU g then{Y with s:=mapA (Go.Proofs.YtkcfpgaepmllhaaGreatDoor.mE w g) Y.s}else Y
 |_=>Y
inductive GV where
 |go (b:Bool)
 |ask (e:X)
def guardOf(Y:Sy):Option (Option (Nat×Bool))→Option GV
 |none=>none
 |some none=>some (.go true)
 |some (some (j,w))=>match find Y.s j with
  |some (.x (.q (.v (.bool b))))=>some (.go (b==w))
  |some (.x g)=>some (.ask (.mk (.gv w) [g]))
  |_=>none
def yZ(body:Sy→(VE→Sy→FT)→FT):Nat→Sy→(VE→Sy→FT)→FT
 |0,_,_=> .bad 100031
 |k+1,Y,κ=>body Y fun e Y'=>match e with
  | .normal=>yZ body k Y' κ
  |e=>κ e Y'
def settle(ks:List Nat)(n:Nat)(Y:Sy):Sy×List X:=((Y.trim n ks).gc.bump n).atom
def zr.kind:zr→Nat
 | .drop=>0
 | .same _=>1
 | .var=>2
 | .az .. =>3
def Hs.kinds(h:Hs):List Nat:=h.s.map (·.2.kind)++(h.t.flatMap fun p=>p.1::p.2.map zr.kind)++h.o.flatMap fun p=>p.1::p.2.2.map zr.kind
def R4:List Nat→List Nat→Bool
 | [],[]=>true
 |a::r,b::s=>a==b&&R4 r s
 |_,_=>false
def ju:List (VE×Sy)→List Sy
 | []=> []
 |(.normal,Y)::r=>Y::ju r
 |_::r=>ju r
def others:List (VE×Sy)→List (VE×Sy)
 | []=> []
 |(.normal,_)::r=>others r
 |p::r=>p::others r
def CG(k:Nat)(l:List Sy):List Sy:=match tK k l with
 |some hd=> [hd.1.mk' k (gZ hd.1.row) 0 hd.2]
 |none=>l
def TE(b:Bool)(k:Nat)(l:List Sy):List Sy:=bif b then l else CG k l
def Ns(run:Hs→List (VE×Sy))(Y:Sy)(c:Code):Hs×List (VE×Sy):=
 let al:=ui Y.s;let h0:=W9 Y.nv (asg c) Y (dedup Y.h);let l0:=run h0;let h1:=refine Y.nv Y.h h0 ((ju l0).map fun Z=>Z.align al)
 if R4 h1.kinds h0.kinds then(h1,l0)else
 let l1:=run h1;let h2:=refine Y.nv Y.h h1 ((ju l1).map fun Z=>Z.align al)
 if R4 h2.kinds h1.kinds then(h2,l1)else(h2,run h2)
def EV(body:Sy→List (VE×Sy)):Nat→Sy→List (VE×Sy)
 |0,_=> []
 |k+1,Y=>others (body Y)++(ju (body Y)).flatMap (EV body k)
def Ya.Vd(n:Nat)(fa fb:Ya→List Nat→Sy→List (VE×Sy))(ya:Ya)(nm0:Nat)(ps:Array Nat)(body:Code):Ya:=
 ⟨nm0::ya.S,fun S nm off vs x n0 Z=>if nm=nm0 then(match find Z.h nm with
  |some (.raw .ready)=>if vs.length=ps.size then
    (fa (ya.under S (n+off)) (cC body) (Z.round n off ps.toList vs n0)).flatMap fun p=>match p.1,find p.2.h nm with
     | .normal,some (.raw .ready)=>(fb (ya.under S (n+off)) [] (p.2.raw nm .busy)).filterMap fun p2=>match find p2.2.h nm with
      |some (.raw .busy)=>some (((p2.2.raw nm (I' p2.1)).leave n).kK x (.x (.q (bv (decide (p2.1= .normal))))))
      |_=>none
     |_,_=> []
   else []
  |_=> [])else ya.run S nm off vs x n0 Z⟩
def lg:Code→Bool
 | .loop _| .rangeFunc .. =>true
 | .seq a b| .cond _ a b=>lg a||lg b
 | .block _ c=>lg c
 |_=>false
def NY(P:Program)(f:Nat):Bool:=match P.funcs[f]? with
 |some fn=>match fn.body with
  |some c=>lg c
  |none=>false
 |none=>false
def TY(fr:pI)(fj:Bool):Code→Bool
 | .region _ ops _=>ops.toList.all fun o=> !(sA fr o.op&&o.guard.isSome)
 | .skip| .exit _| .ret=>true
 |c=>lg c&& !fj
section
variable (C : Cx) (ia : InA) (cf n : Nat)
def FY(ya:Ya)(ops:Array Oper):List Oper→Sy→List Sy
 | [],Y=> [Y]
 |o::r,Y=>
  let go:=fun(Y0:Sy)=>(pS (C.cfg cf) n o Y0.gc.atom.1).map fun q=>match q.1 with
   | .fn f=>if NY C.P f&& !C.fj f then ia ya f q.2 o.dst n Y0.gc.atom.1 else CG Y0.gc.atom.1.nv (ia ya f q.2 o.dst n Y0.gc.atom.1)
   | .yld nm=>if ya.S.contains nm then ya.run ya.S nm 0 q.2 o.dst n Y0.gc.atom.1 else []
  match(if sA (C.cfg cf) o.op&&o.dst.all (· <n)then(match guardOf Y (mg n ops o)with
   |some (.go true)=>(go Y).map fun l=>l.flatMap (FY ya ops r)
   |some (.go false)=>some (FY ya ops r (Y.kK o.dst (.x pF)))
   |some (.ask e)=>(go (Y.qz e)).map fun l=>l.flatMap (FY ya ops r)++FY ya ops r ((Y.mE e).kK o.dst (.x pF))
   |none=>none)else none)with
  |some l=>l
  |none=>match mF (B4 C.P (C.cfg cf) n ops o) Y with
   |some q=>FY ya ops r q.1
   |none=> []
def nR:Ya→Bool→Nat→List Nat→Code→Sy→List (VE×Sy)
 |_,_,_,_, .skip,Y=> [(.normal,Y)]
 |ya,_,_,ks, .region id ops draw,Y=>match(if draw=false∧DU (C.cfg cf) ops then none else gF C.P (C.cfg cf) n ops draw (Y.xS (C.un cf (2000000+id))))with
  |some q=> [(.normal,(settle ks n q.1).1)]
  |none=>if draw then []else(FY C ia cf n ya ops ops.toList (Y.xS (C.un cf (2000000+id)))).map fun Y'=>(.normal,(settle ks n Y').1)
 |ya,rd,_,ks, .seq a b,Y=>
  let l:=nR ya rd 0 (uniq ks (cC b)) a Y
  others l++(if lg a&& !C.fj cf then ju l else CG Y.nv (ju l)).flatMap fun Y'=>nR ya rd 0 ks b Y'
 |ya,rd,_,ks, .cond c a b,Y=>match(ft n c).map (b6 Y)with
  |some (.x (.q (.v (.bool true))))=>nR ya rd 0 ks a Y
  |some (.x (.q (.v (.bool false))))=>nR ya rd 0 ks b Y
  |some (.x _)=>nR ya rd 0 ks a Y++nR ya rd 0 ks b Y
  |_=> []
 |ya,rd,_,ks, .block id c,Y=>(nR ya rd (id+1) ks c (Y.U_ (C.un cf (id+1)))).map fun p=>match p.1 with
  | .exit i=>if i=id then(.normal,p.2)else(.exit i,p.2)
  |e=>(e,p.2)
 |ya,rd,bi,ks, .loop c,Y=>
  if 0<C.un cf bi∧C.un cf bi<1000000 then EV (fun Y=>nR ya rd 0 (uniq ks (cC c)) c Y) (C.un cf bi) Y else
  others (Ns (fun h=>nR ya rd 0 (uniq ks (cC c)) c ((h.hd Y.nx).mk' Y.nv (gZ (h.hd Y.nx).row) Y.d (Y.nx+(h.hd Y.nx).row.length))) Y c).2
 |ya,rd,_,_, .rangeFunc g ps assign body,Y=>
  if rd=false∧ya.S.contains Y.nx=false∧ps.all (· <n)=true then match EK (C.it cf) n g (Y.jH Y.nx)with
   |some q=>(TE (NY C.P q.1.1&& !C.fj q.1.1) Y.nv (ia (Ya.Vd n (fun ya ks Y=>nR ya true 0 ks assign Y) (fun ya ks Y=>nR ya true 0 ks body Y) ya Y.nx ps body) q.1.1 (.yl Y.nx::q.1.2) none n (Y.jH Y.nx))).flatMap fun(Y2:Sy)=>match find Y2.h Y.nx with
    |some (.raw .ready)=> [(.normal,Y2.kill Y.nx)]
    |some (.raw (.done e))=> [(e,Y2.kill Y.nx)]
    |_=> []
   |none=> []
  else []
 |_,_,_,_, .exit id,Y=> [(.exit id,Y)]
 |_,_,_,_, .ret,Y=> [(.ret,Y)]
 |_,_,_,_,_,_=> []
end
section
variable (C : Cx) (inl : JJ) (cf n : Nat)
def fQ(yl:Yh)(id:Nat)(ops:Array Oper):List Oper→Sy→(Sy→FT)→FT
 | [],Y,κ=>κ Y
 |o::r,Y,κ=>match(if sA (C.cfg cf) o.op&&o.dst.all (· <n)then(match guardOf Y (mg n ops o)with
   |some (.go true)=>(pS (C.cfg cf) n o Y.gc.atom.1).map fun q=>oh Y.gc.atom.2 (KJ yl inl q.1 q.2 o.dst n Y.gc.atom.1 fun Y'=>fQ yl id ops r Y' κ)
   |some (.go false)=>some (fQ yl id ops r (Y.kK o.dst (.x pF)) κ)
   |some (.ask e)=>(pS (C.cfg cf) n o (Y.qz e).gc.atom.1).map fun q=> .ite e (oh (Y.qz e).gc.atom.2 (KJ yl inl q.1 q.2 o.dst n (Y.qz e).gc.atom.1 fun Y'=>fQ yl id ops r Y' κ)) (fQ yl id ops r ((Y.mE e).kK o.dst (.x pF)) κ)
   |none=>none)else none)with
  |some t=>t
  |none=>match mF (B4 C.P (C.cfg cf) n ops o) Y with
   |some q=>AW q.2 (fQ yl id ops r q.1 κ)
   |none=> .bad id (some Y)
def cX:Yh→Bool→Nat→List Nat→Code→Sy→(VE→Sy→FT)→FT
 |_,_,_,_, .skip,Y,κ=>κ .normal Y
 |yl,_,_,ks, .region id ops draw,Y,κ=>match(if draw=false∧DU (C.cfg cf) ops then none else gF C.P (C.cfg cf) n ops draw (Y.xS (C.un cf (2000000+id))))with
  |some q=>AW (prune (settle ks n q.1).2 q.2) (oh (settle ks n q.1).2 (κ .normal (settle ks n q.1).1))
  |none=>if draw then .bad id (some Y)else fQ C inl cf n yl id ops ops.toList (Y.xS (C.un cf (2000000+id))) fun Y'=>oh (settle ks n Y').2 (κ .normal (settle ks n Y').1)
 |yl,rd,_,ks, .seq a b,Y,κ=>match(if TY (C.cfg cf) (C.fj cf) a then none else C.El (Cp 1 cf (Nd a) (Nd b) Y) Y Y.nv fun _=>tK Y.nv (ju (nR C C.ia cf n yl.a rd 0 (uniq ks (cC b)) a Y)))with
  |some hd=> .jp (cX yl rd 0 ks b (hd.1.mk' Y.nv (gZ hd.1.row) Y.d hd.2) κ) (cX yl rd 0 (uniq ks (cC b)) a {Y with d:=Y.d+1} fun e Y'=>match e with
   | .normal=>match hd.1.mt Y' with
    |some p=> .next (Y'.d-(Y.d+1)) p.1
    |none=> .bad (100000+1)
   |e=>κ e Y')
  |none=>cX yl rd 0 (uniq ks (cC b)) a Y fun e Y'=>match e with
   | .normal=>cX yl rd 0 ks b Y' κ
   |e=>κ e Y'
 |yl,rd,_,ks, .cond c a b,Y,κ=>match(ft n c).map (b6 Y)with
  |some (.x (.q (.v (.bool true))))=>cX yl rd 0 ks a Y κ
  |some (.x (.q (.v (.bool false))))=>cX yl rd 0 ks b Y κ
  |some (.x e)=> .ite e (cX yl rd 0 ks a Y κ) (cX yl rd 0 ks b Y κ)
  |_=> .bad (100000+2)
 |yl,rd,_,ks, .block id c,Y,κ=>cX yl rd (id+1) ks c (Y.U_ (C.un cf (id+1))) fun e Y'=>match e with
  | .exit i=>if i=id then κ .normal Y' else κ (.exit i) Y'
  |e=>κ e Y'
 |yl,rd,bi,ks, .loop c,Y,κ=>
  if 0<C.un cf bi∧C.un cf bi<1000000 then yZ (fun Y κ=>cX yl rd 0 (uniq ks (cC c)) c Y κ) (C.un cf bi) Y κ else
  let al:=ui Y.s;let hd:=C.Nt (Cp 2 cf bi (Nd c) Y) Y fun _=>(Ns (fun h=>nR C C.ia cf n yl.a rd 0 (uniq ks (cC c)) c ((h.hd Y.nx).mk' Y.nv (gZ (h.hd Y.nx).row) Y.d (Y.nx+(h.hd Y.nx).row.length))) Y c).1.hd Y.nx
  if hd.ok Y.nv then match hd.mt Y with
   |some q=> .loop q.1 (cX yl rd 0 (uniq ks (cC c)) c (hd.mk' Y.nv q.1.length (Y.d+1) (Y.nx+hd.row.length)) fun e Y'=>match e with
    | .normal=>match hd.mt (Y'.align al)with
     |some p=> .next (Y'.d-(Y.d+1)) p.1
     |none=> .bad (100000+3)
    |e=>κ e Y')
   |none=> .bad (100000+4)
  else .bad (100000+5)
 |yl,rd,_,_, .rangeFunc g ps assign body,Y,κ=>
  if rd=false∧yl.S.contains Y.nx=false∧ps.all (· <n)=true then match EK (C.it cf) n g (Y.jH Y.nx)with
   |some q=>AW q.2 (inl ⟨Y.nx::yl.S,fun S nm off vs x n0 Z κ'=>if nm=Y.nx then(match find Z.h nm with
     |some (.raw .ready)=>if vs.length=ps.size then
       cX (yl.under S (n+off)) true 0 (cC body) assign (Z.round n off ps.toList vs n0) fun e Z1=>match e,find Z1.h nm with
        | .normal,some (.raw .ready)=>cX (yl.under S (n+off)) true 0 [] body (Z1.raw nm .busy) fun e2 Z2=>match find Z2.h nm with
         |some (.raw .busy)=>κ' (((Z2.raw nm (I' e2)).leave n).kK x (.x (.q (bv (decide (e2= .normal))))))
         |_=> .bad 100042
        |_,_=> .bad 100043
      else .bad 100044
     |_=> .bad 100045)else yl.run S nm off vs x n0 Z κ',Ya.Vd n (fun ya ks Y=>nR C C.ia cf n ya true 0 ks assign Y) (fun ya ks Y=>nR C C.ia cf n ya true 0 ks body Y) yl.a Y.nx ps body⟩ q.1.1 (.yl Y.nx::q.1.2) none n (Y.jH Y.nx) fun Y2=>match find Y2.h Y.nx with
    |some (.raw .ready)=>κ .normal (Y2.kill Y.nx)
    |some (.raw (.done e))=>κ e (Y2.kill Y.nx)
    |_=> .bad 100046)
   |none=> .bad 100041
  else .bad 100040
 |_,_,_,_, .exit id,Y,κ=>κ (.exit id) Y
 |_,_,_,_, .ret,Y,κ=>κ .ret Y
 |_,_,_,_,_,_,_=> .bad (100000+6)
end
section
variable (C : Cx)
def SR(inl:JJ)(yl:Yh)(f:Nat)(vs:List SV)(x:Option Nat)(n:Nat)(Y:Sy)(κ:Sy→FT):FT:=
 match C.P.funcs[f]? with
 |some fn=>match fn.body,fn.results.toList.mapM (vh C.P fn.ntmps)with
  | some c, some rs => if (fn.name == "runtime.NumGoroutine") = false ∧ vs.length ≤ fn.ntmps then
    let ks:=tM fn
    let fin:(Sy→FT)→VE→Sy→FT:=fun κ e Y2=>match e with
     | .exit _=> .bad 100032
     |_=>match A9 rs Y2 with
      |some v=>κ ((Y2.leave fn.ntmps).kK x v)
      |none=> .bad 100033
    match(if lg c&& !C.fj f then none else C.El (Cp 3 f 0 0 Y) Y Y.nv fun _=>tK Y.nv (C.ia yl.a f vs x n Y))with
    |some hd=> .jp (κ (hd.1.mk' Y.nv (gZ hd.1.row) Y.d hd.2)) (cX C inl f fn.ntmps (yl.push fn.ntmps) false 0 ks c {Y.enter fn.ntmps n vs with d:=Y.d+1} (fin fun Y'=>match hd.1.mt Y' with
     |some p=> .next (Y'.d-(Y.d+1)) p.1
     |none=> .bad 100034))
    |none=>cX C inl f fn.ntmps (yl.push fn.ntmps) false 0 ks c (Y.enter fn.ntmps n vs) (fin κ)
   else .bad 100035
  |_,_=> .bad 100036
 |none=> .bad 100037
def vZ:Nat→JJ
 |0=>fun _ _ _ _ _ _ _=> .bad 100030
 |k+1=>SR C (vZ k)
end
def Vq:Yh:=⟨[],fun _ _ _ _ _ _ _ _=> .bad 100048,⟨[],fun _ _ _ _ _ _ _=> []⟩⟩
def lh:X→Bool
 | .mk .own _=>true
 |_=>false
def NI:SV→Bool
 | .gl .. | .gs .. | .gc .. | .gt .. =>true
 |_=>false
def FZ(v:SV)(e:X):Option X:=if NI v then some (.mk .own [e])else if lh e then none else some e
def ox(Y:Sy):fB→Option X
 | .t i=>(bL Y.h (b6 Y (.t i))).bind (FZ (b6 Y (.t i)))
 | .cell i n g=>(uO Y.h (.load n g) [b6 Y (.t i)]).bind fun q=>if q.2.isEmpty then(bL Y.h q.1).bind (FZ q.1)else none
def Mf(rs:List fB)(Y:Sy):Option X:=
 match rs with
 | [r]=>ox Y r
 |rs=>(rs.mapM (ox Y)).map (.mk .tup)
def kR(rs:List fB)(e:VE)(Y:Sy):FT:=
 match e with
 | .exit _=> .bad 100021
 |_=>match Mf rs Y with
  |some x=> .ret x
  |none=> .bad 100022
def C_(k:Nat):Sy:={s:=(List.range k).map fun i=>(i, .x (.t i)),h:= [],nv:=k,d:=0,nx:=1000000,pd:=none}
def mc(C:Cx)(f:Nat):Option (Nat×FT):=
 match C.P.funcs[f]? with
 |some fn=>match fn.body,fn.results.toList.mapM (vh C.P fn.ntmps)with
  | some c, some rs => if (fn.name == "runtime.NumGoroutine") = false ∧ fn.params.size + fn.nfree ≤ fn.ntmps then some (fn.params.size + fn.nfree, cX { C with rt := f } (vZ { C with rt := f } 8) f fn.ntmps Vq false 0 (tM fn) c (C_ (fn.params.size + fn.nfree)) (kR rs)) else none
  |_,_=>none
 |none=>none
end
section
structure Cs where
 rs:List Nat
 av:List (X×Nat)
 n:Nat
 ar:List Nat
def Ei:XK→Bool
 | .call .. | .ccall _| .ecall .. =>true
 |_=>false
def D8:X:= .mk (.isc 0 0) []
def AT:List (X×Nat)→X→Option Nat
 | [],_=>none
 |(e,j)::r,x=>if eJ e x then some j else AT r x
def K0:X→Bool
 | .mk k _=>Ei k
 |_=>false
def Ub(s:Cs)(y:X):X:=if K0 y then(match AT s.av y with
  |some j=> .t j
  |none=>y)else y
mutual
def oF(s:Cs):X→X
 | .t i=>match s.rs[i]? with
  |some j=> .t j
  |none=>D8
 | .q d=> .q d
 | .mk k xs=>Ub s (.mk k (Dy s xs))
 | .ite c a b=> .ite (oF s c) (oF s a) (oF s b)
def Dy(s:Cs):List X→List X
 | []=> []
 |x::r=>oF s x::Dy s r
end
def Cs.name(s:Cs)(y:X):Cs:={s with av:=(y,s.n)::s.av,n:=s.n+1}
mutual
def lR(s:Cs):X→(List X×Cs)×X
 | .t i=>(([],s),oF s (.t i))
 | .q d=>(([],s), .q d)
 | .mk k xs=>match h_ s xs with
  |((p,s1),ys)=>if Ei k then(match AT s1.av (.mk k ys)with
   |some j=>((p,s1), .t j)
   |none=>((p++ [.mk k ys],s1.name (.mk k ys)), .t s1.n))else((p,s1), .mk k ys)
 | .ite c a b=>match lR s c with
  |((p,s1),c')=>((p,s1), .ite c' (oF s1 a) (oF s1 b))
def h_(s:Cs):List X→(List X×Cs)×List X
 | []=>(([],s),[])
 |x::r=>match lR s x with
  |((p,s1),y)=>match h_ s1 r with
   |((q,s2),ys)=>((p++q,s2),y::ys)
end
def pG:List X→FT→FT
 | [],k=>k
 |x::r,k=> .lets [x] (pG r k)
def TM:X→Bool
 | .t _| .q _=>false
 |_=>true
def aic(j:Nat):FT→Option Nat
 | .fC _ k| .lets _ k=>aic j k
 | .ite _ a b=>(aic j a).or (aic j b)
 | .loop _ b=>aic (j+1) b
 | .next i xs=>if i=j then some xs.length else none
 | .jp k b=>(aic (j+1) b).or (aic j k)
 |_=>none
def Cs.vars(s:Cs)(m:Nat):Cs:={s with rs:=s.rs++List.range' s.n m,n:=s.n+m}
def cse:Cs→FT→FT
 |s, .ret x=>match lR s x with
  |((p,_),y)=>pG p (.ret y)
 |s, .fC xs k=>match h_ s xs with
  |((p,s1),ys)=>pG p (AW (ys.filter TM) (cse s1 k))
 |s, .lets xs k=>match h_ s xs with
  |((p,s1),ys)=>pG p (letsY s1 ys fun s2=>cse s2 k)
 |s, .ite c a b=>match lR s c with
  |((p,s1),c')=>pG p (.ite c' (cse s1 a) (cse s1 b))
 |s, .loop xs b=>match h_ s xs with
  |((p,s1),ys)=>pG p (.loop ys (cse {s1.vars ys.length with ar:=ys.length::s1.ar} b))
 |s, .next j xs=>match h_ s xs with
  |((p,s1),ys)=>if s1.ar[j]?=some ys.length then pG p (.next j ys)else .bad 100060
 |s, .jp k b=>match aic 0 b with
  |some m=> .jp (cse (s.vars m) k) (cse {s with ar:=m::s.ar} b)
  |none=> .jp (.bad 100062) (cse {s with ar:=0::s.ar} b)
 |_, .st _=> .bad 100061
 |_, .bad w _=> .bad w
 where
 letsY (s:Cs):List X→(Cs→FT)→FT
  | [],κ=>κ s
  | .t j::r,κ=>letsY {s with rs:=s.rs++ [j]} r κ
  |y::r,κ=> .lets [y] (letsY {s with rs:=s.rs++ [s.n],n:=s.n+1} r κ)
def Kk(n:Nat):Cs:=⟨List.range n,[],n,[]⟩
def abG(q:Nat×FT):Nat×FT:=(q.1,cse (Kk q.1) q.2)
end
section
def fB.val(s:St):fB→Option D
 | .t i=>some (s.s i)
 | .cell i n g=>iW s.m n g [s.s i]
def F9(rs:List fB)(s:St):Option D:=
 match rs with
 | [r]=>r.val s
 |rs=>(rs.mapM (fB.val s)).map .tup
section
variable {P : Program} {w0 w : World} {pr : aX} {A : iJ} {n : Nat} {tk : ahw} {cs : Array Value} {s : St}
def ux(cs:Array Value):ResultVar→Sem Value
 | .tmp t=>pure (cs.getD t undef)
 | .cell a t=>do loadVar t (←asAddr (cs.getD a undef))
theorem Mg(R:Rel P w0 pr A n w cs s tk){rv:ResultVar}{r:fB}{d:D}(hr:vh P n rv=some r)(hd:r.val s=some d):
  ∃v,(ux cs rv).run P w= .ok v w∧ao w pr tk v d:=by
 cases rv with
 |tmp t=>
  simp only[vh]at hr;split at hr<;>cases hr;have ht:t<n:=by assumption
  cases hd;exact⟨_,rfl,R.slot t ht⟩
 |cell a t=>
  simp only[vh]at hr;split at hr
  ·have ha:a<n:=by assumption
   obtain⟨g,hg,hr⟩:=Bz.1 hr;split at hr<;>cases hr;have hc:(P.info? t).isSome=true∧(g=true∨P.cellsOf t=1):=by assumption
   have hs:=R.slot a ha;obtain⟨u,h1,h2⟩:=tU R.mem hg hc.1 hc.2 hs hd;refine⟨u, ?_,h2⟩;simp only[ux];generalize cs.getD a undef=c at h1;cases c<;>simp[Instr.loadAt,Instr.sureAddr]at h1;rename_i p;cases p<;>simp at h1;simpa[asAddr]using h1
  ·cases hr
theorem CT(fn:Func)(cs:Array Value):results fn cs=(do let vs←fn.results.toList.mapM (ux cs);pure (match vs with| [v]=>v|vs=> .tuple vs.toArray):Sem Value):=by
 unfold results;rw[Array.mapM_eq_mapM_toList];simp only[map_eq_pure_bind,bind_assoc];congr 1;funext vs
 match vs with
 | []=>simp
 | [v]=>simp
 |_::_::_=>simp
theorem jJ(R:Rel P w0 pr A n w cs s tk){fn:Func}{rs:List fB}{d:D}
  (hr:fn.results.toList.mapM (vh P n)=some rs) (hd:F9 rs s=some d): ∃v,(results fn cs).run P w= .ok v w∧ao w pr tk v d:=by
 have many: ∀(l:List ResultVar) (rs:List fB) (ds:List D),l.mapM (vh P n)=some rs→rs.mapM (fB.val s)=some ds→
   ∃vs:List Value,(l.mapM (ux cs)).run P w= .ok vs w∧a_ w pr tk vs ds:=by
  intro l
  induction l with
  |nil=>intro rs ds h1 h2;simp at h1;subst h1;simp at h2;subst h2;exact⟨[],rfl,trivial⟩
  |cons rv l ih=>
   intro rs ds h1 h2;simp only[List.mapM_cons,Option.bind_eq_bind,Bz,Option.pure_def,Jz]at h1;obtain⟨r,hr,rs',hrs,rfl⟩:=h1;simp only[List.mapM_cons,Option.bind_eq_bind,Bz,Option.pure_def,Jz]at h2;obtain⟨d,hd,ds',hds,rfl⟩:=h2;obtain⟨v,g1,g2⟩:=Mg R hr hd;obtain⟨vs,g3,g4⟩:=ih rs' ds' hrs hds;refine⟨v::vs, ?_,g2,g4⟩;rw[List.mapM_cons,Sem.run_bind,g1];simp only[Result.andThen_ok,Sem.run_bind,g3,Sem.run_pure]
 have aeu: ∀(vs:List Value) (ds:List D),a_ w pr tk vs ds→ao w pr tk (.tuple vs.toArray) (.tup ds):=fun vs ds h=>
  .tup (by simpa using h.length) fun i c x hc hx=>kI h i c x (by simpa using hc) hx
 rw[CT]
 have gen:(rs.mapM (fB.val s)).map D.tup=some d→rs.length≠1→ ∃v,((do let vs←fn.results.toList.mapM (ux cs);pure (match vs with| [v]=>v|vs=> .tuple vs.toArray):Sem Value)).run P w= .ok v w∧ao w pr tk v d:=by
  intro hd hl;obtain⟨ds,h1,rfl⟩:=Mz.1 hd;obtain⟨vs,g1,g2⟩:=many _ rs ds hr h1
  have hlen:vs.length≠1:=by
   rw[g2.length]
   have: ∀(rs:List fB) (ds:List D),rs.mapM (fB.val s)=some ds→ds.length=rs.length:=by
    intro rs
    induction rs with
    |nil=>intro ds h;simp at h;subst h;rfl
    |cons r rs ih=>
     intro ds h;simp only[List.mapM_cons,Option.bind_eq_bind,Bz,Option.pure_def]at h
     grind
   grind
  rw[Sem.run_bind,g1];simp only[Result.andThen_ok,Sem.run_pure]
  grind
 match rs,hr,hd,gen with
 | [],hr,hd,gen=>exact gen hd (by simp)
 |_::_::_,hr,hd,gen=>exact gen hd (by simp)
 | [r],hr,hd,_=>
  simp only[F9]at hd;obtain⟨vs,g1,g2⟩:=many _ [r] [d] hr (by simp[hd])
  match vs,g2 with
  | [v],g2=>exact⟨v,by rw[Sem.run_bind,g1];rfl,g2.1⟩
variable {m : Mem}
theorem lI(M:dK P w pr tk m){pr':aX}(hpr: ∀b o,pr b o→pr' b o)(hbl: ∀b,bY tk m b→ ∀o,pr' b o): ∀(n:Nat) (v:Value) (d d':D),ay m n d=some d'→ao w pr tk v d→ao w pr' aA v d'
 |0,_,_,_,h,_=>by simp[ay]at h
 |n+1,v,d,d',h,hr=>by
  have K:dW w w pr pr' tk tk:=⟨fun b o h=>⟨rfl,hpr b o h⟩,fun _ _ h=>h⟩
  have step: ∀{v:Value} {x x':D},ao w pr tk v x→(x.aY=true∧x'=x∨ay m n x=some x')→ao w pr' aA v x':=fun{v x x'} hv h=>by
   rcases h with⟨h1,rfl⟩|h1
   ·exact cK hv h1
   ·exact lI M hpr hbl n v x x' h1 hv
  cases d<;>simp only[ay]at h<;>try (cases h;done)
  case v x=>cases h;cases hr;exact .v ‹_›
  case nil=>cases h;cases hr;exact .nil'
  case mt=>cases h;exact bf ((sC hr).keeps K) rfl
  case list es=>cases h;exact bf (hr.keeps K) rfl
  case lptr xs=>cases h;exact bf (hr.keeps K) rfl
  case nilmap=>cases h;exact bf (hr.keeps K) rfl
  case fm es=>cases h;exact bf (hr.keeps K) rfl
  case mp t=>
   split at h
   ·rename_i es hm;split at h<;>cases h;rename_i bN;exact N0 M hm bN hr K fun b _ _ hbb=>hbl b hbb 0
   ·cases h
  case sl t size off len lim=>
   rw[Bz]at h;obtain⟨es,he,h⟩:=h;obtain⟨es',hv,rfl⟩:=Mz.1 h;obtain⟨hl,hg⟩:=lJ hv;have inv: ∀{v:Value},ao w pr tk v (.sl t size off len lim)→ ∃b1 c1 o1 k1,tk t=some (b1,c1)∧v= .slice (some ⟨b1,o1,none⟩) len k1:=fun{v} h=>by cases h with|sl ht=>exact⟨_,_,_,_,ht,rfl⟩
   have hm0: ∃q,m t=some q:=by
    simp only[D.elems]at he
    grind
   rcases eP M hr he with⟨hv0,rfl⟩|⟨b,o,cap,sz,us,rfl,h1,h2,h3,h4⟩
   ·have:es'= []:=List.eq_nil_of_length_eq_zero (by simpa using hl);subst this;rcases hv0 with rfl|⟨a,cap,rfl⟩
    ·grind
    ·exact .emp
   ·have kC:es'.length≤cap:=by omega
    have:=ao.list (w:=w) (pr:=pr') (tk:=aA) (b:=b) (off:=o) (cap:=cap) (es:=es') (size:=sz) us (fun c' hc'=>by
      obtain⟨i,hi,rfl⟩:=List.getElem_of_mem hc';obtain⟨c,hc,hlc,_⟩:=hg i _ (Ez hi)
      rw[hlc,h2 c (Lz hc)]) kC (fun j hj=>by
       rw[hl]at hj
       exact⟨(h3 j hj).1,(by
        obtain⟨b1,c1,o1,k1,g1,g2⟩:=inv hr;obtain⟨q,hq⟩:=hm0;have e1:b=b1:=by injection g2 with g3;injection g3 with g4;injection g4
        rw[e1];exact hbl _ ⟨t,q,_,hq,g1⟩ _),(h3 j hj).2⟩) (fun i c' hc' j x' hx'=>by
        obtain⟨c,hc,_,hg2⟩:=hg i c' hc';obtain⟨x,hx,hfx⟩:=hg2 j x' hx'
        exact step (h4 i c hc j x hx) hfx)
    grind
  case ptr t off=>
   split at h
   ·rename_i xs hm;split at h
    ·obtain⟨c',hv,rfl⟩:=Mz.1 h;obtain⟨hl,hg⟩:=bV hv;cases hr with
     |ptr ht=>
      obtain⟨us,h1,h2⟩:=jk M hm ht off;refine .lptr us (fun j hj=> ?_) fun j x' hx'=> ?_
      ·rw[hl]at hj;exact⟨(h1 j hj).1,hbl _ ⟨t,_,_,hm,ht⟩ _,(h1 j hj).2⟩
      ·grind
    ·cases h
   ·cases h
  case rptr t size i j=>
   split at h
   ·rename_i g e es hm;rw[Bz]at h;obtain⟨c,hc,h⟩:=h;split at h
    ·rename_i br;obtain⟨rfl,_⟩:=br;obtain⟨c',hv,rfl⟩:=Mz.1 h;obtain⟨hl,hg⟩:=bV hv;cases hr with
     |rptr ht=>
      obtain⟨us,h1,h2⟩:=l6 M hm ht hc j;refine .lptr us (fun k hk=> ?_) fun k x' hx'=> ?_
      ·rw[hl]at hk;exact⟨(h1 k hk).1,hbl _ ⟨t,_,_,hm,ht⟩ _,(h1 k hk).2⟩
      ·obtain⟨x,hx,hfx⟩:=hg k x' hx';exact step (h2 k x hx) hfx
    ·cases h
   ·cases h
  case clo f xs=>
   obtain⟨c',hv,rfl⟩:=Mz.1 h;obtain⟨hl,hg⟩:=bV hv;cases hr with
   |clo hf h1 h3=>
    refine .clo hf (by rw[hl];exact h1) fun i c x' hc hx'=> ?_;obtain⟨x,hx,hfx⟩:=hg i x' hx';exact step (h3 i c x hc hx) hfx
   |bclo h1 h3=>
    refine .bclo (by rw[hl];exact h1) fun i c x' hc hx'=> ?_;obtain⟨x,hx,hfx⟩:=hg i x' hx';exact step (h3 i c x hc hx) hfx
theorem lG(M:dK P w pr tk m){pr':aX}(hpr: ∀b o,pr b o→pr' b o)(hbl: ∀b,bY tk m b→ ∀o,pr' b o){v:Value}{d d':D}(h:bu m d=some d')(hr:ao w pr tk v d):ao w pr' aA v d':=by
 cases d
 case agg xs=>
  obtain⟨c',hv,rfl⟩:=Mz.1 h;obtain⟨hl,hg⟩:=bV hv;cases hr with
  |agg h1 h2 h3=>
   refine .agg (by rw[hl];exact h1) h2 fun i c x' hc hx'=> ?_;obtain⟨x,hx,hfx⟩:=hg i x' hx';rcases hfx with⟨hf,rfl⟩|hf
   ·exact cK (h3 i c _ hc hx) hf
   ·exact lI M hpr hbl 6 c x x' hf (h3 i c x hc hx)
 all_goals exact lI M hpr hbl 6 v _ d' (by simpa only[bu]using h) hr
end
section
variable {P : Program} {w : World} {pr : aX} {tk : ahw} {m : Mem}
theorem ME {n : Nat} {x d : D} (h : ay m n x = some d) (hd : d.aY = true) : x = d := by
  cases n with
  | zero => cases h
  | succ n =>
    cases x <;> simp only [ay] at h <;> first
      | (cases h; done)
      | (cases h; first | rfl | (cases hd; done))
      | (exfalso; revert h; repeat' split
         all_goals intro h
         all_goals first
           | (cases h; done)
           | (cases h; cases hd; done)
           | (obtain ⟨_, _, rfl⟩ := Mz.1 h; cases hd; done)
           | (obtain ⟨_, _, h⟩ := Bz.1 h; first | (obtain ⟨_, _, rfl⟩ := Mz.1 h; cases hd; done) | (split at h <;> first | (cases h; done) | (obtain ⟨_, _, rfl⟩ := Mz.1 h; cases hd; done))))
theorem L4(M:dK P w pr tk m){v:Value}{d0:D}{es:List (List D)}(ho:(∃t size off len lim,d0= .sl t size off len lim)∨d0= .nil∨d0= .list [])(h:bu m d0=some (.list es))(hes:(es.all fun c=>c.all D.aY)=true)(hr:ao w pr tk v d0):
  ao w (fun b _=>bY tk m b) aA v (.list es):=by
 rcases ho with⟨t,size,off,len,lim,rfl⟩|rfl|rfl
 ·replace h:((D.sl t size off len lim).elems m).bind (fun es=>(cP (ay m 5) es).map D.list)=some (.list es):=h
  rw[Bz]at h;obtain⟨es0,he,h⟩:=h;obtain⟨es',hv,h⟩:=Mz.1 h;cases h;obtain⟨hl,hg⟩:=lJ hv;have inv: ∀{v:Value},ao w pr tk v (.sl t size off len lim)→ ∃b1 c1 o1 k1,tk t=some (b1,c1)∧v= .slice (some ⟨b1,o1,none⟩) len k1:=fun{v} h=>by cases h with|sl ht=>exact⟨_,_,_,_,ht,rfl⟩
  have hm0: ∃q,m t=some q:=by
   simp only[D.elems]at he;cases hmt:m t with
   |none=>rw[hmt]at he;cases he
   |some q=>exact⟨q,rfl⟩
  rcases eP M hr he with⟨hv0,rfl⟩|⟨b,o,cap,sz,us,rfl,h1,h2,h3,h4⟩
  ·have:es= []:=List.eq_nil_of_length_eq_zero (by simpa using hl);subst this;rcases hv0 with rfl|⟨a,cap,rfl⟩
   ·exact .nil'
   ·exact .emp
  ·have kC:es.length≤cap:=by omega
   have:=ao.list (w:=w) (pr:=fun b _=>bY tk m b) (tk:=aA) (b:=b) (off:=o) (cap:=cap) (es:=es) (size:=sz) us (fun c' hc'=>by
     obtain⟨i,hi,rfl⟩:=List.getElem_of_mem hc';obtain⟨c,hc,hlc,_⟩:=hg i _ (Ez hi)
     rw[hlc,h2 c (Lz hc)]) kC (fun j hj=>by
      rw[hl]at hj
      exact⟨(h3 j hj).1,(by
       obtain⟨b1,c1,o1,k1,g1,g2⟩:=inv hr;obtain⟨q,hq⟩:=hm0;have e1:b=b1:=by injection g2 with g3;injection g3 with g4;injection g4
       rw[e1];exact⟨t,q,_,hq,g1⟩),(h3 j hj).2⟩) (fun i c' hc' j x' hx'=>by
       obtain⟨c,hc,_,hg2⟩:=hg i c' hc';obtain⟨x,hx,hfx⟩:=hg2 j x' hx';have hf:x'.aY=true:=Tz.1 (Tz.1 hes c' (Lz hc')) x' (Lz hx');rcases hfx with⟨_,rfl⟩|hfx
       ·exact cK (h4 i c hc j _ hx) hf
       ·obtain rfl:=ME hfx hf
        exact cK (h4 i c hc j _ hx) hf)
   rw[hl]at this;exact this
 ·cases h;cases hr;exact .nil'
 ·cases h;cases hr with
  |nil'=>exact .nil'
  |emp=>exact .emp
  |list us _ kC _ _=>exact .list (size:=0) us (by simp) kC (fun j hj=>by simp at hj) (fun i e h=>by simp at h)
end
def xh(m:Mem):D→Option D
 | .tup xs=>(xs.mapM (bu m)).map .tup
 |d=>bu m d
section
variable {Ω : bM} {G : FP} {E : List D} {ι γ : Nat → Tok} {Y : Sy} {J : St}
def Vt(d:D):Prop:=(∃t size off len lim,d= .sl t size off len lim)∨d= .nil∨d= .list []
theorem VR.ad6{h:List (Nat×SO)}{v:SV}{d:D}(H:VR G E ι h v d)(hv:NI v=true):Vt d:=by
 cases H<;>first|(cases hv;done)|exact .inr (.inl rfl)|exact .inr (.inr rfl)|exact .inl ⟨_,_,_,_,_,rfl⟩
def sQ(x:X)(d0 d:D):Prop:=iy x d=true→(d.flat=true∨d= .list [])∨Vt d0∧ ∃es,d= .list es∧(es.all fun c=>c.all D.aY)=true
theorem Ey{v:SV}{e x:X}{d0 d:D}(H:VR G E ι Y.h v d0)(h:FZ v e=some x):sQ x d0 d:=by
 intro hn
 have flat:lh x=false→iy x d=true→d.flat=true∨d= .list []:=fun h1 h2=>by
  unfold iy at h2;split at h2
  ·grind
  ·cases h1
  ·exact .inl h2
  ·left;cases d<;>first|exact h2|(simp[D.aY]at h2;done)
 unfold FZ at h;split at h
 ·rename_i hv;cases h;cases d with
  |list es=>
   cases es with
   |nil=>exact .inl (.inr rfl)
   |cons a r=>exact .inr ⟨H.ad6 hv,_,rfl,hn⟩
  |agg xs=>exact .inl (.inl hn)
  |_=>first|exact .inl (.inl hn)|cases hn
 ·grind
theorem Ex{v:SV}{e x:X}(h:FZ v e=some x){d:D}(he:X.ev G E x=some d):X.ev G E e=some d:=by
 unfold FZ at h;split at h
 ·cases h;obtain⟨ds,h1,h2⟩:=bc he;simp only[X.bm,Bz,Mz]at h1;obtain⟨d1,g1,_,k1,rfl⟩:=h1;cases k1;cases h2;exact g1
 ·grind
theorem pC(M:Mt Ω G E ι γ Y J){r:fB}{x:X}{d:D}(h:ox Y r=some x)(he:X.ev G E x=some d): ∃d0,r.val J=some d0∧bu J.m d0=some d∧sQ x d0 d:=by
 cases r with
 |t i=>
  simp only[ox,Bz]at h;obtain⟨e,h1,h2⟩:=h;exact⟨_,rfl,lK M (aJ M (.t i)) h1 (Ex h2 he),Ey (aJ M (.t i)) h2⟩
 |cell i n g=>
  simp only[ox,Bz]at h;obtain⟨⟨v,O⟩,h1,h2⟩:=h;split at h2
  ·rename_i ho;have hO:O= []:=List.isEmpty_iff.1 ho;subst hO;obtain⟨d0,h3,h4⟩:=gT M (bA.mk (aJ M (.t i)) bA.nil) h1 (fun e he=>by cases he);obtain⟨e,h5,h6⟩:=Bz.1 h2;exact⟨d0,h3,lK M h4 h5 (Ex h6 he),Ey h4 h6⟩
  ·cases h2
inductive ahN:List X→List D→List D→Prop
 |nil:ahN [] [] []
 |cons {x:X} {d0 d:D} {xs:List X} {ds0 ds:List D} (h:sQ x d0 d) (r:ahN xs ds0 ds):ahN (x::xs) (d0::ds0) (d::ds)
theorem nI(M:Mt Ω G E ι γ Y J): ∀{rs:List fB} {xs:List X} {ds':List D},rs.mapM (ox Y)=some xs→X.bm G E xs=some ds'→ ∃ds,rs.mapM (fB.val J)=some ds∧ds.mapM (bu J.m)=some ds'∧ahN xs ds ds'
 | [],xs,ds',h1,h2=>by simp at h1;subst h1;simp[X.bm]at h2;subst h2;exact⟨[],rfl,rfl, .nil⟩
 |r::rs,xs,ds',h1,h2=>by
  simp only[List.mapM_cons,Option.bind_eq_bind,Bz,Option.pure_def,Jz]at h1;obtain⟨y,g1,ys,g2,rfl⟩:=h1;simp only[X.bm,Bz,Mz]at h2;obtain⟨dy,g3,dys,g4,rfl⟩:=h2;obtain⟨d0,k1,k2,k5⟩:=pC M g1 g3;obtain⟨ds,k3,k4,k6⟩:=nI M g2 g4;exact⟨d0::ds,by simp[k1,k3],by simp[k2,k4], .cons k5 k6⟩
def BW(m:Mem)(x:X)(d0 d:D):Prop:=bu m d0=some d∧sQ x d0 d∨ ∃xs ds0 ds,x= .mk .tup xs∧d0= .tup ds0∧d= .tup ds∧ahN xs ds0 ds
theorem CS(M:Mt Ω G E ι γ Y J){rs:List fB}{x:X}{d:D}(h:Mf rs Y=some x)(he:X.ev G E x=some d): ∃d0,F9 rs J=some d0∧xh J.m d0=some d∧BW J.m x d0 d:=by
 have many:(rs.mapM (ox Y)).map (X.mk .tup)=some x→ ∃ds,(rs.mapM (fB.val J))=some ds∧xh J.m (.tup ds)=some d∧BW J.m x (.tup ds) d:=fun h=>by
  obtain⟨xs,h1,rfl⟩:=Mz.1 h;obtain⟨ds',h2,h3⟩:=bc he;cases h3;obtain⟨ds,k1,k2,k3⟩:=nI M h1 h2;exact⟨ds,k1,by simp[xh,k2], .inr ⟨xs,ds,ds',rfl,rfl,rfl,k3⟩⟩
 unfold Mf at h;split at h
 ·rename_i r;obtain⟨d0,h1,h2,h3⟩:=pC M h he;refine⟨d0,h1, ?_, .inl ⟨h2,h3⟩⟩;cases d0<;>first|exact h2|cases h2
 ·rename_i hne;unfold F9
  grind
theorem tD {f : Nat → SV} : ∀ {k i : Nat} {v : SV} {b : Nat}, find ((List.range' b k).map fun i => (i, f i)) i = some v → i < b + k ∧ v = f i
  | 0, i, v, b, h => by simp [find] at h
  | k + 1, i, v, b, h => by
    rw [List.range'_succ] at h
    simp only [List.map_cons, find] at h
    cases hi : b == i with
    | true => rw [hi] at h; cases h; have : b = i := by simpa using hi
              grind
    | false =>
      rw [hi] at h
      obtain ⟨h1, h2⟩ := tD (b := b + 1) h
      grind
def um:bM:=⟨fun _=> [],fun _ _=>default,fun _=>False⟩
theorem mt0{ds:List D}(hn:ds.all D.aF=true):Mt um G ds (fun _=> []) (fun _=> []) (C_ ds.length) ⟨fun i=>ds.getD i .undef,dI,fun _=>0⟩:=by
 refine⟨fun i v hv=> ?_,fun n vs h=>by simp[C_,find]at h,fun n e sz c h=>by simp[C_,find]at h,fun n c h=>by simp[C_,find]at h,fun n e sz c h=>by simp[C_,find]at h,fun n n' e e' sz sz' c c' h=>by simp[C_,find]at h,fun n k h=>by simp[C_,find]at h,fun n n' o o' h=>by simp[C_,find]at h,fun n n' e e' sz sz' c c' h=>by simp[C_,find]at h,fun _ _ _ _=>rfl,fun n e sz c h=>by simp[C_,find]at h,rfl,fun _ h=>h.elim⟩;simp only[C_,List.range_eq_range']at hv;obtain⟨h1,rfl⟩:=tD hv;have hi:i<ds.length:=by omega
 refine .x (d:=ds.getD i .undef) ?_ ?_
 ·simp[X.ev,hi]
 ·grind
end
theorem AI{P:Program}{w:World}{pr:aX}{fn:Func}{cargs:Array Value}{ds:List D}(hpr: ∀b o,pr b o→b<w.heap.size)(hg:BN w pr)(jq:a_ w pr aA cargs.toList ds)(hlen:ds.length≤fn.ntmps):
  dm P ⟨w,pr,qn⟩ fn.ntmps w (cargs++Array.replicate (fn.ntmps-cargs.size) undef) ⟨fun i=>ds.getD i .undef,dI,fun _=>0⟩:=by
 have hsz:cargs.size=ds.length:=by simpa using jq.length
 refine⟨w,pr,qn,aA,⟨by simp;omega,dU.refl _ _,hpr,fun _ _ _ h=>(show False from h).elim,hg,⟨fun t o h=>(by cases h),fun t t' o o' b c c' h=>(by cases h)⟩,fun t o b c h=>(by cases h),fun _ _ _ _=>rfl,fun _=>rfl,fun _ _ h=>(by cases h),fun i hi=> ?_,fun i hi=>by
   have e:ds.getD i .undef= .undef:=by simp[List.getElem?_eq_none (show ds.length≤i by omega)]
   show ao w pr aA _ (ds.getD i .undef)
   rw[e];exact .undef⟩,
  ⟨dU.refl _ _,fun _ _ h=>h,rfl,rfl,fun _ _ h=>h,fun _ _ h=> .inl h⟩⟩
 by_cases hlt:i<cargs.size
 ·have e:(cargs++Array.replicate (fn.ntmps-cargs.size) undef).getD i undef=cargs[i]:=by
   simp[Array.getElem?_append_left hlt,hlt]
  have hd:i<ds.length:=by omega
  show ao w pr aA _ (ds.getD i .undef);rw[e];exact kI jq i _ _ (by simp[hlt]) (by simp[hd])
 ·have e:ds.getD i .undef= .undef:=by simp[List.getElem?_eq_none (show ds.length≤i by omega)]
  show ao w pr aA _ (ds.getD i .undef);rw[e];exact .undef
theorem BA{P:Program}{w:World}{pr pr':aX}{tk:ahw}{m:Mem}(M:dK P w pr tk m)(hpr: ∀b o,pr b o→pr' b o)(hbl: ∀b,bY tk m b→ ∀o,pr' b o){v:Value}{d d':D}(h:xh m d=some d')(hr:ao w pr tk v d):ao w pr' aA v d':=by
 cases d
 case tup xs=>
  obtain⟨ys,hy,rfl⟩:=Mz.1 h;obtain⟨hl,hg⟩:=gQ hy;cases hr with
  |tup h1 h3=>
   refine .tup (by rw[hl];exact h1) fun i c x' hc hx'=> ?_;obtain⟨x,hx,hfx⟩:=hg i x' hx';exact lG M hpr hbl hfx (h3 i c x hc hx)
 all_goals exact lG M hpr hbl (by simpa only[xh]using h) hr
theorem F8{P:Program}{w:World}{pr:aX}{tk:ahw}{m:Mem}(M:dK P w pr tk m){x:X}{d0 d:D}{v:Value}(hk:sQ x d0 d)(hn:iy x d=true)(h:bu m d0=some d)(hr:ao w pr tk v d0)(hr': ∃pr',ao w pr' aA v d):
  ao w (fun b _=>bY tk m b) aA v d:=by
 rcases hk hn with(hf|rfl)|⟨ho,es,rfl,hes⟩
 ·obtain⟨_,hr'⟩:=hr';exact ur hr' hf
 ·obtain⟨_,hr'⟩:=hr';cases hr' with
  |nil'=>exact .nil'
  |emp=>exact .emp
  |list us _ kC _ _=>exact .list (size:=0) us (by simp) kC (fun j hj=>by simp at hj) (fun i e h=>by simp at h)
 ·exact L4 M ho h hes hr
theorem uz: ∀{xs:List X} {ds0 ds:List D},ahN xs ds0 ds→uc xs ds=true→ ∀(i:Nat) (d0 d:D),ds0[i]?=some d0→ds[i]?=some d→ ∃x,sQ x d0 d∧iy x d=true
 |_,_,_, .nil,_,i,d0,d,h,_=>by simp at h
 |_,_,_, .cons hh r,hn,i,d0,d,h1,h2=>by
  simp only[uc,Az]at hn;cases i with
  |zero=>simp at h1 h2;subst h1;subst h2;exact⟨_,hh,hn.1⟩
  |succ i=>exact uz r hn.2 i d0 d (by simpa using h1) (by simpa using h2)
theorem By {m : Mem} {d0 : D} {xs : List D} (h : bu m d0 = some (.tup xs)) : False := by
  have hc : ∀ (n : Nat) (d0 : D), ay m n d0 = some (.tup xs) → False := fun n d0 h => by
    cases n with
    | zero => cases h
    | succ n =>
      cases d0 <;> simp only [ay] at h <;> first
        | (cases h; done)
        | (revert h; repeat' split
           all_goals intro h
           all_goals first
             | (cases h; done)
             | (obtain ⟨_, _, h⟩ := Mz.1 h; cases h; done)
             | (obtain ⟨_, _, h⟩ := Bz.1 h; first | (obtain ⟨_, _, h⟩ := Mz.1 h; cases h; done) | (split at h <;> first | (cases h; done) | (obtain ⟨_, _, h⟩ := Mz.1 h; cases h; done))))
  cases d0
  case agg ys => obtain ⟨_, _, h⟩ := Mz.1 h; cases h
  all_goals exact hc 6 _ (by simpa only [bu] using h)
theorem Gl{P:Program}{w:World}{pr:aX}{tk:ahw}{m:Mem}(M:dK P w pr tk m){x:X}{d0 d:D}{v:Value}(hk:BW m x d0 d)(hn:lS x d=true)(h:xh m d0=some d)(hr:ao w pr tk v d0):
  ao w (fun b _=>bY tk m b) aA v d:=by
 have one: ∀{x:X} {d0 d:D} {v:Value},sQ x d0 d→iy x d=true→bu m d0=some d→ao w pr tk v d0→ao w (fun b _=>bY tk m b) aA v d:=fun hk hn h hr=>
  F8 M hk hn h hr ⟨_,lG (pr':=fun b o=>pr b o∨bY tk m b) M (fun _ _ h=> .inl h) (fun _ h _=> .inr h) h hr⟩
 rcases hk with⟨hv,hk⟩|⟨xs,ds0,ds,rfl,rfl,rfl,hk⟩
 ·refine one hk ?_ hv hr;unfold lS at hn;split at hn
  ·exact(By hv).elim
  ·exact hn
 ·obtain⟨ys,hy,h⟩:=Mz.1 h;cases h;obtain⟨hl,hg⟩:=gQ hy;cases hr with
  |tup h1 h3=>
   refine .tup (by rw[hl];exact h1) fun i c x' hc hx'=> ?_;obtain⟨x,hx,hfx⟩:=hg i x' hx';obtain⟨y,k1,k2⟩:=uz hk hn i x x' hx hx';exact one k1 k2 hfx (h3 i c x hc hx)
end
section
section
variable {P : Program} {w0 w : World} {pr : aX} {A : iJ} {n : Nat} {tk : ahw} {J : St} {a : Act}
def St.raw(J:St)(b:Nat)(o:Obj):St:=⟨J.s,fun t=>if t= [b+1]then some (.raw o)else J.m t,J.c⟩
theorem Rel.IF(R:Rel P w0 pr A n w a.tmps J tk)(o:Obj):J.m [w.heap.size+1]=none∧ ∃tk',Rel P w0 pr A n (w.alloc o) a.tmps (J.raw w.heap.size o) tk'∧(∀t p,tk t=some p→tk' t=some p)∧tk' [w.heap.size+1]=some (w.heap.size,0):=by
 have hc:=dU.alloc (fun _=>False) w o;let tk':ahw:=fun t=>if t= [w.heap.size+1]then some (w.heap.size,0)else tk t
 have cz:tk' [w.heap.size+1]=some (w.heap.size,0):=if_pos rfl
 have AF: ∀t p,tk t=some p→tk' t=some p:=fun t p h=>by
  by_cases e:t= [w.heap.size+1]
  ·subst e;rw[cz,R.one _ _ h]
  ·grind
 have AG:J.m [w.heap.size+1]=none:=by
  cases hm:J.m [w.heap.size+1]with
  |none=>rfl
  |some q=>
   obtain⟨b,c,h1,h2⟩:=(R.mem.obj _ q hm).place
   grind
 have K:=R.jG hc AF
 have hm: ∀t q,(J.raw w.heap.size o).m t=some q→(t= [w.heap.size+1]∧q= .raw o)∨(t≠ [w.heap.size+1]∧J.m t=some q):=fun t q h=>by
  simp only[St.raw]at h
  grind
 have hold: ∀t q b c,t≠ [w.heap.size+1]→J.m t=some q→tk' t=some (b,c)→tk t=some (b,c)∧b<w.heap.size:=fun t q b c hne h ht=>by
  simp only[tk',if_neg hne]at ht;obtain⟨b1,c1,h1,h2⟩:=(R.mem.obj t q h).place
  grind
 have hsz:=R.chg.size;refine⟨AG,tk',⟨R.size,R.chg.trans hc (fun _ _ h=>h.elim),R.prlt,R.prA,R.glob.keeps K.cell,⟨fun t q h=> ?_,fun t t' q q' b c c' h h' ht ht'=> ?_⟩,fun t q b c h ht=> ?_,fun y k r hk=> ?_,fun t=> ?_,fun l p h=> ?_,fun i hi=>(R.slot i hi).keeps K,fun i hi=>(R.sav i hi).keeps K⟩,AF,cz⟩
 ·rcases hm t q h with⟨rfl,rfl⟩|⟨hne,h⟩
  ·exact⟨_,_,cz,(Go.MapKept.heap_alloc w o).1⟩
  ·exact(R.mem.obj t q h).keeps K fun b c hb=>by
    obtain⟨b1,c1,h1,h2⟩:=(R.mem.obj t q h).place;rw[hb]at h1;cases h1;exact hc.block b h2 id
 ·rcases hm t q h with⟨e1,e2⟩|⟨hne,k1⟩<;>rcases hm t' q' h' with⟨e3,e4⟩|⟨Cq,k2⟩
  ·grind
  ·grind
  ·rw[e3,cz]at ht';cases ht';have:=hold t q _ c hne k1 ht;omega
  ·exact R.mem.inj t t' q q' b c c' k1 k2 (hold t q b c hne k1 ht).1 (hold t' q' b c' Cq k2 ht').1
 ·rcases hm t q h with⟨rfl,rfl⟩|⟨hne,h⟩
  ·rw[cz]at ht;cases ht;omega
  ·exact R.live t q b c h (hold t q b c hne h ht).1
 ·have hne:(y+1)::k::r≠ [w.heap.size+1]:=by simp
  simp only[tk',if_neg hne];exact R.fresh y k r hk
 ·have hne:(0::t:Tok)≠ [w.heap.size+1]:=by simp
  exact R.zero t
 ·by_cases e:l=w.heap.size
  ·subst e;rw[cz]at h;cases h;rfl
  ·have hne:([l+1]:Tok)≠ [w.heap.size+1]:=by simp;exact e
   simp only[tk',if_neg hne]at h;exact R.one l p h
theorem Rel.wQ(R:Rel P w0 pr A n w a.tmps J tk){b:Nat}{o:Obj}(hm:J.m [b+1]=some (.raw o)):tk [b+1]=some (b,0)∧w.heap[b]?=some o:=by
 obtain⟨b1,c1,h1,h2⟩:=R.mem.obj _ _ hm;have:=R.one _ _ h1
 grind
theorem dU.putObj(w:World)(b:Nat)(o:Obj):dU (fun k=>k=b) w (w.putObj b o):=
 ⟨rfl,rfl,rfl,Nat.le_of_eq World.putObj_size.symm,fun k _ hk=>World.putObj_heap_other hk,Nat.le_refl _⟩
theorem Rel.yp(R:Rel P w0 pr A n w a.tmps J tk){b:Nat}{o:Obj}(hm:J.m [b+1]=some (.raw o))(o':Obj):Rel P w0 pr A n (w.putObj b o') a.tmps (J.raw b o') tk:=by
 obtain⟨h1,h2⟩:=R.wQ hm;refine R.write (t:= [b+1]) (o:= .raw o) (o':= .raw o') hm h1 (dU.putObj w b o') rfl (m':=(J.raw b o').m) (if_pos rfl) (fun t' q hne h=>by simpa only[St.raw,if_neg hne]using h) ⟨b,0,h1,World.putObj_heap_same (Array.getElem?_eq_some_iff.1 h2).1⟩ fun t' q c' hne h ht _=> ?_;simp only[St.raw,if_neg hne]at h;rcases R.mem.inj _ _ _ _ _ _ _ hm h h1 ht with e|⟨e,_⟩
 ·grind
 ·cases e
theorem WF.raw{J:St}(W:WF J)(b:Nat)(o:Obj):WF (J.raw b o):=fun x k r hk=>by
 have hne:(x+1)::k::r≠ [b+1]:=by simp
 simp only[St.raw,if_neg hne];exact W x k r hk
def uj:List Nat→List Value→Array Value→Array Value
 |p::ps,v::vs,cs=>uj ps vs (cs.setIfInBounds p v)
 |_,_,cs=>cs
theorem BK: ∀(ps:List Nat) (vs:List Value) (cs:Array Value),(ps.zip vs).foldl (fun tmps (t,a)=>tmps.setIfInBounds t a) cs=uj ps vs cs
 | [],_,cs=>by simp[uj]
 |_::_,[],cs=>by simp[uj]
 |p::ps,v::vs,cs=>by simp only[List.zip_cons_cons];exact BK ps vs _
def vu:List Nat→List D→(Nat→D)→Nat→D
 |p::ps,d::ds,s=>vu ps ds (fun i=>if i=p then d else s i)
 |_,_,s=>s
end
end
section
def Sy.cU(Y Y':Sy):Prop:=Y'.d=Y.d∧Y'.pd=Y.pd
theorem Sy.cU.np{Y:Sy}:Y.cU Y:=⟨rfl,rfl⟩
theorem Sy.cU.trans{Y Y' Z:Sy}(h:Y.cU Y')(k:Y'.cU Z):Y.cU Z:=⟨k.1.trans h.1,k.2.trans h.2⟩
theorem vG{n:Nat}{g:Bool}{va vv:SV}{Y Y':Sy}{O:List X}(h:kO n g va vv Y=some (Y',O)):Y.cU Y':=by
 unfold kO at h;split at h
 ·split at h
  ·rw[Bz]at h;obtain⟨p,_,h⟩:=h;split at h<;>cases h;exact⟨rfl,rfl⟩
  ·cases h
 ·split at h
  ·rw[Bz]at h;obtain⟨p,_,h⟩:=h;split at h<;>cases h;exact⟨rfl,rfl⟩
  ·cases h
 ·split at h
  ·rw[Bz]at h;obtain⟨p,_,h⟩:=h;rw[Bz]at h;obtain⟨p,_,h⟩:=h;split at h<;>cases h;exact⟨rfl,rfl⟩
  ·cases h
 ·split at h
  ·split at h
   ·obtain⟨p,_,h2⟩:=Mz.1 h;cases h2;exact⟨rfl,rfl⟩
   ·cases h
  ·cases h
 ·cases h
theorem Bo{x t size nm:Nat}{va vb:SV}{Y Y':Sy}{O:List X}(h:qB x t size va vb Y nm=some (Y',O)):Y.cU Y':=by
 unfold qB at h;rw[Bz]at h;obtain⟨p,_,h⟩:=h;split at h
 ·cases h;exact⟨rfl,rfl⟩
 ·split at h
  ·split at h<;>cases h;exact⟨rfl,rfl⟩
  ·cases h
 ·cases h
theorem rp {e : Eff} {Y Y' : Sy} {O : List X} (h : fZ e Y = some (Y', O)) : Y.cU Y' := by
  cases e with
  | box n g x a => simp only [fZ] at h; obtain ⟨p, _, h2⟩ := Mz.1 h; cases h2; exact ⟨rfl, rfl⟩
  | store n g a v => exact vG (show kO _ _ _ _ _ = _ from h)
  | app x t size a b => exact (show Y.cU (Y.nw x) from ⟨rfl, rfl⟩).trans (Bo (show qB _ _ _ _ _ _ _ = _ from h))
  | mks x t size zero a b =>
    simp only [fZ] at h
    split at h
    · cases h; exact ⟨rfl, rfl⟩
    · cases h
  | lit x t size len zero places args => simp only [fZ] at h; obtain ⟨p, _, h2⟩ := Mz.1 h; cases h2; exact ⟨rfl, rfl⟩
  | acall x t size f args => simp only [fZ] at h; split at h <;> try (cases h; done)
                             obtain ⟨p, _, h2⟩ := Mz.1 h; cases h2; exact ⟨rfl, rfl⟩
  | mkm x => cases h; exact ⟨rfl, rfl⟩
  | mkml x e sz => simp only [fZ] at h; split at h <;> cases h; exact ⟨rfl, rfl⟩
  | clr s z a =>
    simp only [fZ] at h
    split at h
    · split at h
      · split at h <;> cases h
        exact ⟨rfl, rfl⟩
      · cases h
    · cases h
  | ecall x k f args =>
    simp only [fZ] at h
    split at h
    · split at h
      · split at h
        · obtain ⟨p, _, h2⟩ := Mz.1 h; cases h2; exact ⟨rfl, rfl⟩
        · cases h
      · cases h
    · cases h
  | copy x a b =>
    simp only [fZ] at h
    split at h
    · split at h
      · split at h <;> cases h
        cases x <;> exact ⟨rfl, rfl⟩
      · cases h
    · cases h
  | mupd ks a k v =>
    simp only [fZ] at h
    split at h
    · split at h
      · rw [Bz] at h
        obtain ⟨p, _, h⟩ := h
        obtain ⟨p, _, h2⟩ := Mz.1 h; cases h2; exact ⟨rfl, rfl⟩
      · cases h
    · cases h
theorem rq{st:au}{Y Y':Sy}{O:List X}(h:mF st Y=some (Y',O)):Y.cU Y':=by
 unfold mF at h;split at h
 ·obtain⟨p,_,h2⟩:=Mz.1 h;cases h2;exact⟨rfl,rfl⟩
 ·split at h
  ·split at h
   ·obtain⟨p,_,h2⟩:=Mz.1 h;cases h2;exact⟨rfl,rfl⟩
   ·cases h;exact⟨rfl,rfl⟩
  ·obtain⟨p,_,h2⟩:=Mz.1 h;cases h2;exact⟨rfl,rfl⟩
  ·cases h
 ·exact rp h
 ·split at h
  ·split at h
   ·exact rp h
   ·split at h<;>cases h<;>exact⟨rfl,rfl⟩
  ·cases h
 ·cases h
theorem eh: ∀{sts:List au} {Y Y':Sy} {O:List X},d_ sts Y=some (Y',O)→Y.cU Y'
 | [],Y,Y',O,h=>by cases h;exact .np
 |st::r,Y,Y',O,h=>by
  simp only[d_,Bz,Mz]at h;obtain⟨⟨Y1,O1⟩,h1,⟨Y2,O2⟩,h2,h3⟩:=h;cases h3;exact(rq h1).trans (eh h2)
theorem pD{sts:List au}{Y Y':Sy}{O:List X}(h:lF sts Y=some (Y',O)):Y.cU Y':=by
 unfold lF at h;split at h
 ·simp only[Bz,Mz]at h;obtain⟨⟨Y1,O1⟩,h1,⟨Y2,O2⟩,h2,⟨Y3,O3⟩,h3,h4⟩:=h;cases h4;refine(eh h1).trans (Sy.cU.trans ?_ (eh h3));unfold yH at h2;split at h2
  ·rw[Bz]at h2;obtain⟨⟨Y4,O4⟩,g1,h2⟩:=h2;rw[Bz]at h2;obtain⟨⟨Y5,O5⟩,g2,h2⟩:=h2;have k1:=eh g1;have k2:=eh g2;split at h2
   ·split at h2
    ·simp only[Bz]at h2;obtain⟨_,_,_,_,_,_,h2⟩:=h2;split at h2<;>cases h2;exact Sy.cU.trans (show Y1.cU (Y1.xf _)from⟨rfl,rfl⟩) (k1.trans (Sy.cU.trans (show Y4.cU (Y4.xf _)from⟨rfl,rfl⟩) (k2.trans ⟨rfl,rfl⟩)))
    ·cases h2
   ·cases h2
  ·cases h2
 ·exact eh h
theorem uP{P:Program}{fr:pI}{n:Nat}{ops:Array Oper}{draw:Bool}{Y Y':Sy}{O:List X}(hs:gF P fr n ops draw Y=some (Y',O)):Y.cU Y':=by
 unfold gF at hs;split at hs
 ·split at hs
  ·rw[Bz]at hs;obtain⟨q',h3,hs⟩:=hs;split at hs<;>cases hs;exact pD h3
  ·cases hs
 ·exact pD hs
theorem Eb{Y:Sy}:Y.cU Y.gc:=by
 unfold Sy.gc;generalize(((Y.h.filter _).map (·.1)).filter _:List Nat)=l
 induction l generalizing Y with
 |nil=>exact .np
 |cons a l ih=>exact(show Y.cU (Y.kill a)from⟨rfl,rfl⟩).trans ih
theorem rj{ks:List Nat}{n:Nat}{Y:Sy}:Y.cU (settle ks n Y).1:=by
 have h:=Eb (Y:=Y.trim n ks);exact⟨h.1,h.2⟩
def St.kK(J:St)(x:Option Nat)(d:D):St:=match x with
 |some x=>J.set x d
 |none=>J
section
variable {Ω : bM} {G : FP} {E : List D} {ι γ : Nat → Tok} {Y : Sy} {J : St}
theorem Mt.gc(M:Mt Ω G E ι γ Y J):Mt Ω G E ι γ Y.gc J:=by
 unfold Sy.gc;generalize(((Y.h.filter _).map (·.1)).filter _:List Nat)=l
 induction l generalizing Y with
 |nil=>exact M
 |cons a l ih=>exact ih (M.kill a).1
theorem Mt.settle(M:Mt Ω G E ι γ Y J){ks:List Nat}{n:Nat}{ds:List D}(h:X.bm G E (settle ks n Y).2=some ds):Mt Ω G (E++ds) ι γ (settle ks n Y).1 J:=by
 have M1:Mt Ω G E ι γ ((Y.trim n ks).gc.bump n) J:=(M.trim n ks).gc.sub (fun _ _ h=>h) (fun _=>rfl) rfl;exact M1.atom h
theorem Mt.kK(M:Mt Ω G E ι γ Y J){x:Option Nat}{v:SV}{d:D}(h: ∀i,x=some i→VR G E ι Y.h v d):Mt Ω G E ι γ (Y.kK x v) (J.kK x d):=by
 cases x with
 |none=>exact M
 |some i=>exact M.set (h i rfl)
theorem Mt.uy(M:Mt Ω G E ι γ Y J){Z:Sy}{s:Nat→D}(hh:Z.h=Y.h)(hn:Z.nv=Y.nv)(hs: ∀i v,find Z.s i=some v→VR G E ι Y.h v (s i)):Mt Ω G E ι γ Z ⟨s,J.m,J.c⟩:=by
 obtain⟨m1,m2,m3,m4,mo,mq,m5,m6,m7,m8,m9,m10,m11⟩:=M;exact⟨by rw[hh];exact hs,by rw[hh];exact m2,by rw[hh];exact m3,by rw[hh];exact m4,by rw[hh];exact mo,by rw[hh];exact mq,by rw[hh];exact m5,by rw[hh];exact m6,by rw[hh];exact m7,fun x k r=>m8 x k r,by rw[hh];exact m9,by rw[hn];exact m10,m11⟩
theorem n_{α:Type}{n i:Nat}: ∀{l:List (Nat×α)},find (qw n l) i=if n≤i then find l (i-n)else none
 | []=>by simp[qw,find]
 |(j,a)::r=>by
  simp only[qw,find,n_ (l:=r)]
  grind
theorem ir{α:Type}{n i:Nat}: ∀{l:List (Nat×α)},find (jb n l) i=find l (i+n)
 | []=>by simp[jb,find]
 |(j,a)::r=>by
  simp only[jb];by_cases h:j<n
  ·have h1:decide (j<n)=true:=by simpa using h
   have h2:(j==i+n)=false:=by simp;omega
   simp only[h1,cond_true,find,h2,cond_false,ir (l:=r)]
  ·have h1:decide (j<n)=false:=by simpa using h
   simp only[h1,cond_false,find,ir (l:=r)]
   grind
theorem wg{i:Nat}: ∀{vs:List SV} {b:Nat},find (zC b vs) i=if b≤i then vs[i-b]? else none
 | [],b=>by simp[zC,find]
 |v::r,b=>by
  simp only[zC,find,wg (vs:=r)]
  grind
def nY(n:Nat)(ds:List D)(s:Nat→D):Nat→D:=fun i=>if i<n then ds.getD i .undef else s (i-n)
theorem Mt.enter(M:Mt Ω G E ι γ Y J){n n0:Nat}{vs:List SV}{ds:List D}(hv:bA G E ι Y.h vs ds)(hl:vs.length≤n):Mt Ω G E ι γ (Y.enter n n0 vs) ⟨nY n ds J.s,J.m,J.c⟩:=by
 refine M.uy rfl rfl fun i v hf=> ?_;simp only[Sy.enter,eQ,wg,n_,Nat.zero_le,if_true,Nat.sub_zero]at hf;have hlen:=hv.1;by_cases hi:i<vs.length
 ·rw[Ez hi]at hf;cases hf
  have hd:ds[i]?=some (ds.getD i .undef):=by
   grind
  simp only[nY,if_pos (show i<n by omega)];exact hv.2 i _ _ (Ez hi) hd
 ·rw[List.getElem?_eq_none (by omega)]at hf;split at hf
  ·rename_i hn;simp only[nY,if_neg (show¬i<n by omega)];exact M.slot _ _ hf
  ·cases hf
theorem Mt.leave(M:Mt Ω G E ι γ Y J)(n:Nat):Mt Ω G E ι γ (Y.leave n) ⟨fun i=>J.s (i+n),J.m,J.c⟩:=
 M.uy rfl rfl fun i v hf=>by
  simp only[Sy.leave,ir]at hf;exact M.slot _ _ hf
theorem pe(M:Mt Ω G E ι γ Y J){r:fB}{v:SV}(h:uk Y r=some v): ∃d,r.val J=some d∧VR G E ι Y.h v d:=by
 cases r with
 |t i=>cases h;exact⟨_,rfl,aJ M (.t i)⟩
 |cell i n g=>
  simp only[uk,Bz]at h;obtain⟨⟨v',O⟩,h1,h2⟩:=h;split at h2<;>cases h2;rename_i ho;have hO:O= []:=List.isEmpty_iff.1 ho;subst hO;exact gT M (bA.mk (aJ M (.t i)) bA.nil) h1 (fun e he=>by cases he)
theorem nH(M:Mt Ω G E ι γ Y J): ∀{rs:List fB} {vs:List SV},rs.mapM (uk Y)=some vs→ ∃ds,rs.mapM (fB.val J)=some ds∧bA G E ι Y.h vs ds
 | [],vs,h=>by simp at h;subst h;exact⟨[],rfl,bA.nil⟩
 |r::rs,vs,h=>by
  simp only[List.mapM_cons,Option.bind_eq_bind,Bz,Option.pure_def,Jz]at h;obtain⟨y,g1,ys,g2,rfl⟩:=h;obtain⟨d,k1,k2⟩:=pe M g1;obtain⟨ds,k3,k4⟩:=nH M g2;exact⟨d::ds,by simp[k1,k3],bA.mk k2 k4⟩
theorem A_(M:Mt Ω G E ι γ Y J){rs:List fB}{v:SV}(h:A9 rs Y=some v): ∃d,F9 rs J=some d∧VR G E ι Y.h v d:=by
 unfold A9 at h;split at h
 ·exact pe M h
 ·rename_i hne;obtain⟨vs,h1,rfl⟩:=Mz.1 h;obtain⟨ds,k1,k2⟩:=nH M h1;refine⟨.tup ds, ?_, .tup k2.1 k2.2⟩;unfold F9
  grind
end
section
variable {P : Program} {w0 w : World} {pr : aX} {A : iJ} {n : Nat} {tk : ahw} {J : St} {cs : Array Value}
def g_(n' n:Nat)(cs:Array Value)(sv:Nat→Value):Nat→Value:=fun i=>if i-n'<n then cs.getD (i-n') undef else sv (i-n')
theorem Rel.enter(R:Rel P w0 pr A n w cs J tk){n':Nat}{cargs:Array Value}{ds:List D}(hr:a_ w pr tk cargs.toList ds)(hl:ds.length≤n'):
  Rel P w0 pr {A with sv:=g_ n' n cs A.sv} n' w (cargs++Array.replicate (n'-cargs.size) undef) ⟨nY n' ds J.s,J.m,J.c⟩ tk:=by
 have hsz:cargs.size=ds.length:=by simpa using hr.length
 refine⟨by simp;omega,R.chg,R.prlt,R.prA,R.glob,R.mem,R.live,R.fresh,R.zero,R.one,fun i hi=> ?_,fun i hi=> ?_⟩
 ·simp only[nY,if_pos hi];by_cases hlt:i<cargs.size
  ·have e:(cargs++Array.replicate (n'-cargs.size) undef).getD i undef=cargs[i]:=by
    simp[Array.getElem?_append_left hlt,hlt]
   have hd:i<ds.length:=by omega
   rw[e];exact kI hr i _ _ (by simp[hlt]) (by simp[hd])
  ·have e:ds.getD i .undef= .undef:=by simp[List.getElem?_eq_none (show ds.length≤i by omega)]
   rw[e];exact .undef
 ·simp only[nY,if_neg (show¬i<n' by omega),g_];split
  ·rename_i h;exact R.slot _ h
  ·rename_i h;exact R.sav _ (by omega)
theorem iL.enter{B:fe}(U:iL B w0 pr A)(n' n:Nat)(cs:Array Value):iL {B with A:={B.A with sv:=g_ n' n cs B.A.sv}} w0 pr {A with sv:=g_ n' n cs A.sv}:=
 ⟨U.chg,U.sub,U.z,by simp only[U.sv],U.sup,U.inf⟩
theorem dm.leave{B:fe}{n':Nat}{a:Act}{w1:World}{pr1:aX}{A1:iJ}{tk1:ahw}{cs':Array Value}(R:Rel P w1 pr1 A1 n' w cs' J tk1)(U:iL {B with A:={B.A with sv:=g_ n' n a.tmps B.A.sv}} w1 pr1 A1)
  (hs:a.tmps.size=n) {x:Option Nat} (hx: ∀i,x=some i→i<n) {v:Value} {d:D} (hv:ao w pr1 tk1 v d):dm P B n w (a.put x v).tmps (St.kK ⟨fun i=>J.s (i+n'),J.m,J.c⟩ x d):=by
 have hsv:A1.sv=g_ n' n a.tmps B.A.sv:=U.sv
 have R1:Rel P w1 pr1 {A1 with sv:=B.A.sv} n w a.tmps ⟨fun i=>J.s (i+n'),J.m,J.c⟩ tk1:=by
  refine⟨hs,R.chg,R.prlt,R.prA,R.glob,R.mem,R.live,R.fresh,R.zero,R.one,fun i hi=> ?_,fun i hi=> ?_⟩
  ·have h:=R.sav (i+n') (by omega);rw[hsv]at h;simp only[g_,Nat.add_sub_cancel,if_pos hi]at h;exact h
  ·have h:=R.sav (i+n') (by omega);rw[hsv]at h;simp only[g_,Nat.add_sub_cancel,if_neg (show¬i<n by omega)]at h;exact h
 refine⟨w1,pr1,{A1 with sv:=B.A.sv},tk1, ?_,⟨U.chg,U.sub,U.z,rfl,U.sup,U.inf⟩⟩;cases x with
 |none=>exact R1
 |some i=>exact R1.put (hx i rfl) (dU.refl _ _) hv
end
def bM.le(S:List Nat)(Ω Ω':bM):Prop:=(∀t,Ω.c t→Ω'.c t)∧ ∀nm,nm∈S→Ω'.t nm=Ω.t nm∧Ω'.f nm=Ω.f nm
theorem bM.le.np{S:List Nat}{Ω:bM}:Ω.le S Ω:=⟨fun _ h=>h,fun _ _=>⟨rfl,rfl⟩⟩
theorem bM.le.trans{S:List Nat}{Ω Ω' Ω2:bM}(h:Ω.le S Ω')(k:Ω'.le S Ω2):Ω.le S Ω2:=
 ⟨fun t ht=>k.1 t (h.1 t ht),fun nm hn=>⟨(k.2 nm hn).1.trans (h.2 nm hn).1,(k.2 nm hn).2.trans (h.2 nm hn).2⟩⟩
theorem bM.le.sub{S S':List Nat}{Ω Ω':bM}(h:Ω.le S Ω')(hs: ∀x,x∈S'→x∈S):Ω.le S' Ω':=⟨h.1,fun nm hn=>h.2 nm (hs nm hn)⟩
abbrev mark(b:Nat):Deferred:={target:= .collected b,args:= #[]}
def DM(Ω0 Ω:bM)(l:List Deferred):Prop:=(∀t,Ω0.c t→Ω.c t)∧l.Nodup∧ ∀d∈l,∃b,d=mark b∧Ω.c [b+1]∧ ¬Ω0.c [b+1]
theorem DM.mono{S:List Nat}{Ω0 Ω Ω':bM}{l:List Deferred}(h:DM Ω0 Ω l)(k:Ω.le S Ω'):DM Ω0 Ω' l:=⟨fun t ht=>k.1 t (h.1 t ht),h.2.1,fun d hd=>let⟨b,h1,h2,h3⟩:=h.2.2 d hd;⟨b,h1,k.1 _ h2,h3⟩⟩
theorem DM.nil{Ω:bM}:DM Ω Ω []:=⟨fun _ h=>h,List.nodup_nil,fun d h=>by cases h⟩
section
variable {Ω : bM} {G : FP} {E : List D} {ι γ : Nat → Tok} {Y : Sy} {J : St}
theorem eD{J:St}{b:Nat}{o:Obj}{t:Tok}:(J.raw b o).m t=if t= [b+1]then some (.raw o)else J.m t:=rfl
theorem Mt.mem(M:Mt Ω G E ι γ Y J){J':St}{Ω':bM}(hs:J'.s=J.s)(hc:J'.c=J.c)(W:WF J')(hm: ∀n o,find Y.h n=some o→ι n≠ []→J'.m (ι n)=J.m (ι n))(Fy: ∀q,iK Y.h ι γ J q→J'.m q.u=J.m q.u)
  (hr: ∀n k,find Y.h n=some (.raw k)→Ω'.t n=Ω.t n∧Ω'.f n k=Ω.f n k∧ ¬Ω'.c (ι n)) (mj: ∀t,Ω'.c t→J'.m t=some (.raw (.deferred (some [])))):Mt Ω' G E ι γ Y J':=by
 refine⟨fun i v hv=>by rw[hs];exact M.slot i v hv,fun n vs hn=> ?_,fun n e sz c hn=> ?_,fun n c hn=> ?_,fun n e sz c hn=> ?_,M.one,fun n k hn=> ?_,M.inj,M.gV,W,fun n e sz c hn=>by rw[hc];exact M.old n e sz c hn,M.nv,mj⟩
 ·obtain⟨ds,h1,h2,h3⟩:=M.box n vs hn;exact⟨ds,h1,by rw[hm n _ hn h1];exact h2,h3⟩
 ·obtain⟨es,h1,h2,h3⟩:=M.az n e sz c hn;refine⟨es,h1,h2, ?_⟩;rcases h3 with h3|⟨h3,h4⟩
  ·exact .inl h3
  ·exact .inr ⟨h3,by rw[hm n _ hn h3];exact h4⟩
 ·obtain⟨es,h1,h2,h3⟩:=M.mpo n c hn;exact⟨es,h1,h2,by rw[hm n _ hn h2];exact h3⟩
 ·obtain⟨L,h1,h2,h3,h4⟩:=M.own n e sz c hn;exact⟨L,h1,h2,by rw[hm n _ hn h2];exact h3,fun q hq=>(h4.1 q hq).lj (Fy q ⟨n,e,sz,c,L,hn,h3,h4,hq⟩) (h4.1 q hq).2.2.2.1 (h4.1 q hq).2.2.2.2.1 (fun y=>by rw[hc];exact Nat.le_refl _),h4.2⟩
 ·obtain⟨h1,h2,h3,_⟩:=M.rwo n k hn;obtain⟨k1,k2,k3⟩:=hr n k hn;exact⟨by rw[k1];exact h1,h2,by rw[hm n _ hn h2,k2];exact h3,k3⟩
theorem Mt.NX(M:Mt Ω G E ι γ Y J){n:Nat}{o:SO}(h:find Y.h n=some o)(hi:ι n≠ []):J.m (ι n)≠none:=fun e=>by
 obtain⟨q,hq⟩:=M.live h hi;rw[hq]at e;cases e
theorem Mt.Jc(M:Mt Ω G E ι γ Y J){nm l:Nat}{k:RS}(hf:find Y.h nm=some (.raw k))(ht:ι nm= [l+1])(k':RS):Mt Ω G E ι γ (Y.raw nm k') (J.raw l (Ω.f nm k')):=by
 obtain⟨r1,r2,r3,r4⟩:=M.rwo nm k hf;have hf': ∀j,find (Y.raw nm k').h j=if j=nm then some (.raw k')else find Y.h j:=fun j=>bB nm j _ Y.h
 have vr: ∀{v:SV} {d:D},VR G E ι Y.h v d→VR G E ι (Y.raw nm k').h v d:=fun H=>H.mono (fun _ _ h=>h) fun j _=>⟨rfl,fun o ho=>by
  by_cases hj:j=nm
  ·subst hj;rw[hf]at ho;cases ho;exact⟨.raw k',by rw[hf',if_pos rfl],trivial⟩
  ·exact⟨o,by rw[hf',if_neg hj];exact ho,by cases o<;>simp only[SO.cU];exact⟨trivial,trivial,fun es he=>⟨es,he,rfl⟩⟩⟩⟩
 have ne: ∀{j:Nat} {o:SO},j≠nm→find Y.h j=some o→ι j≠ []→ι j≠ [l+1]:=fun hj ho hi e=>hj (M.inj _ _ _ _ ho hf (by rw[e,ht]) hi)
 have back: ∀{j:Nat} {o:SO},(∀q,o≠ .raw q)→find (Y.raw nm k').h j=some o→j≠nm∧find Y.h j=some o:=fun{j o} hq h=>by
  rw[hf']at h;by_cases hj:j=nm
  ·rw[if_pos hj]at h;cases h;exact absurd rfl (hq k')
  ·rw[if_neg hj]at h;exact⟨hj,h⟩
 have vf: ∀{j:Nat} {o:SO},find (Y.raw nm k').h j=some o→ ∃o',find Y.h j=some o':=fun{j o} h=>by
  rw[hf']at h;by_cases hj:j=nm
  ·rw[hj];exact⟨_,hf⟩
  ·rw[if_neg hj]at h;exact⟨_,h⟩
 refine⟨fun i v hv=>vr (M.slot i v hv),fun n vs hn=> ?_,fun n e sz c hn=> ?_,fun n c hn=> ?_,fun n e sz c hn=> ?_,fun a b _ _ _ _ _ _ h1 h2=>M.one a b _ _ _ _ _ _ (back (by simp) h1).2 (back (by simp) h2).2,fun n kk hn=> ?_,fun a b o o' h1 h2=> ?_,fun a b e e' sz sz' c c' h1 h2=> ?_,M.wf.raw l _,fun n e sz c hn=> ?_,M.nv,fun t h=> ?_⟩
 ·obtain⟨hj,hn⟩:=back (by simp) hn;obtain⟨ds,h1,h2,h3⟩:=M.box n vs hn;exact⟨ds,h1,by rw[eD,if_neg (ne hj hn h1)];exact h2,h3.1,fun i v d hv hd=>vr (h3.2 i v d hv hd)⟩
 ·obtain⟨hj,hn⟩:=back (by simp) hn;obtain⟨es,h1,h2,h3⟩:=M.az n e sz c hn;refine⟨es,h1,h2, ?_⟩;rcases h3 with h3|⟨h3,h4⟩
  ·exact .inl h3
  ·exact .inr ⟨h3,by rw[eD,if_neg (ne hj hn h3)];exact h4⟩
 ·obtain⟨hj,hn⟩:=back (by simp) hn;obtain⟨es,h1,h2,h3⟩:=M.mpo n c hn;exact⟨es,h1,h2,by rw[eD,if_neg (ne hj hn h2)];exact h3⟩
 ·obtain⟨hj,hn⟩:=back (by simp) hn;obtain⟨L,h1,h2,h3,h4⟩:=M.own n e sz c hn;refine⟨L,h1,h2,by rw[eD,if_neg (ne hj hn h2)];exact h3,fun q hq=>(h4.1 q hq).lj ?_ (fun k o hk=> ?_) (fun k e sz c hk=>(h4.1 q hq).2.2.2.2.1 k e sz c (back (by simp) hk).2) (fun _=>Nat.le_refl _),h4.2⟩
  ·rw[eD,if_neg fun e=>(h4.1 q hq).2.2.2.1 nm _ hf (by rw[ht,e])]
  ·obtain⟨o',ho'⟩:=vf hk;exact(h4.1 q hq).2.2.2.1 k o' ho'
 ·rw[hf']at hn;by_cases hj:n=nm
  ·rw[if_pos hj]at hn;cases hn;subst hj;exact⟨r1,r2,by rw[eD,if_pos ht],r4⟩
  ·rw[if_neg hj]at hn;obtain⟨h1,h2,h3,h4⟩:=M.rwo n kk hn;exact⟨h1,h2,by rw[eD,if_neg (ne hj hn h2)];exact h3,h4⟩
 ·obtain⟨_,g1⟩:=vf h1;obtain⟨_,g2⟩:=vf h2;exact M.inj a b _ _ g1 g2
 ·obtain⟨_,g1⟩:=back (by simp) h1;obtain⟨_,g2⟩:=back (by simp) h2;exact M.gV a b e e' sz sz' c c' g1 g2
 ·obtain⟨_,g1⟩:=back (by simp) hn;exact M.old n e sz c g1
 ·rw[eD,if_neg (fun e=>r4 (by rw[ht,←e];exact h))];exact M.con t h
theorem Mt.Kr(M:Mt Ω G E ι γ Y J){nm l:Nat}{k:RS}(hf:find Y.h nm=some (.raw k))(ht:ι nm= [l+1])(o:Obj):Mt Ω G E ι γ (Y.kill nm) (J.raw l o):=by
 obtain⟨r1,r2,r3,r4⟩:=M.rwo nm k hf;have M1:=(M.kill nm).1;refine M1.mem rfl rfl (M.wf.raw l o) (fun n o' hn hi=> ?_) (fun q hq=> ?_) (fun n kk hn=>⟨rfl,rfl,(M1.rwo n kk hn).2.2.2⟩) fun t h=> ?_
 ·obtain⟨hne,o0,h0,_⟩:=bF hn;rw[eD,if_neg fun e=>hne (M.inj _ _ _ _ h0 hf (by rw[e,ht]) hi)]
 ·obtain⟨q',hq',h1,_⟩:=hq.kill M;rw[eD,if_neg fun e=>M.my hf hq' (by rw[h1,e,ht])]
 ·rw[eD,if_neg (fun e=>r4 (by rw[ht,←e];exact h))];exact M.con t h
def oy{α:Type}(f:Nat→α)(n:Nat)(a:α):Nat→α:=fun k=>if k=n then a else f k
theorem EW{α:Type}: ∀(l:List (Nat×α)),∃b,∀x,b≤x→find l x=none
 | []=>⟨0,fun _ _=>rfl⟩
 |(i,a)::r=>by
  obtain⟨b,hb⟩:=EW r;refine⟨max b (i+1),fun x hx=> ?_⟩;have:(i==x)=false:=by simp;omega
  simp only[find]
  grind
theorem Mt.jH(M:Mt Ω G E ι γ Y J){nm b:Nat}{g:RS→Obj}(h1:J.m [b+1]=none)(h2:J.m [b+1+1]=none):
  Mt ⟨oy Ω.t nm [b+1+1],oy Ω.f nm g,fun t=>Ω.c t∨t= [b+1]⟩ G E (oy ι nm [b+1+1]) (oy γ nm []) (Y.jH nm) ((J.raw b (.deferred (some []))).raw (b+1) (g .ready)):=by
 obtain⟨M1,F1⟩:=M.kill nm;have hne: ∀{n:Nat} {o:SO},find (Y.kill nm).h n=some o→ι n≠ []→ι n≠ [b+1]∧ι n≠ [b+1+1]:=fun hn hi=>⟨fun e=>M1.NX hn hi (by rw[e];exact h1),fun e=>M1.NX hn hi (by rw[e];exact h2)⟩
 have hc2: ∀t,Ω.c t→t≠ [b+1]∧t≠ [b+1+1]:=fun t ht=>by
  have hq:=M.con t ht;refine⟨fun e=> ?_,fun e=> ?_⟩
  ·rw[e,h1]at hq;cases hq
  ·rw[e,h2]at hq;cases hq
 have e12:([b+1]:Tok)≠ [b+1+1]:=by simp
 have M2:Mt ⟨oy Ω.t nm [b+1+1],oy Ω.f nm g,fun t=>Ω.c t∨t= [b+1]⟩ G E ι γ (Y.kill nm) ((J.raw b (.deferred (some []))).raw (b+1) (g .ready)):=by
  refine M1.mem rfl rfl ((M.wf.raw b _).raw _ _) (fun n o hn hi=> ?_) (fun q hq=> ?_) (fun n k hn=> ?_) fun t ht=> ?_
  ·rw[eD,if_neg (hne hn hi).2,eD,if_neg (hne hn hi).1]
  ·obtain⟨_,p1,_⟩:=hq.mem;rw[eD,if_neg (fun e=>by rw[e,h2]at p1;cases p1),eD,if_neg (fun e=>by rw[e,h1]at p1;cases p1)]
  ·have hnn:n≠nm:=(bF hn).1;obtain⟨_,g2,_,g4⟩:=M1.rwo n k hn;refine⟨if_neg hnn, ?_, ?_⟩
   ·show oy Ω.f nm g n k=_;simp only[oy,if_neg hnn]
   ·rintro(h|h)
    ·exact g4 h
    ·exact(hne hn g2).1 h
  ·rcases ht with ht|rfl
   ·rw[eD,if_neg (hc2 t ht).2,eD,if_neg (hc2 t ht).1];exact M.con t ht
   ·rw[eD,if_neg e12,eD,if_pos rfl]
 obtain⟨x0,hx0⟩:=EW (Y.kill nm).s
 have hnq: ∀q,iK (Y.kill nm).h ι γ ((J.raw b (.deferred (some []))).raw (b+1) (g .ready)) q→q.u≠ [b+1+1]:=fun q hq e=>by
  obtain⟨_,p1,_⟩:=hq.mem;rw[e,eD,if_pos rfl]at p1;cases p1
 have M3:=M2.add (x:=x0) F1 (o:= .raw .ready) (v:= .un) (t:= [b+1+1]) (g:= []) M2.wf (fun _ _=>rfl) (fun _ _ _ _=>rfl) (fun _=>Nat.le_refl _) (fun _ _ h=>h) .un
  ⟨by simp[oy],by simp,by rw[eD,if_pos rfl];simp[oy],fun h=>by
   rcases h with h|h
   ·exact(hc2 _ h).2 rfl
   ·exact e12 h.symm⟩ (fun _ n o hn e=>(hne hn (by rw[e];simp)).2 e) (fun q hq=>⟨fun e=>hnq q hq e.symm,fun _ h=>(by obtain⟨_,_,_,h⟩:=h;cases h),rfl⟩)
 refine M3.sub (fun i v hv=> ?_) (fun _=>rfl) rfl;simp only[Sy.add,bB];have hv':find (Y.kill nm).s i=some v:=hv;by_cases hi:i=x0
 ·rw[hi,hx0 x0 (Nat.le_refl _)]at hv';cases hv'
 ·rw[if_neg hi];exact hv'
theorem p8{α:Type}{n i:Nat}: ∀{l:List (Nat×α)},find (wX n l) i=if i<n then find l i else none
 | []=>by simp[wX,find]
 |(j,a)::r=>by
  simp only[wX];by_cases h:j<n
  ·have h1:decide (j<n)=true:=by simpa using h
   simp only[h1,cond_true,find,p8 (l:=r)]
   grind
  ·have h1:decide (j<n)=false:=by simpa using h
   simp only[h1,cond_false,find,p8 (l:=r)]
   grind
def oq(n off:Nat)(s:Nat→D):Nat→D:=fun i=>if i<n then s (off+i)else s (i-n)
theorem A6{h:List (Nat×SO)}: ∀{ps:List Nat} {vs:List SV} {ds:List D} {l:List (Nat×SV)} {s:Nat→D},bA G E ι h vs ds→(∀i v,find l i=some v→VR G E ι h v (s i))→ ∀i v,find (IX ps vs l) i=some v→VR G E ι h v (vu ps ds s i)
 | [],vs,ds,l,s,_,hl,i,v,hf=>by simp only[IX]at hf;simp only[vu];exact hl i v hf
 |p::ps,[],ds,l,s,hv,hl,i,v,hf=>by
  have:ds= []:=List.eq_nil_of_length_eq_zero hv.1.symm;subst this;simp only[IX]at hf;simp only[vu];exact hl i v hf
 |p::ps,u::vs,ds,l,s,hv,hl,i,v,hf=>by
  obtain⟨d,ds',rfl,h1,h2⟩:=hv.cons;refine A6 h2 (fun j w hw=> ?_) i v hf;rw[bB]at hw
  grind
theorem Mt.round(M:Mt Ω G E ι γ Y J){n off n0:Nat}{ps:List Nat}{vs:List SV}{ds:List D}(hv:bA G E ι Y.h vs ds):Mt Ω G E ι γ (Y.round n off ps vs n0) ⟨vu ps ds (oq n off J.s),J.m,J.c⟩:=by
 refine M.uy rfl rfl fun i v hf=>A6 hv (fun j u hu=> ?_) i v hf;rw[eQ,p8,ir,n_]at hu;by_cases hj:j<n
 ·rw[if_pos hj,if_neg (show¬n≤j by omega),Option.or_none]at hu;simp only[oq,if_pos hj];rw[Nat.add_comm];exact M.slot _ _ hu
 ·rw[if_neg hj,if_pos (by omega)]at hu;simp only[oq,if_neg hj];exact M.slot _ _ hu
end
section
variable {P : Program} {w0 w : World} {pr : aX} {A : iJ} {n : Nat} {tk : ahw} {J : St} {cs : Array Value}
theorem wP: ∀{ps:List Nat} {vs:List Value} {cs:Array Value},(uj ps vs cs).size=cs.size
 | [],_,_=>rfl
 |_::_,[],_=>rfl
 |p::ps,v::vs,cs=>by simp only[uj,wP,Array.size_setIfInBounds]
theorem A7: ∀{ps:List Nat} {vs:List Value} {ds:List D} {cs:Array Value} {s:Nat→D},a_ w pr tk vs ds→(∀i,i<cs.size→ao w pr tk (cs.getD i undef) (s i))→ ∀i,i<cs.size→ao w pr tk ((uj ps vs cs).getD i undef) (vu ps ds s i)
 | [],_,_,_,_,_,h,i,hi=>h i hi
 |_::_,[],[],_,_,_,h,i,hi=>h i hi
 |_::_,[],_::_,_,_,hr,_,_,_=>absurd hr (by simp[a_])
 |_::_,_::_,[],_,_,hr,_,_,_=>absurd hr (by simp[a_])
 |p::ps,v::vs,d::ds,cs,s,hr,h,i,hi=>by
  refine A7 hr.2 (fun j hj=> ?_) i (by simpa using hi);by_cases hp:p<cs.size
  ·rw[kB hp];by_cases e:j=p
   ·rw[if_pos e,if_pos e];exact hr.1
   ·grind
  ·grind
theorem EE{n:Nat}: ∀{ps:List Nat} {ds:List D} {s:Nat→D} {i:Nat},(∀p∈ps,p<n)→n≤i→vu ps ds s i=s i
 | [],_,_,_,_,_=>rfl
 |_::_,[],_,_,_,_=>rfl
 |p::ps,d::ds,s,i,hp,hi=>by
  simp only[vu];rw[EE (fun q hq=>hp q (Cz _ hq)) hi];have:=hp p (List.mem_cons_self ..)
  grind
theorem Rel.round{n0:Nat}(R:Rel P w0 pr A n0 w cs J tk){off:Nat}{T:Array Value}{ps:List Nat}{cargs:List Value}{ds:List D}(hT:T.size=n)(hA: ∀i,i<n→n0≤off+i∧A.sv (off+i)=T.getD i undef)(hr:a_ w pr tk cargs ds)(hp: ∀p∈ps,p<n):
  Rel P w0 pr {A with sv:=g_ n n0 cs A.sv} n w (uj ps cargs T) ⟨vu ps ds (oq n off J.s),J.m,J.c⟩ tk:=by
 refine⟨by rw[wP];exact hT,R.chg,R.prlt,R.prA,R.glob,R.mem,R.live,R.fresh,R.zero,R.one,fun i hi=> ?_,fun i hi=> ?_⟩
 ·refine A7 hr (fun j hj=> ?_) i (by omega);obtain⟨h1,h2⟩:=hA j (by omega);simp only[oq,if_pos (show j<n by omega)];rw[←h2];exact R.sav _ h1
 ·show ao w pr tk (g_ n n0 cs A.sv i) (vu ps ds (oq n off J.s) i);rw[EE hp hi];simp only[oq,if_neg (show¬i<n by omega),g_];split
  ·rename_i h;exact R.slot _ h
  ·rename_i h;exact R.sav _ (by omega)
end
end
section
def H7(L:List OE)(g:Tok):Bool:=L.any fun q=>decide (q.g=g)
def qa(t:Tok)(L:List OE)(m:Mem):Mem:=fun τ=>if τ=t then some (.map (L.map OE.pr))else match m τ with
 |some (.row g e es)=>if H7 L g then none else some (.row g e es)
 |o=>o
theorem sq{t:Tok}{L:List OE}{m:Mem}:qa t L m t=some (.map (L.map OE.pr)):=if_pos rfl
theorem oW{t:Tok}{L:List OE}{m:Mem}{τ:Tok}{o:HO}(hne:τ≠t)(h:qa t L m τ=some o):m τ=some o∧ ∀g e es,o= .row g e es→H7 L g=false:=by
 simp only[qa]at h
 grind
theorem Je{w:World}{pr:aX}{tk:ahw}{v:Value}{t:Tok}{size off len:Nat}{lim:Option Nat}(h:ao w pr tk v (.sl t size off len lim)): ∃b cap c o,tk t=some (b,cap)∧v= .slice (some ⟨b,o,none⟩) len c∧(o=off*size∨(c=0∧0<off)):=by
 cases h with
 |sl ht hc hl ho=>exact⟨_,_,_,_,ht,rfl,ho⟩
theorem wm{L:List OE}{q:OE}(h:q∈L):H7 L q.g=true:=List.any_eq_true.2 ⟨q,h,by simp⟩
section
variable {P : Program} {w0 w : World} {pr : aX} {A : iJ} {n : Nat} {tk : ahw} {J : St} {a : Act} {B : fe}
theorem CQ(R:Rel P w0 pr A n w a.tmps J tk)(U:iL B w0 pr A){t:Tok}{L:List OE}{e sz:Nat}(hm:J.m t=some (.map (L.map (OE.en sz))))(hq: ∀q∈L,J.m q.u=some (.row q.g e q.es)∧aQ sz q.es=true):
  dm P B n w a.tmps ⟨J.s,qa t L J.m,J.c⟩:=by
 let pr':aX:=fun b o=>pr b o∨ ∃q,q∈L∧ ∃cap,tk q.u=some (b,cap)∧o<q.es.length*P.cellsOf e;have K:dW w w pr pr' tk tk:=⟨fun b o h=>⟨rfl, .inl h⟩,fun _ _ h=>h⟩
 have une: ∀q,q∈L→q.u≠t:=fun q hqm e=>by
  grind
 have src: ∀{τ:Tok} {o:HO},qa t L J.m τ=some o→ ∃o0,J.m τ=some o0∧o0.gV=o.gV:=fun{τ o} h=>by
  by_cases hne:τ=t
  ·subst hne;rw[sq]at h;cases h;exact⟨_,hm,rfl⟩
  ·exact⟨o,(oW hne h).1,rfl⟩
 have apart: ∀{q:OE} {b cap c:Nat} {τ:Tok} {o:HO},q∈L→tk q.u=some (b,cap)→qa t L J.m τ=some o→tk τ=some (b,c)→False:=fun{q b cap c τ o} hqm ht ho hτ=>by
  obtain⟨o0,h0,hg⟩:=src ho;rcases R.mem.inj τ q.u o0 _ b c cap h0 (hq q hqm).1 hτ ht with h|⟨h1,h2⟩
  ·subst h;have h3:=(oW (une q hqm) ho);rw[(hq q hqm).1]at h3;have:=h3.2 q.g e q.es (by have:=h3.1;injection this with this;exact this.symm);rw[wm hqm]at this;cases this
  ·rw[hg]at h2;by_cases hne:τ=t
   ·subst hne;rw[sq]at ho;cases ho;cases h2
   ·cases o with
    |row g e' es=>
     simp only[HO.gV,Jz]at h2;have:=(oW hne ho).2 g e' es rfl;rw[h2,wm hqm]at this;cases this
    |_=>cases h2
 have s2:=U.chg.size
 have KR:nc P w pr' tk t (.map (L.map OE.pr)):=by
  obtain⟨b,cap,bW,h1,h2,h3,h4,h5⟩:=R.mem.obj t _ hm;simp only[List.length_map]at h2 h3 h4;refine⟨b,cap,bW,h1,by simpa using h2,by simpa using h3,by simpa using h4,fun i en p he hp=> ?_⟩;rw[Dz,Mz]at hp;obtain⟨q,hqi,rfl⟩:=hp;have hqm:=Lz hqi;obtain⟨g1,g2,g3⟩:=h5 i en (q.en sz) he (by rw[Dz,hqi];rfl);refine⟨g1,g2.keeps K, ?_⟩;simp only[OE.en,OE.pr]at g3⊢;obtain⟨r1,r2⟩:=hq q hqm
  have hel:(D.sl q.u sz 0 q.es.length none).elems J.m=some q.es:=by
   simp only[D.elems,r1];rw[if_pos ⟨by omega,bQ r2⟩];simp
  rcases eP R.mem g3 hel with⟨hv,h0⟩|⟨b1,o1,c1,size,us,hv,k1,k2,k3,k4⟩
  ·rw[h0];rcases hv with hv|⟨a,c,hv⟩<;>rw[hv]
   ·exact .nil'
   ·exact .emp
  ·obtain⟨b3,VH,c3,o3,t1,t2,t3⟩:=Je g3;rw[hv]at t2⊢;have qc:=R.mem.obj q.u _ r1;obtain⟨b2,te,C,m1,m2,m3,m4,m5,m6⟩:=qc
   have hbb:tk q.u=some (b1,te)∧o1=0:=by
    grind
   refine .list us k2 k1 (fun j hj=>⟨(k3 j hj).1, .inr ⟨q,hqm,te,hbb.1, ?_⟩,(k3 j hj).2⟩) (fun i c hc j x hx=> ?_)
   ·have hlen:0<q.es.length:=by
     grind
    have hsz:size=P.cellsOf e:=by
     have qc:=List.getElem_mem hlen;rw[←k2 _ qc,m6.1 _ qc]
    rw[hbb.2,Nat.zero_add,←hsz];exact hj
   ·have hxn:x.aO=true:=by
     have h1:=Tz.1 r2 c (Lz hc);simp only[Az,Tz]at h1;have h2:=h1.2 x (Lz hx);exact ud h2
    exact bf ((k4 i c hc j x hx).keeps K) hxn
 refine⟨w,pr',⟨bY tk (qa t L J.m),A.z,A.sv⟩,tk,⟨R.size,dU.refl _ _,fun b o h=> ?_,fun b o h hb=> ?_,R.glob.keeps K.cell,⟨fun τ o h=> ?_,fun τ τ' o o' b c c' h h' ht ht'=> ?_⟩,fun τ o b c h ht=> .inr ⟨τ,o,c,h,ht⟩,R.fresh,R.zero,R.one,fun i hi=>(R.slot i hi).keeps K,fun i hi=>(R.sav i hi).keeps K⟩,
  ⟨U.chg.trans R.chg fun b hb h=>U.sub b hb h,fun b hb h=> ?_,U.z,U.sv,fun b o h=> .inl (U.sup b o h),fun b o h=> ?_⟩⟩
 ·rcases h with h|⟨q,hqm,cap,ht,_⟩
  ·exact R.vt b o h
  ·obtain⟨b1,c1,g1,g2⟩:=(R.mem.obj q.u _ (hq q hqm).1).place;rw[ht]at g1;cases g1;exact g2
 ·obtain⟨τ,o',c,ho,ht⟩:=hb;rcases h with h|⟨q,hqm,cap,htq,_⟩
  ·obtain⟨o0,h0,_⟩:=src ho;exact R.free h0 ht h
  ·exact apart hqm htq ho ht
 ·replace h:qa t L J.m τ=some o:=h
  by_cases hne:τ=t
  ·subst hne;rw[sq]at h;cases h;exact KR
  ·exact(R.mem.obj τ o (oW hne h).1).keeps K fun _ _ _=>rfl
 ·obtain⟨o0,h0,g0⟩:=src h;obtain⟨o1,h1,g1⟩:=src h';rw[←g0,←g1];exact R.mem.inj τ τ' o0 o1 b c c' h0 h1 ht ht'
 ·obtain⟨τ,o',c,ho,ht⟩:=h;obtain⟨o0,h0,_⟩:=src ho;rcases R.live τ o0 b c h0 ht with h|h
  ·omega
  ·exact U.sub b hb h
 ·rcases h with h|⟨q,hqm,cap,ht,_⟩
  ·exact U.inf b o h
  ·rcases R.live q.u _ b cap (hq q hqm).1 ht with h|h
   ·exact .inr (.inl (by omega))
   ·rcases Nat.lt_or_ge b B.w.heap.size with hb|hb
    ·exact .inr (.inr (U.sub b hb h))
    ·exact .inr (.inl hb)
end
section
variable {P : Program} {B : fe} {n : Nat} {Ω : bM} {G : FP} {E : List D} {ι γ : Nat → Tok} {Y : Sy} {J : St}
theorem gM(k:Nat):find Y.freeze.h k=(find Y.h k).map vi:=dY vi k Y.h
theorem xQ(M:Mt Ω G E ι γ Y J){w:World}{a:Act}(R:dm P B n w a.tmps J): ∃J',Mt Ω G E ι γ Y.freeze J'∧dm P B n w a.tmps J':=by
 by_cases hex: ∃m e sz c,find Y.h m=some (.mpl e sz c)
 rotate_left
 ·refine⟨J,M.sub (fun i v h=>h) (fun k=> ?_) rfl,R⟩;rw[gM];cases hf:find Y.h k with
  |none=>rfl
  |some o=>
   cases o with
   |mpl e sz c=>exact absurd ⟨k,e,sz,c,hf⟩ hex
   |_=>rfl
 obtain⟨m,e,sz,c,hf⟩:=hex;obtain⟨L,o1,o2,o3,o4,o5⟩:=M.own m e sz c hf;obtain⟨w1,pr,A,tk,R1,U⟩:=R;refine⟨_, ?_,CQ R1 U o3 fun q hq=>⟨(o4 q hq).2.2.1,(o4 q hq).2.1⟩⟩;have only: ∀{k e' sz' c'},find Y.h k=some (.mpl e' sz' c')→k=m:=fun h=>M.one _ _ _ _ _ _ _ _ h hf
 have back: ∀{k:Nat} {o:SO},(∀c,o≠ .map c)→find Y.freeze.h k=some o→find Y.h k=some o∧k≠m:=fun{k o} hne h=>by
  rw[gM]at h;obtain⟨o0,h0,h1⟩:=Mz.1 h;cases o0 with
  |mpl e' sz' c'=>simp only[vi]at h1;exact absurd h1.symm (hne _)
  |_=>simp only[vi]at h1;subst h1;exact⟨h0,fun e=>by rw[e,hf]at h0;cases h0⟩
 have vf: ∀{k:Nat} {o:SO},find Y.freeze.h k=some o→ ∃o',find Y.h k=some o':=fun{k o} h=>by
  rw[gM]at h;obtain⟨o0,h0,_⟩:=Mz.1 h
  grind
 have same: ∀{k:Nat} {o:SO},k≠m→find Y.h k=some o→ι k≠ []→qa (ι m) L J.m (ι k)=J.m (ι k):=fun{k o} hk ho hi=>by
  have hne:ι k≠ι m:=fun e=>hk (M.inj k m _ _ ho hf e hi);simp only[qa,if_neg hne];cases o with
  |box vs=>obtain⟨_,_,h,_⟩:=M.box k vs ho;rw[h]
  |map c=>obtain⟨_,_,_,h⟩:=M.mpo k c ho;rw[h]
  |mpl e' sz' c=>obtain⟨_,_,_,h,_⟩:=M.own k e' sz' c ho;rw[h]
  |raw kk=>obtain⟨_,_,h,_⟩:=M.rwo k kk ho;rw[h]
  |az e' sz' c'=>
   obtain⟨es3,_,_,h⟩:=M.az k _ _ _ ho;rcases h with⟨h,_⟩|⟨_,h⟩
   ·grind
   ·rw[h];simp only[];rw[if_neg fun hg=> ?_];obtain⟨q,hq,hqe⟩:=List.any_eq_true.1 hg;exact(o4 q hq).2.2.2.2.1 k _ _ _ ho hi (of_decide_eq_true hqe).symm
 have vr: ∀{v:SV} {d:D},VR G E ι Y.h v d→VR G E ι Y.freeze.h v d:=fun H=>H.mono (fun _ _ h=>h) fun k _=>⟨rfl,fun o ho=>⟨vi o,by rw[gM,ho];rfl,by
  cases o<;>simp only[vi,SO.cU]
  exact⟨trivial,trivial,fun es he=>⟨es,he,rfl⟩⟩⟩⟩
 have ZR: ∀t q,J.m t=some (.raw q)→qa (ι m) L J.m t=some (.raw q):=fun t q h=>by
  have:t≠ι m:=fun e=>by rw[e,o3]at h;cases h
  simp only[qa,if_neg this,h]
 refine⟨fun i v hv=>vr (M.slot i v hv),fun k vs hk=> ?_,fun k e sz c hk=> ?_,fun k c hk=> ?_,fun k e sz c hk=> ?_,fun k k' e e' sz sz' c c' hk _=> ?_,fun k kk hk=> ?_,fun a b o o' h1 h2=> ?_,fun a b e e' sz sz' c c' h1 h2=>M.gV a b _ _ _ _ _ _ (back (by simp) h1).1 (back (by simp) h2).1,fun x k r hk=> ?_,fun k e sz c hk=>M.old k _ _ _ (back (by simp) hk).1,M.nv,fun t ht=>ZR t _ (M.con t ht)⟩
 ·obtain⟨hk,hne⟩:=back (by simp) hk;obtain⟨ds,h1,h2,h3⟩:=M.box k vs hk;exact⟨ds,h1,(same hne hk h1).trans h2,h3.1,fun i v d hv hd=>vr (h3.2 i v d hv hd)⟩
 ·obtain⟨hk,hne⟩:=back (by simp) hk;obtain⟨es,h1,h2,h3⟩:=M.az k _ _ _ hk;refine⟨es,h1,h2, ?_⟩;rcases h3 with h3|⟨h3,h4⟩
  ·exact .inl h3
  ·exact .inr ⟨h3,(same hne hk h3).trans h4⟩
 ·rw[gM]at hk;obtain⟨o0,h0,h1⟩:=Mz.1 hk;cases o0 with
  |mpl e' sz' c'=>
   simp only[vi,SO.map.injEq]at h1;subst h1;obtain rfl:=only h0;rw[hf]at h0;cases h0;exact⟨_,o1,o2,sq⟩
  |map c'=>
   simp only[vi,SO.map.injEq]at h1;subst h1;obtain⟨es,g1,g2,g3⟩:=M.mpo k _ h0;exact⟨es,g1,g2,(same (fun e=>by rw[e,hf]at h0;cases h0) h0 g2).trans g3⟩
  |_=>simp only[vi,reduceCtorEq]at h1
 ·have:=(back (by simp) hk);exact absurd (only this.1) this.2
 ·have:=(back (by simp) hk);exact absurd (only this.1) this.2
 ·obtain⟨hk,hne⟩:=back (by simp) hk;obtain⟨h1,h2,h3,h4⟩:=M.rwo k kk hk;exact⟨h1,h2,ZR _ _ h3,h4⟩
 ·obtain⟨_,g1⟩:=vf h1;obtain⟨_,g2⟩:=vf h2;exact M.inj a b _ _ g1 g2
 ·have h0:=M.wf x k r hk;have hne:(x+1)::k::r≠ι m:=fun e=>by rw[e,o3]at h0;cases h0
  simp only[qa,if_neg hne,h0]
end
end
section
theorem n9(k:Nat): ∀(l:List (Nat×SO)),find (wI l) k=match find l k with
  |some (.az ..)=>none
  |o=>o
 | []=>rfl
 |(i,o)::r=>by
  have ih:=n9 k r;cases hi:i==k with
  |true=>
   have e:i=k:=by simpa using hi
   cases o<;>simp[wI,find,iH,e]
  |false=>
   have e: ¬k=i:=fun e=>by simp[e]at hi
   cases o<;>simp[wI,find,iH,hi,e,ih]
theorem cI(Y:Sy){k:Nat}{o:SO}(h:find Y.oa.h k=some o): ∃o0,find Y.h k=some o0∧o=p_ Y.h o0∧(∀e sz c,o0≠ .az e sz c):=by
 simp only[Sy.oa,dY,n9]at h;obtain⟨o0,h1,rfl⟩:=Mz.1 h
 grind
theorem xR(Y:Sy){k:Nat}{o:SO}(h:find Y.h k=some o)(hn: ∀e sz c,o≠ .az e sz c):find Y.oa.h k=some (p_ Y.h o):=by
 simp only[Sy.oa,dY,n9]
 grind
theorem fE(h:List (Nat×SO)): ∀(vs:List SV),(iS h vs).length=vs.length
 | []=>rfl
 |_::r=>by simp[iS,fE h r]
theorem qb(h:List (Nat×SO)): ∀(vs:List SV) (i:Nat),(iS h vs)[i]?=(vs[i]?).map (nj h)
 | [],_=>by simp[iS]
 |_::r,0=>by simp[iS]
 |_::r,i+1=>by simp[iS,qb h r i]
theorem qq{α β γ:Type}{R:α→β→γ→Prop}: ∀{vs:List α} {ds:List β},vs.length=ds.length→(∀(i:Nat) (v:α) (d:β),vs[i]?=some v→ds[i]?=some d→ ∃e,R v d e)→
  ∃es:List γ,es.length=ds.length∧ ∀(i:Nat) (v:α) (d:β) (e:γ),vs[i]?=some v→ds[i]?=some d→es[i]?=some e→R v d e
 | [],[],_,_=>⟨[],rfl,fun i v d e h=>by simp at h⟩
 |v::vs,d::ds,hl,h=>by
  obtain⟨e,he⟩:=h 0 v d rfl rfl;obtain⟨es,h1,h2⟩:=qq (vs:=vs) (ds:=ds) (by simpa using hl) fun i v d hv hd=>h (i+1) v d (by simpa using hv) (by simpa using hd);refine⟨e::es,by simp[h1],fun i v' d' e' hv hd he'=> ?_⟩;cases i with
  |zero=>simp at hv hd he';subst hv;subst hd;subst he';exact he
  |succ i=>exact h2 i v' d' e' (by simpa using hv) (by simpa using hd) (by simpa using he')
 | [],_::_,hl,_=>by simp at hl
 |_::_,[],hl,_=>by simp at hl
section
variable {P : Program} {B : fe} {n : Nat} {Ω : bM} {G : FP} {E : List D} {ι γ : Nat → Tok} {Y : Sy} {J : St} {w : World} {pr pr' : aX} {tk : ahw}
theorem HE(M:Mt Ω G E ι γ Y J)(hK: ∀val d,ao w pr tk val d→ao w pr' tk val d)
  (hS: ∀n e sz c es,find Y.h n=some (.az e sz c)→ι n≠ []→J.m (ι n)=some (.row (γ n) e es)→aQ sz es=true→ ∀val off len lim,off+len≤es.length→ao w pr tk val (.sl (ι n) sz off len lim)→ao w pr' tk val (.list ((es.drop off).take len)))
  {v:SV} {d:D} (H:VR G E ι Y.h v d): ∃d',VR G E ι Y.oa.h (nj Y.h v) d'∧ ∀val,ao w pr tk val d→ao w pr' tk val d':=by
 have own: ∀{n e sz:Nat} {c:X} {es:List (List D)},find Y.h n=some (.az e sz c)→ι n≠ []→X.ev G E c=some (.list es)→ ∀val off len lim,off+len≤es.length→ao w pr tk val (.sl (ι n) sz off len lim)→ao w pr' tk val (.list ((es.drop off).take len)):=fun hf hi hc=>by
  obtain⟨es',h1,h2,h3⟩:=M.az _ _ _ _ hf;rw[hc]at h1;cases h1;rcases h3 with⟨h3,_⟩|⟨_,h3⟩
  ·exact absurd h3 hi
  ·exact hS _ _ _ _ _ hf hi h3 h2
 have xK: ∀{n e sz:Nat} {c:X},find Y.h n=some (.az e sz c)→ι n= []→X.ev G E c=some (.list []):=fun hf hi=>by
  obtain⟨es',h1,h2,h3⟩:=M.az _ _ _ _ hf;rcases h3 with⟨_,rfl⟩|⟨h3,_⟩
  ·exact h1
  ·exact absurd hi h3
 have adI: ∀val,ao w pr tk val .nil→ao w pr' tk val (.list []):=fun val h=>by cases h;exact .nil'
 have box: ∀{n:Nat} {vs:List SV},find Y.h n=some (.box vs)→find Y.oa.h n=some (.box (iS Y.h vs)):=fun hf=>xR Y hf fun _ _ _ h=>by cases h
 have row: ∀{vs:List SV} {ds:List D},vs.length=ds.length→(∀(i:Nat) (v:SV) (d:D),vs[i]?=some v→ds[i]?=some d→ ∃d',VR G E ι Y.oa.h (nj Y.h v) d'∧ ∀val,ao w pr tk val d→ao w pr' tk val d')→
   ∃ds':List D,ds'.length=ds.length∧(∀(i:Nat) (v:SV) (d:D),(iS Y.h vs)[i]?=some v→ds'[i]?=some d→VR G E ι Y.oa.h v d)∧ ∀(i:Nat) (d':D),ds'[i]?=some d'→ ∃d,ds[i]?=some d∧ ∀val,ao w pr tk val d→ao w pr' tk val d':=fun{vs ds} hl hh=>by
  obtain⟨es,h1,h2⟩:=qq hl hh
  have gd: ∀(i:Nat) (d':D),es[i]?=some d'→ ∃v d,vs[i]?=some v∧ds[i]?=some d:=fun i d' h=>by
   have:=(Gz.1 h).1;exact⟨_,_,Ez (by omega),Ez (by omega)⟩
  refine⟨es,h1,fun i v d hv hd=> ?_,fun i d' hd=> ?_⟩
  ·rw[qb]at hv;obtain⟨v0,hv0,rfl⟩:=Mz.1 hv;obtain⟨_,d0,_,hd0⟩:=gd i d hd;exact(h2 i v0 d0 d hv0 hd0 hd).1
  ·obtain⟨v0,d0,hv0,hd0⟩:=gd i d' hd;exact⟨d0,hd0,(h2 i v0 d0 d' hv0 hd0 hd).2⟩
 induction H with
 |un=>exact⟨_, .un,fun val=>hK val _⟩
 |x h1 h2=>exact⟨_, .x h1 h2,fun val=>hK val _⟩
 |agg hl hh ih=>
  obtain⟨ds',h1,h2,h3⟩:=row hl ih;refine⟨.agg ds', .agg (by rw[fE,hl,h1]) h2,fun val h=> ?_⟩;cases h with
  |agg a1 a2 a3=>exact .agg (a1.trans h1.symm) a2 fun i c x hc hx=>let⟨d,hd,hr⟩:=h3 i x hx;hr c (a3 i c d hc hd)
 |tup hl hh ih=>
  obtain⟨ds',h1,h2,h3⟩:=row hl ih;refine⟨.tup ds', .tup (by rw[fE,hl,h1]) h2,fun val h=> ?_⟩;cases h with
  |tup a1 a3=>exact .tup (a1.trans h1.symm) fun i c x hc hx=>let⟨d,hd,hr⟩:=h3 i x hx;hr c (a3 i c d hc hd)
 |clo hl hh ih=>
  obtain⟨ds',h1,h2,h3⟩:=row hl ih;refine⟨.clo _ ds', .clo (by rw[fE,hl,h1]) h2,fun val h=> ?_⟩;cases h with
  |clo hf a1 a3=>exact .clo hf (a1.trans h1.symm) fun i c x hc hx=>let⟨d,hd,hr⟩:=h3 i x hx;hr c (a3 i c d hc hd)
  |bclo a1 a3=>exact .bclo (a1.trans h1.symm) fun i c x hc hx=>let⟨d,hd,hr⟩:=h3 i x hx;hr c (a3 i c d hc hd)
 |ptr hf=>exact⟨_, .ptr (box hf),fun val=>hK val _⟩
 |dp hf hv h0 hz hl=>exact⟨_, .dp (box hf) hv h0 hz (by rw[fE];exact hl),fun val=>hK val _⟩
 |gln hf hi=>exact⟨.list [],by simp only[nj,hf];exact .x (xK hf hi) rfl,adI⟩
 | @gl n sz e c es hf hc hi=>exact⟨.list es,by simp only[nj,hf];exact .x hc rfl,fun val h=>by simpa using own hf hi hc val 0 es.length none (by omega) h⟩
 |gsn hf hi hk=>exact⟨.list [],by simp only[nj,hf];exact .x (by simp only[X.ev,X.bm,xK hf hi,hk,Oz,Pz,XK.run];rfl) rfl,fun val h=>hK val _ h⟩
 | @gs n sz e c k es q z hf hc hi hk h0 hz=>exact⟨.list (es.take z.toNat),by simp only[nj,hf];exact .x (by simp only[X.ev,X.bm,hc,hk,Oz,Pz,XK.run];rw[if_pos ⟨h0,hz⟩]) rfl,fun val h=>by simpa using own hf hi hc val 0 z.toNat none (by omega) h⟩
 |gcn hf hi hk=>exact⟨.list [],by simp only[nj,hf];exact .x (by simp only[X.ev,X.bm,xK hf hi,hk,Oz,Pz,XK.run];rfl) rfl,fun val h=>hK val _ h⟩
 | @gc n sz e c k es q z m hf hc hi hk h0 hz=>exact⟨.list (es.take z.toNat),by simp only[nj,hf];exact .x (by simp only[X.ev,X.bm,hc,hk,Oz,Pz,XK.run];rw[if_pos ⟨h0,hz⟩]) rfl,fun val h=>by simpa using own hf hi hc val 0 z.toNat (some m) (by omega) h⟩
 |gtn hf hi hk=>exact⟨.list [],by simp only[nj,hf];exact .x (by simp only[X.ev,X.bm,xK hf hi,hk,Oz,Pz,XK.run];rfl) rfl,fun val h=>hK val _ h⟩
 | @gt n sz e c k es q z hf hc hi hk h0 hz=>exact⟨.list (es.drop z.toNat),by simp only[nj,hf];exact .x (by simp only[X.ev,X.bm,hc,hk,Oz,Pz,XK.run];rw[if_pos ⟨h0,hz⟩]) rfl,fun val h=>by
   have h:=own hf hi hc val z.toNat (es.length-z.toNat) none (by omega) h
   rwa[List.take_of_length_le (by simp)]at h⟩
 |ep=>exact⟨_, .un,fun val=>hK val _⟩
 |sb hf hl=>exact⟨_, .sb (box hf) (by rw[fE];exact hl),fun val=>hK val _⟩
 |rb hf hl=>exact⟨_, .rb (box hf) (by rw[fE];exact hl),fun val=>hK val _⟩
 | @mp n o hf ho=>exact⟨_, .mp (xR Y hf fun _ _ _ h=>by rw[h]at ho;cases ho) (by cases o<;>first|exact ho|cases ho),fun val=>hK val _⟩
 |yl hf=>exact⟨_, .yl (xR Y hf fun _ _ _ h=>by cases h),fun val=>hK val _⟩
 | @gd g b v d hg h1 h2 ih=>
  cases b with
  |true=>
   obtain⟨d',k1,k2⟩:=ih rfl;exact⟨d', .gd hg (fun _=>k1) (fun h=>by cases h),k2⟩
  |false=>exact⟨d, .gd hg (fun h=>by cases h) (fun _=>h2 rfl),fun val=>hK val _⟩
open Classical in
theorem Cg(M:Mt Ω G E ι γ Y J){w:World}{a:Act}(R:dm P B n w a.tmps J): ∃J',Mt Ω G E ι γ Y.oa J'∧dm P B n w a.tmps J':=by
 obtain⟨w0,pr,A,tk,R,U⟩:=R;have s2:=U.chg.size;let Fz:Nat→Nat→List (List D)→Prop:=fun n e es=> ∃sz c,find Y.h n=some (.az e sz c)∧ι n≠ []∧J.m (ι n)=some (.row (γ n) e es)∧aQ sz es=true;let Fg:Tok→Prop:=fun g=> ∃n e sz c,find Y.h n=some (.az e sz c)∧ι n≠ []∧γ n=g;let pr':aX:=fun b o=>pr b o∨ ∃n e es cap,Fz n e es∧tk (ι n)=some (b,cap)∧o<es.length*P.cellsOf e;have K:dW w w pr pr' tk tk:=⟨fun b o h=>⟨rfl, .inl h⟩,fun _ _ h=>h⟩;have hK: ∀val d,ao w pr tk val d→ao w pr' tk val d:=fun val d h=>h.keeps K
 have hS: ∀n e sz c es,find Y.h n=some (.az e sz c)→ι n≠ []→J.m (ι n)=some (.row (γ n) e es)→aQ sz es=true→ ∀val off len lim,off+len≤es.length→ao w pr tk val (.sl (ι n) sz off len lim)→ao w pr' tk val (.list ((es.drop off).take len)):=by
  intro m e sz c es hf hi hm hr val off len lim hol bg
  have hel:(D.sl (ι m) sz off len lim).elems J.m=some ((es.drop off).take len):=by
   simp only[D.elems,hm];rw[if_pos ⟨hol,bQ hr⟩]
  have hlen:((es.drop off).take len).length=len:=by simp;omega
  rcases eP R.mem bg hel with⟨hv,h0⟩|⟨b1,o1,c1,size,us,hv,k1,k2,k3,k4⟩
  ·rw[h0];rcases hv with rfl|⟨a,cap,rfl⟩
   ·exact .nil'
   ·exact .emp
  ·obtain⟨b3,VH,c3,o3,t1,t2,t3⟩:=Je bg;rw[hv]at t2⊢;obtain⟨b2,te,C,m1,m2,m3,m4,m5,m6⟩:=R.mem.obj (ι m) _ hm;rw[m1]at t1;cases t1;injection t2 with t2 t4 t5
   injection t2 with t2
   injection t2 with t2 t6
   have acN: ∀x∈es,x.length=sz:=fun x hx=>by have:=Tz.1 (bQ hr) x hx;simpa using this
   refine .list us k2 k1 (fun j hj=>⟨(k3 j hj).1, .inr ⟨m,e,es,VH,⟨sz,c,hf,hi,hm,hr⟩,by rw[m1,t2], ?_⟩,(k3 j hj).2⟩) (fun i x hx j d hd=> ?_)
   ·rw[hlen]at hj;have hlp:0<len:=by rcases Nat.eq_zero_or_pos len with h|h;rw[h]at hj;simp at hj;exact h
    have qc:(es.drop off).take len≠ []:=fun h=>by rw[h]at hlen;simp at hlen;omega
    obtain⟨x,r,hxr⟩:=List.exists_cons_of_ne_nil qc;have hx1:x∈(es.drop off).take len:=by rw[hxr];simp
    have hx2:x∈es:=List.mem_of_mem_drop (List.mem_of_mem_take hx1);have e1:size=P.cellsOf e:=by rw[←k2 x hx1,m6.1 x hx2]
    have e2:sz=P.cellsOf e:=by rw[←acN x hx2,m6.1 x hx2]
    rcases t3 with t3|⟨t3,_⟩
    ·rw[t6,t3,e2];rw[e1]at hj
     calc off*P.cellsOf e+j<off*P.cellsOf e+len*P.cellsOf e:=by omega
      _=(off+len)*P.cellsOf e:=(Nat.add_mul ..).symm
      _≤es.length*P.cellsOf e:=Nat.mul_le_mul_right _ hol
    ·rw[hlen]at k1;omega
   ·have hxn:d.aO=true:=by
     have hx2:x∈es:=List.mem_of_mem_drop (List.mem_of_mem_take (Lz hx));have h1:=Tz.1 hr x hx2;simp only[Az,Tz]at h1;exact ud (h1.2 d (Lz hd))
    exact bf ((k4 i x hx j d hd).keeps K) hxn
 have Pm: ∀i,∃d',(∀v,find Y.s i=some v→VR G E ι Y.oa.h (nj Y.h v) d')∧ ∀val,ao w pr tk val (J.s i)→ao w pr' tk val d':=fun i=>by
  cases hf:find Y.s i with
  |none=>exact⟨J.s i,(fun v h=>by cases h),fun val=>hK val _⟩
  |some v=>
   obtain⟨d',h1,h2⟩:=HE M hK hS (M.slot i v hf);exact⟨d',fun v' h=>by cases h;exact h1,h2⟩
 have boxes: ∀k,∃ds':List D,∀vs,find Y.h k=some (.box vs)→bA G E ι Y.oa.h (iS Y.h vs) ds'∧ ∀ds,J.m (ι k)=some (.box ds)→ds'.length=ds.length∧ ∀(i:Nat) (d':D),ds'[i]?=some d'→ ∃d,ds[i]?=some d∧ ∀val,ao w pr tk val d→ao w pr' tk val d':=fun k=>by
  by_cases hex: ∃vs,find Y.h k=some (.box vs)
  ·obtain⟨vs,hf⟩:=hex;obtain⟨ds,h0,h1,h2⟩:=M.box k vs hf;obtain⟨ds',h3,h4⟩:=qq h2.1 fun i v d hv hd=>HE M hK hS (h2.2 i v d hv hd)
   have gd: ∀(i:Nat) (d':D),ds'[i]?=some d'→ ∃v d,vs[i]?=some v∧ds[i]?=some d:=fun i d' h=>by
    have:=(Gz.1 h).1;have:=h2.1;exact⟨_,_,Ez (by omega),Ez (by omega)⟩
   refine⟨ds',fun vs' h=> ?_⟩;rw[hf]at h;cases h;refine⟨⟨by rw[fE,h2.1,h3],fun i v d hv hd=> ?_⟩,fun ds2 hd2=> ?_⟩
   ·rw[qb]at hv;obtain⟨v0,hv0,rfl⟩:=Mz.1 hv;obtain⟨_,d0,_,hd0⟩:=gd i d hd;exact(h4 i v0 d0 d hv0 hd0 hd).1
   ·rw[h1]at hd2;cases hd2;refine⟨h3,fun i d' hd=> ?_⟩;obtain⟨v0,d0,hv0,hd0⟩:=gd i d' hd;exact⟨d0,hd0,(h4 i v0 d0 d' hv0 hd0 hd).2⟩
  ·exact⟨[],fun vs h=>absurd ⟨vs,h⟩ hex⟩
 let S:Nat→D:=fun i=>Classical.choose (Pm i);have hSl: ∀i,(∀v,find Y.s i=some v→VR G E ι Y.oa.h (nj Y.h v) (S i))∧ ∀val,ao w pr tk val (J.s i)→ao w pr' tk val (S i):=fun i=>Classical.choose_spec (Pm i);let F:Nat→List D:=fun k=>Classical.choose (boxes k);have hF: ∀k vs,find Y.h k=some (.box vs)→bA G E ι Y.oa.h (iS Y.h vs) (F k)∧ ∀ds,J.m (ι k)=some (.box ds)→(F k).length=ds.length∧ ∀(i:Nat) (d':D),(F k)[i]?=some d'→ ∃d,ds[i]?=some d∧ ∀val,ao w pr tk val d→ao w pr' tk val d':=fun k=>Classical.choose_spec (boxes k)
 let m':Mem:=fun τ=>match J.m τ with
  |some (.row g e es)=>if Fg g then none else some (.row g e es)
  |some (.box ds)=>if h: ∃k vs,find Y.h k=some (.box vs)∧ι k=τ then some (.box (F (Classical.choose h)))else some (.box ds)
  |o=>o
 have XW: ∀{τ g:Tok} {e:Nat} {es:List (List D)},J.m τ=some (.row g e es)→m' τ=if Fg g then none else some (.row g e es):=fun{τ g e es} h=>by simp only[m',h]
 have mBx: ∀{τ:Tok} {ds:List D},J.m τ=some (.box ds)→m' τ=if h: ∃k vs,find Y.h k=some (.box vs)∧ι k=τ then some (.box (F (Classical.choose h)))else some (.box ds):=fun{τ ds} h=>by simp only[m',h]
 have same: ∀{τ:Tok} {o:HO},J.m τ=some o→o.gV=none→(∀ds,o≠ .box ds)→m' τ=some o:=fun{τ o} hm hg hb=>by
  cases o with
  |row=>cases hg
  |box ds=>exact absurd rfl (hb ds)
  |map=>simp only[m',hm]
  |iter=>simp only[m',hm]
  |raw=>simp only[m',hm]
 have NZ: ∀{τ:Tok},J.m τ=none→m' τ=none:=fun{τ} h=>by simp only[m',h]
 have adE: ∀{k vs},find Y.h k=some (.box vs)→m' (ι k)=some (.box (F k)):=fun{k vs} hf=>by
  obtain⟨ds,h0,h1,h2⟩:=M.box k vs hf;have hex: ∃k' vs',find Y.h k'=some (.box vs')∧ι k'=ι k:=⟨k,vs,hf,rfl⟩;rw[mBx h1,dif_pos hex];obtain⟨vs',g1,g2⟩:=Classical.choose_spec hex;rw[M.inj _ _ _ _ g1 hf g2 (by rw[g2];exact h0)]
 have xw: ∀{τ:Tok} {o:HO},m' τ=some o→(∃g e es,J.m τ=some (.row g e es)∧o= .row g e es∧ ¬Fg g)∨(∃ds,J.m τ=some (.box ds)∧(o= .box ds∨ ∃k vs,find Y.h k=some (.box vs)∧ι k=τ∧o= .box (F k)))∨(J.m τ=some o∧o.gV=none∧ ∀ds,o≠ .box ds):=fun{τ o} h=>by
  cases hm:J.m τ with
  |none=>rw[NZ hm]at h;cases h
  |some o1=>
   cases o1 with
   |row g e es=>
    rw[XW hm]at h;split at h<;>cases h;exact .inl ⟨g,e,es,rfl,rfl,by assumption⟩
   |box ds=>
    rw[mBx hm]at h;split at h
    ·rename_i hex;cases h;obtain⟨vs',g1,g2⟩:=Classical.choose_spec hex;exact .inr (.inl ⟨ds,rfl, .inr ⟨_,vs',g1,g2,rfl⟩⟩)
    ·cases h;exact .inr (.inl ⟨ds,rfl, .inl rfl⟩)
   |map es=>
    rw[same hm rfl fun _ h=>by cases h]at h;cases h;exact .inr (.inr ⟨rfl,rfl,fun _ h=>by cases h⟩)
   |iter u k s=>
    rw[same hm rfl fun _ h=>by cases h]at h;cases h;exact .inr (.inr ⟨rfl,rfl,fun _ h=>by cases h⟩)
   |raw q=>
    rw[same hm rfl fun _ h=>by cases h]at h;cases h;exact .inr (.inr ⟨rfl,rfl,fun _ h=>by cases h⟩)
 have src: ∀{τ:Tok} {o:HO},m' τ=some o→ ∃o0,J.m τ=some o0∧o0.gV=o.gV:=fun{τ o} h=>by
  rcases xw h with⟨g,e,es,hm,rfl,_⟩|⟨ds,hm,rfl|⟨k,vs,_,_,rfl⟩⟩|⟨hm,_⟩
  ·exact⟨_,hm,rfl⟩
  ·exact⟨_,hm,rfl⟩
  ·exact⟨_,hm,rfl⟩
  ·exact⟨_,hm,rfl⟩
 have apart: ∀{k e:Nat} {es:List (List D)} {b cap c:Nat} {τ:Tok} {o:HO},Fz k e es→tk (ι k)=some (b,cap)→m' τ=some o→tk τ=some (b,c)→False:=fun{k e es b cap c τ o} hz ht ho hτ=>by
  obtain⟨sz,cc,hf,hi,hm,_⟩:=hz;have hg:Fg (γ k):=⟨k,e,sz,cc,hf,hi,rfl⟩;obtain⟨o0,h0,hgr⟩:=src ho;rcases R.mem.inj τ (ι k) o0 _ b c cap h0 hm hτ ht with h|⟨h1,h2⟩
  ·subst h;rcases xw ho with⟨g,e',es',hm',_,hn⟩|⟨ds,hm',_⟩|⟨hm',hg',_⟩
   ·rw[hm]at hm';cases hm';exact hn hg
   ·rw[hm]at hm';cases hm'
   ·rw[hm]at hm';cases hm';cases hg'
  ·rcases xw ho with⟨g,e',es',hm',rfl,hn⟩|⟨ds,hm',h3⟩|⟨hm',hg',_⟩
   ·rw[hgr]at h2;simp only[HO.gV,Jz]at h2;exact hn (h2▸hg)
   ·rw[hm']at h0;cases h0;cases h1
   ·rw[hm']at h0;cases h0;rw[hg']at h1;cases h1
 refine⟨⟨S,m',J.c⟩, ?_,w,pr',⟨bY tk m',A.z,A.sv⟩,tk,⟨R.size,dU.refl _ _,fun b o h=> ?_,fun b o h hb=> ?_,R.glob.keeps K.cell,⟨fun τ o h=> ?_,fun τ τ' o o' b c c' h h' ht ht'=> ?_⟩,fun τ o b c h ht=> .inr ⟨τ,o,c,h,ht⟩,R.fresh,R.zero,R.one,fun i hi=>(hSl i).2 _ (R.slot i hi),fun i hi=>(hSl i).2 _ (R.sav i hi)⟩,
  ⟨U.chg.trans R.chg fun b hb h=>U.sub b hb h,fun b hb h=> ?_,U.z,U.sv,fun b o h=> .inl (U.sup b o h),fun b o h=> ?_⟩⟩
 ·refine⟨fun i v hv=> ?_,fun k vs hk=> ?_,fun k e sz c hk=> ?_,fun k c hk=> ?_,fun k e sz c hk=> ?_,fun k k' e e' sz sz' c c' h1 h2=> ?_,fun k kk hk=> ?_,fun a b o o' h1 h2=> ?_,fun a b e e' sz sz' c c' h1 h2=> ?_,fun x k r hk=> ?_,fun k e sz c hk=> ?_,M.nv,fun t ht=> ?_⟩
  ·simp only[Sy.oa,dY]at hv;obtain⟨v0,hv0,rfl⟩:=Mz.1 hv;exact(hSl i).1 v0 hv0
  ·obtain⟨o0,h0,h1,h2⟩:=cI Y hk;cases o0<;>simp only[p_,SO.box.injEq,reduceCtorEq]at h1;subst h1;obtain⟨ds,g0,_,_⟩:=M.box k _ h0;exact⟨F k,g0,adE h0,(hF k _ h0).1⟩
  ·obtain⟨o0,h0,h1,h2⟩:=cI Y hk;cases o0<;>simp only[p_,reduceCtorEq]at h1;exact absurd rfl (h2 _ _ _)
  ·obtain⟨o0,h0,h1,h2⟩:=cI Y hk;cases o0<;>simp only[p_,SO.map.injEq,reduceCtorEq]at h1;subst h1;obtain⟨es,g1,g2,g3⟩:=M.mpo k _ h0;exact⟨es,g1,g2,same g3 rfl fun _ h=>by cases h⟩
  ·obtain⟨o0,h0,h1,h2⟩:=cI Y hk;cases o0<;>simp only[p_,SO.mpl.injEq,reduceCtorEq]at h1;obtain⟨rfl,rfl,rfl⟩:=h1;obtain⟨L,g1,g2,g3,g4⟩:=M.own k _ _ _ h0;refine⟨L,g1,g2,same g3 rfl (fun _ h=>by cases h),fun q hq=>(g4.1 q hq).lj ?_ (fun j o hj=>let⟨o0,h0,_⟩:=cI Y hj;(g4.1 q hq).2.2.2.1 j o0 h0) (fun j e sz c hj=> ?_) fun _=>Nat.le_refl _,g4.2⟩
   ·rw[(g4.1 q hq).2.2.1];refine(XW (g4.1 q hq).2.2.1).trans (if_neg ?_);rintro⟨j,e',sz',c',hj,hi,hg⟩;exact(g4.1 q hq).2.2.2.2.1 j _ _ _ hj hi hg
   ·obtain⟨o0,h0,h1,h2⟩:=cI Y hj;cases o0<;>simp only[p_,reduceCtorEq]at h1;exact absurd rfl (h2 _ _ _)
  ·obtain⟨o0,h0,h1,_⟩:=cI Y h1;obtain⟨o3,h3,h4,_⟩:=cI Y h2;cases o0<;>simp only[p_,SO.mpl.injEq,reduceCtorEq]at h1;cases o3<;>simp only[p_,SO.mpl.injEq,reduceCtorEq]at h4;exact M.one _ _ _ _ _ _ _ _ h0 h3
  ·obtain⟨o0,h0,h1,h2⟩:=cI Y hk;cases o0<;>simp only[p_,SO.raw.injEq,reduceCtorEq]at h1;subst h1;obtain⟨g1,g2,g3,g4⟩:=M.rwo k _ h0;exact⟨g1,g2,same g3 rfl (fun _ h=>by cases h),g4⟩
  ·obtain⟨o0,h0,_,_⟩:=cI Y h1;obtain⟨o3,h3,_,_⟩:=cI Y h2;exact M.inj a b _ _ h0 h3
  ·obtain⟨o0,h0,h1,h2⟩:=cI Y h1;cases o0<;>simp only[p_,reduceCtorEq]at h1;exact absurd rfl (h2 _ _ _)
  ·exact NZ (M.wf x k r hk)
  ·obtain⟨o0,h0,h1,h2⟩:=cI Y hk;cases o0<;>simp only[p_,reduceCtorEq]at h1;exact absurd rfl (h2 _ _ _)
  ·exact same (M.con t ht) rfl fun _ h=>by cases h
 ·rcases h with h|⟨k,e,es,cap,⟨sz,c,hf,hi,hm,hr⟩,ht,_⟩
  ·exact R.vt b o h
  ·obtain⟨b1,c1,g1,g2⟩:=(R.mem.obj (ι k) _ hm).place;rw[ht]at g1;cases g1;exact g2
 ·obtain⟨τ,o',c,ho,ht⟩:=hb;rcases h with h|⟨k,e,es,cap,hz,htq,_⟩
  ·obtain⟨o0,h0,_⟩:=src ho;exact R.free h0 ht h
  ·exact apart hz htq ho ht
 ·replace h:m' τ=some o:=h
  rcases xw h with⟨g,e,es,hm,rfl,_⟩|⟨ds,hm,rfl|⟨k,vs,hf,rfl,rfl⟩⟩|⟨hm,_⟩
  ·exact(R.mem.obj τ _ hm).keeps K fun _ _ _=>rfl
  ·exact(R.mem.obj τ _ hm).keeps K fun _ _ _=>rfl
  ·obtain⟨b,cap,C,ty,h1,h2,h3,h4,h5⟩:=R.mem.obj (ι k) _ hm;obtain⟨_,hb⟩:=hF k vs hf;obtain⟨hl,hg⟩:=hb ds hm;exact⟨b,cap,C,ty,h1,h2,h3.trans hl.symm,h4,fun i c x hc hx=>let⟨d,hd,hr⟩:=hg i x hx;hr c (h5 i c d hc hd)⟩
  ·exact(R.mem.obj τ _ hm).keeps K fun _ _ _=>rfl
 ·obtain⟨o0,h0,g0⟩:=src h;obtain⟨o1,h1,g1⟩:=src h';rw[←g0,←g1];exact R.mem.inj τ τ' o0 o1 b c c' h0 h1 ht ht'
 ·obtain⟨τ,o',c,ho,ht⟩:=h;obtain⟨o0,h0,_⟩:=src ho;rcases R.live τ o0 b c h0 ht with h|h
  ·omega
  ·exact U.sub b hb h
 ·rcases h with h|⟨k,e,es,cap,⟨sz,c,hf,hi,hm,hr⟩,ht,_⟩
  ·exact U.inf b o h
  ·rcases R.live (ι k) _ b cap hm ht with h|h
   ·exact .inr (.inl (by omega))
   ·rcases Nat.lt_or_ge b B.w.heap.size with hb|hb
    ·exact .inr (.inr (U.sub b hb h))
    ·exact .inr (.inl hb)
end
end
end Go.Proofs.YtkcfpgaepmllhaaGreatDoor
