/- Part of the proof: symbolic execution of the program, its soundness, and the closing lemmas. No condition. -/
import Derived.Test.YtkcfpgaepmllhaaGreatDoorFac
namespace Go.Proofs.YtkcfpgaepmllhaaGreatDoor
open Go.RowKit
set_option maxRecDepth 100000
set_option linter.all false
section
section
variable {Ω : bO} {G : FP} {E : List D} {ι γ : Nat → Tok} {Y : Sy} {J : St} {h : List (Nat × SO)}
theorem bz.one{v:SV}{ds:List D}(H:bz G E ι h [v] ds): ∃d,ds= [d]∧VR G E ι h v d:=by
 obtain⟨hl,hh⟩:=H
 match ds,hl with
 | [d],_=>exact⟨d,rfl,hh 0 v d rfl rfl⟩
theorem bz.cons{v:SV}{vs:List SV}{ds:List D}(H:bz G E ι h (v::vs) ds): ∃d r,ds=d::r∧VR G E ι h v d∧bz G E ι h vs r:=by
 obtain⟨hl,hh⟩:=H
 match ds,hl with
 |d::r,hl=>exact⟨d,r,rfl,hh 0 v d rfl rfl,by simpa using hl,fun i u e hu he=>hh (i+1) u e (by simpa using hu) (by simpa using he)⟩
theorem bz.nil:bz G E ι h [] []:=⟨rfl,fun i v d h=>by simp at h⟩
theorem bz.mk{v:SV}{vs:List SV}{d:D}{ds:List D}(H:VR G E ι h v d)(K:bz G E ι h vs ds):bz G E ι h (v::vs) (d::ds):=by
 refine⟨by simp[K.1],fun i u e hu he=> ?_⟩;cases i with
 |zero=>simp at hu he;subst hu;subst he;exact H
 |succ i=>exact K.2 i u e (by simpa using hu) (by simpa using he)
theorem bz.two{v u:SV}{ds:List D}(H:bz G E ι h [v,u] ds): ∃d e,ds= [d,e]∧VR G E ι h v d∧VR G E ι h u e:=by
 obtain⟨d,r,rfl,h1,h2⟩:=H.cons;obtain⟨e,rfl,h3⟩:=h2.one
 grind
theorem bz.three{v u t:SV}{ds:List D}(H:bz G E ι h [v,u,t] ds): ∃d e f,ds= [d,e,f]∧VR G E ι h v d∧VR G E ι h u e∧VR G E ι h t f:=by
 obtain⟨d,r,rfl,h1,h2⟩:=H.cons;obtain⟨e,f,rfl,h3,h4⟩:=h2.two
 grind
theorem bz.append{vs us:List SV}{ds es:List D}(H:bz G E ι h vs ds)(K:bz G E ι h us es):bz G E ι h (vs++us) (ds++es):=by
 refine⟨by simp[H.1,K.1],fun i v d hv hd=> ?_⟩;by_cases hi:i<vs.length
 ·rw[Yz hi]at hv;rw[Yz (by rw[←H.1];exact hi)]at hd;exact H.2 i v d hv hd
 ·rw[Xz (by omega)]at hv;rw[Xz (by rw[←H.1];omega),←H.1]at hd;exact K.2 _ v d hv hd
theorem bz.drop{vs:List SV}{ds:List D}(H:bz G E ι h vs ds)(k:Nat):bz G E ι h (vs.drop k) (ds.drop k):=
 ⟨by simp[H.1],fun i v d hv hd=>by rw[List.getElem?_drop]at hv hd;exact H.2 _ v d hv hd⟩
theorem bz.take{vs:List SV}{ds:List D}(H:bz G E ι h vs ds)(k:Nat):bz G E ι h (vs.take k) (ds.take k):=
 ⟨by simp[H.1],fun i v d hv hd=>by
  rw[List.getElem?_take]at hv hd;split at hv
  ·rename_i hi;rw[if_pos hi]at hd;exact H.2 i v d hv hd
  ·cases hv⟩
theorem aP{k:XK}{xs:List X}{d:D}(he:X.ev G E (.mk k xs)=some d): ∃ds,X.ba G E xs=some ds∧k.run G ds=some d:=by
 simpa only[X.ev,Bz]using he
theorem je{x:X}{ds:List D}(he:X.ba G E [x]=some ds): ∃d,ds= [d]∧X.ev G E x=some d:=by
 simp only[X.ba,Bz]at he
 grind
theorem mw{x y:X}{ds:List D}(he:X.ba G E [x,y]=some ds): ∃d e,ds= [d,e]∧X.ev G E x=some d∧X.ev G E y=some e:=by
 simp only[X.ba,Bz,Mz]at he
 grind
theorem MQ{k:PK}(hp:tc k=true)(Γ Γ':Env)(m:Mem)(ds:List D):k.run Γ m ds=k.run Γ' m ds:=by
 cases k<;>first|rfl|(simp[tc]at hp)
theorem jR{k:PK}{ds:List D}{d:D}(he:(XK.pk k).run G ds=some d)(hp:tc k=true:=by rfl):k.run (br G) dO ds=some d∧d.aF=true:=by
 simp only[XK.run,Bz]at he;obtain⟨d',h1,h2⟩:=he;split at h2<;>cases h2;exact⟨by rw[MQ hp _ (br Yq)];exact h1,by assumption⟩
theorem Mo(m:Mem):l_ dO m:=fun _ _ h=>by cases h
theorem aB{k:PK}{vs:List SV}{ds:List D}{v:SV}{O:List X}(hv:bz G E ι Y.h vs ds)(hs:bX k vs=some (v,O))(hO: ∀e∈O,∃d,X.ev G E e=some d):
  ∃d,k.run (br G) J.m ds=some d∧VR G E ι Y.h v d:=by
 unfold bX at hs;split at hs
 ·rename_i hpp;obtain⟨xs,hx,he⟩:=Mz.1 hs;cases he
  have hex: ∃d,X.ev G E (rG k xs)=some d:=by
   cases hq:isQ (rG k xs)with
   |true=>
    generalize rG k xs=y at hq;cases y<;>simp only[isQ]at hq<;>first|exact⟨_,rfl⟩|cases hq
   |false=>exact hO _ (by rw[hq];exact List.mem_singleton.2 rfl)
  obtain⟨d,hd⟩:=hex;obtain⟨ds',h1,h2⟩:=aP (Ii.symm.trans hd);obtain rfl:=gu hv hx h1;obtain⟨h3,h4⟩:=jR h2 hpp;exact⟨d,pJ (Mo _) h3, .x hd h4⟩
 ·cases hs
theorem nZ(M:Mt Ω G E ι γ Y J){f:Nat}{vs:List SV}{ds:List D}{v:SV}{O:List X}(hv:bz G E ι Y.h vs ds)(hs:zB Y.h f vs=some (v,O))(hO: ∀e∈O,∃d,X.ev G E e=some d):
  ∃d,me (br G) J.m f ds=some d∧VR G E ι Y.h v d:=by
 obtain⟨es,hx,he⟩:=Mz.1 hs;cases he;obtain⟨d,hd⟩:=hO _ (List.mem_singleton.2 rfl);obtain⟨as,h1,h2⟩:=aP hd;obtain⟨h3,h4⟩:=sh M hv hx h1;obtain⟨h5,h6⟩:=rl h3 (fun hf=>h4 (by simpa using hf)) h2;exact⟨d,h5, .x hd h6⟩
theorem cj{n:Nat}{c:X}(hc:cont h n=some c): ∃e sz,find h n=some (.au e sz c):=by
 unfold cont at hc
 grind
theorem VR.ca{e:X}{d:D}(H:VR G E ι h (.x e) d):X.ev G E e=some d∧d.aF=true:=by cases H;exact⟨by assumption,by assumption⟩
theorem VR.EW{v:SV}{d:D}(H:VR G E ι h v d)(hu:v.Tw=false):d.EW=true:=by
 cases H<;>first|rfl|(simp[SV.Tw]at hu;done)|skip
 rename_i e h1 h2;cases d<;>first|rfl|(simp[D.aF,D.aM,D.eT]at h2)
theorem ym{c k:X}{es:List (List D)}{d:D}(hc:X.ev G E c=some (.list es))(h:X.ev G E (.mk .drp [c,k])=some d):
  ∃q z,X.ev G E k=some (.v (.int q z))∧0≤z∧z≤es.length∧d= .list (es.drop z.toNat):=by
 obtain⟨ds,a1,a2⟩:=aP h;obtain⟨dc,dk,rfl,c3,c4⟩:=mw a1;simp only[XK.run]at a2
 grind
theorem eY{c k:X}{es:List (List D)}{d:D}(hc:X.ev G E c=some (.list es))(h:X.ev G E (.mk .take [c,k])=some d):
  ∃q z,X.ev G E k=some (.v (.int q z))∧0≤z∧z≤es.length∧d= .list (es.take z.toNat):=by
 obtain⟨ds,a1,a2⟩:=aP h;obtain⟨dc,dk,rfl,c3,c4⟩:=mw a1;simp only[XK.run]at a2
 grind
theorem B_(M:Mt Ω G E ι γ Y J){vs:List SV}{ds:List D}{v:SV}{O:List X}(hv:bz G E ι Y.h vs ds)(hs:J7 Y.h vs=some (v,O))(hO: ∀e∈O,∃d,X.ev G E e=some d):
  ∃d,(PK.mv).run (br G) J.m ds=some d∧VR G E ι Y.h v d:=by
 unfold J7 at hs;split at hs
 ·cases hs;obtain⟨d,rfl,H⟩:=hv.one;exact⟨d,rfl,H⟩
 ·exact aB hv hs hO
theorem zF(M:Mt Ω G E ι γ Y J){q:Nat}{vs:List SV}{ds:List D}{v:SV}{O:List X}(hv:bz G E ι Y.h vs ds)(hs:DU Y.h q vs=some (v,O))(hO: ∀e∈O,∃d,X.ev G E e=some d):
  ∃d,(PK.ext q).run (br G) J.m ds=some d∧VR G E ι Y.h v d:=by
 unfold DU at hs;split at hs
 ·rename_i vs;obtain⟨d,rfl,H⟩:=hv.one;obtain⟨v',hv',he⟩:=Mz.1 hs;cases he;cases H with
  |tup hl hh=>
   rename_i xs;have hlt:=(Gz.1 hv').1;have hx:=Ez (show q<xs.length by omega);exact⟨_,hx,hh q _ _ hv' hx⟩
 ·exact aB hv hs hO
theorem zC(M:Mt Ω G E ι γ Y J){vs:List SV}{ds:List D}{v:SV}{O:List X}(hv:bz G E ι Y.h vs ds)(hs:DS Y.h vs=some (v,O))(hO: ∀e∈O,∃d,X.ev G E e=some d):
  ∃d,(PK.fM).run (br G) J.m ds=some d∧VR G E ι Y.h v d:=by
 unfold DS at hs;split at hs
 ·cases hs;obtain⟨d,rfl,H⟩:=hv.one;cases H;exact⟨_,rfl, .ptr (by assumption)⟩
 ·cases hs;obtain⟨d,rfl,H⟩:=hv.one;have H':=H;cases H;exact⟨_,rfl,H'⟩
 ·cases hs;obtain⟨d,rfl,H⟩:=hv.one;have H':=H;cases H;exact⟨_,rfl,H'⟩
 ·cases hs;obtain⟨d,rfl,H⟩:=hv.one;have H':=H;cases H;exact⟨_,rfl,H'⟩
 ·exact aB hv hs hO
theorem zG(M:Mt Ω G E ι γ Y J){q:Nat}{vs:List SV}{ds:List D}{v:SV}{O:List X}(hv:bz G E ι Y.h vs ds)(hs:DV Y.h q vs=some (v,O))(hO: ∀e∈O,∃d,X.ev G E e=some d):
  ∃d,(PK.fld q).run (br G) J.m ds=some d∧VR G E ι Y.h v d:=by
 unfold DV at hs;split at hs
 ·cases hs;obtain⟨d,rfl,H⟩:=hv.one;cases H;exact⟨_,rfl, .ptr (by assumption)⟩
 ·cases hs;obtain⟨d,rfl,H⟩:=hv.one;rename_i n o c s i j;cases H with
  |dp h1 h2 h3 h4 h5=>
   have:=VR.dp (ι:=ι) (j:=j+q) h1 h2 h3 h4 h5;rw[←Nat.add_assoc]at this;exact⟨_,rfl,this⟩
 ·cases hs;obtain⟨d,rfl,H⟩:=hv.one;cases H with
  |ep h1 h2 h3 h4 h5 h6=>exact⟨_,rfl, .ep h1 h2 h3 h4 h5 h6⟩
 ·exact aB hv hs hO
theorem wA(M:Mt Ω G E ι γ Y J){m:Nat}{g:Bool}{vs:List SV}{ds:List D}{v:SV}{O:List X}(hv:bz G E ι Y.h vs ds)(hs:zK Y.h m g vs=some (v,O))(hO: ∀e∈O,∃d,X.ev G E e=some d):
  ∃d,(PK.load m g).run (br G) J.m ds=some d∧VR G E ι Y.h v d:=by
 unfold zK at hs;split at hs
 ·rename_i n o;obtain⟨d,rfl,H⟩:=hv.one;cases H with
  |ptr hf=>
   simp only[hf]at hs;split at hs
   ·rename_i ho;obtain⟨xs,_,h1,h2⟩:=M.box _ _ hf;have hl:=h2.1;simp only[PK.run,iU,h1];rw[if_pos (by omega)];cases g
    ·simp only[Bool.false_eq_true,if_false]at hs⊢;obtain⟨u,hu,he⟩:=Mz.1 hs;cases he;have hlt:=(Gz.1 hu).1;exact⟨_,Ez (show o<xs.length by omega),h2.2 o _ _ hu (Ez _)⟩
    ·simp only[if_true]at hs⊢;cases hs;exact⟨_,rfl, .agg ((h2.drop o).take m).1 ((h2.drop o).take m).2⟩
   ·cases hs
 ·rename_i n o;obtain⟨d,rfl,H⟩:=hv.one;cases H with
  |rb hf hl=>
   simp only[hf]at hs;obtain⟨v',hv',he⟩:=Mz.1 hs;cases he;obtain⟨xs,_,h1,h2⟩:=M.box _ _ hf;have hlt:o<xs.length:=by rw[←h2.1];exact hl
   refine⟨xs[o], ?_,h2.2 o _ _ hv' (Ez hlt)⟩;simp only[PK.run,iU,h1]
   grind
 ·rename_i n o c s i j;obtain⟨d,rfl,H⟩:=hv.one;cases H with
  |dp hf hiv h0 hz hl=>
   rename_i z;simp only[hf]at hs;split at hs
   ·rename_i hjm;obtain⟨xs,hx,he⟩:=Mz.1 hs;cases he;obtain⟨ds,_,h1,h2⟩:=M.box _ _ hf;obtain⟨d',hd'⟩:=hO _ (List.mem_singleton.2 rfl);obtain⟨ds1,a1,a2⟩:=aP hd';obtain⟨da,di,rfl,a3,a4⟩:=mw a1;rw[hiv]at a4;cases a4;obtain⟨xs',b1,b2⟩:=aP a3;simp only[XK.run]at b2;split at b2<;>cases b2;obtain rfl:=gu ((h2.drop o).take (c*s)) hx b1
    have hzs:z.toNat*s+s≤c*s:=by
     have:(z.toNat+1)*s≤c*s:=Nat.mul_le_mul_right _ (by omega);rw[Nat.add_mul]at this;omega
    have hdl:=h2.1;simp only[XK.run]at a2;split at a2
    ·have Iz:(((ds.drop o).take (c*s)).drop (z.toNat*s+j)).take m=(ds.drop (o+z.toNat*s+j)).take m:=by
      rw[List.drop_take,List.drop_drop,List.take_take];congr 1
      ·omega
      ·congr 1;omega
     cases g
     ·simp only[Bool.false_eq_true,if_false,Bz]at a2;obtain⟨d0,c1,c2⟩:=a2;split at c2<;>cases c2;rename_i hno;have ac3:=(Gz.1 c1).1;simp only[List.length_take,List.length_drop]at ac3;rw[List.getElem?_take_of_lt (by omega),List.getElem?_drop]at c1;refine⟨d', ?_, .x hd' hno⟩;simp only[PK.run,iU,h1];rw[if_pos (by omega)];simp only[Bool.false_eq_true,if_false];rw[show o+z.toNat*s+j=o+(z.toNat*s+j) by omega];exact c1
     ·simp only[if_true]at a2;rw[Iz]at a2;split at a2<;>cases a2;rename_i hno;refine⟨_, ?_, .x hd' hno⟩;simp only[PK.run,iU,h1];rw[if_pos (by omega)];rfl
    ·cases a2
   ·cases hs
 ·rename_i n s i j;obtain⟨d,rfl,H⟩:=hv.one;split at hs
  ·cases hs
  rename_i hjm;obtain⟨c,hc,he⟩:=Mz.1 hs;cases he;obtain⟨e0,sz0,hf⟩:=cj hc;obtain⟨d',hd'⟩:=hO _ (List.mem_singleton.2 rfl);cases H with
  |ep g1 g2 g3 g4 g5 g6=>
   rename_i es;rw[hf]at g1;cases g1;obtain⟨es',k1,k2,k3⟩:=M.au _ _ _ _ hf;rw[g2]at k1;cases k1;rcases k3 with⟨k3,_⟩|⟨_,k3⟩
   ·exact absurd k3 g3
   ·obtain⟨ds1,a1,a2⟩:=aP hd';obtain⟨p1,rfl,a3⟩:=je a1;obtain⟨a4,a5⟩:=jR a2;obtain⟨ds2,b1,b2⟩:=aP a3;obtain⟨p2,rfl,b3⟩:=je b1;obtain⟨b4,_⟩:=jR b2;obtain⟨ds3,c1,c2⟩:=aP b3;obtain⟨q1,q2,rfl,c3,c4⟩:=mw c1;obtain⟨c5,_⟩:=jR c2;rw[g2]at c3;cases c3;rw[g4]at c4;cases c4;simp only[PK.run,sA]at c5;rw[if_neg (by omega),Bz]at c5;obtain⟨cc,c6,c7⟩:=c5;by_cases hcl:cc.length=s
    ·rw[if_pos hcl]at c7;cases c7;simp only[PK.run,Ie,Jz]at b4;subst b4;refine⟨d', ?_, .x hd' a5⟩;simp only[PK.run,iU,k3,c6,Oz];simp only[PK.run,iU,List.length_drop]at a4;have C5:(cc.drop j)[0]?=cc[j]?:=by rw[List.getElem?_drop];rfl
     rw[C5,if_pos (by omega)]at a4;rw[if_pos ⟨hcl,by omega⟩];exact a4
    ·rw[if_neg hcl]at c7;cases c7
 ·exact aB hv hs hO
theorem zH(M:Mt Ω G E ι γ Y J){e s:Nat}{vs:List SV}{ds:List D}{v:SV}{O:List X}(hv:bz G E ι Y.h vs ds)(hs:DW Y.h e s vs=some (v,O))(hO: ∀e∈O,∃d,X.ev G E e=some d):
  ∃d,(PK.idx e s).run (br G) J.m ds=some d∧VR G E ι Y.h v d:=by
 unfold DW at hs;split at hs
 ·rename_i n s' i;obtain⟨d,z,rfl,H,K⟩:=hv.two;split at hs
  ·rename_i hss;subst hss;obtain⟨c,hc,he⟩:=Mz.1 hs;cases he;obtain⟨e0,sz0,hf⟩:=cj hc;obtain⟨d',hd'⟩:=hO _ (List.mem_singleton.2 rfl);obtain⟨ds1,a1,a2⟩:=aP hd';obtain⟨q1,q2,rfl,c3,c4⟩:=mw a1;obtain⟨c5,_⟩:=jR a2;obtain⟨k1,_⟩:=K.ca;rw[k1]at c4;cases c4;obtain⟨es,j1,j2,j3⟩:=M.au _ _ _ _ hf;rw[j1]at c3;cases c3;simp only[PK.run,sA]at c5;split at c5
   ·rename_i es0 kd zz heq;simp only[List.cons.injEq,D.list.injEq,and_true]at heq;obtain⟨rfl,rfl⟩:=heq;split at c5
    ·cases c5
    ·rename_i hz0;rw[Bz]at c5;obtain⟨cc,c6,_⟩:=c5;have hlt:=(Gz.1 c6).1;rcases j3 with⟨_,rfl⟩|⟨j4,j5⟩
     ·simp at hlt
     ·cases H with
      |gln g1 g2=>exact absurd g2 j4
      |gl g1 g2 g3=>
       rw[hf]at g1;cases g1;rw[j1]at g2;cases g2;refine⟨.rptr (ι n) s zz.toNat 0, ?_, .ep hf j1 j4 k1 (by omega) hlt⟩;simp only[PK.run,sA];rw[if_neg hz0,if_pos ⟨trivial,hlt⟩,Nat.zero_add]
   ·rename_i heq;simp at heq
   ·cases c5
  ·cases hs
 ·rename_i n s' k i;obtain⟨d,z,rfl,H,K⟩:=hv.two;split at hs
  ·rename_i hss;subst hss;obtain⟨c,hc,he⟩:=Mz.1 hs;cases he;obtain⟨e0,sz0,hf⟩:=cj hc;obtain⟨d',hd'⟩:=hO _ (List.mem_singleton.2 rfl);obtain⟨ds1,a1,a2⟩:=aP hd';obtain⟨q1,q2,rfl,c3,c4⟩:=mw a1;obtain⟨c5,_⟩:=jR a2;obtain⟨k1,_⟩:=K.ca;rw[k1]at c4;cases c4;obtain⟨es,j1,j2,j3⟩:=M.au _ _ _ _ hf;obtain⟨kq,kk,g1,g2,g3,rfl⟩:=eY j1 c3;simp only[PK.run,sA]at c5;split at c5
   ·rename_i es0 kd zz heq;simp only[List.cons.injEq,D.list.injEq,and_true]at heq;obtain⟨rfl,rfl⟩:=heq;split at c5
    ·cases c5
    ·rename_i hz0;rw[Bz]at c5;obtain⟨cc,c6,_⟩:=c5;have hlt:=(Gz.1 c6).1;simp only[List.length_take]at hlt;rcases j3 with⟨_,rfl⟩|⟨j4,j5⟩
     ·simp at hlt
     ·cases H with
      |gsn _ g4=>exact absurd g4 j4
      |gs g4 g5 g6 g7 g8 g9=>
       rw[g1]at g7;cases g7;rw[hf]at g4;cases g4;refine⟨.rptr (ι n) s zz.toNat 0, ?_, .ep hf j1 j4 k1 (by omega) (by omega)⟩;simp only[PK.run,sA];rw[if_neg hz0,if_pos ⟨trivial,by omega⟩,Nat.zero_add]
   ·rename_i heq;simp at heq
   ·cases c5
  ·cases hs
 ·rename_i n s' k i;obtain⟨d,z,rfl,H,K⟩:=hv.two;split at hs
  ·rename_i hss;subst hss;obtain⟨c,hc,he⟩:=Mz.1 hs;cases he;obtain⟨e0,sz0,hf⟩:=cj hc;obtain⟨d',hd'⟩:=hO _ (List.mem_singleton.2 rfl);obtain⟨ds1,a1,a2⟩:=aP hd';obtain⟨q1,q2,rfl,c3,c4⟩:=mw a1;obtain⟨c5,_⟩:=jR a2;obtain⟨k1,_⟩:=K.ca;rw[k1]at c4;cases c4;obtain⟨es,j1,j2,j3⟩:=M.au _ _ _ _ hf;obtain⟨kq,kk,g1,g2,g3,rfl⟩:=ym j1 c3;simp only[PK.run,sA]at c5;split at c5
   ·rename_i es0 kd zz heq;simp only[List.cons.injEq,D.list.injEq,and_true]at heq;obtain⟨rfl,rfl⟩:=heq;split at c5
    ·cases c5
    ·rename_i hz0;rw[Bz]at c5;obtain⟨cc,c6,_⟩:=c5;have hlt:=(Gz.1 c6).1;simp only[List.length_drop]at hlt;rcases j3 with⟨_,rfl⟩|⟨j4,j5⟩
     ·simp at hlt
     ·cases H with
      |gtn _ g4=>exact absurd g4 j4
      |gt g4 g5 g6 g7 g8 g9=>
       rw[g1]at g7;cases g7;rw[hf]at g4;cases g4;rw[j1]at g5;cases g5;have adf:0≤zz:=by omega
       have aci:(kk+zz).toNat=kk.toNat+zz.toNat:=by omega
       refine⟨.rptr (ι n) s (kk+zz).toNat 0, ?_, .ep hf j1 j4 (by simp only[X.ev,X.ba,g1,k1,Oz,Pz,XK.run];exact if_pos ⟨g2,adf⟩) (by omega) (by omega)⟩;simp only[PK.run,sA];rw[if_neg hz0,if_pos ⟨trivial,by omega⟩,aci]
   ·rename_i heq;simp at heq
   ·cases c5
  ·cases hs
 ·rename_i n o len kd z;obtain⟨d,e',rfl,H,K⟩:=hv.two;split at hs
  ·rename_i hz;cases hs;cases H with
   |sb hf hl=>
    obtain⟨k1,_⟩:=K.ca;cases k1;refine⟨.rptr (ι n) 1 (o+z.toNat) 0, ?_, .rb hf (by omega)⟩;simp only[PK.run,sA];rw[if_neg (by omega),if_pos ⟨trivial,by omega⟩]
  ·cases hs
 ·exact aB hv hs hO
theorem wx(M:Mt Ω G E ι γ Y J){cnt s:Nat}{vs:List SV}{ds:List D}{v:SV}{O:List X}(hv:bz G E ι Y.h vs ds)(hs:zt Y.h cnt s vs=some (v,O))(hO: ∀e∈O,∃d,X.ev G E e=some d):
  ∃d,(PK.aidx cnt s).run (br G) J.m ds=some d∧VR G E ι Y.h v d:=by
 unfold zt at hs;split at hs
 ·rename_i n o kd z;obtain⟨d,e,rfl,H,K⟩:=hv.two;split at hs
  ·rename_i hz;cases hs;cases H with
   |ptr hf=>
    obtain⟨k1,_⟩:=K.ca;cases k1;refine⟨.ptr (ι n) (o+z.toNat*s), ?_, .ptr hf⟩;simp only[PK.run,wM]
    grind
  ·cases hs
 ·rename_i n o i hne;obtain⟨d,e,rfl,H,K⟩:=hv.two;split at hs
  ·rename_i us hf;split at hs
   ·rename_i hl;cases hs;obtain⟨d',hd'⟩:=hO _ (List.mem_singleton.2 rfl);obtain⟨ds1,a1,a2⟩:=aP hd';obtain⟨q1,rfl,c3⟩:=je a1;obtain⟨k1,_⟩:=K.ca;rw[k1]at c3;cases c3;simp only[XK.run]at a2;split at a2<;>try (cases a2;done)
    rename_i kd z heq;simp only[List.cons.injEq,and_true]at heq;rw[heq]at k1⊢;split at a2
    ·rename_i hz;cases H with
     |ptr _=>
      have:=VR.dp (ι:=ι) (j:=0) hf k1 hz.1 hz.2 hl;rw[Nat.add_zero]at this;refine⟨.ptr (ι n) (o+z.toNat*s), ?_,this⟩;simp only[PK.run,wM];rw[if_pos hz]
    ·cases a2
   ·cases hs
  ·cases hs
 ·rename_i n sz i j kd z;obtain⟨d,e,rfl,H,K⟩:=hv.two;split at hs
  ·rename_i hz;cases hs;cases H with
   |ep h1 h2 h3 h4 h5 h6=>
    obtain⟨k1,_⟩:=K.ca;cases k1;refine⟨.rptr (ι n) sz _ (j+z.toNat*s), ?_, .ep h1 h2 h3 h4 h5 h6⟩;simp only[PK.run,wM];rw[if_pos hz]
  ·cases hs
 ·exact aB hv hs hO
theorem wy(M:Mt Ω G E ι γ Y J){vs:List SV}{ds:List D}{v:SV}{O:List X}(hv:bz G E ι Y.h vs ds)(hs:zJ Y.h vs=some (v,O))(hO: ∀e∈O,∃d,X.ev G E e=some d):
  ∃d,(PK.llen).run (br G) J.m ds=some d∧VR G E ι Y.h v d:=by
 unfold zJ at hs;split at hs
 ·rename_i n sz;obtain⟨d,rfl,H⟩:=hv.one;obtain⟨c,hc,he⟩:=Mz.1 hs;cases he;obtain⟨e0,sz0,hf⟩:=cj hc;obtain⟨d',hd'⟩:=hO _ (List.mem_singleton.2 rfl);obtain⟨ds1,a1,a2⟩:=aP hd';obtain⟨p1,rfl,a3⟩:=je a1;obtain⟨a4,a5⟩:=jR a2;obtain⟨es,j1,j2,j3⟩:=M.au _ _ _ _ hf;rw[j1]at a3;cases a3;simp only[PK.run,yL,D.uu,Oz,Jz]at a4;subst a4;refine⟨_, ?_, .x hd' a5⟩;cases H with
  |gln g1 g2=>
   rcases j3 with⟨_,rfl⟩|⟨j4,_⟩
   ·rfl
   ·grind
  |gl g1 g2 g3=>
   rw[hf]at g1;cases g1;rw[j1]at g2;cases g2;rfl
 ·rename_i n sz k;obtain⟨d,rfl,H⟩:=hv.one;obtain⟨c,hc,he⟩:=Mz.1 hs;cases he;obtain⟨e0,sz0,hf⟩:=cj hc;obtain⟨d',hd'⟩:=hO _ (List.mem_singleton.2 rfl);obtain⟨ds1,a1,a2⟩:=aP hd';obtain⟨p1,rfl,a3⟩:=je a1;obtain⟨a4,a5⟩:=jR a2;obtain⟨es,j1,j2,j3⟩:=M.au _ _ _ _ hf;obtain⟨kq,kk,g1,g2,g3,rfl⟩:=eY j1 a3;simp only[PK.run,yL,D.uu,Oz,Jz,List.length_take]at a4;refine⟨_, ?_, .x hd' a5⟩;cases H with
  |gsn g4 g5 g6=>
   rcases j3 with⟨_,rfl⟩|⟨j4,_⟩
   ·rw[←a4];simp[PK.run,yL,D.uu]
   ·grind
  |gs g4 g5 g6 g7 g8 g9=>
   rw[g1]at g7;cases g7;rw[←a4];simp only[PK.run,yL,D.uu,Oz]
   grind
 ·rename_i n sz k;obtain⟨d,rfl,H⟩:=hv.one;obtain⟨c,hc,he⟩:=Mz.1 hs;cases he;obtain⟨e0,sz0,hf⟩:=cj hc;obtain⟨d',hd'⟩:=hO _ (List.mem_singleton.2 rfl);obtain⟨ds1,a1,a2⟩:=aP hd';obtain⟨p1,rfl,a3⟩:=je a1;obtain⟨a4,a5⟩:=jR a2;obtain⟨es,j1,j2,j3⟩:=M.au _ _ _ _ hf;obtain⟨kq,kk,g1,g2,g3,rfl⟩:=ym j1 a3;simp only[PK.run,yL,D.uu,Oz,Jz,List.length_drop]at a4;refine⟨_, ?_, .x hd' a5⟩;cases H with
  |gtn g4 g5 g6=>
   rcases j3 with⟨_,rfl⟩|⟨j4,_⟩
   ·rw[←a4];simp[PK.run,yL,D.uu]
   ·grind
  |gt g4 g5 g6 g7 g8 g9=>
   rw[g1]at g7;cases g7;rw[hf]at g4;cases g4;rw[j1]at g5;cases g5;rw[←a4];simp only[PK.run,yL,D.uu,Oz]
 ·cases hs;obtain⟨d,rfl,H⟩:=hv.one;cases H;exact⟨_,rfl, .x rfl rfl⟩
 ·exact aB hv hs hO
theorem zN(M:Mt Ω G E ι γ Y J){s:Nat}{lo hi mx:Bool}{vs:List SV}{ds:List D}{v:SV}{O:List X}(hv:bz G E ι Y.h vs ds)(hs:DZ Y.h s lo hi mx vs=some (v,O))(hO: ∀e∈O,∃d,X.ev G E e=some d):
  ∃d,(PK.slc s lo hi mx).run (br G) J.m ds=some d∧VR G E ι Y.h v d:=by
 unfold DZ at hs;split at hs
 ·rename_i n s' k;obtain⟨d,z,rfl,H,K⟩:=hv.two;split at hs
  ·rename_i hss;subst hss;obtain⟨c,hc,he⟩:=Mz.1 hs;cases he;obtain⟨e0,sz0,hf⟩:=cj hc;obtain⟨d',hd'⟩:=hO _ (List.mem_singleton.2 rfl);obtain⟨es,j1,j2,j3⟩:=M.au _ _ _ _ hf;obtain⟨kq,kk,g1,g2,g3,rfl⟩:=eY j1 hd';obtain⟨k1,_⟩:=K.ca;rw[k1]at g1;cases g1;cases H with
   |gln g4 g5=>
    rcases j3 with⟨_,rfl⟩|⟨j4,_⟩
    ·obtain rfl:kk=0:=by simp at g3;omega
     rw[hf]at g4;cases g4;exact⟨.list [],by simp[PK.run,oN,e_,b7,tQ], .gsn hf g5 k1⟩
    ·grind
   |gl g4 g5 g6=>
    rw[hf]at g4;cases g4;rw[j1]at g5;cases g5;refine⟨.sl (ι n) s 0 kk.toNat none, ?_, .gs hf j1 g6 k1 g2 g3⟩;simp only[PK.run,oN,e_,Pz,b7,Oz]
    grind
  ·cases hs
 ·rename_i n s' k0 k;obtain⟨d,z,rfl,H,K⟩:=hv.two;split at hs
  ·rename_i hss;subst hss;obtain⟨c,hc,he⟩:=Mz.1 hs;cases he;obtain⟨e0,sz0,hf⟩:=cj hc;obtain⟨d',hd'⟩:=hO _ (List.mem_singleton.2 rfl);obtain⟨es,j1,j2,j3⟩:=M.au _ _ _ _ hf;obtain⟨kq,kk,g1,g2,g3,rfl⟩:=eY j1 hd';obtain⟨k1,_⟩:=K.ca;rw[k1]at g1;cases g1;cases H with
   |gsn g4 g5 _=>
    rcases j3 with⟨_,rfl⟩|⟨j4,_⟩
    ·obtain rfl:kk=0:=by simp at g3;omega
     rw[hf]at g4;cases g4;exact⟨.list [],by simp[PK.run,oN,e_,b7,tQ], .gsn hf g5 k1⟩
    ·exact absurd g5 j4
   |gs g4 g5 g6 g7 g8 g9=>
    rw[hf]at g4;cases g4;rw[j1]at g5;cases g5;rcases j3 with⟨j4,_⟩|⟨j4,j5⟩
    ·exact absurd j4 g6
    refine⟨.sl (ι n) s 0 kk.toNat none, ?_, .gs hf j1 g6 k1 g2 g3⟩;simp only[PK.run,oN,e_,Pz,b7,Oz];rw[if_pos ⟨by omega,g2, .inr (by simp only[Fu,j5];simpa using g3),trivial⟩];simp
  ·cases hs
 ·rename_i n s' k mm;obtain⟨d,z,z2,rfl,H,K,K2⟩:=hv.three;split at hs
  ·rename_i hss;subst hss;obtain⟨c,hc,he⟩:=Mz.1 hs;cases he;obtain⟨e0,sz0,hf⟩:=cj hc;obtain⟨d1,hd1⟩:=hO (.mk .take [.mk .take [c,mm],k]) (by simp);obtain⟨d2,hd2⟩:=hO (.mk .take [c,mm]) (by simp);obtain⟨d3,hd3⟩:=hO (.mk .take [c,k]) (by simp);obtain⟨es,j1,j2,j3⟩:=M.au _ _ _ _ hf;obtain⟨mq,mk',m1,m2,m3,rfl⟩:=eY j1 hd2;obtain⟨kq,kk,g1,g2,g3,rfl⟩:=eY j1 hd3;obtain⟨kq',kk',g1',g2',g3',rfl⟩:=eY hd2 hd1;obtain⟨k1,_⟩:=K.ca;obtain⟨k2,_⟩:=K2.ca;rw[k1]at g1;cases g1;rw[k1]at g1';cases g1';rw[k2]at m1;cases m1;rw[List.length_take]at g3';have hkm:kk≤mk':=by omega
   cases H with
   |gln g4 g5=>
    rcases j3 with⟨_,rfl⟩|⟨j4,_⟩
    ·obtain rfl:kk=0:=by simp at g3;omega
     obtain rfl:mk'=0:=by simp at m3;omega
     rw[hf]at g4;cases g4;exact⟨.list [],by simp[PK.run,oN,e_,b7,tQ], .gcn hf g5 k1⟩
    ·exact absurd g5 j4
   |gl g4 g5 g6=>
    rw[hf]at g4;cases g4;rw[j1]at g5;cases g5;refine⟨.sl (ι n) s 0 kk.toNat (some mk'.toNat), ?_, .gc hf j1 g6 k1 g2 g3⟩;simp only[PK.run,oN,e_,Pz,b7,Oz];rw[if_pos ⟨by omega,g2, .inl g3,trivial⟩];rw[if_pos ⟨hkm,m3⟩];simp
  ·cases hs
 ·rename_i n s' k0 k mm;obtain⟨d,z,z2,rfl,H,K,K2⟩:=hv.three;split at hs
  ·rename_i hss;subst hss;obtain⟨c,hc,he⟩:=Mz.1 hs;cases he;obtain⟨e0,sz0,hf⟩:=cj hc;obtain⟨d1,hd1⟩:=hO (.mk .take [.mk .take [c,mm],k]) (by simp);obtain⟨d2,hd2⟩:=hO (.mk .take [c,mm]) (by simp);obtain⟨d3,hd3⟩:=hO (.mk .take [c,k]) (by simp);obtain⟨es,j1,j2,j3⟩:=M.au _ _ _ _ hf;obtain⟨d4,hd4⟩:=hO (.mk .take [c,k0]) (by simp);obtain⟨d5,hd5⟩:=hO (.mk .take [.mk .take [c,k0],mm]) (by simp);obtain⟨zq,zz,z1,z2',z3,rfl⟩:=eY j1 hd4;obtain⟨mq5,mk5,T4,m52,m53,rfl⟩:=eY hd4 hd5;rw[List.length_take]at m53;obtain⟨mq,mk',m1,m2,m3,rfl⟩:=eY j1 hd2;obtain⟨kq,kk,g1,g2,g3,rfl⟩:=eY j1 hd3;obtain⟨kq',kk',g1',g2',g3',rfl⟩:=eY hd2 hd1;obtain⟨k1,_⟩:=K.ca;obtain⟨k2,_⟩:=K2.ca;rw[k1]at g1;cases g1;rw[k1]at g1';cases g1';rw[k2]at m1;cases m1;rw[List.length_take]at g3';have hkm:kk≤mk':=by omega
   cases H with
   |gsn g4 g5 _=>
    rcases j3 with⟨_,rfl⟩|⟨j4,_⟩
    ·obtain rfl:kk=0:=by simp at g3;omega
     obtain rfl:mk'=0:=by simp at m3;omega
     rw[hf]at g4;cases g4;exact⟨.list [],by simp[PK.run,oN,e_,b7,tQ], .gcn hf g5 k1⟩
    ·exact absurd g5 j4
   |gs g4 g5 g6 g7 g8 g9=>
    rw[hf]at g4;cases g4;rw[j1]at g5;cases g5;rcases j3 with⟨j4,_⟩|⟨j4,j5⟩
    ·exact absurd j4 g6
    refine⟨.sl (ι n) s 0 kk.toNat (some mk'.toNat), ?_, .gc hf j1 g6 k1 g2 g3⟩;rw[z1]at g7;cases g7;rw[k2]at T4;cases T4;simp only[PK.run,oN,e_,Pz,b7,Oz];rw[if_pos ⟨by omega,g2, .inl (by omega),trivial⟩];rw[if_pos ⟨hkm,by omega⟩];simp
  ·cases hs
 ·rename_i n s' k;obtain⟨d,z,rfl,H,K⟩:=hv.two;split at hs
  ·rename_i hss;subst hss;obtain⟨c,hc,he⟩:=Mz.1 hs;cases he;obtain⟨e0,sz0,hf⟩:=cj hc;obtain⟨d',hd'⟩:=hO _ (List.mem_singleton.2 rfl);obtain⟨es,j1,j2,j3⟩:=M.au _ _ _ _ hf;obtain⟨kq,kk,g1,g2,g3,rfl⟩:=ym j1 hd';obtain⟨k1,_⟩:=K.ca;rw[k1]at g1;cases g1;cases H with
   |gln g4 g5=>
    rcases j3 with⟨_,rfl⟩|⟨j4,_⟩
    ·obtain rfl:kk=0:=by simp at g3;omega
     rw[hf]at g4;cases g4;exact⟨.list [],by simp[PK.run,oN,e_,b7,tQ], .gtn hf g5 k1⟩
    ·exact absurd g5 j4
   |gl g4 g5 g6=>
    rw[hf]at g4;cases g4;rw[j1]at g5;cases g5;refine⟨.sl (ι n) s kk.toNat (es.length-kk.toNat) none, ?_, .gt hf j1 g6 k1 g2 g3⟩;simp only[PK.run,oN,e_,Pz,b7,Oz];rw[if_pos ⟨g2,g3, .inl (by omega),trivial⟩];simp
  ·cases hs
 ·exact aB hv hs hO
theorem zM(M:Mt Ω G E ι γ Y J){cnt s:Nat}{lo hi:Bool}{vs:List SV}{ds:List D}{v:SV}{O:List X}(hv:bz G E ι Y.h vs ds)(hs:DY Y.h cnt s lo hi vs=some (v,O))(hO: ∀e∈O,∃d,X.ev G E e=some d):
  ∃d,(PK.sla cnt s lo hi).run (br G) J.m ds=some d∧VR G E ι Y.h v d:=by
 unfold DY at hs;split at hs
 ·rename_i n o;obtain⟨d,rfl,H⟩:=hv.one;split at hs
  ·rename_i us hf;split at hs
   ·rename_i hl;cases hs;cases H with
    |ptr _=>
     refine⟨.sl (ι n) 1 o cnt (some cnt), ?_, .sb hf hl⟩;simp[PK.run,MT,e_,b7]
   ·cases hs
  ·cases hs
 ·rename_i n o kd z;obtain⟨d,e,rfl,H,K⟩:=hv.two;split at hs
  ·rename_i us hf;split at hs
   ·rename_i hl;cases hs;obtain⟨k1,_⟩:=K.ca;cases k1;cases H with
    |ptr _=>
     refine⟨.sl (ι n) 1 (o+z.toNat) (cnt-z.toNat) (some (cnt-z.toNat)), ?_, .sb hf (by omega)⟩;simp only[PK.run,MT,e_,b7]
     grind
   ·cases hs
  ·cases hs
 ·exact aB hv hs hO
theorem fG{ks:List Nat}{k:D}: ∀{l l':List (D×D)} {i:Nat},l.map Prod.fst=l'.map Prod.fst→bu ks k l i=bu ks k l' i
 | [],[],_,_=>rfl
 |p::r,p'::r',i,h=>by
  simp only[List.map_cons,List.cons.injEq]at h;simp only[bu,h.1,fG h.2]
 | [],_::_,_,h=>by simp at h
 |_::_,[],_,h=>by simp at h
theorem qt{ks:List Nat}{k v:D}(hk:bR ks k k=some true): ∀{es:List (D×D)} {i:Nat},bu ks k es i=some none→bu ks k (es++ [(k,v)]) i=some (some (i+es.length))
 | [],i,_=>by simp[bu,hk]
 |p::r,i,h=>by
  simp only[bu,List.cons_append]at h⊢;obtain⟨b,hb,h⟩:=Bz.1 h;rw[hb];cases b with
  |true=>simp at h
  |false=>
   simp only[Bool.false_eq_true,if_false,Oz]at h⊢;rw[qt hk h];simp;omega
theorem AZ{ks:List Nat}{z:D}{c k:X}{rows:List (List D)}{d:D}(hc:X.ev G E c=some (.list rows))(h:X.ev G E (Ih ks z c k)=some d):X.ev G E (.mk (.mget ks z false) [c,k])=some d:=by
 unfold Ih at h;split at h
 ·rename_i ks1 c0 k1 ks2 z2 c1 k2;split at h
  ·rename_i hh;simp only[Az,beq_iff_eq]at hh;obtain⟨⟨rfl,rfl⟩,hz,e1,e2,e3⟩:=hh;obtain rfl:=aK _ _ e1;obtain rfl:=aK _ _ e2;obtain rfl:=aK _ _ e3;have hz: [z2]= [z]:=dG hz;injection hz with hz
   subst hz;obtain⟨ds,a1,a2⟩:=aP hc;simp only[X.ba,Bz,Mz]at a1;obtain⟨d0,b0,r1,⟨dk,bk,r2,⟨dv,bv,r3,b4,rfl⟩,rfl⟩,rfl⟩:=a1;cases b4;rw[h]at bv;cases bv;obtain⟨ds,a3,a4⟩:=aP h;obtain⟨_,_,rfl,c3,c4⟩:=mw a3;rw[b0]at c3;cases c3;rw[bk]at c4;cases c4
   have hev:X.ev G E (.mk (.mget ks2 z2 false) [.mk (.mset ks2) [c0,k2, .mk (.mget ks2 z2 false) [c0,k2]],k2])=XK.run G (.mget ks2 z2 false) [.list rows,dk]:=by
    show(X.ba G E [_,_]).bind _=_;simp only[X.ba,hc,bk,Oz,Pz]
   rw[hev];cases d0 with
   |list afT=>
    simp only[XK.run,Bz,Mz]at a2 a4;obtain⟨es0,u1,es',u2,u3⟩:=a2;cases u3;obtain⟨es1,w1,d1,w2,w3⟩:=a4;rw[u1]at w1;cases w1;split at w3<;>cases w3;rename_i hno;simp only[XK.run,aH,Oz]
    have key:jv ks2 z2 false es' dk=some d:=by
     unfold jw at u2;split at u2
     rotate_left
     ·cases u2
     rename_i po;obtain⟨r,hr,u2⟩:=Bz.1 u2;unfold jv;rw[if_pos po.2];cases r with
     |none=>
      simp only at u2;split at u2<;>cases u2;rw[qt po.2.2 hr];simp
     |some i=>
      obtain⟨p,hp,rfl⟩:=Mz.1 u2;have hi:=(Gz.1 hp).1
      have IE:(es0.set i (p.1,d)).map Prod.fst=es0.map Prod.fst:=by
       rw[List.map_set];refine List.ext_getElem? fun m=> ?_;rw[List.getElem?_set];by_cases hm:i=m
       ·subst hm;rw[if_pos rfl,if_pos (by simpa using hi),Dz,hp];rfl
       ·rw[if_neg hm]
      rw[fG IE,hr];simp[hi]
    rw[key];simp[hno]
   |_=>simp[XK.run]at a2
  ·exact h
 ·exact h
theorem zI(M:Mt Ω G E ι γ Y J){ks:List Nat}{z:D}{ok:Bool}{vs:List SV}{ds:List D}{v:SV}{O:List X}(hv:bz G E ι Y.h vs ds)(hs:DX Y.h ks z ok vs=some (v,O))(hO: ∀e∈O,∃d,X.ev G E e=some d):
  ∃d,(PK.lkp ks z ok).run (br G) J.m ds=some d∧VR G E ι Y.h v d:=by
 unfold DX at hs;split at hs
 ·rename_i n k;obtain⟨d,e,rfl,H,K⟩:=hv.two;split at hs
  ·rename_i c hf;obtain⟨kx,hkx,he⟩:=Mz.1 hs;cases he;obtain⟨d',hd0⟩:=hO _ (List.mem_singleton.2 rfl);obtain⟨es,j1,j2,j3⟩:=M.mpo _ _ hf
   have hd':X.ev G E (.mk (.mget ks z ok) [c,kx])=some d':=by
    unfold T1 at hd0;cases ok with
    |true=>exact hd0
    |false=>exact AZ j1 hd0
   obtain⟨ds1,a1,a2⟩:=aP hd';obtain⟨dc,dk,rfl,c3,c4⟩:=mw a1;rw[j1]at c3;cases c3;obtain rfl:=bJ K hkx c4;simp only[XK.run,aH,Oz,Bz]at a2;obtain⟨d0,g1,g2⟩:=a2;split at g2<;>cases g2;rename_i hno;cases H with
   |mp _=>
    refine⟨_, ?_, .x hd0 hno⟩;simp only[PK.run,oF,j3];exact g1
  ·cases hs
 ·exact aB hv hs hO
theorem wv(M:Mt Ω G E ι γ Y J){off n:Nat}{g:Bool}{vs:List SV}{ds:List D}{v:SV}{O:List X}(hv:bz G E ι Y.h vs ds)(hs:zr Y.h off n g vs=some (v,O))(hO: ∀e∈O,∃d,X.ev G E e=some d):
  ∃d,(PK.afld off n g).run (br G) J.m ds=some d∧VR G E ι Y.h v d:=by
 unfold zr at hs;split at hs
 ·rename_i us;obtain⟨d,rfl,H⟩:=hv.one;cases H with
  |agg hl hh=>
   rename_i xs;have h2:bz G E ι Y.h us xs:=⟨hl,hh⟩;split at hs
   ·rename_i ho;simp only[PK.run,Hi];rw[if_pos (by omega)];cases g
    ·simp only[Bool.false_eq_true]at hs⊢;obtain⟨u,hu,he⟩:=Mz.1 hs;cases he;have hlt:=(Gz.1 hu).1;exact⟨_,Ez (show off<xs.length by omega),h2.2 off _ _ hu (Ez _)⟩
    ·simp only[if_true]at hs⊢;cases hs;exact⟨_,rfl, .agg ((h2.drop off).take n).1 ((h2.drop off).take n).2⟩
   ·cases hs
 ·exact aB hv hs hO
theorem zD(M:Mt Ω G E ι γ Y J){f:Nat}{vs:List SV}{ds:List D}{v:SV}{O:List X}(hv:bz G E ι Y.h vs ds)(hs:DT Y.h f vs=some (v,O))(hO: ∀e∈O,∃d,X.ev G E e=some d):
  ∃d,(PK.clo f).run (br G) J.m ds=some d∧VR G E ι Y.h v d:=by
 unfold DT at hs;split at hs
 ·rename_i hu;cases hs;refine⟨.clo f ds, ?_, .clo hv.1 hv.2⟩;simp only[PK.run,K6];rw[if_pos (Tz.2 fun d hd=> ?_)];obtain⟨i,hi⟩:=List.getElem?_of_mem hd;have hil:i<vs.length:=by rw[hv.1];exact(Gz.1 hi).1
  have hvi:=Ez hil;have:=Tz.1 hu _ (Lz hvi);exact(hv.2 i _ d hvi hi).EW (by simpa using this)
 ·cases hs
theorem wB(M:Mt Ω G E ι γ Y J){vs:List SV}{ds:List D}{v:SV}{O:List X}(hv:bz G E ι Y.h vs ds)(hs:zL Y.h vs=some (v,O))(hO: ∀e∈O,∃d,X.ev G E e=some d):
  ∃d,(PK.pick).run (br G) J.m ds=some d∧VR G E ι Y.h v d:=by
 unfold zL at hs;split at hs
 ·rename_i c a b;obtain⟨d,e,f,rfl,H,K,L⟩:=hv.three;simp only[Bz,Mz]at hs;obtain⟨xc,h1,xa,h2,xb,h3,he⟩:=hs;cases he;obtain⟨d',hd'⟩:=hO _ (List.mem_singleton.2 rfl);have hd:=JC hd';simp only[X.ev,Bz]at hd;obtain⟨vc,g1,bb,g2,g3⟩:=hd;obtain rfl:=bJ H h1 g1;cases bb
  ·simp only[cond_false]at g3;obtain rfl:=bJ L h3 g3;exact⟨d',by simp[PK.run,Fi,g2], .x hd' (xV L h3 g3)⟩
  ·simp only[cond_true]at g3;obtain rfl:=bJ K h2 g3;exact⟨d',by simp[PK.run,Fi,g2], .x hd' (xV K h2 g3)⟩
 ·exact aB hv hs hO
theorem vq(M:Mt Ω G E ι γ Y J){vs:List SV}{ds:List D}{v:SV}{O:List X}(hv:bz G E ι Y.h vs ds)(hs:vp Y.h vs=some (v,O))(hO: ∀e∈O,∃d,X.ev G E e=some d):
  ∃d,(PK.ccall).run (br G) J.m ds=some d∧VR G E ι Y.h v d:=by
 unfold vp at hs;split at hs
 ·rename_i f eM vs;obtain⟨d,r,rfl,H,K⟩:=hv.cons;split at hs
  rotate_left
  ·cases hs
  rename_i CZ;cases H with
  |clo hl hh=>
   obtain⟨d',h1,h2⟩:=nZ M (K.append ⟨hl,hh⟩) hs hO;exact⟨d',by simp only[PK.run,tJ,if_pos CZ];exact h1,h2⟩
 ·rename_i e vs;obtain⟨d,r,rfl,H,K⟩:=hv.cons;obtain⟨es,hx,he⟩:=Mz.1 hs;cases he;obtain⟨d',hd'⟩:=hO _ (List.mem_singleton.2 rfl);obtain⟨ds1,a1,a2⟩:=aP hd';simp only[X.ba,Bz,Mz]at a1;obtain⟨dc,b1,as,b2,rfl⟩:=a1;obtain⟨k1,k2⟩:=H.ca;rw[k1]at b1;cases b1;obtain⟨h3,h4⟩:=sh M K hx b2;simp only[XK.run]at a2;split at a2
  ·rename_i f eM rr heq;cases heq;split at a2
   rotate_left
   ·cases a2
   rename_i CZ;rw[Bz]at a2;obtain⟨cs,c1,c2⟩:=a2
   have hcp:eM.all D.aF=true:=by
    simp only[D.aF,Tz]at k2⊢;exact fun x hx=>mH (k2 x hx)
   have hcv:eM.mapM (bo J.m)=some cs:=by
    rw[←c1];exact mE fun x hx=>sg (Tz.1 hcp x hx)
   obtain⟨h5,h6⟩:=rl (m:=J.m) (ds:=r++eM) (as:=as++cs) (by rw[List.mapM_append,h3,hcv];rfl) (fun hf=>by
    simp only[List.all_append,Az]
    exact⟨h4 (by simpa using hf),hcp⟩) c2
   exact⟨d',by simp only[PK.run,tJ,if_pos CZ];exact h5, .x hd' h6⟩
  ·cases a2
 ·exact aB hv hs hO
theorem vF{h:List (Nat×SO)}(d:D):VR G E ι h (Cc d) d:=by
 unfold Cc;split
 ·exact .x rfl (by assumption)
 ·exact .un
theorem BK{h:List (Nat×SO)}{v:SV}{d:D}{O:List X}(H:VR G E ι h v d)(ho:Jx v=some O)(hO: ∀e∈O,∃d,X.ev G E e=some d):d.gK=true:=by
 unfold Jx at ho;split at ho
 ·split at ho<;>cases ho;cases H with|x h1 _=>cases h1;assumption
 ·cases ho;cases H with
  |x h1 _=>
   obtain⟨ds,g1,g2⟩:=aP h1;simp only[XK.run]at g2
   grind
 ·cases ho;obtain⟨d',hd'⟩:=hO _ (List.mem_singleton.2 rfl);obtain⟨ds,g1,g2⟩:=aP hd';obtain⟨d2,rfl,g3⟩:=je g1;obtain⟨h1,_⟩:=H.ca;simp only[XK.run]at g2
  grind
 ·cases H;rfl
 ·cases H<;>rfl
 ·cases H;rfl
 ·cases H;rfl
 ·cases H;rfl
 ·cases H<;>rfl
 ·cases H<;>rfl
 ·cases H;rfl
 ·cases H;rfl
 ·cases H;rfl
 ·cases ho
theorem pD{h:List (Nat×SO)}: ∀{vs:List SV} {ds:List D} {O:List X},bz G E ι h vs ds→yW vs=some O→(∀e∈O,∃d,X.ev G E e=some d)→ds.all D.gK=true
 | [],ds,O,H,_,_=>by
  have h0:ds= []:=List.eq_nil_of_length_eq_zero H.1.symm
  grind
 |v::r,ds,O,H,ho,hO=>by
  obtain⟨d,ds',rfl,h1,h2⟩:=H.cons;simp only[yW,Bz,Mz]at ho;obtain⟨a,h3,b,h4,rfl⟩:=ho;simp only[List.all_cons,BK h1 h3 fun e he=>hO e (by simp[he]),pD h2 h4 fun e he=>hO e (by simp[he]),Bool.and_self]
theorem im{h:List (Nat×SO)}{n:Nat}{g:Bool}{v:SV}{d:D}{vs:List SV}{O:List X}(H:VR G E ι h v d)(hc:mh n g v=some (vs,O))(hO: ∀e∈O,∃d,X.ev G E e=some d):
  d.cells.length=n∧d.cells.all D.gK=true∧bz G E ι h vs d.cells:=by
 have one: ∀{u:SV} {d:D},VR G E ι h u d→d.cells= [d]→d.gK=true→n=1→d.cells.length=n∧d.cells.all D.gK=true∧bz G E ι h [u] d.cells:=fun{u d} H h1 h2 h3=>by
  rw[h1];exact⟨h3.symm,by simp[h2],bz.mk H bz.nil⟩
 unfold mh at hc;split at hc
 ·split at hc
  ·rename_i hl;obtain⟨O',h1,h2⟩:=Mz.1 hc;cases h2;cases H with
   |agg h3 h4=>exact⟨h3.symm.trans hl,pD ⟨h3,h4⟩ h1 hO,h3,h4⟩
  ·cases hc
 ·rename_i e;obtain⟨h1,h2⟩:=H.ca;split at hc
  ·split at hc
   ·rename_i hn;cases hc;obtain⟨d',hd'⟩:=hO _ (List.mem_singleton.2 rfl);obtain⟨ds,g1,g2⟩:=aP hd';obtain⟨d2,rfl,g3⟩:=je g1;rw[h1]at g3;cases g3;simp only[XK.run]at g2;split at g2
    ·rename_i hcc;refine⟨hcc.1,hcc.2.1,by simp[hcc.1],fun i v c hv hcd=> ?_⟩;have hi:=(Gz.1 hcd).1;simp only[Dz,List.getElem?_range (show i<n by omega),Pz,Jz]at hv;subst hv;refine .x ?_ (mH (Tz.1 hcc.2.2 _ (Lz hcd)));simp only[X.ev,X.ba,h1,Oz,Pz,XK.run]
     grind
    ·cases g2
   ·cases hc
  ·split at hc
   ·rename_i hn;cases hc;obtain⟨d',hd'⟩:=hO _ (List.mem_singleton.2 rfl);obtain⟨ds,g1,g2⟩:=aP hd';obtain⟨d2,rfl,g3⟩:=je g1;rw[h1]at g3;cases g3;simp only[XK.run]at g2;split at g2
    ·rename_i hcc;have Iy:d.cells= [d]:=by cases d<;>first|rfl|(simp[D.gK]at hcc)
     grind
    ·cases g2
   ·cases hc
 ·split at hc<;>cases hc;cases H with|ptr hf=>exact one (.ptr hf) rfl rfl (by assumption)
 ·split at hc<;>cases hc;have H':=H;cases H with
  |gln=>exact one H' rfl rfl (by assumption)
  |gl=>exact one H' rfl rfl (by assumption)
 ·split at hc<;>cases hc;have H':=H;cases H;exact one H' rfl rfl (by assumption)
 ·split at hc<;>cases hc;have H':=H;cases H;exact one H' rfl rfl (by assumption)
 ·split at hc<;>cases hc;have H':=H;cases H;exact one H' rfl rfl (by assumption)
 ·split at hc<;>cases hc;have H':=H;cases H with
  |gsn=>exact one H' rfl rfl (by assumption)
  |gs=>exact one H' rfl rfl (by assumption)
 ·split at hc<;>cases hc;have H':=H;cases H;exact one H' rfl rfl (by assumption)
 ·cases hc
theorem xA{h:List (Nat×SO)}{us vs:List SV}{xs ds:List D}{o:Nat}(H:bz G E ι h us xs)(K:bz G E ι h vs ds):bz G E ι h (us.take o++vs++us.drop (o+vs.length)) (putAt xs o ds):=by
 rw[K.1];exact((H.take o).append K).append (H.drop _)
theorem rF{h:List (Nat×SO)}: ∀{ps:List (Nat×Nat)} {cells vs r:List SV} {xs ds:List D} {O:List X},bz G E ι h cells xs→bz G E ι h vs ds→AV cells ps vs=some (r,O)→(∀e∈O,∃d,X.ev G E e=some d)→
  ∃ys,nP xs ps ds=some ys∧bz G E ι h r ys∧ds.all (fun d=>d.cells.all D.gK)=true
 | [],cells,[],r,xs,ds,O,H,K,hf,hO=>by
  cases hf;have:ds= []:=List.eq_nil_of_length_eq_zero K.1.symm;subst this;exact⟨xs,rfl,H,rfl⟩
 | [],cells,v::vs,r,xs,ds,O,H,K,hf,hO=>by cases hf
 |(off,n)::ps,cells,[],r,xs,ds,O,H,K,hf,hO=>by cases hf
 |(off,n)::ps,cells,v::vs,r,xs,ds,O,H,K,hf,hO=>by
  simp only[AV,Bz]at hf;obtain⟨⟨cs,O1⟩,h1,hf⟩:=hf;split at hf
  ·rename_i hlen;obtain⟨⟨r',O2⟩,h2,h3⟩:=Mz.1 hf;cases h3;obtain⟨d,ds',rfl,K1,K2⟩:=K.cons;obtain⟨c1,c2,c3⟩:=im K1 h1 fun e he=>hO e (List.mem_append_left _ he);have hcl:cs.length=n:=by rw[c3.1];exact c1
   have LH:=xA (o:=off) H c3;rw[hcl]at LH;obtain⟨ys,y1,y2,y3⟩:=rF LH K2 h2 fun e he=>hO e (List.mem_append_right _ he);refine⟨ys, ?_,y2,by simp[c2,y3]⟩;simp only[nP];rw[if_pos ⟨c1,by rw[←H.1];exact hlen⟩];exact y1
  ·cases hf
theorem vo(M:Mt Ω G E ι γ Y J){zero:List D}{places:List (Nat×Nat)}{vs:List SV}{ds:List D}{v:SV}{O:List X}(hv:bz G E ι Y.h vs ds)(hs:vn Y.h zero places vs=some (v,O))(hO: ∀e∈O,∃d,X.ev G E e=some d):
  ∃d,(PK.build zero places).run (br G) J.m ds=some d∧VR G E ι Y.h v d:=by
 unfold vn at hs;split at hs
 ·rename_i q hq;cases hs
  have hz:bz G E ι Y.h (zero.map Cc) zero:=⟨by simp,fun i v d hv hd=>by
   rw[Dz,hd]at hv;simp only[Pz,Jz]at hv
   subst hv;exact vF d⟩
  obtain⟨ys,y1,y2,y3⟩:=rF hz hv (show AV _ _ _=some (q.1,q.2)from hq) hO;refine⟨.agg ys, ?_, .agg y2.1 y2.2⟩;simp only[PK.run,xW]
  grind
 ·exact aB hv hs hO
theorem zw(M:Mt Ω G E ι γ Y J){n size:Nat}{g:Bool}{vs:List SV}{ds:List D}{v:SV}{O:List X}(hv:bz G E ι Y.h vs ds)(hs:DR Y.h n size g vs=some (v,O))(hO: ∀e∈O,∃d,X.ev G E e=some d):
  ∃d,(PK.aix n size g).run (br G) J.m ds=some d∧VR G E ι Y.h v d:=by
 unfold DR at hs;split at hs
 ·rename_i us k i;obtain⟨d,e,rfl,H,K⟩:=hv.two;obtain⟨k1,_⟩:=K.ca;cases k1;cases H with
  | @agg _ xs hl hh=>
   have HH:bz G E ι Y.h us xs:=⟨hl,hh⟩;split at hs
   ·rename_i hc;have hc':0≤i∧i<n∧i.toNat*size+size≤xs.length:=by rw[←hl];exact hc
    split at hs
    ·rename_i hg;cases hs;refine⟨.agg ((xs.drop (i.toNat*size)).take size),by simp only[PK.run,KS];rw[if_pos hc',if_pos hg], ?_⟩;have:=(HH.drop (i.toNat*size)).take size;exact .agg this.1 this.2
    ·rename_i hg;obtain⟨u,hu,he⟩:=Mz.1 hs;cases he;have hi:=(Gz.1 hu).1;have hd:xs[i.toNat*size]?=some (xs[i.toNat*size]'(by omega)):=Ez _;refine⟨_,by simp only[PK.run,KS];rw[if_pos hc',if_neg hg];exact hd,hh _ _ _ hu hd⟩
   ·cases hs
 ·exact aB hv hs hO
theorem gW(M:Mt Ω G E ι γ Y J){k:PK}{vs:List SV}{ds:List D}{v:SV}{O:List X}(hv:bz G E ι Y.h vs ds)(hs:vu Y.h k vs=some (v,O))(hO: ∀e∈O,∃d,X.ev G E e=some d):
  ∃d,k.run (br G) J.m ds=some d∧VR G E ι Y.h v d:=by
 unfold vu at hs;split at hs
 ·exact B_ M hv hs hO
 ·exact zF M hv hs hO
 ·exact zC M hv hs hO
 ·exact zG M hv hs hO
 ·exact wA M hv hs hO
 ·exact zH M hv hs hO
 ·exact wx M hv hs hO
 ·exact wy M hv hs hO
 ·exact zN M hv hs hO
 ·exact zM M hv hs hO
 ·exact zI M hv hs hO
 ·exact wv M hv hs hO
 ·exact zD M hv hs hO
 ·exact wB M hv hs hO
 ·exact nZ M hv hs hO
 ·exact vq M hv hs hO
 ·exact vo M hv hs hO
 ·exact zw M hv hs hO
 ·exact aB hv hs hO
end
end
section
def bL(Y:Sy):aJ→SV
 | .t i=>(find Y.s i).getD .un
 | .c (.agg xs)=> .agg (xs.map Cc)
 | .c d=>Cc d
def tP(h:List (Nat×SO)):SV→Option X
 | .x e=>some e
 | .gl n _=>cont h n
 | .gs n _ k=>(cont h n).map fun c=> .mk .take [c,k]
 | .gt n _ k=>(cont h n).map fun c=> .mk .drp [c,k]
 |_=>none
def Sy.nw(Y:Sy)(x:Nat):Sy:=Y.kill (Y.nx+x)
def Sy.add(Y:Sy)(x nm:Nat)(o:SO)(v:SV):Sy:={Y with h:=b_ nm o Y.h,s:=b_ x v Y.s}
def kF(N:Nat)(e:X):List SV:=(List.range N).map fun k=> .x (.mk (.cell k N) [e])
def kZ(n:Nat)(g:Bool)(va vv:SV)(Y:Sy):Option (Sy×List X):=
 match va with
 | .ptr m o=>match find Y.h m with
  |some (.box us)=>(mh n g vv).bind fun q=>if o+n≤us.length then some ({Y with h:=b_ m (.box (us.take o++q.1++us.drop (o+n))) Y.h},q.2)else none
  |_=>none
 | .rb m o=>match find Y.h m with
  |some (.box us)=>(mh n g vv).bind fun q=>if o+n≤us.length then some ({Y with h:=b_ m (.box (us.take o++q.1++us.drop (o+n))) Y.h},q.2)else none
  |_=>none
 | .dp m o c s i j=>match find Y.h m with
  |some (.box us)=>(SV.oq ((us.drop o).take (c*s))).bind fun xs=>vv.nM.bind fun x=>
   if o+c*s≤us.length then some ({Y with h:=b_ m (.box (us.take o++kF (c*s) (.mk (.seta c s j n) [.mk .agg xs,i,x])++us.drop (o+c*s))) Y.h},[.mk (.seta c s j n) [.mk .agg xs,i,x]])else none
  |_=>none
 | .ep m s i j=>match find Y.h m with
  |some (.au t sz c)=>if sz=s then vv.nM.map fun x=>({Y with h:=b_ m (.au t sz (.mk (.setl s j n) [c,i,x])) Y.h},[.mk (.setl s j n) [c,i,x]])else none
  |_=>none
 |_=>none
def q9(x t size:Nat)(va vb:SV)(Y:Sy)(nm:Nat):Option (Sy×List X):=
 (tP Y.h vb).bind fun cb=>match va with
  | .x (.q .nil)=>some (Y.add x nm (.au t size (.mk (.app size) [.q (.list []),cb])) (.gl nm size),[.mk (.app size) [.q (.list []),cb]])
  | .gl n s=>match find Y.h n with
   |some (.au t' s' c)=>if t'=t∧s=size∧s'=size then some ((Y.kill n).add x nm (.au t size (.mk (.app size) [c,cb])) (.gl nm size),[.mk (.app size) [c,cb]])else none
   |_=>none
  |_=>none
def SO.N7:SO→Bool
 | .mpl .. =>true
 |_=>false
def acX(t size f:Nat)(xs:List X):X:= .mk (.app size) [.q (.list []), .mk .drp [.mk (.call false (1000001000000+(1000000*t+f))) xs, .q (iv 0)]]
def fh(e:cg)(Y:Sy):Option (Sy×List X):=
 match e with
 | .box n g x a=>(mh n g (bL (Y.nw x) a)).map fun q=>((Y.nw x).add x (Y.nx+x) (.box q.1) (.ptr (Y.nx+x) 0),q.2)
 | .store n g a v=>kZ n g (bL Y a) (bL Y v) Y
 | .app x t size a b=>q9 x t size (bL (Y.nw x) a) (bL (Y.nw x) b) (Y.nw x) (Y.nx+x)
 | .mks x t size zero a b=>match bL (Y.nw x) a,bL (Y.nw x) b with
  | .x ea, .x eb=>some ((Y.nw x).add x (Y.nx+x) (.au t size (.mk (.mks size zero) [ea,eb])) (.gl (Y.nx+x) size),[.mk (.mks size zero) [ea,eb]])
  |_,_=>none
 | .lit x t size len zero places args=>(SV.oq (args.map (bL (Y.nw x)))).map fun xs=>((Y.nw x).add x (Y.nx+x) (.au t size (.mk (.lit size len zero places) xs)) (.gl (Y.nx+x) size),[.mk (.lit size len zero places) xs])
 | .mkm x=>some ((Y.nw x).add x (Y.nx+x) (.map (.q (.list []))) (.mp (Y.nx+x)),[])
 | .mkml x e sz=>if Y.h.all (fun p=> !p.2.N7)then some ((Y.nw x).add x (Y.nx+x) (.mpl e sz (.q (.list []))) (.mp (Y.nx+x)),[])else none
 | .copy x a b=>match bL Y a,bL Y b with
  | .sb n o l, .sb m p l'=>match find Y.h n,find Y.h m with
   |some (.box us),some (.box vs)=>if 0<l∧0<l'∧o+l≤us.length∧p+l'≤vs.length then
     some ((match x with
      |some i=>Sy.set {Y with h:=b_ n (.box (us.take o++(vs.drop p).take (min l' l)++us.drop (o+min l' l))) Y.h} i (.x (.q (iv ((min l' l:Nat):Int))))
      |none=>{Y with h:=b_ n (.box (us.take o++(vs.drop p).take (min l' l)++us.drop (o+min l' l))) Y.h}),[])else none
   |_,_=>none
  |_,_=>none
 | .mupd ks a k v=>match bL Y a with
  | .mp n=>match find Y.h n with
   |some (.map c)=>(bL Y k).nM.bind fun kx=>(bL Y v).nM.map fun vx=>({Y with h:=b_ n (.map (.mk (.mset ks) [c,kx,vx])) Y.h},[.mk (.mset ks) [c,kx,vx]])
   |_=>none
  |_=>none
 | .ment ks z x a k=>match bL Y a with
  | .mp n=>match find Y.h n with
   |some (.map c)=>(bL Y k).nM.map fun kx=>(Sy.set {Y with h:=b_ n (.map (.mk (.mset ks) [c,kx, .mk (.mget ks z false) [c,kx]])) Y.h} x (.tup [.un, .x (.mk (.mix ks) [.mk (.mset ks) [c,kx, .mk (.mget ks z false) [c,kx]],kx])]),[.mk (.mset ks) [c,kx, .mk (.mget ks z false) [c,kx]]])
   |_=>none
  |_=>none
 | .mest a s v=>match bL Y a,bL Y s with
  | .mp n, .x (.mk (.mix ks) [c2,kx])=>match find Y.h n with
   |some (.map (.mk (.mset ks') [c,kx',y]))=>if dH c2 (.mk (.mset ks') [c,kx',y])&&dH kx kx'&&ks==ks' then(bL Y v).nM.map fun vx=>({Y with h:=b_ n (.map (.mk (.mset ks') [c,kx',vx])) Y.h},[.mk (.mset ks') [c,kx',vx]])else none
   |_=>none
  |_,_=>none
 | .clr size zero a=>match bL Y a with
  | .gt n sz k=>match find Y.h n with
   |some (.au e sz' c)=>if(sz'=sz∧size=sz)∧(zero.length==size&&zero.all D.nV)=true then some ({Y with h:=b_ n (.au e sz (.mk (.clr zero) [c,k])) Y.h},[.mk (.clr zero) [c,k]])else none
   |_=>none
  |_=>none
 | .ecall x k f args=>match(args.map (bL Y))[k]? with
  |some (.gl n sz)=>match find Y.h n with
   |some (.au e sz' c)=>if sz'=sz then(SV.oq ((args.map (bL Y)).set k (.x c))).map fun xs=>
     (Sy.set {Y with h:=b_ n (.au e sz (.mk (.pk (.ext 1)) [.mk (.ecall k f sz) xs])) Y.h} x (.x (.mk (.pk (.ext 0)) [.mk (.ecall k f sz) xs])),[.mk (.pk (.ext 1)) [.mk (.ecall k f sz) xs], .mk (.pk (.ext 0)) [.mk (.ecall k f sz) xs]])else none
   |_=>none
  |_=>none
 | .acall x t size f args=>if f<1000000 then(SV.oq (args.map (bL (Y.nw x)))).map fun xs=>((Y.nw x).add x (Y.nx+x) (.au t size (acX t size f xs)) (.gl (Y.nx+x) size),acX t size f xs::xs.map fun a=> .mk .bq [a])else none
section
variable {Ω : bO} {G : FP} {E : List D} {ι γ : Nat → Tok} {Y : Sy} {J : St}
theorem az(M:Mt Ω G E ι γ Y J)(a:aJ):VR G E ι Y.h (bL Y a) (a.val J.s):=by
 cases a with
 |t i=>
  simp only[bL];cases hf:find Y.s i with
  |none=>exact .un
  |some v=>exact M.slot i v hf
 |c d=>
  cases d<;>simp only[bL]<;>try exact vF _
  exact .agg (by simp) fun i v d hv hd=>by
   rw[Dz,hd]at hv;simp only[Pz,Jz]at hv;subst hv;exact vF d
theorem uB{n:Nat}: ∀{vs:List SV},(∀v∈vs,v.ja n=false)→SV.pA n vs=false
 | [],_=>rfl
 |v::r,h=>by
  have h1:=uB (n:=n) (vs:=r) fun u hu=>h u (Cz _ hu);simp only[SV.pA,h v (List.mem_cons_self ..),h1,Bool.or_self]
theorem Ji{n:Nat}{vs:List SV}(h:SV.pA n vs=false): ∀v∈vs,v.ja n=false:=fun v hv=>by
 obtain⟨i,hi⟩:=List.getElem?_of_mem hv;exact uC h i v hi
theorem G5{x:Nat}(F:Y.free x)(a:aJ):(bL Y a).ja x=false:=by
 have vd: ∀d:D,(Cc d).ja x=false:=fun d=>by unfold Cc;split<;>rfl
 cases a with
 |t i=>
  simp only[bL];cases hf:find Y.s i with
  |none=>rfl
  |some v=>exact F.2.1 i v hf
 |c d=>
  cases d<;>simp only[bL]<;>try exact vd _
  exact uB fun v hv=>by obtain⟨d,_,rfl⟩:=List.mem_map.1 hv;exact vd d
theorem Av {x n : Nat} {g : Bool} {v : SV} {vs : List SV} {O : List X} (hc : mh n g v = some (vs, O)) (hv : v.ja x = false) : ∀ u ∈ vs, u.ja x = false := by
  unfold mh at hc
  split at hc
  · split at hc
    · obtain ⟨O', h1, h2⟩ := Mz.1 hc
      cases h2
      exact Ji (by simpa only [SV.ja] using hv)
    · cases hc
  · split at hc
    · split at hc <;> cases hc
      intro u hu
      obtain ⟨j, _, rfl⟩ := List.mem_map.1 hu
      rfl
    · grind
  all_goals first
    | (cases hc; done)
    | (split at hc <;> cases hc
       intro u hu; simp at hu; subst hu; exact hv)
theorem VR.fresh{h:List (Nat×SO)}{v:SV}{d:D}(H:VR G E ι h v d){x:Nat}(hx:v.ja x=false){t:Tok}{o:SO}:VR G E (fun n=>if n=x then t else ι n) (b_ x o h) v d:=
 H.mono (fun _ _ h=>h) fun n hn=>by
  have hne:n≠x:=fun e=>by subst e;rw[hx]at hn;cases hn
  exact⟨if_neg hne,Lk.same (fun _ _ h=>h) (by rw[bC,if_neg hne])⟩
theorem bz.fresh{h:List (Nat×SO)}{vs:List SV}{ds:List D}(H:bz G E ι h vs ds){x:Nat}(hx: ∀v∈vs,v.ja x=false){t:Tok}{o:SO}:bz G E (fun n=>if n=x then t else ι n) (b_ x o h) vs ds:=
 ⟨H.1,fun i v d hv hd=>(H.2 i v d hv hd).fresh (hx v (Lz hv))⟩
theorem Mt.nw(M:Mt Ω G E ι γ Y J)(x:Nat):Mt Ω G E ι γ (Y.nw x) J∧(Y.nw x).free (Y.nx+x):=M.kill _
theorem Mt.add(M:Mt Ω G E ι γ Y J){x nm:Nat}(F:Y.free nm){o:SO}{v:SV}{t g:Tok}{J':St}(W:WF J')(hs: ∀j,j≠x→J'.s j=J.s j)
  (hm: ∀n o',find Y.h n=some o'→ι n≠ []→J'.m (ι n)=J.m (ι n)) (hc: ∀y,J.c y≤J'.c y) (hr: ∀t q,J.m t=some (.raw q)→J'.m t=some (.raw q))
  (hv:VR G E (fun n=>if n=nm then t else ι n) (b_ nm o Y.h) v (J'.s x))
  (ho:match o with
   | .box vs=> ∃ds,t≠ []∧J'.m t=some (.box ds)∧bz G E (fun n=>if n=nm then t else ι n) (b_ nm o Y.h) vs ds
   | .au e sz c=> ∃es,X.ev G E c=some (.list es)∧aO sz es=true∧(t= []∧es= []∨t≠ []∧J'.m t=some (.row g e es))∧(t≠ []→ ∀n e sz c,find Y.h n=some (.au e sz c)→ι n≠ []→γ n≠g)∧(t≠ []→ ∀y k r,g=(y+1)::k::r→k<J'.c y)
   | .map c=> ∃es,X.ev G E c=some (.list (ao es))∧t≠ []∧J'.m t=some (.map es)
   | .mpl e sz c=>X.ev G E c=some (.list [])∧t≠ []∧J'.m t=some (.map [])∧ ∀k e sz c,find Y.h k≠some (.mpl e sz c)
   | .raw k=>t=Ω.t nm∧t≠ []∧J'.m t=some (.raw (Ω.f nm k))∧ ¬Ω.c t)
  (ht:t≠ []→ ∀n o,find Y.h n=some o→ι n≠t) (hx: ∀q,iJ Y.h ι γ J q→t≠q.u∧(t≠ []→(∃e sz c,o= .au e sz c)→g≠q.g)∧J'.m q.u=J.m q.u):
  Mt Ω G E (fun n=>if n=nm then t else ι n) (fun n=>if n=nm then g else γ n) (Y.add x nm o v) J':=by
 have hf: ∀n,find (Y.add x nm o v).h n=if n=nm then some o else find Y.h n:=fun n=>bC nm n o Y.h
 refine⟨fun i u hu=> ?_,fun n vs hn=> ?_,fun n e sz c hn=> ?_,fun n c hn=> ?_,fun n e sz c hn=> ?_,fun n n' e e' sz sz' c c' h1 h2=> ?_,fun n kk hn=> ?_,fun n n' o1 o2 h1 h2 he hne=> ?_,fun n n' e e' sz sz' c c' h1 h2 k1 k2 he=> ?_,W,fun n e sz c hn hne y k r hg=> ?_,M.nv,fun t ht=>hr t _ (M.con t ht)⟩
 ·simp only[Sy.add,bC]at hu;by_cases hi:i=x
  ·rw[if_pos hi]at hu;cases hu;rw[hi];exact hv
  ·rw[if_neg hi]at hu;rw[hs i hi];exact(M.slot i u hu).fresh (F.2.1 i u hu)
 ·rw[hf]at hn;by_cases hi:n=nm
  ·rw[if_pos hi]at hn;cases hn;obtain⟨ds,h1,h2,h3⟩:=ho;exact⟨ds,by simpa[hi]using h1,by simpa[hi]using h2,h3⟩
  ·rw[if_neg hi]at hn;obtain⟨ds,h1,h2,h3⟩:=M.box n vs hn;refine⟨ds,by simpa[hi]using h1, ?_,h3.fresh (F.2.2 n vs hn)⟩;simp only[if_neg hi];rw[hm n _ hn h1];exact h2
 ·rw[hf]at hn;by_cases hi:n=nm
  ·rw[if_pos hi]at hn;cases hn;obtain⟨es,h1,h2,h3,_⟩:=ho;exact⟨es,h1,h2,by simpa[hi]using h3⟩
  ·rw[if_neg hi]at hn;obtain⟨es,h1,h2,h3⟩:=M.au n e sz c hn;refine⟨es,h1,h2, ?_⟩;simp only[if_neg hi];rcases h3 with h3|⟨h3,h4⟩
   ·exact .inl h3
   ·exact .inr ⟨h3,by rw[hm n _ hn h3];exact h4⟩
 ·rw[hf]at hn;by_cases hi:n=nm
  ·rw[if_pos hi]at hn;cases hn;obtain⟨es,h1,h2,h3⟩:=ho;exact⟨es,h1,by simpa[hi]using h2,by simpa[hi]using h3⟩
  ·rw[if_neg hi]at hn;obtain⟨es,h1,h2,h3⟩:=M.mpo n c hn;refine⟨es,h1,by simpa[hi]using h2, ?_⟩;simp only[if_neg hi];rw[hm n _ hn h2];exact h3
 ·rw[hf]at hn;by_cases hi:n=nm
  ·rw[if_pos hi]at hn;cases hn;obtain⟨h1,h2,h3,_⟩:=ho;exact⟨[],h1,by simpa[hi]using h2,by simpa[hi]using h3,fun q hq=>(by cases hq),List.nodup_nil⟩
  ·rw[if_neg hi]at hn;obtain⟨L,h1,h2,h3,h4⟩:=M.own n e sz c hn;refine⟨L,h1,by simpa[hi]using h2, ?_,fun q hq=> ?_,h4.2⟩
   ·simp only[if_neg hi];rw[hm n _ hn h2];exact h3
   ·obtain⟨k1,k2,k3⟩:=hx q ⟨n,e,sz,c,L,hn,h3,h4,hq⟩;obtain⟨_,_,_,q4,q5,_⟩:=h4.1 q hq;refine(h4.1 q hq).lE k3 (fun k o' hk=> ?_) (fun k e' sz' c' hk hne=> ?_) hc
    ·rw[hf]at hk;by_cases hkn:k=nm
     ·simp only[if_pos hkn];exact k1
     ·rw[if_neg hkn]at hk;simp only[if_neg hkn];exact q4 k o' hk
    ·rw[hf]at hk;by_cases hkn:k=nm
     ·rw[if_pos hkn]at hk;simp only[if_pos hkn]at hne⊢;exact k2 hne ⟨_,_,_,Option.some.inj hk⟩
     ·rw[if_neg hkn]at hk;simp only[if_neg hkn]at hne⊢;exact q5 k e' sz' c' hk hne
 ·rw[hf]at h1 h2;by_cases hi:n=nm<;>by_cases hi':n'=nm
  ·rw[hi,hi']
  ·rw[if_pos hi]at h1;rw[if_neg hi']at h2;cases h1;exact absurd h2 (ho.2.2.2 _ _ _ _)
  ·rw[if_neg hi]at h1;rw[if_pos hi']at h2;cases h2;exact absurd h1 (ho.2.2.2 _ _ _ _)
  ·rw[if_neg hi]at h1;rw[if_neg hi']at h2;exact M.one n n' _ _ _ _ _ _ h1 h2
 ·rw[hf]at hn;by_cases hi:n=nm
  ·rw[if_pos hi]at hn;cases hn;obtain⟨h0,h1,h2⟩:=ho;exact⟨by simpa[hi]using h0,by simpa[hi]using h1,by simpa[hi]using h2⟩
  ·rw[if_neg hi]at hn;obtain⟨h0,h1,h2⟩:=M.rwo n kk hn;refine⟨by simpa[hi]using h0,by simpa[hi]using h1, ?_⟩;simp only[if_neg hi];rw[hm n _ hn h1];exact h2
 ·rw[hf]at h1 h2;by_cases hi:n=nm<;>by_cases hi':n'=nm
  ·rw[hi,hi']
  ·simp only[if_pos hi,if_neg hi']at he hne h2;exact absurd he.symm (ht hne n' o2 h2)
  ·simp only[if_neg hi,if_pos hi']at he hne h1;exact absurd he (ht (he▸hne) n o1 h1)
  ·simp only[if_neg hi,if_neg hi']at he hne h1 h2;exact M.inj n n' o1 o2 h1 h2 he hne
 ·rw[hf]at h1 h2;by_cases hi:n=nm<;>by_cases hi':n'=nm
  ·rw[hi,hi']
  ·simp only[if_pos hi,if_neg hi']at he k1 k2 h1 h2;cases h1;obtain⟨es,_,_,_,h4,_⟩:=ho;exact absurd he.symm (h4 k1 n' e' sz' c' h2 k2)
  ·simp only[if_neg hi,if_pos hi']at he k1 k2 h1 h2;cases h2;obtain⟨es,_,_,_,h4,_⟩:=ho;exact absurd he (h4 k2 n e sz c h1 k1)
  ·simp only[if_neg hi,if_neg hi']at he k1 k2 h1 h2;exact M.gZ n n' e e' sz sz' c c' h1 h2 k1 k2 he
 ·rw[hf]at hn;by_cases hi:n=nm
  ·simp only[if_pos hi]at hn hne hg;cases hn;obtain⟨es,_,_,_,_,h5⟩:=ho;exact h5 hne y k r hg
  ·simp only[if_neg hi]at hn hne hg;exact Nat.lt_of_lt_of_le (M.old n e sz c hn hne y k r hg) (hc y)
end
end
section
section
variable {Ω : bO} {G : FP} {E : List D} {ι γ : Nat → Tok} {Y : Sy} {J : St}
theorem cC(J:St)(x:Nat)(o:HO)(d:D)(t:Tok):(J.new x o d).m t=if t=J.tok x then some o else J.m t:=rfl
theorem fc(J:St)(x:Nat)(o:HO)(d:D)(j:Nat):(J.new x o d).s j=if j=x then d else J.s j:=rfl
theorem pC(J:St)(x:Nat)(o:HO)(d:D)(y:Nat):(J.new x o d).c y=if y=x then J.c y+1 else J.c y:=rfl
theorem nu{J:St}(W:WF J)(x:Nat)(o:HO)(d:D)(t:Tok)(q:Obj)(h:J.m t=some (.raw q)):(J.new x o d).m t=some (.raw q):=by rw[cC,if_neg (fun e=>by rw[e,W.tok x]at h;cases h)];exact h
theorem mS(J:St)(x:Nat):J.tok x≠ []:=by simp[St.tok]
theorem Mt.live(M:Mt Ω G E ι γ Y J){n:Nat}{o:SO}(h:find Y.h n=some o)(hi:ι n≠ []): ∃q,J.m (ι n)=some q:=by
 cases o with
 |box vs=>obtain⟨ds,_,h1,_⟩:=M.box n vs h;exact⟨_,h1⟩
 |au e sz c=>
  obtain⟨es,_,_,h1⟩:=M.au n e sz c h
  grind
 |map c=>obtain⟨es,_,_,h1⟩:=M.mpo n c h;exact⟨_,h1⟩
 |mpl e sz c=>obtain⟨L,_,_,h1,_⟩:=M.own n e sz c h;exact⟨_,h1⟩
 |raw k=>obtain⟨_,_,h1,_⟩:=M.rwo n k h;exact⟨_,h1⟩
theorem Mt.ez(M:Mt Ω G E ι γ Y J)(x:Nat){n:Nat}{o:SO}(h:find Y.h n=some o):ι n≠J.tok x:=fun e=>by
 obtain⟨q,hq⟩:=M.live h (by rw[e];exact mS J x);rw[e,M.wf.tok x]at hq;cases hq
theorem Mt.ES(M:Mt Ω G E ι γ Y J)(x:Nat){n e sz:Nat}{c:X}(h:find Y.h n=some (.au e sz c))(hi:ι n≠ []):γ n≠J.tok x:=fun e=>by
 have:=M.old n _ _ _ h hi x (J.c x) [] e;omega
theorem iJ.mem{h:List (Nat×SO)}{q:OE}(H:iJ h ι γ J q): ∃e,J.m q.u=some (.row q.g e q.es)∧q.u≠ []∧(∀k o,find h k=some o→ι k≠q.u)∧(∀k e sz c,find h k=some (.au e sz c)→ι k≠ []→γ k≠q.g)∧ ∀y k r,q.g=(y+1)::k::r→k<J.c y:=by
 grind
theorem Mt.cr(M:Mt Ω G E ι γ Y J)(x:Nat){q:OE}(H:iJ Y.h ι γ J q):J.tok x≠q.u∧J.tok x≠q.g:=by
 obtain⟨e,h1,_,_,_,h5⟩:=H.mem;refine⟨fun e2=> ?_,fun e2=> ?_⟩
 ·rw[←e2,M.wf.tok x]at h1;cases h1
 ·have:=h5 x (J.c x) [] e2.symm;omega
theorem iJ.kill{q:OE}{n:Nat}(M:Mt Ω G E ι γ Y J)(H:iJ (Y.kill n).h ι γ J q): ∃q',iJ Y.h ι γ J q'∧q'.u=q.u∧q'.g=q.g:=by
 obtain⟨n',e,sz,c,L,h1,h2,h3,hq⟩:=H;obtain⟨_,o,ho,h⟩:=bI h1;cases o<;>simp only[ib,reduceCtorEq]at h;cases h;obtain⟨L1,k1,k2,k3,k4⟩:=M.own n' _ _ _ ho;rw[k3]at h2;have hL:L1.map (OE.en sz)=L.map (OE.en sz):=by injection h2 with h2;injection h2
 obtain⟨i,hi⟩:=List.getElem?_of_mem hq;have e1:(L1.map (OE.en sz))[i]?=some (q.en sz):=by rw[hL,Dz,hi];rfl
 rw[Dz,Mz]at e1;obtain⟨q',hq',he⟩:=e1;have hu:q'.u=q.u:=by simp only[OE.en,Prod.mk.injEq,D.sl.injEq]at he;exact he.2.1
 have m1:=(k4.1 q' (Lz hq')).2.2.1;have m2:=(h3.1 q hq).2.2.1;rw[hu,m2]at m1;have hg:q'.g=q.g:=by injection m1 with m1;injection m1 with m1;exact m1.symm
 exact⟨q',⟨n',_,_,_,L1,ho,k3,k4,Lz hq'⟩,hu,hg⟩
theorem Mt.KZ(M:Mt Ω G E ι γ Y J){x nm:Nat}(F:Y.free nm){vs:List SV}{ds:List D}(hv:bz G E ι Y.h vs ds)(hf: ∀v∈vs,v.ja nm=false):
  Mt Ω G E (fun n=>if n=nm then J.tok x else ι n) (fun n=>if n=nm then []else γ n) (Y.add x nm (.box vs) (.ptr nm 0)) (J.new x (.box ds) (.ptr (J.tok x) 0)):=by
 refine M.add F (t:=J.tok x) (g:= []) (M.wf.new x _ _) (fun j hj=>by rw[fc,if_neg hj]) (fun n o' h hi=>by rw[cC,if_neg (M.ez x h)]) (fun y=>by rw[pC];split<;>omega) (fun t q h=>by rw[cC,if_neg (fun e=>by rw[e,M.wf.tok x]at h;cases h)];exact h) ?_ ⟨ds,mS J x,by rw[cC,if_pos rfl],hv.fresh hf⟩ (fun _ n o h=>M.ez x h) (fun q hq=>⟨(M.cr x hq).1,fun _ h=>(by obtain⟨_,_,_,h⟩:=h;cases h),by rw[cC,if_neg (Ne.symm (M.cr x hq).1)]⟩);rw[fc,if_pos rfl];have:=VR.ptr (G:=G) (E:=E) (ι:=fun n=>if n=nm then J.tok x else ι n) (h:=b_ nm (.box vs) Y.h) (n:=nm) (o:=0) (vs:=vs) (by rw[bC,if_pos rfl]);simpa using this
theorem Mt.L_(M:Mt Ω G E ι γ Y J){x nm:Nat}(F:Y.free nm):
  Mt Ω G E (fun n=>if n=nm then J.tok x else ι n) (fun n=>if n=nm then []else γ n) (Y.add x nm (.map (.q (.list []))) (.mp nm)) (J.new x (.map []) (.mp (J.tok x))):=by
 refine M.add F (t:=J.tok x) (g:= []) (M.wf.new x _ _) (fun j hj=>by rw[fc,if_neg hj]) (fun n o' h hi=>by rw[cC,if_neg (M.ez x h)]) (fun y=>by rw[pC];split<;>omega) (fun t q h=>by rw[cC,if_neg (fun e=>by rw[e,M.wf.tok x]at h;cases h)];exact h) ?_ ⟨[],rfl,mS J x,by rw[cC,if_pos rfl]⟩ (fun _ n o h=>M.ez x h) (fun q hq=>⟨(M.cr x hq).1,fun _ h=>(by obtain⟨_,_,_,h⟩:=h;cases h),by rw[cC,if_neg (Ne.symm (M.cr x hq).1)]⟩);rw[fc];have:=VR.mp (G:=G) (E:=E) (ι:=fun n=>if n=nm then J.tok x else ι n) (h:=b_ nm (.map (.q (.list []))) Y.h) (n:=nm) (o:= .map (.q (.list []))) (by rw[bC,if_pos rfl]) rfl
 grind
theorem Mt.Mn(M:Mt Ω G E ι γ Y J){x nm:Nat}(e sz:Nat)(F:Y.free nm)(hn: ∀k e sz c,find Y.h k≠some (.mpl e sz c)):
  Mt Ω G E (fun n=>if n=nm then J.tok x else ι n) (fun n=>if n=nm then []else γ n) (Y.add x nm (.mpl e sz (.q (.list []))) (.mp nm)) (J.new x (.map []) (.mp (J.tok x))):=by
 refine M.add F (t:=J.tok x) (g:= []) (M.wf.new x _ _) (fun j hj=>by rw[fc,if_neg hj]) (fun n o' h hi=>by rw[cC,if_neg (M.ez x h)]) (fun y=>by rw[pC];split<;>omega) (fun t q h=>by rw[cC,if_neg (fun e=>by rw[e,M.wf.tok x]at h;cases h)];exact h) ?_ ⟨rfl,mS J x,by rw[cC,if_pos rfl],hn⟩ (fun _ n o h=>M.ez x h) (fun q hq=>⟨(M.cr x hq).1,fun _ h=>(by obtain⟨_,_,_,h⟩:=h;cases h),by rw[cC,if_neg (Ne.symm (M.cr x hq).1)]⟩);rw[fc];have:=VR.mp (G:=G) (E:=E) (ι:=fun n=>if n=nm then J.tok x else ι n) (h:=b_ nm (.mpl e sz (.q (.list []))) Y.h) (n:=nm) (o:= .mpl e sz (.q (.list []))) (by rw[bC,if_pos rfl]) rfl
 grind
theorem Mt.nh(M:Mt Ω G E ι γ Y J){x nm e sz:Nat}{c:X}(F:Y.free nm){es:List (List D)}(hc:X.ev G E c=some (.list es))(hr:aO sz es=true){J':St}{g:Tok}(W:WF J')
  (hs:J'.s=(J.new x (.row g e es) (.sl (J.tok x) sz 0 es.length none)).s) (hm: ∀n o',find Y.h n=some o'→ι n≠ []→J'.m (ι n)=J.m (ι n)) (cB:J'.m (J.tok x)=some (.row g e es)) (nJ: ∀t q,J.m t=some (.raw q)→J'.m t=some (.raw q)) (hcc: ∀y,J'.c y=if y=x then J.c y+1 else J.c y)
  (hx: ∀q,iJ Y.h ι γ J q→g≠q.g∧J'.m q.u=J.m q.u)
  (hg:g=J.tok x∨(∀n e sz c,find Y.h n=some (.au e sz c)→ι n≠ []→γ n≠g)∧ ∀y k r,g=(y+1)::k::r→k<J.c y):
  Mt Ω G E (fun n=>if n=nm then J.tok x else ι n) (fun n=>if n=nm then g else γ n) (Y.add x nm (.au e sz c) (.gl nm sz)) J':=by
 refine M.add F (t:=J.tok x) (g:=g) W (fun j hj=>by rw[hs,fc,if_neg hj]) hm (fun y=>by rw[hcc];split<;>omega) nJ ?_ ⟨es,hc,hr, .inr ⟨mS J x,cB⟩,fun _ n e' sz' c' h hi=> ?_,fun _ y k r h=> ?_⟩ (fun _ n o h=>M.ez x h) (fun q hq=>⟨(M.cr x hq).1,fun _ _=>(hx q hq).1,(hx q hq).2⟩)
 ·rw[hs,fc];have:=VR.gl (G:=G) (E:=E) (ι:=fun n=>if n=nm then J.tok x else ι n) (h:=b_ nm (.au e sz c) Y.h) (n:=nm) (sz:=sz) (e:=e) (c:=c) (es:=es) (by rw[bC,if_pos rfl]) hc (by simp[mS])
  grind
 ·rcases hg with rfl|hg
  ·exact M.ES x h hi
  ·grind
 ·rw[hcc];rcases hg with rfl|hg
  ·simp only[St.tok,List.cons.injEq]at h;have:y=x:=by omega
   subst this;rw[if_pos rfl];omega
  ·have:=hg.2 y k r h;split<;>omega
theorem Mt.uz(M:Mt Ω G E ι γ Y J){x nm e sz:Nat}{c:X}(F:Y.free nm){es:List (List D)}(hc:X.ev G E c=some (.list es))(hr:aO sz es=true){t g:Tok}{d:D}
  (h:t= []∧es= []∧d= .nil∨t≠ []∧J.m t=some (.row g e es)∧d= .sl t sz 0 es.length none∧(∀n o,find Y.h n=some o→ι n≠t)∧(∀n e sz c,find Y.h n=some (.au e sz c)→ι n≠ []→γ n≠g)∧ ∀y k r,g=(y+1)::k::r→k<J.c y) (hx: ∀q,iJ Y.h ι γ J q→t≠q.u∧(t≠ []→g≠q.g)):
  Mt Ω G E (fun n=>if n=nm then t else ι n) (fun n=>if n=nm then g else γ n) (Y.add x nm (.au e sz c) (.gl nm sz)) (J.set x d):=by
 refine M.add F (t:=t) (g:=g) M.wf (fun j hj=>St.cN J d hj) (fun _ _ _ _=>rfl) (fun y=>Nat.le_refl _) (fun _ _ h=>h) ?_ ⟨es,hc,hr, ?_,fun ht=> ?_,fun ht=> ?_⟩ (fun ht=> ?_) (fun q hq=>⟨(hx q hq).1,fun ht _=>(hx q hq).2 ht,rfl⟩)
 ·rw[St.vj];rcases h with⟨h1,h2,rfl⟩|⟨h1,h2,rfl,_⟩
  ·exact .gln (by rw[bC,if_pos rfl]) (by simp[h1])
  ·have:=VR.gl (G:=G) (E:=E) (ι:=fun n=>if n=nm then t else ι n) (h:=b_ nm (.au e sz c) Y.h) (n:=nm) (sz:=sz) (e:=e) (c:=c) (es:=es) (by rw[bC,if_pos rfl]) hc (by simpa using h1);simpa using this
 ·rcases h with⟨h1,h2,_⟩|⟨h1,h2,_⟩
  ·exact .inl ⟨h1,h2⟩
  ·exact .inr ⟨h1,h2⟩
 ·rcases h with⟨h1,_⟩|⟨_,_,_,_,h2,_⟩
  ·exact absurd h1 ht
  ·exact h2
 ·rcases h with⟨h1,_⟩|⟨_,_,_,_,_,h2⟩
  ·exact absurd h1 ht
  ·exact h2
 ·rcases h with⟨h1,_⟩|⟨_,_,_,h2,_⟩
  ·exact absurd h1 ht
  ·exact h2
theorem VR.write{h:List (Nat×SO)}{v:SV}{d:D}(H:VR G E ι h v d){n:Nat}{o o':SO}(hf:find h n=some o)(hoo:SO.cZ G E E o o'):VR G E ι (b_ n o' h) v d:=
 H.mono (fun _ _ h=>h) fun k hk=>by
  by_cases hkn:k=n
  ·subst hkn;exact⟨rfl,fun q hq=>⟨o',by rw[bC,if_pos rfl],by rw[hf]at hq;cases hq;exact hoo⟩⟩
  ·exact⟨rfl,Lk.same (fun _ _ h=>h) (by rw[bC,if_neg hkn])⟩
theorem Mt.write(M:Mt Ω G E ι γ Y J){n:Nat}{o o':SO}{q:HO}{J':St}(hf:find Y.h n=some o)(hi:ι n≠ [])(W:WF J')(hs:J'.s=J.s)(hc:J'.c=J.c)(cB:J'.m (ι n)=some q)
  (hm: ∀k o',k≠n→find Y.h k=some o'→ι k≠ []→J'.m (ι k)=J.m (ι k))
  (nJ: ∀t q,J.m t=some (.raw q)→t≠ι n→J'.m t=some (.raw q)) (Xu: ∀q,J.m (ι n)≠some (.raw q)) (hoo:SO.cZ G E E o o') (Gc: ∀q,iJ Y.h ι γ J q→J'.m q.u=J.m q.u)
  (ho:match o' with
   | .box vs=> ∃ds,q= .box ds∧bz G E ι Y.h vs ds
   | .au e sz c=> ∃es,X.ev G E c=some (.list es)∧aO sz es=true∧q= .row (γ n) e es
   | .map c=> ∃es,X.ev G E c=some (.list (ao es))∧q= .map es
   | .mpl .. =>False
   | .raw k=>False):Mt Ω G E ι γ {Y with h:=b_ n o' Y.h} J':=by
 have hf': ∀k,find (b_ n o' Y.h) k=if k=n then some o' else find Y.h k:=fun k=>bC n k o' Y.h
 have back: ∀k e sz c,find (b_ n o' Y.h) k=some (.au e sz c)→ ∃c0,find Y.h k=some (.au e sz c0):=fun k e sz c h=>by
  rw[hf']at h;by_cases hk:k=n
  ·rw[if_pos hk]at h;cases h;cases o<;>simp only[SO.cZ]at hoo
   grind
  ·rw[if_neg hk]at h;exact⟨c,h⟩
 have cY: ∀k p,find (b_ n o' Y.h) k=some p→ ∃p0,find Y.h k=some p0:=fun k p h=>by
  rw[hf']at h;by_cases hk:k=n
  ·exact⟨o,by rw[hk];exact hf⟩
  ·rw[if_neg hk]at h;exact⟨p,h⟩
 refine⟨fun i v hv=>by rw[hs];exact(M.slot i v hv).write hf hoo,fun k vs hk=> ?_,fun k e sz c hk=> ?_,fun k c hk=> ?_,fun k e sz c hk=> ?_,fun a b e e' sz sz' c c' h1 h2=> ?_,fun k kk hk=> ?_,fun a b p p' h1 h2=> ?_,fun a b e e' sz sz' c c' h1 h2=> ?_,W,fun k e sz c hk=> ?_,M.nv,fun t ht=>nJ t _ (M.con t ht) fun e=>Xu _ (e▸M.con t ht)⟩
 ·rw[hf']at hk;by_cases hkn:k=n
  ·rw[if_pos hkn]at hk;cases hk;obtain⟨ds,rfl,h2⟩:=ho;exact⟨ds,by rw[hkn];exact hi,by rw[hkn];exact cB,h2.1,fun i v d hv hd=>(h2.2 i v d hv hd).write hf hoo⟩
  ·rw[if_neg hkn]at hk;obtain⟨ds,h1,h2,h3⟩:=M.box k vs hk;exact⟨ds,h1,by rw[hm k _ hkn hk h1];exact h2,h3.1,fun i v d hv hd=>(h3.2 i v d hv hd).write hf hoo⟩
 ·rw[hf']at hk;by_cases hkn:k=n
  ·rw[if_pos hkn]at hk;cases hk
   grind
  ·rw[if_neg hkn]at hk;obtain⟨es,h1,h2,h3⟩:=M.au k e sz c hk;refine⟨es,h1,h2, ?_⟩;rcases h3 with h3|⟨h3,h4⟩
   ·exact .inl h3
   ·exact .inr ⟨h3,by rw[hm k _ hkn hk h3];exact h4⟩
 ·rw[hf']at hk;by_cases hkn:k=n
  ·rw[if_pos hkn]at hk;cases hk;obtain⟨es,h1,rfl⟩:=ho;exact⟨es,h1,by rw[hkn];exact hi,by rw[hkn];exact cB⟩
  ·rw[if_neg hkn]at hk;obtain⟨es,h1,h2,h3⟩:=M.mpo k c hk;exact⟨es,h1,h2,by rw[hm k _ hkn hk h2];exact h3⟩
 ·rw[hf']at hk;by_cases hkn:k=n
  ·rw[if_pos hkn]at hk;cases hk;exact ho.elim
  ·rw[if_neg hkn]at hk;obtain⟨L,h1,h2,h3,h4⟩:=M.own k e sz c hk;refine⟨L,h1,h2,by rw[hm k _ hkn hk h2];exact h3,fun q hq=> ?_,h4.2⟩;refine(h4.1 q hq).lE (Gc q ⟨k,e,sz,c,L,hk,h3,h4,hq⟩) (fun j o2 hj=> ?_) (fun j e' sz' c' hj=> ?_) fun y=>by rw[hc];exact Nat.le_refl _
   ·obtain⟨p0,g1⟩:=cY j o2 hj;exact(h4.1 q hq).2.2.2.1 j p0 g1
   ·obtain⟨c0,g1⟩:=back j _ _ _ hj;exact(h4.1 q hq).2.2.2.2.1 j _ _ c0 g1
 ·have nm: ∀{k e sz c},find (b_ n o' Y.h) k=some (.mpl e sz c)→find Y.h k=some (.mpl e sz c):=fun{k e sz c} h=>by
   rw[hf']at h;by_cases hk:k=n
   ·rw[if_pos hk]at h;cases h;exact ho.elim
   ·rw[if_neg hk]at h;exact h
  exact M.one a b _ _ _ _ _ _ (nm h1) (nm h2)
 ·rw[hf']at hk;by_cases hkn:k=n
  ·rw[if_pos hkn]at hk;cases hk;exact ho.elim
  ·rw[if_neg hkn]at hk;obtain⟨h1,h2,h3⟩:=M.rwo k kk hk;exact⟨h1,h2,by rw[hm k _ hkn hk h2];exact h3⟩
 ·obtain⟨p0,g1⟩:=cY a p h1;obtain⟨p1,g2⟩:=cY b p' h2;exact M.inj a b p0 p1 g1 g2
 ·obtain⟨c0,g1⟩:=back a e sz c h1;obtain⟨c1,g2⟩:=back b e' sz' c' h2;exact M.gZ a b e e' sz sz' c0 c1 g1 g2
 ·obtain⟨c0,g1⟩:=back k e sz c hk;rw[hc];exact M.old k e sz c0 g1
theorem lq(M:Mt Ω G E ι γ Y J){v:SV}{d dc:D}{cb:X}{es:List (List D)}(H:VR G E ι Y.h v d)(hc:tP Y.h v=some cb)(he:X.ev G E cb=some dc)(hl:lW dc=some es):d.elems J.m=some es:=by
 unfold tP at hc;split at hc
 ·cases hc;obtain⟨h1,h2⟩:=H.ca;rw[h1]at he;cases he;cases d<;>simp only[lW]at hl<;>first|exact hl|cases hl
 ·obtain⟨e0,sz0,hf⟩:=cj hc;obtain⟨es',h1,h2,h3⟩:=M.au _ _ _ _ hf;rw[h1]at he;cases he;cases hl;cases H with
  |gln g1 g2=>
   rcases h3 with⟨_,rfl⟩|⟨h3,_⟩
   ·rfl
   ·grind
  |gl g1 g2 g3=>
   rw[hf]at g1;cases g1;rw[h1]at g2;cases g2;rcases h3 with⟨h3,_⟩|⟨_,h3⟩
   ·grind
   ·simp only[D.elems,h3];rw[if_pos ⟨by omega,bU h2⟩];simp
 ·obtain⟨c,hc',he'⟩:=Mz.1 hc;subst he';obtain⟨e0,sz0,hf⟩:=cj hc';obtain⟨es',h1,h2,h3⟩:=M.au _ _ _ _ hf;obtain⟨q,z,k1,k2,k3,rfl⟩:=eY h1 he;cases hl;cases H with
  |gsn g1 g2 g3=>
   rcases h3 with⟨_,rfl⟩|⟨h3,_⟩
   ·simp[D.elems]
   ·grind
  |gs g1 g2 g3 g4 g5 g6=>
   rw[hf]at g1;cases g1;rw[k1]at g4;cases g4;rcases h3 with⟨h3,_⟩|⟨_,h3⟩
   ·grind
   ·simp only[D.elems,h3];rw[if_pos ⟨by omega,bU h2⟩];simp
 ·obtain⟨c,hc',he'⟩:=Mz.1 hc;subst he';obtain⟨e0,sz0,hf⟩:=cj hc';obtain⟨es',h1,h2,h3⟩:=M.au _ _ _ _ hf;obtain⟨q,z,k1,k2,k3,rfl⟩:=ym h1 he;cases hl;cases H with
  |gtn g1 g2 g3=>
   rcases h3 with⟨_,rfl⟩|⟨h3,_⟩
   ·simp[D.elems]
   ·grind
  |gt g1 g2 g3 g4 g5 g6=>
   rw[hf]at g1;cases g1;rw[h1]at g2;cases g2;rw[k1]at g4;cases g4;rcases h3 with⟨h3,_⟩|⟨_,h3⟩
   ·grind
   ·simp only[D.elems,h3];rw[if_pos ⟨by omega,bU h2⟩];exact congrArg some (List.take_of_length_le (by simp))
 ·cases hc
theorem F9{x n:Nat}(F:Y.free x):(Y.kill n).free x:=by
 have un: ∀v:SV,v.ja x=false→(rP n v).ja x=false:=fun v hv=>by unfold rP;cases v.ja n<;>simp[hv,SV.ja]
 refine⟨?_,fun i v hv=> ?_,fun k vs hk v hv=> ?_⟩
 ·rw[nc,F.1];simp
 ·simp only[Sy.kill,d_]at hv;obtain⟨u,hu,rfl⟩:=Mz.1 hv;exact un u (F.2.1 i u hu)
 ·obtain⟨_,o,ho,h⟩:=bI hk;cases o<;>simp only[ib,reduceCtorEq,SO.box.injEq]at h;subst h;obtain⟨u,hu,rfl⟩:=List.mem_map.1 hv;exact un u (F.2.2 k _ ho u hu)
end
end
section
section
variable {Ω : bO} {G : FP} {E : List D} {ι γ : Nat → Tok} {Y : Sy} {J : St}
theorem Eb{size:Nat}{a b:D}{d:D}(h:(XK.app size).run G [a,b]=some d): ∃x y,lW a=some x∧lW b=some y∧aO size y=true∧x.length+y.length≤aC∧d= .list (x++y):=by
 simp only[XK.run,Bz]at h
 grind
theorem jT{size:Nat}{a b:List (List D)}(h:aO size a=true)(k:aO size b=true):aO size (a++b)=true:=by
 simp only[aO]at*
 grind
theorem FH{h:List (Nat×SO)}{N:Nat}{e:X}{ds:List D}(he:X.ev G E e=some (.agg ds))(hl:ds.length=N)(hn:ds.all D.aM=true):bz G E ι h (kF N e) ds:=by
 refine⟨by simp[kF,hl],fun i v c hv hc=> ?_⟩;have hi:=(Gz.1 hc).1;simp only[kF,Dz,List.getElem?_range (show i<N by omega),Pz,Jz]at hv;subst hv
 have hok:ds.all D.gK=true:=Tz.2 fun d hd=>by
  have:=Tz.1 hn d hd;cases d<;>first|rfl|cases this
 refine .x ?_ (mH (Tz.1 hn _ (Lz hc)));simp only[X.ev,X.ba,he];exact(if_pos ⟨hl,hok,hn⟩).trans hc
theorem GJ{p:D→Bool}{xs ds:List D}{o:Nat}(h:xs.all p=true)(k:ds.all p=true):(putAt xs o ds).all p=true:=by
 simp only[putAt]
 grind
theorem Mt.mJ(M:Mt Ω G E ι γ Y J){n:Nat}{o:SO}(hf:find Y.h n=some o){q:OE}(H:iJ Y.h ι γ J q):q.u≠ι n:=fun e=>by
 obtain⟨_,_,_,h,_⟩:=H.mem;exact h n o hf e.symm
theorem lI{q:OE}{g:Tok}{k:Nat}{e:Nat}(h:J.m q.u=some (.row q.g e q.es))(hg:q.g≠g):HO.eB g k (J.m q.u)=J.m q.u:=by
 rw[h];simp only[HO.eB];rw[if_neg fun hh=>hg hh.1]
theorem Mt.Ns(M:Mt Ω G E ι γ Y J){m o:Nat}{us vs:List SV}{xs ds:List D}(hf:find Y.h m=some (.box us))(k1:ι m≠ [])(k2:J.m (ι m)=some (.box xs))(k3:bz G E ι Y.h us xs)(hv:bz G E ι Y.h vs ds)(ho:o+vs.length≤us.length):
  Mt Ω G E ι γ {Y with h:=b_ m (.box (us.take o++vs++us.drop (o+vs.length))) Y.h} (J.put (ι m) (some (.box (putAt xs o ds)))):=by
 refine M.write (o:= .box us) (q:= .box (putAt xs o ds)) hf k1 (M.wf.put (by rw[k2];simp)) rfl rfl (by simp[St.put]) (fun k o' hk hfk hik=> ?_) (fun t q h hne=>by simp only[St.put,if_neg hne];exact h) (fun q h=>by rw[k2]at h;cases h) (by simp only[SO.cZ,List.length_append,List.length_take,List.length_drop];omega) (fun q hq=>by simp only[St.put,if_neg (M.mJ hf hq)]) ⟨_,rfl,xA k3 hv⟩;have:ι k≠ι m:=fun e=>hk (M.inj k m _ _ hfk hf e hik);simp[St.put,this]
theorem vy(M:Mt Ω G E ι γ Y J){n:Nat}{g:Bool}{va vv:SV}{da dv:D}{Y':Sy}{O:List X}(ha:VR G E ι Y.h va da)(hvv:VR G E ι Y.h vv dv)(hs:kZ n g va vv Y=some (Y',O))(hO: ∀e∈O,∃d,X.ev G E e=some d):
  ∃J',jV n da dv J=some J'∧Mt Ω G E ι γ Y' J':=by
 unfold kZ at hs;split at hs
 ·rename_i m o;split at hs
  ·rename_i us hf;rw[Bz]at hs;obtain⟨⟨vs,O'⟩,hc,hs⟩:=hs;split at hs
   ·rename_i ho;cases hs;obtain⟨h1,h2,h3⟩:=im hvv hc hO;obtain⟨xs,k1,k2,k3⟩:=M.box m us hf;have hvl:vs.length=n:=by rw[h3.1,h1]
    cases ha;refine⟨_,by simp only[jV,k2];rw[if_pos ⟨h1,by rw[←k3.1];exact ho,h2⟩], ?_⟩;have:=M.Ns (o:=o) hf k1 k2 k3 h3 (by omega)
    grind
   ·cases hs
  ·cases hs
 ·rename_i m o;split at hs
  ·rename_i us hf;rw[Bz]at hs;obtain⟨⟨vs,O'⟩,hc,hs⟩:=hs;split at hs
   ·rename_i ho;cases hs;obtain⟨h1,h2,h3⟩:=im hvv hc hO;obtain⟨xs,k1,k2,k3⟩:=M.box m us hf;have hvl:vs.length=n:=by rw[h3.1,h1]
    cases ha;refine⟨_,by simp only[jV,k2];rw[if_pos ⟨trivial,h1,by rw[←k3.1];omega,h2⟩], ?_⟩;have:=M.Ns (o:=o) hf k1 k2 k3 h3 (by omega)
    grind
   ·cases hs
  ·cases hs
 ·rename_i m o c s i j;split at hs
  ·rename_i us hf;simp only[Bz]at hs;obtain⟨xs,hx,x,hxv,hs⟩:=hs;split at hs
   ·rename_i ho;cases hs;obtain⟨d',hd'⟩:=hO _ (List.mem_singleton.2 rfl);obtain⟨ds0,a1,a2⟩:=aP hd';simp only[X.ba,Bz,Mz]at a1;obtain⟨dc,b1,r1,⟨di,b2,r2,⟨dx,b3,r3,b4,rfl⟩,rfl⟩,rfl⟩:=a1;cases b4;obtain⟨zs,k1,k2,k3⟩:=M.box m us hf;cases ha with
    |dp hf2 hiv h0 hz hl=>
     rename_i z;rw[hiv]at b2;cases b2;obtain⟨ws,c1,c2⟩:=aP b1;simp only[XK.run]at c2;split at c2<;>cases c2;have vZ:=(k3.drop o).take (c*s);obtain rfl:=gu vZ hx c1;obtain rfl:=bJ hvv hxv b3;have hkl:=k3.1;simp only[XK.run]at a2;split at a2
     ·rename_i bc;cases a2;obtain⟨_,_,q3,q4,q5,q6,q7,q8⟩:=bc
      have hzs:z.toNat*s+s≤c*s:=by
       have:(z.toNat+1)*s≤c*s:=Nat.mul_le_mul_right _ (by omega);rw[Nat.add_mul]at this;omega
      have hsl:((zs.drop o).take (c*s)).length=c*s:=by simp;omega
      have hpl:(putAt ((zs.drop o).take (c*s)) (z.toNat*s+j) dx.cells).length=c*s:=by rw[eX (by omega)];exact hsl
      have Iy:=FH (ι:=ι) (h:=Y.h) hd' hpl (GJ q8 q7);have hcl:(kF (c*s) (.mk (.seta c s j n) [.mk .agg xs,i,x])).length=c*s:=by simp[kF]
      have:=M.Ns (o:=o) hf k1 k2 k3 Iy (by rw[hcl];exact ho);rw[hcl]at this;refine⟨_, ?_,this⟩;simp only[jV,k2];rw[if_pos ⟨q5,by omega,q6⟩];congr 3;refine congrArg HO.box (List.ext_getElem? fun p=> ?_);rw[gG (show o+z.toNat*s+j+dx.cells.length≤zs.length by omega),gG (show o+(putAt ((zs.drop o).take (c*s)) (z.toNat*s+j) dx.cells).length≤zs.length by rw[hpl];omega),hpl];by_cases hp:o≤p∧p<o+c*s
      ·rw[if_pos hp,gG (by omega)];by_cases hp2:o+z.toNat*s+j≤p∧p<o+z.toNat*s+j+dx.cells.length
       ·rw[if_pos hp2,if_pos (by omega)];congr 1;omega
       ·rw[if_neg hp2,if_neg (by omega),List.getElem?_take_of_lt (by omega),List.getElem?_drop];congr 1;omega
      ·rw[if_neg hp,if_neg (by omega)]
     ·cases a2
   ·cases hs
  ·cases hs
 ·rename_i m s i j;split at hs
  ·rename_i t sz c hf;split at hs
   ·rename_i hss;subst hss;obtain⟨xe,hx,he⟩:=Mz.1 hs;cases he;obtain⟨d',hd'⟩:=hO _ (List.mem_singleton.2 rfl);obtain⟨ds,a1,a2⟩:=aP hd';simp only[X.ba,Bz,Mz]at a1;obtain⟨dc,b1,r1,⟨di,b2,r2,⟨dx,b3,r3,b4,rfl⟩,rfl⟩,rfl⟩:=a1;cases b4;obtain⟨es,k1,k2,k3⟩:=M.au _ _ _ _ hf;rw[k1]at b1;cases b1;cases ha with
    |ep g1 g2 g3 g4 g5 g6=>
     rw[hf]at g1;cases g1;rw[k1]at g2;cases g2;rename_i kd z;rw[g4]at b2;cases b2;rcases k3 with⟨k3,_⟩|⟨_,k3⟩
     ·exact absurd k3 g3
     ·have hv:=bJ hvv hx b3;subst hv;simp only[XK.run]at a2;rw[if_neg (by omega),Bz]at a2;obtain⟨cc,c1,c2⟩:=a2;split at c2
      ·rename_i hcc;cases c2;obtain⟨q1,q2,q3,q4,q5⟩:=hcc;have hlen:cc.length=sz:=q3;refine⟨(J.aG (γ m) z.toNat).put (ι m) (some (.row (γ m) t (es.set z.toNat (putAt cc j dx.cells)))), ?_, ?_⟩
       ·simp only[jV,k3,c1,Oz];rw[if_pos ⟨q1,q2,q3,q4⟩]
       ·refine M.write (o:= .au t sz c) (q:= .row (γ m) t (es.set z.toNat (putAt cc j dx.cells))) hf g3 ?_ rfl rfl (by simp[St.put]) (fun k o' hk hfk hik=> ?_) (fun t q h hne=>by simp only[St.put,if_neg hne,St.aG];rw[h];rfl) (fun q h=>by rw[k3]at h;cases h) ⟨rfl,rfl,fun es' he'=>⟨_,hd',by rw[k1]at he';cases he';simp⟩⟩ (fun q hq=>by obtain⟨_,p1,_,_,p4,_⟩:=hq.mem;simp only[St.put,if_neg (M.mJ hf hq),St.aG];exact lI p1 (Ne.symm (p4 m _ _ _ hf g3))) ⟨_,hd', ?_,rfl⟩
        ·intro x k r hkk
         have hne:(x+1)::k::r≠ι m:=fun e=>by
          have:=M.wf x k r hkk;rw[e,k3]at this;cases this
         simp only[St.put,if_neg hne];exact M.wf.aG _ _ x k r hkk
        ·have hne:ι k≠ι m:=fun e=>hk (M.inj k m _ _ hfk hf e hik);simp only[St.put,if_neg hne,St.aG];cases o' with
         |box vs'=>obtain⟨ds',_,e1,_⟩:=M.box k vs' hfk;rw[e1];rfl
         |map c'=>obtain⟨_,_,_,e1⟩:=M.mpo k c' hfk;rw[e1];rfl
         |mpl e' sz' c'=>obtain⟨_,_,_,e1,_⟩:=M.own k e' sz' c' hfk;rw[e1];rfl
         |raw kk=>obtain⟨_,_,e1,_⟩:=M.rwo k kk hfk;rw[e1];rfl
         |au e' sz' c'=>
          obtain⟨es',_,_,e1⟩:=M.au k _ _ _ hfk;rcases e1 with⟨e1,_⟩|⟨_,e1⟩
          ·exact absurd e1 hik
          ·rw[e1];simp only[HO.eB];rw[if_neg fun hh=>hk (M.gZ k m _ _ _ _ _ _ hfk hf hik g3 hh.1)]
        ·refine Tz.2 fun q hq=> ?_;rcases List.mem_or_eq_of_mem_set hq with hq|rfl
         ·exact Tz.1 k2 q hq
         ·have hl:(putAt cc j dx.cells).length=cc.length:=eX (by omega);have Ix:=Tz.1 k2 cc (Lz c1);simp only[Az,Tz]at Ix q5;simp only[Az,Tz,beq_iff_eq];refine⟨by rw[hl];exact q3,fun z hz=> ?_⟩;unfold putAt at hz;simp only[List.mem_append]at hz;rcases hz with(hz|hz)|hz
          ·exact Ix.2 z (List.mem_of_mem_take hz)
          ·exact q5 z hz
          ·exact Ix.2 z (List.mem_of_mem_drop hz)
      ·cases c2
   ·cases hs
  ·cases hs
 ·cases hs
theorem zA(M1:Mt Ω G E ι γ Y J){x t size nm:Nat}(F:Y.free nm){va vb:SV}{da db:D}{Y':Sy}{O:List X}(ha:VR G E ι Y.h va da)(hb:VR G E ι Y.h vb db)(hs:q9 x t size va vb Y nm=some (Y',O))(hO: ∀e∈O,∃d,X.ev G E e=some d):
  ∃J' ι' γ',tx x t size da db J=some J'∧Mt Ω G E ι' γ' Y' J':=by
 unfold q9 at hs;rw[Bz]at hs;obtain⟨cb,hcb,hs⟩:=hs;split at hs
 ·cases hs;obtain⟨h1,_⟩:=ha.ca;obtain rfl:da= .nil:=(Option.some.inj (show some D.nil=some da from h1)).symm;obtain⟨d',hd'⟩:=hO _ (List.mem_singleton.2 rfl);obtain⟨ds,a1,a2⟩:=aP hd';obtain⟨p,q,rfl,a3,a4⟩:=mw a1;cases a3;obtain⟨x0,y,e1,e2,e3,e4,rfl⟩:=Eb a2;cases e1;simp only[List.nil_append,List.length_nil,Nat.zero_add]at hd' e4;have hel:=lq M1 hb hcb a4 e2;simp only[tx,hel,Oz];rw[if_neg (by rw[bU e3];simp)];by_cases hy:y.isEmpty=true
  ·rw[if_pos hy];have hy0:y= []:=List.isEmpty_iff.1 hy;subst hy0;exact⟨_,_,_,rfl,M1.uz F (t:= []) (g:= []) hd' rfl (.inl ⟨rfl,rfl,rfl⟩) fun q hq=>⟨Ne.symm hq.mem.choose_spec.2.1,fun h=>absurd rfl h⟩⟩
  ·rw[if_neg hy,if_pos e4];exact⟨_,_,_,rfl,M1.nh F hd' e3 (M1.wf.new x _ _) rfl (fun n o' h hi=>by rw[cC,if_neg (M1.ez x h)]) (by rw[cC,if_pos rfl]) (nu (by first|exact M1.wf|exact M2.wf) x _ _) (fun y=>pC ..) (fun q hq=>⟨(M1.cr x hq).2,by rw[cC,if_neg (Ne.symm (M1.cr x hq).1)]⟩) (.inl rfl)⟩
 ·rename_i n s;split at hs
  ·rename_i t' s' c hf;split at hs
   ·rename_i bc;obtain⟨rfl,rfl,rfl⟩:=bc;cases hs;obtain⟨d',hd'⟩:=hO _ (List.mem_singleton.2 rfl);obtain⟨ds,a1,a2⟩:=aP hd';obtain⟨p,q,rfl,a3,a4⟩:=mw a1;obtain⟨x0,y,e1,e2,e3,e4,rfl⟩:=Eb a2;obtain⟨es,k1,k2,k3⟩:=M1.au _ _ _ _ hf;rw[k1]at a3;cases a3;obtain rfl:es=x0:=Option.some.inj e1;have hel:=lq M1 hb hcb a4 e2;obtain⟨M2,F2⟩:=M1.kill n;have F3:(Y.kill n).free nm:=F9 F
    have back: ∀k o,find (Y.kill n).h k=some o→k≠n∧ ∃o',find Y.h k=some o'∧ ∀e sz c,o= .au e sz c→o'= .au e sz c:=fun k o h=>by
     obtain⟨h1,o1,h2,h3⟩:=bI h;refine⟨h1,o1,h2,fun e sz c ho=> ?_⟩;subst ho;cases o1<;>simp only[ib,reduceCtorEq]at h3
     grind
    have hne: ∀k o,find (Y.kill n).h k=some o→ι n≠ []→ι k≠ι n:=fun k o h hi e=>by
     obtain⟨h1,o',h2,_⟩:=back k o h;exact h1 (M1.inj k n o' _ h2 hf e (by rw[e];exact hi))
    have hgr:ι n≠ []→ ∀k e sz c,find (Y.kill n).h k=some (.au e sz c)→ι k≠ []→γ k≠γ n:=fun hi k e sz c h hk eg=>by
     obtain⟨h1,o',h2,h3⟩:=back k _ h;rw[h3 _ _ _ rfl]at h2;exact h1 (M1.gZ k n _ _ _ _ _ _ h2 hf hk hi eg)
    have hold:=fun hi=>M1.old n _ _ _ hf hi
    have II: ∀q,iJ (Y.kill n).h ι γ J q→ι n≠ []→ι n≠q.u∧(ι n≠ []→γ n≠q.g):=fun q hq hi=>by
     obtain⟨q',hq',h1,h2⟩:=hq.kill M1
     grind
    rcases k3 with⟨k3,rfl⟩|⟨k3,k4⟩
    ·obtain rfl:da= .nil:=by
      cases ha with
      |gln=>rfl
      |gl g1 g2 g3=>exact absurd k3 g3
     simp only[List.nil_append,List.length_nil,Nat.zero_add]at hd' e4;simp only[tx,hel,Oz];rw[if_neg (by rw[bU e3];simp)];by_cases hy:y.isEmpty=true
     ·rw[if_pos hy];have hy0:y= []:=List.isEmpty_iff.1 hy;subst hy0;exact⟨_,_,_,rfl,M2.uz F3 (t:= []) (g:= []) hd' rfl (.inl ⟨rfl,rfl,rfl⟩) fun q hq=>⟨Ne.symm hq.mem.choose_spec.2.1,fun h=>absurd rfl h⟩⟩
     ·rw[if_neg hy,if_pos e4];exact⟨_,_,_,rfl,M2.nh F3 hd' e3 (M2.wf.new x _ _) rfl (fun n o' h hi=>by rw[cC,if_neg (M2.ez x h)]) (by rw[cC,if_pos rfl]) (nu (by first|exact M1.wf|exact M2.wf) x _ _) (fun y=>pC ..) (fun q hq=>⟨(M2.cr x hq).2,by rw[cC,if_neg (Ne.symm (M2.cr x hq).1)]⟩) (.inl rfl)⟩
    ·obtain rfl:da= .sl (ι n) s' 0 es.length none:=by
      cases ha with
      |gln g1 g2=>exact absurd g2 k3
      |gl g1 g2 g3=>
       rw[hf]at g1;cases g1;rw[k1]at g2;cases g2;rfl
     simp only[tx,hel,Oz];rw[if_neg (by rw[bU e3];simp)];by_cases hy:y.isEmpty=true
     ·rw[if_pos hy];have hy0:y= []:=List.isEmpty_iff.1 hy;subst hy0;simp only[List.append_nil]at hd';exact⟨_,_,_,rfl,M2.uz F3 (t:=ι n) (g:=γ n) hd' k2 (.inr ⟨k3,k4,rfl,fun k o h=>hne k o h k3,fun k e sz c h hi=>hgr k3 k e sz c h hi,hold k3⟩) fun q hq=>II q hq k3⟩
     ·rw[if_neg hy];simp only[k4];rw[if_pos ⟨trivial,trivial,e4,by omega⟩];simp only[if_true,List.take_length]
      refine⟨_,_,_,rfl,M2.nh F3 (g:=γ n) hd' (jT k2 e3) ((M2.wf.aG _ _).new x _ _) ?_ (fun k o' h hi=> ?_) ?_ (fun t q h=>nu (M2.wf.aG _ _) x _ _ t q (by simp only[St.aG];rw[h];rfl)) (fun y=>pC ..) (fun q hq=>⟨(II q hq k3).2 k3,by
       obtain⟨_,p1,_⟩:=hq.mem;have hnt:q.u≠(J.aG (γ n) es.length).tok x:=Ne.symm (M2.cr x hq).1;rw[cC,if_neg hnt]
       exact lI p1 (Ne.symm ((II q hq k3).2 k3))⟩) (.inr ⟨fun k e sz c h hi=>hgr k3 k e sz c h hi,hold k3⟩)⟩
      ·rw[List.length_append];rfl
      ·have hnt:ι k≠(J.aG (γ n) es.length).tok x:=M2.ez x h;rw[cC,if_neg hnt];simp only[St.aG];cases o' with
       |box vs'=>obtain⟨ds',_,e1,_⟩:=M2.box k vs' h;rw[e1];rfl
       |map c'=>obtain⟨_,_,_,e1⟩:=M2.mpo k c' h;rw[e1];rfl
       |mpl e' sz' c'=>obtain⟨_,_,_,e1,_⟩:=M2.own k e' sz' c' h;rw[e1];rfl
       |raw kk=>obtain⟨_,_,e1,_⟩:=M2.rwo k kk h;rw[e1];rfl
       |au e' sz' c'=>
        obtain⟨es',_,_,e1⟩:=M2.au k _ _ _ h;rcases e1 with⟨e1,_⟩|⟨_,e1⟩
        ·exact absurd e1 hi
        ·rw[e1];simp only[HO.eB];rw[if_neg fun hh=>hgr k3 k _ _ _ h hi hh.1]
      ·exact(cC ..).trans (if_pos rfl)
   ·cases hs
  ·cases hs
 ·cases hs
theorem Mt.JL(M:Mt Ω G E ι γ Y J){n e sz:Nat}{c c':X}{es:List (List D)}(hf:find Y.h n=some (.au e sz c))(hc:X.ev G E c=some (.list es))(hc':X.ev G E c'=some (.list es)):
  Mt Ω G E ι γ {Y with h:=b_ n (.au e sz c') Y.h} J:=by
 have hf': ∀k,find (b_ n (.au e sz c') Y.h) k=if k=n then some (.au e sz c')else find Y.h k:=fun k=>bC n k _ Y.h
 have L: ∀k,Lk G E E Y.h (b_ n (.au e sz c') Y.h) k:=fun k o ho=>by
  by_cases hk:k=n
  ·rw[hk,hf]at ho;cases ho;exact⟨.au e sz c',by rw[hf',if_pos hk],(⟨rfl,rfl,fun es1 h1=>⟨es,hc',by rw[hc]at h1;cases h1;rfl⟩⟩:SO.cZ G E E (.au e sz c) (.au e sz c'))⟩
  ·refine Lk.same (fun _ _ h=>h) ?_ o ho;rw[hf',if_neg hk]
 have V: ∀{v d},VR G E ι Y.h v d→VR G E ι (b_ n (.au e sz c') Y.h) v d:=fun{v d} H=>H.mono (fun _ _ h=>h) fun k _=>⟨rfl,L k⟩;have old: ∀k o,find (b_ n (.au e sz c') Y.h) k=some o→k≠n→find Y.h k=some o:=fun k o h hk=>by rw[hf',if_neg hk]at h;exact h
 have cY: ∀k o,find (b_ n (.au e sz c') Y.h) k=some o→ ∃o0,find Y.h k=some o0:=fun k o h=>by
  by_cases hk:k=n
  ·exact⟨_,hk▸hf⟩
  ·exact⟨_,old k o h hk⟩
 have L9: ∀k e1 sz1 c1,find (b_ n (.au e sz c') Y.h) k=some (.au e1 sz1 c1)→ ∃c0,find Y.h k=some (.au e1 sz1 c0):=fun k e1 sz1 c1 h=>by
  by_cases hk:k=n
  ·rw[hf',if_pos hk]at h;cases h;exact⟨c,hk▸hf⟩
  ·exact⟨_,old k _ h hk⟩
 have T9: ∀k e1 sz1 c1,find (b_ n (.au e sz c') Y.h) k=some (.mpl e1 sz1 c1)→find Y.h k=some (.mpl e1 sz1 c1):=fun k e1 sz1 c1 h=>old k _ h fun hk=>by rw[hf',if_pos hk]at h;cases h
 refine⟨fun i v hv=>V (M.slot i v hv),fun k vs hk=> ?_,fun k e1 sz1 c1 hk=> ?_,fun k c1 hk=> ?_,fun k e1 sz1 c1 hk=> ?_,fun a b _ _ _ _ _ _ h1 h2=>M.one a b _ _ _ _ _ _ (T9 _ _ _ _ h1) (T9 _ _ _ _ h2),fun k q hk=> ?_,fun a b o o' h1 h2=> ?_,fun a b e1 e2 s1 s2 c1 c2 h1 h2=> ?_,M.wf,fun k e1 sz1 c1 hk=> ?_,M.nv,M.con⟩
 ·obtain⟨ds,h0,h1,h2,h3⟩:=M.box k vs (old k _ hk fun e1=>by rw[hf',if_pos e1]at hk;cases hk);exact⟨ds,h0,h1,h2,fun i v d hv hd=>V (h3 i v d hv hd)⟩
 ·by_cases hkn:k=n
  ·rw[hf',if_pos hkn]at hk;cases hk;obtain⟨es1,h1,h2,h3⟩:=M.au k _ _ _ (hkn▸hf);rw[hc]at h1;cases h1;exact⟨es,hc',h2,h3⟩
  ·exact M.au k _ _ _ (old k _ hk hkn)
 ·exact M.mpo k _ (old k _ hk fun e1=>by rw[hf',if_pos e1]at hk;cases hk)
 ·obtain⟨L1,h1,h2,h3,h4⟩:=M.own k _ _ _ (T9 _ _ _ _ hk);exact⟨L1,h1,h2,h3,fun q hq=>(h4.1 q hq).lE rfl (fun j o hj=>let⟨o0,h0⟩:=cY j o hj;(h4.1 q hq).2.2.2.1 j o0 h0) (fun j e sz c hj=>let⟨c0,h0⟩:=L9 j _ _ _ hj;(h4.1 q hq).2.2.2.2.1 j e sz c0 h0) fun _=>Nat.le_refl _,h4.2⟩
 ·exact M.rwo k _ (old k _ hk fun e1=>by rw[hf',if_pos e1]at hk;cases hk)
 ·obtain⟨o0,h0⟩:=cY a o h1;obtain⟨o1,h3⟩:=cY b o' h2;exact M.inj a b o0 o1 h0 h3
 ·obtain⟨c0,h0⟩:=L9 a _ _ _ h1;obtain⟨c3,h3⟩:=L9 b _ _ _ h2;exact M.gZ a b _ _ _ _ c0 c3 h0 h3
 ·obtain⟨c0,h0⟩:=L9 k _ _ _ hk;exact M.old k _ _ c0 h0
theorem Jo{d:D}(h:d.VC=true):d.eT=true:=by cases d<;>first|rfl|cases h
theorem uJ{d:D}(h:d.nV=true):d.aM=true:=by
 cases d
 case clo f xs=>
  simp only[D.nV,D.aM,Tz]at h⊢;exact fun x hx=>Jo (h x hx)
 all_goals first|rfl|cases h
theorem Mt.zk(M:Mt Ω G E ι γ Y J){n k' e sz lim:Nat}{c:X}{o':SO}(hf:find Y.h n=some (.au e sz c))(hfk:find Y.h k'=some o')(hk':k'≠n)(hik:ι k'≠ [])(g3:ι n≠ []):HO.eB (γ n) lim (J.m (ι k'))=J.m (ι k'):=by
 cases o' with
 |box vs=>obtain⟨ds,_,h1,_⟩:=M.box k' vs hfk;rw[h1];rfl
 |au e' sz' c'=>
  obtain⟨es1,_,_,h1⟩:=M.au k' _ _ _ hfk;rcases h1 with⟨h1,_⟩|⟨_,h1⟩
  ·grind
  ·rw[h1];simp only[HO.eB];rw[if_neg fun hh=>hk' (M.gZ k' n _ _ _ _ _ _ hfk hf hik g3 hh.1)]
 |map c=>obtain⟨es,_,_,h1⟩:=M.mpo k' c hfk;rw[h1];rfl
 |mpl e' sz' c=>obtain⟨L,_,_,h1,_⟩:=M.own k' _ _ _ hfk;rw[h1];rfl
 |raw q=>obtain⟨_,_,h1,_⟩:=M.rwo k' q hfk;rw[h1];rfl
theorem vt(M:Mt Ω G E ι γ Y J){x k f n sz e:Nat}{args:List aJ}{c:X}{xs:List X}(hk:(args.map (bL Y))[k]?=some (.gl n sz))(hf:find Y.h n=some (.au e sz c))(hx:SV.oq ((args.map (bL Y)).set k (.x c))=some xs)
  {d0 d1:D} (h0:X.ev G E (.mk (.pk (.ext 1)) [.mk (.ecall k f sz) xs])=some d1) (h1:X.ev G E (.mk (.pk (.ext 0)) [.mk (.ecall k f sz) xs])=some d0):
  ∃J',lr (br G) x k f (args.map (aJ.val J.s)) J=some J'∧Mt Ω G E ι γ (Sy.set {Y with h:=b_ n (.au e sz (.mk (.pk (.ext 1)) [.mk (.ecall k f sz) xs])) Y.h} x (.x (.mk (.pk (.ext 0)) [.mk (.ecall k f sz) xs]))) J':=by
 have hvs:bz G E ι Y.h (args.map (bL Y)) (args.map (aJ.val J.s)):=⟨by simp,fun i v d hv hd=>by
  rw[Dz,Mz]at hv hd;obtain⟨g,hg,rfl⟩:=hv;obtain⟨g',hg',rfl⟩:=hd;rw[hg]at hg';cases hg'
  exact az M g⟩
 generalize args.map (aJ.val J.s)=ds at hvs;generalize args.map (bL Y)=vs at hk hx hvs;obtain⟨es,k1,k2,k3⟩:=M.au n e sz c hf;have hkl:=(Gz.1 hk).1;have hkd:k<ds.length:=by rw[←hvs.1];exact hkl
 have hdk:=Ez hkd;have hgl:=hvs.2 k _ _ hk hdk
 have ade:bz G E ι Y.h (vs.set k (.x c)) (ds.set k (.list es)):=⟨by simp[hvs.1],fun i v d hv hd=>by
  by_cases hik:i=k
  ·subst hik;rw[List.getElem?_set_self hkl]at hv;rw[List.getElem?_set_self hkd]at hd;cases hv;cases hd;exact .x k1 rfl
  ·rw[List.getElem?_set_ne (Ne.symm hik)]at hv hd
   exact hvs.2 i v d hv hd⟩
 obtain⟨ts,a1,a2⟩:=aP h0;obtain⟨r,rfl,a3⟩:=je a1;obtain⟨as,a4,a5⟩:=aP a3;obtain rfl:=gu ade hx a4;obtain⟨ts',b1,b2⟩:=aP h1;obtain⟨r',rfl,b3⟩:=je b1;rw[a3]at b3;cases b3;simp only[XK.run,List.set_set]at a5;split at a5
 rotate_left
 ·cases a5
 rename_i bc;rw[List.getElem?_set_self hkd]at a5;simp only[]at a5;obtain⟨q,hq,a5⟩:=Bz.1 a5;split at a5
 rotate_left
 ·cases a5
 rename_i d es';split at a5<;>cases a5;rename_i hok;obtain⟨o1,o2,o3⟩:=hok
 have e1:d1= .list es':=by
  simp only[XK.run,Bz]at a2;obtain⟨y,hy,a2⟩:=a2;split at a2<;>cases a2;simpa[PK.run,H7]using hy.symm
 have e0:d0=d:=by
  simp only[XK.run,Bz]at b2;obtain⟨y,hy,b2⟩:=b2;split at b2<;>cases b2;simpa[PK.run,H7]using hy.symm
 subst e1 e0;have hq':(br G).e k f (ds.set k (.list es))=some (.tup [d0, .list es']):=hq
 have bQ:es.all (fun c=>c.all D.aM)=true:=Tz.2 fun c hc=>Tz.2 fun d hd=>uJ (by
  have:=Tz.1 k2 c hc;simp only[Az]at this
  exact Tz.1 this.2 d hd)
 unfold lr;rw[if_pos bc,hdk];generalize ds[k]=dk at hgl hdk;cases hgl with
 |gln g1 g2=>
  have hes:es= []:=by
   rcases k3 with⟨_,h⟩|⟨h,_⟩
   ·exact h
   ·exact absurd g2 h
  subst hes;have ac0:es'= []:=List.length_eq_zero_iff.1 (by simpa using o2);subst ac0;simp only[hq',Oz,if_pos o1];exact⟨_,rfl,(M.JL hf k1 h0).set (.x h1 o1)⟩
 |gl g1 g2 g3=>
  rw[hf]at g1;cases g1;rw[k1]at g2;cases g2;rcases k3 with⟨k3,_⟩|⟨_,k3⟩
  ·exact absurd k3 g3
  simp only[k3,bQ,and_self,if_true,hq',Oz,if_pos o1];refine⟨_,rfl,Mt.set (M.write (o:= .au e sz c) (o':= .au e sz (.mk (.pk (.ext 1)) [.mk (.ecall k f sz) xs])) (q:= .row (γ n) e es') (J':=(J.aG (γ n) 0).put (ι n) (some (.row (γ n) e es'))) hf g3 ?_ rfl rfl (by simp[St.put]) (fun k' o' hk' hfk hik=> ?_) (fun t q h hne=> ?_) (fun q h=>by rw[k3]at h;cases h) ⟨rfl,rfl,fun es1 h=>⟨es',h0,by rw[k1]at h;cases h;exact o2⟩⟩ (fun q hq=> ?_) ⟨es',h0,o3,rfl⟩) (.x h1 o1)⟩
  ·intro y k r hk;simp only[St.put];split
   ·rename_i e;rw[←e,M.wf y k r hk]at k3;cases k3
   ·exact M.wf.aG _ _ y k r hk
  ·have hne:ι k'≠ι n:=fun e=>hk' (M.inj k' n _ _ hfk hf e hik);simp only[St.put,if_neg hne];show HO.eB (γ n) 0 (J.m (ι k'))=J.m (ι k');cases o' with
   |box vs=>obtain⟨ds,_,h1,_⟩:=M.box k' vs hfk;rw[h1];rfl
   |au e' sz' c'=>
    obtain⟨es1,_,_,h1⟩:=M.au k' _ _ _ hfk;rcases h1 with⟨h1,_⟩|⟨_,h1⟩
    ·exact absurd h1 hik
    ·rw[h1];simp only[HO.eB];rw[if_neg fun hh=>hk' (M.gZ k' n _ _ _ _ _ _ hfk hf hik g3 hh.1)]
   |map c=>obtain⟨es,_,_,h1⟩:=M.mpo k' c hfk;rw[h1];rfl
   |mpl e' sz' c=>obtain⟨L,_,_,h1,_⟩:=M.own k' _ _ _ hfk;rw[h1];rfl
   |raw q=>obtain⟨_,_,h1,_⟩:=M.rwo k' q hfk;rw[h1];rfl
  ·simp only[St.put,if_neg hne];show HO.eB (γ n) 0 (J.m t)=some (.raw q);rw[h];rfl
  ·simp only[St.put,if_neg (M.mJ hf hq)];obtain⟨e0,m1,_,_,m4,_⟩:=hq.mem;exact lI m1 (Ne.symm (m4 n _ _ _ hf g3))
theorem gF{ks:List Nat}{es es':List (D×D)}{k v:D}(h:jw ks es k v=some es'):v.uL=true∧k.uL=true∧bR ks k k=some true∧
  ((∃i p,bu ks k es 0=some (some i)∧es[i]?=some p∧es'=es.set i (p.1,v))∨(bu ks k es 0=some none∧es.length<aC∧es'=es++ [(k,v)])):=by
 unfold jw at h;split at h
 ·rename_i hok;refine⟨hok.1,hok.2.1,hok.2.2, ?_⟩;obtain⟨r,hr,h⟩:=Bz.1 h;cases r with
  |some i=>obtain⟨p,hp,rfl⟩:=Mz.1 h;exact .inl ⟨i,p,hr,hp,rfl⟩
  |none=>
   simp only[]at h;split at h<;>cases h;rename_i hlt;exact .inr ⟨hr,hlt,rfl⟩
 ·cases h
theorem xp{ks:List Nat}{es es':List (D×D)}{k v:D}{t:Tok}{J:St}(h:jw ks es k v=some es')(hm:J.m t=some (.map es)):jx ks (.mp t) k v J=some (J.put t (some (.map es'))):=by
 obtain⟨h1,h2,h3,h4⟩:=gF h;unfold jx;simp only[hm];rw[if_pos ⟨h1,h2,h3⟩];rcases h4 with⟨i,p,f,g,rfl⟩|⟨f,g,rfl⟩<;>simp[f,g]
theorem xo{ks:List Nat}{es es':List (D×D)}{k v:D}(h:jw ks es k v=some es'): ∃i q,bu ks k es' 0=some (some i)∧es'[i]?=some (q,v)∧(∀v2 es2,jw ks es k v2=some es2→es'.set i (q,v2)=es2)∧ ∀r,bu ks k es 0=some r→r.getD es.length=i:=by
 obtain⟨h1,h2,h3,h4⟩:=gF h;rcases h4 with⟨i,p,f,g,rfl⟩|⟨f,g,rfl⟩
 ·have hi:=(Gz.1 g).1
  have e:(es.set i (p.1,v)).map Prod.fst=es.map Prod.fst:=by
   apply List.ext_getElem?;intro j;simp only[Dz,List.getElem?_set];by_cases hij:i=j
   ·subst hij;simp[hi,(Gz.1 g).2]
   ·simp[hij]
  refine⟨i,p.1,by rw[fG e,f],by simp[hi],fun v2 es2 h5=> ?_,fun r hr=>by rw[f]at hr;cases hr;rfl⟩;rcases(gF h5).2.2.2 with⟨j,p2,f2,g2,rfl⟩|⟨f2,_,_⟩
  ·rw[f]at f2;cases f2;rw[g]at g2;cases g2;simp
  ·rw[f]at f2;cases f2
 ·refine⟨es.length,k,by rw[qt h3 f];simp,by simp,fun v2 es2 h5=> ?_,fun r hr=>by rw[f]at hr;cases hr;rfl⟩;rcases(gF h5).2.2.2 with⟨j,p2,f2,g2,rfl⟩|⟨f2,_,rfl⟩
  ·rw[f]at f2;cases f2
  ·simp
theorem Mt.Dp(M:Mt Ω G E ι γ Y J){n:Nat}{c c':X}{es es':List (D×D)}(hf:find Y.h n=some (.map c))(k2:ι n≠ [])(k3:J.m (ι n)=some (.map es))(hd:X.ev G E c'=some (.list (ao es'))):
  Mt Ω G E ι γ {Y with h:=b_ n (.map c') Y.h} (J.put (ι n) (some (.map es'))):=
 M.write (o:= .map c) (q:= .map es') hf k2 (M.wf.put (by rw[k3];simp)) rfl rfl (by simp[St.put]) (fun k o' hk hfk hik=>by
   have:ι k≠ι n:=fun e=>hk (M.inj k n _ _ hfk hf e hik)
   simp[St.put,this]) (fun t q h hne=>by simp only[St.put,if_neg hne];exact h) (fun q h=>by rw[k3]at h;cases h) trivial (fun q hq=>by simp only[St.put,if_neg (M.mJ hf hq)]) ⟨es',hd,rfl⟩
theorem pT(M:Mt Ω G E ι γ Y J){e:cg}{Y':Sy}{O:List X}(hs:fh e Y=some (Y',O))(hO: ∀e∈O,∃d,X.ev G E e=some d):
  ∃J' ι' γ',e.run (br G) J=some J'∧Mt Ω G E ι' γ' Y' J':=by
 unfold fh at hs;split at hs
 ·rename_i n g x a;obtain⟨M1,F⟩:=M.nw x;obtain⟨⟨vs,O'⟩,hc,he⟩:=Mz.1 hs;cases he;obtain⟨h1,h2,h3⟩:=im (az M1 a) hc hO;refine⟨_,_,_, ?_,M1.KZ F h3 (Av hc (G5 F a))⟩;simp only[cg.run,CD]
  grind
 ·rename_i n g a v;obtain⟨J',h1,h2⟩:=vy M (az M a) (az M v) hs hO;exact⟨J',ι,γ,h1,h2⟩
 ·rename_i x t size a b;obtain⟨M1,F⟩:=M.nw x;exact zA M1 F (az M1 a) (az M1 b) hs hO
 ·rename_i x t size zero a b;obtain⟨M1,F⟩:=M.nw x;have ha:=az M1 a;have hb:=az M1 b;split at hs
  ·rename_i ea eb hva hvb;cases hs;rw[hva]at ha;rw[hvb]at hb;obtain⟨h1,_⟩:=ha.ca;obtain⟨h2,_⟩:=hb.ca;obtain⟨d',hd'⟩:=hO _ (List.mem_singleton.2 rfl);obtain⟨ds,a1,a2⟩:=aP hd';obtain⟨p,q,rfl,a3,a4⟩:=mw a1;rw[h1]at a3;cases a3;rw[h2]at a4;cases a4;simp only[XK.run]at a2;split at a2<;>try (cases a2;done)
   rename_i k1 l k2 c heq;simp only[List.cons.injEq,and_true]at heq;split at a2<;>cases a2;rename_i hc;simp only[cg.run,Dm,heq.1,heq.2];rw[if_pos ⟨hc.1,hc.2.1,hc.2.2.1,hc.2.2.2.1⟩];have hlen:l.toNat=(List.replicate l.toNat zero).length:=by simp
   have hok:aO size (List.replicate l.toNat zero)=true:=Tz.2 fun q hq=>by
    obtain⟨_,rfl⟩:=List.mem_replicate.1 hq;simp[hc.2.2.2.2.1,hc.2.2.2.2.2]
   refine⟨_,_,_,rfl,M1.nh F hd' hok (M1.wf.new x _ _) ?_ (fun n o' h hi=>by rw[cC,if_neg (M1.ez x h)]) (by rw[cC,if_pos rfl]) (nu (by first|exact M1.wf|exact M2.wf) x _ _) (fun y=>pC ..) (fun q hq=>⟨(M1.cr x hq).2,by rw[cC,if_neg (Ne.symm (M1.cr x hq).1)]⟩) (.inl rfl)⟩;rw[←hlen]
  ·cases hs
 ·rename_i x t size len zero places args;obtain⟨M1,F⟩:=M.nw x;obtain⟨xs,hx,he⟩:=Mz.1 hs;cases he;obtain⟨d',hd'⟩:=hO _ (List.mem_singleton.2 rfl);obtain⟨ds,a1,a2⟩:=aP hd'
  have hvs:bz G E ι (Y.nw x).h (args.map (bL (Y.nw x))) (args.map (aJ.val J.s)):=⟨by simp,fun i v d hv hd=>by
   rw[Dz,Mz]at hv hd;obtain⟨g,hg,rfl⟩:=hv;obtain⟨g',hg',rfl⟩:=hd;rw[hg]at hg';cases hg'
   exact az M1 g⟩
  obtain rfl:=gu hvs hx a1;simp only[XK.run]at a2;split at a2
  ·rename_i bQ;rw[Bz]at a2;obtain⟨cs,c1,c2⟩:=a2;split at c2<;>cases c2;rename_i hc;simp only[cg.run,Di];rw[if_pos bQ,c1];simp only[Oz];rw[if_pos hc.1];have hlen:(lj size len (cs.map D.nz)).length=len:=gO size len (cs.map D.nz);refine⟨_,_,_,rfl,M1.nh F hd' hc.2 (M1.wf.new x _ _) ?_ (fun n o' h hi=>by rw[cC,if_neg (M1.ez x h)]) (by rw[cC,if_pos rfl]) (nu (by first|exact M1.wf|exact M2.wf) x _ _) (fun y=>pC ..) (fun q hq=>⟨(M1.cr x hq).2,by rw[cC,if_neg (Ne.symm (M1.cr x hq).1)]⟩) (.inl rfl)⟩;rw[hlen]
  ·cases a2
 ·rename_i x;obtain⟨M1,F⟩:=M.nw x;cases hs;exact⟨_,_,_,rfl,M1.L_ F⟩
 ·rename_i x e sz;obtain⟨M1,F⟩:=M.nw x;split at hs<;>cases hs;rename_i bQ;refine⟨_,_,_,rfl,M1.Mn e sz F fun k e' sz' c' hk=> ?_⟩;obtain⟨_,o,ho,h⟩:=bI hk;cases o<;>simp only[ib,reduceCtorEq]at h;have:=Tz.1 bQ _ (pe ho);simp[SO.N7]at this
 ·rename_i x a b;have ha:=az M a;have hb:=az M b;split at hs
  ·rename_i n o l m p l' hva hvb;rw[hva]at ha;rw[hvb]at hb;split at hs
   ·rename_i us vs hf hf';split at hs<;>cases hs;rename_i hc;obtain⟨c1,c2,c3,c4⟩:=hc;obtain⟨xs,k1,k2,k3⟩:=M.box n us hf;obtain⟨ys,j1,j2,j3⟩:=M.box m vs hf';generalize hda:a.val J.s=da at ha;generalize hdb:b.val J.s=db at hb;cases ha with
    |sb _ _=>
     cases hb with
     |sb _ _=>
      have hvl:((vs.drop p).take (min l' l)).length=min l' l:=by simp;omega
      have M2:=M.Ns (o:=o) hf k1 k2 k3 ((j3.drop p).take (min l' l)) (by rw[hvl];omega);rw[hvl]at M2
      have ah: ∀(x:Option Nat) (lm lm':Option Nat),copyV x (.sl (ι n) 1 o l lm) (.sl (ι m) 1 p l' lm') J=some (match x with
        |some i=>(J.put (ι n) (some (.box (putAt xs o ((ys.drop p).take (min l' l)))))).set i (iv ((min l' l:Nat):Int))
        |none=>J.put (ι n) (some (.box (putAt xs o ((ys.drop p).take (min l' l)))))):=fun x lm lm'=>by
       simp only[copyV,k2,j2];rw[if_pos ⟨c1,c2,by rw[←k3.1];exact c3,by rw[←j3.1];exact c4⟩];cases x<;>rfl
      cases x with
      |none=>exact⟨_,ι,γ,by simp only[cg.run,hda,hdb];exact ah none _ _,M2⟩
      |some i=>exact⟨_,ι,γ,by simp only[cg.run,hda,hdb];exact ah (some i) _ _,M2.set (.x rfl rfl)⟩
   ·cases hs
  ·cases hs
 ·rename_i ks a k v;have ha:=az M a;split at hs
  ·rename_i n hva;rw[hva]at ha;split at hs
   ·rename_i c hf;simp only[Bz,Mz]at hs;obtain⟨kx,hkx,vx,hvx,he⟩:=hs;cases he;obtain⟨d',hd'⟩:=hO _ (List.mem_singleton.2 rfl);obtain⟨ds0,a1,a2⟩:=aP hd';simp only[X.ba,Bz,Mz]at a1;obtain⟨dc,b1,r1,⟨dk,b2,r2,⟨dv,b3,r3,b4,rfl⟩,rfl⟩,rfl⟩:=a1;cases b4;obtain⟨es,k1,k2,k3⟩:=M.mpo n c hf;rw[k1]at b1;cases b1;have hk:=bJ (az M k) hkx b2;have hv:=bJ (az M v) hvx b3;simp only[XK.run,aH,Oz,Mz]at a2;obtain⟨es',g1,g2⟩:=a2;cases g2;generalize hda:a.val J.s=da at ha;cases ha with
    |mp _ _=>exact⟨_,ι,γ,by simp only[cg.run,hda,←hk,←hv];exact xp g1 k3,M.Dp hf k2 k3 hd'⟩
   ·cases hs
  ·cases hs
 ·rename_i ks z x a k;have ha:=az M a;split at hs
  ·rename_i n hva;rw[hva]at ha;split at hs
   ·rename_i c hf;obtain⟨kx,hkx,he⟩:=Mz.1 hs;cases he;obtain⟨d',hd'⟩:=hO _ (List.mem_singleton.2 rfl);obtain⟨ds0,a1,a2⟩:=aP hd';simp only[X.ba,Bz,Mz]at a1;obtain⟨dc,b1,r1,⟨dk,b2,r2,⟨dv,b3,r3,b4,rfl⟩,rfl⟩,rfl⟩:=a1;cases b4;obtain⟨es,k1,k2,k3⟩:=M.mpo n c hf;rw[k1]at b1;cases b1;have hk:=bJ (az M k) hkx b2;obtain⟨ds1,c1,c2⟩:=aP b3;obtain⟨q1,q2,rfl,c3,c4⟩:=mw c1;rw[k1]at c3;cases c3;rw[b2]at c4;cases c4;simp only[XK.run,aH,Oz]at c2;obtain⟨d1,c5,c6⟩:=Bz.1 c2;split at c6<;>cases c6;simp only[XK.run,aH,Oz,Mz]at a2;obtain⟨es',g1,g2⟩:=a2;cases g2;obtain⟨h1,h2,h3,_⟩:=gF g1;have hu:=xp g1 k3;obtain⟨i,q,m1,m2,_,m4⟩:=xo g1;generalize hda:a.val J.s=da at ha;cases ha with
    |mp _ _=>
     refine⟨(J.put (ι n) (some (.map es'))).set x (.tup [dv,iv i]),ι,γ, ?_,(M.Dp hf k2 k3 hd').set (.tup rfl fun j v d hv hd=> ?_)⟩
     ·simp only[cg.run,hda,xn,k3,←hk];rw[if_pos h3];unfold jv at c5;rw[if_pos ⟨h2,h3⟩]at c5;obtain⟨r,hr,c5⟩:=Bz.1 c5;have hi:=m4 _ hr;rw[hr];simp only[Oz];cases r with
      |some i'=>
       obtain⟨p,hp,rfl⟩:=Mz.1 c5;simp only[Option.getD_some]at hi;subst hi;simp only[Bool.false_eq_true,if_false]at hu;simp only[hp,Oz,hu,Pz];rfl
      |none=>
       simp only[Option.getD_none]at hi;subst hi;simp only[Bool.false_eq_true,if_false,Jz]at c5;subst c5;simp only[hu,Pz]
     ·match j,hv,hd with
      |0,hv,hd=>simp at hv;subst hv;exact .un
      |1,hv,hd=>
       simp at hv hd;subst hv;subst hd;have he:X.ba G E [.mk (.mset ks) [c,kx, .mk (.mget ks z false) [c,kx]],kx]=some [.list (ao es'),dk]:=by simp only[X.ba,hd',b2,Oz,Pz]
       exact .x (by rw[X.ev,he];simp[XK.run,aH,m1]) rfl
      |_+2,hv,hd=>simp at hv
   ·cases hs
  ·cases hs
 ·rename_i a s v;have ha:=az M a;have hS:=az M s;split at hs
  ·rename_i n ks c2 kx hva hvs;rw[hva]at ha;rw[hvs]at hS;split at hs
   ·rename_i ks' c kx' y hf;split at hs
    ·rename_i bc;obtain⟨vx,hvx,he⟩:=Mz.1 hs;cases he;simp only[Az,beq_iff_eq]at bc;obtain⟨⟨e1,e2⟩,rfl⟩:=bc;obtain rfl:=aK _ _ e1;obtain rfl:=aK _ _ e2;obtain⟨d',hd'⟩:=hO _ (List.mem_singleton.2 rfl);obtain⟨ds0,a1,a2⟩:=aP hd';simp only[X.ba,Bz,Mz]at a1;obtain⟨dc,b1,r1,⟨dk,b2,r2,⟨dv,b3,r3,b4,rfl⟩,rfl⟩,rfl⟩:=a1;cases b4;have hv:=bJ (az M v) hvx b3;obtain⟨es1,k1,k2,k3⟩:=M.mpo n _ hf;obtain⟨ds1,c1,c2⟩:=aP k1;simp only[X.ba,Bz,Mz]at c1;obtain⟨dc',b1',r1,⟨dk',b2',r2,⟨dy,b3',r3,b4,rfl⟩,rfl⟩,rfl⟩:=c1;cases b4;rw[b1]at b1';cases b1';rw[b2]at b2';cases b2';simp only[XK.run]at a2 c2;split at c2
     rotate_left
     ·cases c2
     rename_i rows k' v' heq;simp only[List.cons.injEq,and_true]at heq;obtain⟨rfl,rfl,rfl⟩:=heq;simp only[]at a2;obtain⟨es,f1,c2⟩:=Bz.1 c2;rw[f1]at a2;simp only[Oz,Mz]at a2 c2;obtain⟨es',g1,g2⟩:=c2;obtain⟨es2,g3,g4⟩:=a2;cases g4
     have hes:es'=es1:=by
      have:=congrArg (fun d=>match d with| .list r=>ax r|_=>none) g2;simpa[aH]using this
     subst hes;obtain⟨i,q,m1,m2,m3,_⟩:=xo g1;obtain⟨h1,_⟩:=gF g3;generalize hda:a.val J.s=da at ha;generalize hds:s.val J.s=ds at hS;cases ha with
     |mp _ _=>
      cases hS with
      |x hx _=>
       have hx2:ds=iv i:=by
        obtain⟨ds2,x1,x2⟩:=aP hx;obtain⟨y1,y2,rfl,x3,x4⟩:=mw x1;rw[k1]at x3;cases x3;rw[b2]at x4;cases x4;simp only[XK.run,aH,Oz,m1,Pz,Jz]at x2;exact x2.symm
       subst hx2;refine⟨_,ι,γ, ?_,M.Dp hf k2 k3 hd'⟩;simp only[cg.run,hda,hds,←hv];show uD (.mp (ι n)) (.v (.int .i64 (i:Int))) dv J=_;simp only[uD,k3];rw[if_pos ⟨h1,by omega⟩];simp only[Int.toNat_natCast,m2,Pz,m3 _ _ g3]
    ·cases hs
   ·cases hs
  ·cases hs
 ·rename_i size zero a;have ha:=az M a;split at hs
  ·rename_i n sz k hva;rw[hva]at ha;split at hs
   ·rename_i e sz' c hf;split at hs<;>cases hs;rename_i bc;obtain⟨⟨rfl,rfl⟩,hz⟩:=bc;obtain⟨d',hd'⟩:=hO _ (List.mem_singleton.2 rfl);obtain⟨es,k1,k2,k3⟩:=M.au n _ _ c hf;obtain⟨ts,a1,a2⟩:=aP hd';obtain⟨q1,q2,rfl,c3,c4⟩:=mw a1;rw[k1]at c3;cases c3;simp only[XK.run]at a2;split at a2
    rotate_left
    ·cases a2
    rename_i es0 kd z heq;simp only[List.cons.injEq,D.list.injEq,and_true]at heq;obtain⟨rfl,rfl⟩:=heq;split at a2<;>cases a2;rename_i hr
    have Bh:aO size (es.take z.toNat++List.replicate (es.length-z.toNat) zero)=true:=by
     refine jT (Tz.2 fun c hc=>Tz.1 k2 c (List.mem_of_mem_take hc)) (Tz.2 fun c hc=> ?_);rw[List.eq_of_mem_replicate hc];exact hz
    have hln:(es.take z.toNat++List.replicate (es.length-z.toNat) zero).length=es.length:=by simp;omega
    generalize hda:a.val J.s=da at ha
    have same:es.length-z.toNat=0→es.take z.toNat++List.replicate (es.length-z.toNat) zero=es:=fun h=>by
     rw[h,List.replicate_zero,List.append_nil,List.take_of_length_le (by omega)]
    cases ha with
    |gtn g1 g2 g3=>
     have hes:es= []:=by
      rcases k3 with⟨_,h⟩|⟨h,_⟩
      ·exact h
      ·exact absurd g2 h
     subst hes;refine⟨J,ι,γ,by simp only[cg.run,hda,Ax],M.JL hf k1 ?_⟩;rw[hd',same (by simp)]
    |gt g1 g2 g3 g4 g5 g6=>
     rw[hf]at g1;cases g1;rw[k1]at g2;cases g2;rw[c4]at g4;cases g4;by_cases h0:es.length-z.toNat=0
     ·refine⟨J,ι,γ,by simp only[cg.run,hda,Ax,if_pos h0],M.JL hf k1 ?_⟩;rw[hd',same h0]
     rcases k3 with⟨k3,_⟩|⟨_,k3⟩
     ·exact absurd k3 g3
     have hzl:zero.length=size:=by simp only[Az,beq_iff_eq]at hz;exact hz.1
     have hdr:es.drop (z.toNat+(es.length-z.toNat))= []:=List.drop_eq_nil_of_le (by omega);refine⟨(J.aG (γ n) z.toNat).put (ι n) (some (.row (γ n) e (es.take z.toNat++List.replicate (es.length-z.toNat) zero))),ι,γ, ?_, ?_⟩
     ·simp only[cg.run,hda,Ax,if_neg h0,k3];rw[if_pos ⟨⟨trivial,hzl⟩,by omega,bU k2⟩,hdr,List.append_nil]
     ·refine M.write (o:= .au e size c) (o':= .au e size (.mk (.clr zero) [c,k])) (q:= .row (γ n) e (es.take z.toNat++List.replicate (es.length-z.toNat) zero)) hf g3 ?_ rfl rfl (by simp[St.put]) (fun k' o' hk' hfk hik=> ?_) (fun t q h hne=> ?_) (fun q h=>by rw[k3]at h;cases h) ⟨rfl,rfl,fun es1 h=>⟨_,hd',by rw[k1]at h;cases h;exact hln⟩⟩ (fun q hq=> ?_) ⟨_,hd',Bh,rfl⟩
      ·intro y k r hk;simp only[St.put];split
       ·rename_i e;rw[←e,M.wf y k r hk]at k3;cases k3
       ·exact M.wf.aG _ _ y k r hk
      ·have hne:ι k'≠ι n:=fun e=>hk' (M.inj k' n _ _ hfk hf e hik);simp only[St.put,if_neg hne];exact M.zk hf hfk hk' hik g3
      ·simp only[St.put,if_neg hne];show HO.eB (γ n) z.toNat (J.m t)=some (.raw q);rw[h];rfl
      ·simp only[St.put,if_neg (M.mJ hf hq)];obtain⟨e0,m1,_,_,m4,_⟩:=hq.mem;exact lI m1 (Ne.symm (m4 n _ _ _ hf g3))
   ·cases hs
  ·cases hs
 ·rename_i x k f args;split at hs
  ·rename_i n sz hk;split at hs
   ·rename_i e sz' c hf;split at hs
    ·rename_i hss;subst hss;obtain⟨xs,hx,he⟩:=Mz.1 hs;cases he;obtain⟨d1,h1⟩:=hO _ (List.mem_cons_self ..);obtain⟨d0,h0⟩:=hO _ (Cz _ (List.mem_singleton.2 rfl));obtain⟨J',g1,g2⟩:=vt (x:=x) M hk hf hx h1 h0;exact⟨J',ι,γ,g1,g2⟩
    ·cases hs
   ·cases hs
  ·cases hs
 ·rename_i x t size f args;split at hs
  rotate_left
  ·cases hs
  rename_i hf6;obtain⟨M1,F⟩:=M.nw x;obtain⟨xs,hx,he⟩:=Mz.1 hs;cases he;obtain⟨d',hd'⟩:=hO _ (List.mem_cons_self ..);have hd1:=hd';unfold acX at hd1;obtain⟨ts,a1,a2⟩:=aP hd1;obtain⟨p,q,rfl,b1,b2⟩:=mw a1;cases b1;obtain⟨ts2,c1,c2⟩:=aP b2;obtain⟨p2,q2,rfl,e1,e2⟩:=mw c1;cases e2;obtain⟨ds,f1,f2⟩:=aP e1
  have hvs:bz G E ι (Y.nw x).h (args.map (bL (Y.nw x))) (args.map (aJ.val J.s)):=⟨by simp,fun i v d hv hd=>by
   rw[Dz,Mz]at hv hd;obtain⟨g,hg,rfl⟩:=hv;obtain⟨g',hg',rfl⟩:=hd;rw[hg]at hg';cases hg'
   exact az M1 g⟩
  obtain rfl:=gu hvs hx f1
  have hno:(args.map (aJ.val J.s)).all D.aF=true:=Tz.2 fun d hd=>by
   obtain⟨i,hi⟩:=List.getElem?_of_mem hd;have hil:i<xs.length:=by rw[←dh f1];exact(Gz.1 hi).1
   have hxi:=Ez hil;obtain⟨r,hr⟩:=hO (.mk .bq [xs[i]]) (Cz _ (List.mem_map.2 ⟨xs[i],List.getElem_mem hil,rfl⟩));obtain⟨us,g1,g2⟩:=aP hr;obtain⟨u,rfl,g3⟩:=je g1;have:=fy f1 i _ d hxi hi;rw[g3]at this;cases this;simp only[XK.run]at g2;split at g2
   ·assumption
   ·cases g2
  simp only[XK.run]at c2 a2;split at c2
  rotate_left
  ·cases c2
  rename_i es k0 z heq;simp only[List.cons.injEq,and_true]at heq;obtain⟨rfl,hz⟩:=heq;cases hz;split at c2<;>cases c2;simp only[Int.toNat_zero,List.drop_zero,lW,Oz,List.nil_append]at a2;split at a2<;>cases a2;rename_i hok;simp only[XK.run,gn]at f2;obtain⟨r,hr,f3⟩:=Bz.1 f2
  have Ww:r.bare= .list es:=by
   simp only[Bool.false_eq_true,if_false]at f3;by_cases hn:r.bare.aF=true
   ·rw[if_pos hn]at f3;exact Option.some.inj f3
   ·rw[if_neg hn]at f3;cases f3
  have hq:(br G).q (1000000*t+f) (args.map (aJ.val J.s))=some (.list es,dO):=by
   show(G (1000001000000+(1000000*t+f)) _).map _=_;rw[hr];simp[Ww]
  have hes:es.all (fun c=>c.length==size)=true:=Tz.2 fun c hc=>by
   have:=Tz.1 hok.1 c hc;simp only[Az]at this;exact this.1
  simp only[cg.run,og];rw[if_pos ⟨hno,hf6⟩,hq];simp only[Oz];rw[if_pos hes];exact⟨_,_,_,rfl,M1.nh F hd' hok.1 (M1.wf.new x _ _) rfl (fun n o' h hi=>by rw[cC,if_neg (M1.ez x h)]) (by rw[cC,if_pos rfl]) (nu (by first|exact M1.wf|exact M2.wf) x _ _) (fun y=>pC ..) (fun q hq=>⟨(M1.cr x hq).2,by rw[cC,if_neg (Ne.symm (M1.cr x hq).1)]⟩) (.inl rfl)⟩
end
end
section
abbrev pZ:X:= .q (.tup [])
def zl(gx e:X):SV:=match gx with
 | .mk (.gv w) [g]=>if dH e g then .x (.q (.v (.bool w)))else .x e
 |_=> .x e
def strip(gx:X):SV→SV
 | .gd g v=>if dH g gx then v else .gd g v
 | .x (.ite g e u)=>if dH g gx then .x e else zl gx (.ite g e u)
 | .x e=>zl gx e
 |v=>v
def SS(gx:X):SV→SV
 | .x e=> .x (.ite gx e pZ)
 |v=> .gd gx v
def mR(st:an)(Y:Sy):Option (Sy×List X):=
 match st with
 | .op x k args none=>(vu Y.h k (args.map (bL Y))).map fun q=>(Y.set x q.1,q.2)
 | .op x k args (some (j,w))=>match find Y.s j with
  |some (.x (.q (.v (.bool b))))=>if b=w then(vu Y.h k (args.map (bL Y))).map fun q=>(Y.set x q.1,q.2)else some (Y.set x (.x pZ),[])
  |some (.x g)=>(vu Y.h k (args.map fun a=>strip (.mk (.gv w) [g]) (bL Y a))).map fun q=>(Y.set x (SS (.mk (.gv w) [g]) q.1), .mk (.gv w) [g]::q.2.map fun e=> .ite (.mk (.gv w) [g]) e pZ)
  |_=>none
 | .eff e none=>fh e Y
 | .eff e (some (j,w))=>match find Y.s j with
  |some (.x (.q (.v (.bool b))))=>if b=w then fh e Y else some (match e.dst with|some x=>(Y.set x (.x pZ),[])|none=>(Y,[]))
  |_=>none
 |_=>none
def ei:List an→Sy→Option (Sy×List X)
 | [],Y=>some (Y,[])
 |st::r,Y=>(mR st Y).bind fun q=>(ei r q.1).map fun p=>(p.1,q.2++p.2)
structure qc where
 x:Nat
 ks:List Nat
 i:Nat
 k:aJ
 B:List an
 y:Nat
 e:Nat
 sz:Nat
 b:aJ
 C:List an
 ks':List Nat
 i':Nat
 k':aJ
def an.CS:an→Bool
 | .op .. =>true
 |st=>st.news
def an.Db:an→Bool
 | .op .. =>true
 |_=>false
def pa(f:List an→List Nat→Nat→aJ→qc)(y:Nat):List an→List an→Option (qc×List an)
 |C, .eff (.mupd ks' (.t i') k' (.t y')) none::R=>if y'=y then some (f C.reverse ks' i' k',R)else none
 |C,st::r=>if st.Db then pa f y (st::C) r else none
 |_,[]=>none
def o9(x:Nat)(ks:List Nat)(i:Nat)(k:aJ):List an→List an→Option (qc×List an)
 |B, .eff (.app y e sz (.t x') b) none::R=>if x'=x then pa (fun C ks' i' k'=>⟨x,ks,i,k,B.reverse,y,e,sz,b,C,ks',i',k'⟩) y [] R else none
 |B,st::r=>if st.CS then o9 x ks i k (st::B) r else none
 |_,[]=>none
def IS:D→Bool
 | .nil=>true
 |_=>false
def mO:List an→Option (List an×qc×List an)
 | []=>none
 | .op x (.lkp ks z ok) [.t i,k] none::r=>match(if IS z&& !ok then o9 x ks i k [] r else none)with
  |some q=>some ([],q)
  |none=>(mO r).map fun p=>(.op x (.lkp ks z ok) [.t i,k] none::p.1,p.2)
 |st::r=>(mO r).map fun p=>(st::p.1,p.2)
def qc.S1(q:qc):an:= .op q.x (.lkp q.ks .nil false) [.t q.i,q.k] none
def qc.S2(q:qc):an:= .eff (.app q.y q.e q.sz (.t q.x) q.b) none
def qc.S3(q:qc):an:= .eff (.mupd q.ks' (.t q.i') q.k' (.t q.y)) none
def qc.all(q:qc):List an:=q.S1::(q.B++(q.S2::(q.C++ [q.S3])))
def qc.ok(q:qc):Bool:=
 q.B.all (fun st=>st.CS&&match st.dst with|some d=> !([q.x,q.i]++q.k.reads).contains d|none=>true)&& !([q.i]++q.k.reads).contains q.x&& !([q.i']++q.k'.reads).contains q.y&&q.C.all (fun st=>st.Db&&match st.dst with|some d=>d !=q.y|none=>true)&&(q.ks==q.ks')
def Sy.xO(Y:Sy)(x:Nat):Sy:=Y.set x .un
def E6(Y:Sy)(i:Nat):Bool:=match find Y.s i with
 |some (.mp n)=>match find Y.h n with
  |some (.mpl ..)=>true
  |_=>false
 |_=>false
def zx(q:qc)(Y0:Sy):Option (Sy×List X):=
 if q.ok&&E6 Y0 q.i then(ei q.B (Y0.xO q.x)).bind fun p=>(ei q.C (p.1.xO q.y)).bind fun p3=>match find p.1.s q.i,find p3.1.s q.i' with
  |some (.mp n),some (.mp n')=>match find p.1.h n with
   |some (.mpl e sz c)=>(bL p.1 q.k).nM.bind fun kx=>(bL p3.1 q.k').nM.bind fun kx'=>(tP p.1.h (bL p.1 q.b)).bind fun cb=>
    if(e=q.e∧sz=q.sz)∧n'=n∧dH kx kx'=true then
     some ({p3.1 with s:=b_ q.y .un p3.1.s,h:=b_ n (.mpl e sz (.mk (.mapp q.ks sz) [c,kx,cb])) p3.1.h}, .mk (.mapp q.ks sz) [c,kx,cb]::(p.2++p3.2))else none
   |_=>none
  |_,_=>none
 else none
def lO(sts:List an)(Y:Sy):Option (Sy×List X):=
 match mO sts with
 |some (A,q,R)=>(ei A Y).bind fun p=>(zx q p.1).bind fun p2=>(ei R p2.1).map fun p3=>(p3.1,p.2++(p2.2++p3.2))
 |none=>ei sts Y
mutual
def eP:SV→SV→Bool
 | .un, .un=>true
 | .x e, .x e'=>dH e e'
 | .agg vs, .agg us=>mc vs us
 | .tup vs, .tup us=>mc vs us
 | .clo f vs, .clo g us=>f==g&&mc vs us
 | .ptr a b, .ptr a' b'=>a==a'&&b==b'
 | .gl a b, .gl a' b'=>a==a'&&b==b'
 | .ep a b i c, .ep a' b' i' c'=>a==a'&&b==b'&&dH i i'&&c==c'
 | .dp a b c e i j, .dp a' b' c' e' i' j'=>(a==a'&&b==b'&&c==c'&&e==e'&&j==j')&&dH i i'
 | .gs a b k, .gs a' b' k'=>(a==a'&&b==b')&&dH k k'
 | .gc a b k, .gc a' b' k'=>(a==a'&&b==b')&&dH k k'
 | .gt a b k, .gt a' b' k'=>(a==a'&&b==b')&&dH k k'
 | .sb a b c, .sb a' b' c'=>a==a'&&b==b'&&c==c'
 | .rb a b, .rb a' b'=>a==a'&&b==b'
 | .mp a, .mp a'=>a==a'
 | .yl a, .yl a'=>a==a'
 | .gd g v, .gd g' v'=>dH g g'&&eP v v'
 |_,_=>false
def mc:List SV→List SV→Bool
 | [],[]=>true
 |x::r,y::s=>eP x y&&mc r s
 |_,_=>false
end
mutual
theorem mb: ∀(a b:SV),eP a b=true→a=b
 | .un,b,h=>by cases b<;>simp[eP]at h;rfl
 | .x e,b,h=>by cases b<;>simp[eP]at h;rw[aK _ _ h]
 | .agg vs,b,h=>by cases b<;>simp[eP]at h;rw[ky _ _ h]
 | .tup vs,b,h=>by cases b<;>simp[eP]at h;rw[ky _ _ h]
 | .dp a c e s i j,b,h=>by cases b<;>simp[eP]at h;rw[h.1.1.1.1.1,h.1.1.1.1.2,h.1.1.1.2,h.1.1.2,h.1.2,aK _ _ h.2]
 | .gs a c k,b,h=>by cases b<;>simp[eP]at h;rw[h.1.1,h.1.2,aK _ _ h.2]
 | .gc a c k,b,h=>by cases b<;>simp[eP]at h;rw[h.1.1,h.1.2,aK _ _ h.2]
 | .gt a c k,b,h=>by cases b<;>simp[eP]at h;rw[h.1.1,h.1.2,aK _ _ h.2]
 | .sb a c k,b,h=>by cases b<;>simp[eP]at h;rw[h.1.1,h.1.2,h.2]
 | .rb a c,b,h=>by cases b<;>simp[eP]at h;rw[h.1,h.2]
 | .mp a,b,h=>by cases b<;>simp[eP]at h;rw[h]
 | .yl a,b,h=>by cases b<;>simp[eP]at h;rw[h]
 | .clo f vs,b,h=>by cases b<;>simp[eP]at h;rw[h.1,ky _ _ h.2]
 | .ptr a o,b,h=>by cases b<;>simp[eP]at h;rw[h.1,h.2]
 | .gl a o,b,h=>by cases b<;>simp[eP]at h;rw[h.1,h.2]
 | .ep a o i c,b,h=>by cases b<;>simp[eP]at h;rw[h.1.1.1,h.1.1.2,aK _ _ h.1.2,h.2]
 | .gd g v,b,h=>by cases b<;>simp[eP]at h;rw[aK _ _ h.1,mb _ _ h.2]
theorem ky: ∀(a b:List SV),mc a b=true→a=b
 | [],b,h=>by cases b<;>simp[mc]at h;rfl
 |x::r,b,h=>by
  cases b<;>simp[mc]at h;rw[mb x _ h.1,ky r _ h.2]
end
def Ev:SO→SO→Bool
 | .box vs, .box us=>mc vs us
 | .au a b c, .au a' b' c'=>a==a'&&b==b'&&dH c c'
 | .map c, .map c'=>dH c c'
 | .mpl a b c, .mpl a' b' c'=>a==a'&&b==b'&&dH c c'
 | .raw k, .raw k'=>decide (k=k')
 |_,_=>false
theorem Ap{a b:SO}(h:Ev a b=true):a=b:=by
 cases a<;>cases b<;>simp[Ev]at h
 ·rw[ky _ _ h]
 ·rw[h.1.1,h.1.2,aK _ _ h.2]
 ·rw[aK _ _ h]
 ·rw[h.1.1,h.1.2,aK _ _ h.2]
 ·rw[h]
def leA{α:Type}(eq:α→α→Bool)(a b:List (Nat×α)):Bool:=a.all fun p=>match find b p.1 with
 |some v=>match find a p.1 with
  |some u=>eq u v
  |none=>false
 |none=>false
theorem ur{α:Type}{eq:α→α→Bool}(he: ∀x y,eq x y=true→x=y){a b:List (Nat×α)}(h:leA eq a b=true){n:Nat}{v:α}(hf:find a n=some v):find b n=some v:=by
 have:=Tz.1 h _ (pe hf)
 grind
def subset(a b:List X):Bool:=a.all fun e=>b.any fun e'=>dH e e'
def JS(q p:Sy×List X):Bool:=leA eP q.1.s p.1.s&&leA Ev q.1.h p.1.h&&leA Ev p.1.h q.1.h&&subset p.2 q.2&&q.1.nv==p.1.nv
def gI(P:Program)(fr:p8)(n:Nat)(ops:Array Oper)(draw:Bool)(Y:Sy):Option (Sy×List X):=
 if draw then match Dv P fr n ops with
  |some (s::ss)=>(lO s Y).bind fun q=>if ss.all (fun s'=>match lO s' Y with
   |some p=>JS q p
   |none=>false)then some q else none
  |_=>none
 else lO (CF P fr n ops) Y
section
variable {Ω : bO} {G : FP} {E : List D} {ι γ : Nat → Tok} {Y : Sy} {J : St}
theorem vl{h:List (Nat×SO)}{gx e:X}{d:D}(H:VR G E ι h (.x e) d)(hg:X.ev G E gx=some (bv true)):VR G E ι h (zl gx e) d:=by
 unfold zl;split
 ·rename_i w g;split
  ·rename_i he;obtain⟨h1,_⟩:=H.ca;rw[aK _ _ he]at h1;obtain⟨ds,a1,a2⟩:=aP hg;obtain⟨dj,rfl,a3⟩:=je a1;rw[h1]at a3;cases a3;simp only[XK.run]at a2;split at a2
   ·rename_i b heq;simp only[List.cons.injEq,and_true]at heq;subst heq;have:b=w:=by cases b<;>cases w<;>simp_all [bv]
    subst this;exact .x rfl rfl
   ·cases a2
   ·cases a2
  ·exact H
 ·exact H
theorem xH{h:List (Nat×SO)}{gx:X}{v:SV}{d:D}(H:VR G E ι h v d)(hg:X.ev G E gx=some (bv true)):VR G E ι h (strip gx v) d:=by
 unfold strip;split
 ·split
  ·rename_i he;cases H with
   |gd h1 h2 h3=>
    rw[aK _ _ he]at h1
    grind
  ·exact H
 ·split
  ·rename_i he;obtain⟨h1,h2⟩:=H.ca;simp only[X.ev,aK _ _ he,hg]at h1;exact .x h1 h2
  ·exact vl H hg
 ·exact vl H hg
 ·exact H
theorem n5(M:Mt Ω G E ι γ Y J){st:an}{Y':Sy}{O:List X}(hs:mR st Y=some (Y',O))(hO: ∀e∈O,∃d,X.ev G E e=some d):
  ∃J' ι' γ',st.run (br G) J=some J'∧Mt Ω G E ι' γ' Y' J'∧(st.Db=true→ι'=ι∧γ'=γ∧Y'.h=Y.h):=by
 have vG: ∀(f:aJ→SV) (args:List aJ),(∀a,VR G E ι Y.h (f a) (a.val J.s))→bz G E ι Y.h (args.map f) (args.map (aJ.val J.s)):=fun f args hf=>
  ⟨by simp,fun i v d hv hd=>by
   rw[Dz,Mz]at hv hd;obtain⟨g,hg,rfl⟩:=hv;obtain⟨g',hg',rfl⟩:=hd;rw[hg]at hg';cases hg'
   exact hf g⟩
 unfold mR at hs;split at hs
 ·rename_i x k args;obtain⟨⟨v,O'⟩,h1,h2⟩:=Mz.1 hs;cases h2;obtain⟨d,h3,h4⟩:=gW M (vG _ args (az M)) h1 hO;exact⟨J.set x d,ι,γ,by simp[an.run,bE,PE,h3],M.set h4,fun _=>⟨rfl,rfl,rfl⟩⟩
 ·rename_i x k args j w;split at hs
  ·rename_i b hg;obtain⟨k1,_⟩:=(M.slot j _ hg).ca
   have hgd:bE J (some (j,w))=some (b==w):=by
    have:J.s j= .v (.bool b):=(Option.some.inj (show some (D.v (.bool b))=some (J.s j)from k1)).symm;simp[bE,this]
   split at hs
   ·rename_i hbw;subst hbw;obtain⟨⟨v,O'⟩,h1,h2⟩:=Mz.1 hs;cases h2;obtain⟨d,h3,h4⟩:=gW M (vG _ args (az M)) h1 hO;exact⟨J.set x d,ι,γ,by simp[an.run,hgd,PE,h3],M.set h4,fun _=>⟨rfl,rfl,rfl⟩⟩
   ·rename_i hbw;cases hs;exact⟨J.set x (.tup []),ι,γ,by simp only[an.run,hgd,Oz];rw[show(b==w)=false by simpa using hbw];rfl,M.set (.x rfl rfl),fun _=>⟨rfl,rfl,rfl⟩⟩
  ·rename_i g hg;obtain⟨⟨v,O'⟩,h1,h2⟩:=Mz.1 hs;cases h2;obtain⟨db,hdb⟩:=hO _ (List.mem_cons_self ..);obtain⟨ds,a1,a2⟩:=aP hdb;obtain⟨dj,rfl,a3⟩:=je a1;obtain⟨k1,k2⟩:=(M.slot j _ hg).ca;rw[k1]at a3;cases a3
   have hgd: ∃b,bE J (some (j,w))=some b∧db=bv b:=by
    simp only[XK.run]at a2;split at a2
    ·rename_i b heq;simp only[List.cons.injEq,and_true]at heq;cases a2;exact⟨_,by simp[bE,heq],rfl⟩
    ·rename_i heq;simp only[List.cons.injEq,and_true]at heq;cases a2;exact⟨_,by simp[bE,heq],rfl⟩
    ·cases a2
   obtain⟨b,hb,rfl⟩:=hgd;cases b
   ·refine⟨J.set x (.tup []),ι,γ,by simp[an.run,hb],M.set ?_,fun _=>⟨rfl,rfl,rfl⟩⟩;cases v with
    |x e=>exact .x (by simp only[X.ev]at hdb⊢;rw[hdb];rfl) rfl
    |_=>exact .gd hdb (fun h=>by cases h) fun _=>rfl
   ·have hO': ∀e∈O',∃d,X.ev G E e=some d:=fun e he=>by
     obtain⟨d,hd⟩:=hO _ (Cz _ (List.mem_map.2 ⟨e,he,rfl⟩));simp only[X.ev]at hd hdb;rw[hdb]at hd;exact⟨d,hd⟩
    obtain⟨d,h3,h4⟩:=gW M (vG _ args fun a=>xH (az M a) hdb) h1 hO';refine⟨J.set x d,ι,γ,by simp[an.run,hb,PE,h3],M.set ?_,fun _=>⟨rfl,rfl,rfl⟩⟩;cases v with
    |x e=>
     obtain⟨h5,h6⟩:=h4.ca;exact .x (by simp only[X.ev]at hdb⊢;rw[hdb];exact h5) h6
    |_=>exact .gd hdb (fun _=>h4) fun h=>by cases h
  ·cases hs
 ·obtain⟨J',ι',γ',h1,h2⟩:=pT M hs hO;exact⟨J',ι',γ',by simp[an.run,bE,h1],h2,fun h=>by cases h⟩
 ·rename_i e j w;split at hs
  ·rename_i b hg;obtain⟨k1,_⟩:=(M.slot j _ hg).ca
   have hgd:bE J (some (j,w))=some (b==w):=by
    have:J.s j= .v (.bool b):=(Option.some.inj (show some (D.v (.bool b))=some (J.s j)from k1)).symm;simp[bE,this]
   split at hs
   ·rename_i hbw;subst hbw;obtain⟨J',ι',γ',h1,h2⟩:=pT M hs hO;exact⟨J',ι',γ',by simp[an.run,hgd,h1],h2,fun h=>by cases h⟩
   ·rename_i hbw;refine⟨J.void e.dst,ι,γ,by simp only[an.run,hgd,Oz];rw[show(b==w)=false by simpa using hbw];rfl, ?_,fun h=>by cases h⟩;cases hd:e.dst with
    |none=>rw[hd]at hs;cases hs;exact M
    |some x=>rw[hd]at hs;cases hs;exact M.set (.x rfl rfl)
  ·cases hs
 ·cases hs
theorem pX(M:Mt Ω G E ι γ Y J){st:an}{Y':Sy}{O:List X}(hs:mR st Y=some (Y',O))(hO: ∀e∈O,∃d,X.ev G E e=some d):
  ∃J' ι' γ',st.run (br G) J=some J'∧Mt Ω G E ι' γ' Y' J':=let⟨J',ι',γ',h1,h2,_⟩:=n5 M hs hO;⟨J',ι',γ',h1,h2⟩
theorem eV: ∀{sts:List an} {Y:Sy} {J:St} {ι γ:Nat→Tok} {Y':Sy} {O:List X},Mt Ω G E ι γ Y J→ei sts Y=some (Y',O)→(∀e∈O,∃d,X.ev G E e=some d)→
  ∃J' ι' γ',runs (br G) sts J=some J'∧Mt Ω G E ι' γ' Y' J'
 | [],Y,J,ι,γ,Y',O,M,hs,_=>by cases hs;exact⟨J,ι,γ,rfl,M⟩
 |st::r,Y,J,ι,γ,Y',O,M,hs,hO=>by
  simp only[ei,Bz,Mz]at hs;obtain⟨⟨Y1,O1⟩,h1,⟨Y2,O2⟩,h2,h3⟩:=hs;cases h3;obtain⟨J1,ι1,γ1,g1,M1⟩:=pX M h1 fun e he=>hO e (by simp[he]);obtain⟨J2,ι2,γ2,g2,M2⟩:=eV M1 h2 fun e he=>hO e (by simp[he]);exact⟨J2,ι2,γ2,by simp[runs,g1,g2],M2⟩
theorem Mt.sub(M:Mt Ω G E ι γ Y J){Z:Sy}(hs: ∀i v,find Z.s i=some v→find Y.s i=some v)(hh: ∀n,find Z.h n=find Y.h n)(hnv:Z.nv=Y.nv):Mt Ω G E ι γ Z J:=by
 have vr: ∀{v:SV} {d:D},VR G E ι Y.h v d→VR G E ι Z.h v d:=fun H=>H.mono (fun _ _ h=>h) fun n _=>⟨rfl,Lk.same (fun _ _ h=>h) (hh n)⟩
 refine⟨fun i v hv=>vr (M.slot i v (hs i v hv)),fun n vs hn=> ?_,fun n e sz c hn=>M.au n e sz c (by rw[←hh];exact hn),fun n c hn=>M.mpo n c (by rw[←hh];exact hn),fun n e sz c hn=> ?_,fun n n' _ _ _ _ _ _ h1 h2=>M.one n n' _ _ _ _ _ _ (by rw[←hh];exact h1) (by rw[←hh];exact h2),fun n k hn=>M.rwo n k (by rw[←hh];exact hn),
  fun a b o o' h1 h2=>M.inj a b o o' (by rw[←hh];exact h1) (by rw[←hh];exact h2),
  fun a b e e' sz sz' c c' h1 h2=>M.gZ a b e e' sz sz' c c' (by rw[←hh];exact h1) (by rw[←hh];exact h2),M.wf,fun n e sz c hn=>M.old n e sz c (by rw[←hh];exact hn),by rw[hnv];exact M.nv,M.con⟩
 ·obtain⟨ds,h1,h2,h3⟩:=M.box n vs (by rw[←hh];exact hn);exact⟨ds,h1,h2,h3.1,fun i v d hv hd=>vr (h3.2 i v d hv hd)⟩
 ·obtain⟨L,h1,h2,h3,h4⟩:=M.own n e sz c (by rw[←hh];exact hn);exact⟨L,h1,h2,h3,fun q hq=>(h4.1 q hq).lE rfl (fun k o hk=>(h4.1 q hq).2.2.2.1 k o (by rw[←hh];exact hk)) (fun k e sz c hk=>(h4.1 q hq).2.2.2.2.1 k e sz c (by rw[←hh];exact hk)) fun _=>Nat.le_refl _,h4.2⟩
theorem GR{Γ:Env}{st:an}{J J':St}(h:st.run Γ J=some J')(hb:st.CS=true){j:Nat}(hj:st.dst≠some j):J'.s j=J.s j:=by
 cases st with
 |op x k args g=>
  obtain⟨d,rfl,_⟩:=iA h;exact St.cN _ _ fun e=>hj (by simp[an.dst,e])
 |eff e g=>
  simp only[an.run]at h;rw[Bz]at h;obtain⟨c,hc,h⟩:=h;cases c
  ·simp only[cond_false,Jz]at h;subst h;cases hd:e.dst with
   |none=>rfl
   |some y=>exact St.cN _ _ fun e2=>hj (by simp[an.dst,hd,e2])
  ·simp only[cond_true]at h
   have fin: ∀{x o d},J.new x o d=J'→e.dst=some x→J'.s j=J.s j:=fun{x o d} h1 h2=>by
    subst h1;exact St.fc fun e3=>hj (by simp[an.dst,h2,e3])
   cases e with
   |box _ _ x a=>
    simp only[cg.run,CD]at h;split at h
    ·exact fin (Option.some.inj h) rfl
    ·cases h
   |mks x e size zero a b=>
    simp only[cg.run,Dm]at h;split at h
    ·split at h
     ·exact fin (Option.some.inj h) rfl
     ·cases h
    ·cases h
   |lit x e size len zero places args=>
    simp only[cg.run,Di]at h;split at h
    ·rw[Bz]at h;obtain⟨cs,_,h⟩:=h;split at h
     ·exact fin (Option.some.inj h) rfl
     ·cases h
    ·cases h
   |acall x e sz f args=>
    simp only[cg.run,og]at h;split at h
    ·rw[Bz]at h;obtain⟨q,_,h⟩:=h;split at h
     ·split at h
      ·exact fin (Option.some.inj h) rfl
      ·cases h
     ·cases h
    ·cases h
   |mkm x=>exact fin (Option.some.inj h) rfl
   |mkml x=>exact fin (Option.some.inj h) rfl
   |_=>simp[an.CS,an.news,cg.news]at hb
 |bad=>cases h
theorem jC{Γ:Env}: ∀{a b:List an} {J:St},runs Γ (a++b) J=(runs Γ a J).bind (runs Γ b)
 | [],b,J=>rfl
 |st::r,b,J=>by
  simp only[List.cons_append,runs];cases st.run Γ J with
  |none=>rfl
  |some J1=>simp only[Oz];exact jC
theorem oL{Γ:Env}: ∀{sts:List an} {J J':St},WF J→runs Γ sts J=some J'→(∀st∈sts,st.CS=true)→l_ J.m J'.m∧ ∀j,(∀st∈sts,st.dst≠some j)→J'.s j=J.s j
 | [],J,J',_,h,_=>by cases h;exact⟨fun _ _ h=>h,fun _ _=>rfl⟩
 |st::r,J,J',W,h,hf=>by
  simp only[runs,Bz]at h;obtain⟨J1,h1,h2⟩:=h;have hm:=th W h1;have hfs:=hf st (List.mem_cons_self ..);obtain⟨k1,k2⟩:=oL hm.1 h2 fun s hs=>hf s (Cz _ hs);refine⟨fun t o ht=>k1 t o ?_,fun j hj=> ?_⟩
  ·cases st with
   |op=>rw[hm.2.2 trivial];exact ht
   |eff e g=>exact hm.2.1 hfs t o ht
   |bad=>cases h1
  ·rw[k2 j fun s hs=>hj s (Cz _ hs)];exact GR h1 hfs (hj st (List.mem_cons_self ..))
theorem Mt.apm(M:Mt Ω G E ι γ Y J){n e sz y:Nat}{c c':X}{L':List OE}{J':St}(hf:find Y.h n=some (.mpl e sz c))(hs: ∀j,j≠y→J'.s j=J.s j)(W:WF J')(hc: ∀y,J.c y≤J'.c y)
  (hm: ∀k o,k≠n→find Y.h k=some o→ι k≠ []→J'.m (ι k)=J.m (ι k)) (nJ: ∀t q,J.m t=some (.raw q)→J'.m t=some (.raw q)) (hi:ι n≠ []) (he:X.ev G E c'=some (.list (ao (L'.map OE.pr))))
  (hmp:J'.m (ι n)=some (.map (L'.map (OE.en sz)))) (hL:KL Y.h ι γ J' e sz L'):Mt Ω G E ι γ {Y with s:=b_ y .un Y.s,h:=b_ n (.mpl e sz c') Y.h} J':=by
 have hf': ∀k,find (b_ n (.mpl e sz c') Y.h) k=if k=n then some (.mpl e sz c')else find Y.h k:=fun k=>bC n k _ Y.h
 have vr: ∀{v:SV} {d:D},VR G E ι Y.h v d→VR G E ι (b_ n (.mpl e sz c') Y.h) v d:=fun H=>H.write hf trivial
 have back: ∀{k:Nat} {o:SO},(∀a b d,o≠ .mpl a b d)→find (b_ n (.mpl e sz c') Y.h) k=some o→k≠n∧find Y.h k=some o:=fun{k o} hq h=>by
  rw[hf']at h;by_cases hk:k=n
  ·rw[if_pos hk]at h;cases h;exact absurd rfl (hq _ _ _)
  ·rw[if_neg hk]at h;exact⟨hk,h⟩
 have vR: ∀{k:Nat} {o:SO},find (b_ n (.mpl e sz c') Y.h) k=some o→ ∃o',find Y.h k=some o':=fun{k o} h=>by
  rw[hf']at h;by_cases hk:k=n
  ·rw[hk];exact⟨_,hf⟩
  ·rw[if_neg hk]at h;exact⟨_,h⟩
 have only: ∀{k a b:Nat} {d:X},find (b_ n (.mpl e sz c') Y.h) k=some (.mpl a b d)→k=n:=fun{k a b d} h=>by
  rw[hf']at h;by_cases hk:k=n
  ·exact hk
  ·rw[if_neg hk]at h;exact M.one k n _ _ _ _ _ _ h hf
 refine⟨fun i v hv=> ?_,fun k vs hk=> ?_,fun k e sz c hk=> ?_,fun k c hk=> ?_,fun k a b d hk=> ?_,fun a b _ _ _ _ _ _ h1 h2=>(only h1).trans (only h2).symm,fun k kk hk=> ?_,fun a b o o' h1 h2=> ?_,fun a b e e' sz sz' c c' h1 h2=> ?_,W,fun k e sz c hk hne z j r hg=> ?_,M.nv,fun t ht=>nJ t _ (M.con t ht)⟩
 ·simp only[bC]at hv;by_cases hiy:i=y
  ·rw[if_pos hiy]at hv;cases hv;exact .un
  ·rw[if_neg hiy]at hv;rw[hs i hiy];exact vr (M.slot i v hv)
 ·obtain⟨hne,hk⟩:=back (by simp) hk;obtain⟨ds,h1,h2,h3⟩:=M.box k vs hk;exact⟨ds,h1,by rw[hm k _ hne hk h1];exact h2,h3.1,fun i v d hv hd=>vr (h3.2 i v d hv hd)⟩
 ·obtain⟨hne,hk⟩:=back (by simp) hk;obtain⟨es,h1,h2,h3⟩:=M.au k _ _ _ hk;refine⟨es,h1,h2, ?_⟩;rcases h3 with h3|⟨h3,h4⟩
  ·exact .inl h3
  ·exact .inr ⟨h3,by rw[hm k _ hne hk h3];exact h4⟩
 ·obtain⟨hne,hk⟩:=back (by simp) hk;obtain⟨es,h1,h2,h3⟩:=M.mpo k c hk;exact⟨es,h1,h2,by rw[hm k _ hne hk h2];exact h3⟩
 ·obtain rfl:=only hk;rw[hf',if_pos rfl]at hk;cases hk;refine⟨L',he,hi,hmp,fun q hq=>(hL.1 q hq).lE rfl (fun k o ho=> ?_) (fun k e sz c ho=> ?_) fun _=>Nat.le_refl _,hL.2⟩
  ·obtain⟨o',ho'⟩:=vR ho;exact(hL.1 q hq).2.2.2.1 k o' ho'
  ·exact(hL.1 q hq).2.2.2.2.1 k _ _ _ (back (by simp) ho).2
 ·obtain⟨hne,hk⟩:=back (by simp) hk;obtain⟨h1,h2,h3,h4⟩:=M.rwo k kk hk;exact⟨h1,h2,by rw[hm k _ hne hk h2];exact h3,h4⟩
 ·obtain⟨_,g1⟩:=vR h1;obtain⟨_,g2⟩:=vR h2;exact M.inj a b _ _ g1 g2
 ·exact M.gZ a b _ _ _ _ _ _ (back (by simp) h1).2 (back (by simp) h2).2
 ·exact Nat.lt_of_lt_of_le (M.old k _ _ _ (back (by simp) hk).2 hne z j r hg) (hc z)
theorem xy{α:Type}: ∀{l:List α} {i j:Nat} {a:α},l.Nodup→l[i]?=some a→l[j]?=some a→i=j
 | [],i,j,a,_,h,_=>by simp at h
 |b::r,i,j,a,hd,hi,hj=>by
  have hd:=List.nodup_cons.1 hd;cases i with
  |zero=>
   grind
  |succ i=>
   cases j with
   |zero=>simp at hi hj;subst hj;exact absurd (Lz hi) hd.1
   |succ j=>exact congrArg (· +1) (xy hd.2 (a:=a) (by simpa using hi) (by simpa using hj))
theorem Cd(s:Nat→D)(j:Nat):(aJ.t j).val s=s j:=rfl
theorem keys_eq(L:List OE)(sz:Nat):(L.map (OE.en sz)).map Prod.fst=(L.map OE.pr).map Prod.fst:=by
 simp only[List.map_map];rfl
theorem FM(M:Mt Ω G E ι γ Y J){x y i i' n e sz:Nat}{k k' b:aJ}{ks:List Nat}{c cb kx:X}(ha:find Y.s i=some (.mp n))(hf:find Y.h n=some (.mpl e sz c))
  (hk:(bL Y k).nM=some kx) (hcb:tP Y.h (bL Y b)=some cb) (hO: ∃d,X.ev G E (.mk (.mapp ks sz) [c,kx,cb])=some d)
  (hlk:oF J.m ks .nil false [J.s i,k.val J.s]=some (J.s x)):
  ∃J2,(an.eff (.app y e sz (.t x) b) none).run (br G) J=some J2∧Mt Ω G E ι γ (Y.xO y) J2∧(∀j,j≠y→J2.s j=J.s j)∧
   ∀(Y3:Sy) (J3:St),Mt Ω G E ι γ Y3 J3→J3.m=J2.m→J3.c=J2.c→J3.s y=J2.s y→(∀k,find Y3.h k=find Y.h k)→find Y3.s i'=some (.mp n)→(bL Y3 k').nM=some kx→
    ∃J4,(an.eff (.mupd ks (.t i') k' (.t y)) none).run (br G) J3=some J4∧Mt Ω G E ι γ {Y3 with s:=b_ y .un Y3.s,h:=b_ n (.mpl e sz (.mk (.mapp ks sz) [c,kx,cb])) Y3.h} J4:=by
 obtain⟨L,o1,o2,o3,o4,o5⟩:=M.own n e sz c hf;have hsi:J.s i= .mp (ι n):=by have:=M.slot i _ ha;generalize J.s i=d at this;cases this;rfl
 obtain⟨d',hd'⟩:=hO;obtain⟨ds0,a1,a2⟩:=aP hd';simp only[X.ba,Bz,Mz]at a1;obtain⟨dc,b1,r1,⟨dk,b2,r2,⟨db,b3,r3,b4,rfl⟩,rfl⟩,rfl⟩:=a1;cases b4;rw[o1]at b1;cases b1;have e1:=bJ (az M k) hk b2;simp only[XK.run,aH,Oz,Bz,Mz]at a2;obtain⟨es2,g1,es',g2,rfl⟩:=a2;have hel:=lq M (az M b) hcb b3 g1;unfold uA at g2;split at g2
 rotate_left
 ·cases g2
 rename_i bc;obtain⟨C6,gi,hne⟩:=bc;have gi:aO sz es2=true:=gi;have bQ: ¬(es2.all (fun c=>c.length==sz)=false):=by rw[bU gi];simp
 obtain⟨r,hr,g2⟩:=Bz.1 g2;simp only[oF,hsi,o3,←e1]at hlk;rw[if_pos C6,fG (keys_eq L sz),hr,Oz]at hlk;have JB: ∀q,q∈L→iJ Y.h ι γ J q:=fun q hq=>⟨n,e,sz,c,L,hf,o3,⟨o4,o5⟩,hq⟩;have hnt:ι n≠J.tok y:=M.ez y hf
 have lV: ∀k,find (b_ n (.mpl e sz c) Y.h) k=find Y.h k:=fun k=>by
  rw[bC]
  grind
 cases r with
 |none=>
  simp only[Bool.false_eq_true,if_false,Jz]at hlk;simp only[]at g2;split at g2<;>cases g2;rename_i hlen;let v:=D.sl (J.tok y) sz 0 es2.length none;let J2:=J.new y (.row (J.tok y) e es2) v;have h2s: ∀j,j≠y→J2.s j=J.s j:=fun j hj=>St.fc hj;have h2y:J2.s y=v:=by simp[J2,St.new,St.set]
  have h2m: ∀t,J2.m t=if t=J.tok y then some (.row (J.tok y) e es2)else J.m t:=fun t=>cC ..
  have h2n:J2.m (ι n)=some (.map (L.map (OE.en sz))):=by rw[h2m,if_neg hnt];exact o3
  have hc2: ∀z,J2.c z=if z=y then J.c z+1 else J.c z:=fun z=>rfl
  have r2:(an.eff (.app y e sz (.t x) b) none).run (br G) J=some J2:=by
   simp only[an.run,bE,Oz,cond_true,cg.run,Cd,←hlk,tx,hel];rw[if_neg bQ,if_neg (by simpa using hne),if_pos hlen.2]
  have Bo: ∀q,q∈L→J2.m q.u=J.m q.u:=fun q hq=>by rw[h2m,if_neg (Ne.symm (M.cr y (JB q hq)).1)]
  have M2:=M.apm (y:=y) (c':=c) (L':=L) (J':=J2) hf h2s (M.wf.new y _ _) (fun z=>by rw[hc2];split<;>omega) (fun j o hj ho hi=>by rw[h2m,if_neg (M.ez y ho)]) (fun t q hq=>by rw[h2m,if_neg (fun e=>by rw[e,M.wf.tok y]at hq;cases hq)];exact hq) o2 o1 h2n
   ⟨fun q hq=>(o4 q hq).lE (Bo q hq) (o4 q hq).2.2.2.1 (o4 q hq).2.2.2.2.1 (fun z=>by rw[hc2];split<;>omega),o5⟩
  refine⟨J2,r2,M2.sub (fun i v h=>h) (fun k=>(lV k).symm) rfl,h2s,fun Y3 J3 M3 k1 k2 k3 k4 k5 k6=> ?_⟩;have Tj:J3.s i'= .mp (ι n):=by have:=M3.slot i' _ k5;generalize J3.s i'=d at this;cases this;rfl
  have e2:=bJ (az M3 k') k6 b2
  have r3:(an.eff (.mupd ks (.t i') k' (.t y)) none).run (br G) J3=some (J3.put (ι n) (some (.map (L.map (OE.en sz)++ [(dk,v)])))):=by
   simp only[an.run,bE,Oz,cond_true,cg.run,Cd,Tj,←e2,k3,h2y,jx,k1,h2n];rw[if_pos ⟨rfl,C6⟩,fG (keys_eq L sz),hr];simp only[Oz,List.length_map];rw[if_pos (by simpa using hlen.1)]
  refine⟨_,r3, ?_⟩;have hm3: ∀t,(J3.put (ι n) (some (.map (L.map (OE.en sz)++ [(dk,v)])))).m t=if t=ι n then some (.map (L.map (OE.en sz)++ [(dk,v)]))else J3.m t:=fun t=>rfl
  have hf3:find Y3.h n=some (.mpl e sz c):=by rw[k4];exact hf
  refine M3.apm (L':=L++ [⟨dk,J.tok y,J.tok y,es2⟩]) hf3 (fun j hj=>rfl) (M3.wf.put (by rw[k1,h2n];simp)) (fun z=>Nat.le_refl _) (fun j o hj ho hi=> ?_) (fun t q hq=> ?_) o2 ?_ ?_ ⟨fun q hq=> ?_, ?_⟩
  ·rw[hm3,if_neg (fun e=>hj (M3.inj j n _ _ ho hf3 e hi))]
  ·rw[hm3,if_neg (fun e=>by rw[e,k1,h2n]at hq;cases hq)];exact hq
  ·rw[List.map_append];exact hd'
  ·rw[hm3,if_pos rfl,List.map_append];rfl
  ·rcases List.mem_append.1 hq with hq|hq
   ·refine(o4 q hq).lE ?_ (fun k o ho=>(o4 q hq).2.2.2.1 k o (by rw[←k4];exact ho)) (fun k e sz c ho=>(o4 q hq).2.2.2.2.1 k e sz c (by rw[←k4];exact ho)) (fun z=> ?_)
    ·rw[hm3,if_neg (M.mJ hf (JB q hq)),k1];exact Bo q hq
    ·show J.c z≤J3.c z;rw[k2,hc2];split<;>omega
   ·rw[List.mem_singleton]at hq;subst hq;refine⟨mS J y,gi, ?_,fun j o ho=>M.ez y (by rw[←k4];exact ho),fun j e sz c ho hi=>M.ES y (by rw[←k4];exact ho) hi,fun z j rr hz=> ?_⟩
    ·rw[hm3,if_neg (Ne.symm hnt),k1,h2m,if_pos rfl]
    ·simp only[St.tok,List.cons.injEq]at hz;obtain⟨z1,z2,_⟩:=hz;have:z=y:=by omega
     subst this;show j<J3.c z;rw[k2,hc2,if_pos rfl];omega
  ·rw[List.map_append,List.nodup_append];refine⟨o5,by simp,fun a ha' b hb'=> ?_⟩;obtain⟨q,hq,rfl⟩:=List.mem_map.1 ha';simp only[List.map_cons,List.map_nil,List.mem_singleton]at hb';subst hb';exact Ne.symm (M.cr y (JB q hq)).2
 |some j=>
  obtain⟨p,hp,hpx⟩:=Mz.1 hlk;simp only[Bool.false_eq_true,if_false]at hpx;rw[Dz,Mz]at hp;obtain⟨q,hq,rfl⟩:=hp;simp only[OE.en]at hpx;simp only[Dz,hq,Pz,OE.pr]at g2;split at g2<;>cases g2;rename_i hlen;have hqm:=Lz hq;obtain⟨q1,q2,q3,q4,q5,q6⟩:=o4 q hqm;have hjl:=(Gz.1 hq).1;let v:=D.sl (J.tok y) sz 0 (q.es.length+es2.length) none;let J2:=(J.aG q.g q.es.length).new y (.row q.g e (q.es.take q.es.length++es2)) v;have h2s: ∀j,j≠y→J2.s j=J.s j:=fun j hj=>by simp only[J2];rw[St.fc hj];rfl
  have h2y:J2.s y=v:=by simp[J2,St.new,St.set]
  have htk:(J.aG q.g q.es.length).tok y=J.tok y:=rfl
  have h2m: ∀t,J2.m t=if t=J.tok y then some (.row q.g e (q.es++es2))else HO.eB q.g q.es.length (J.m t):=fun t=>by
   simp only[J2,cC,htk,List.take_length];rfl
  have h2n:J2.m (ι n)=some (.map (L.map (OE.en sz))):=by rw[h2m,if_neg hnt,o3];rfl
  have hc2: ∀z,J2.c z=if z=y then J.c z+1 else J.c z:=fun z=>rfl
  have r2:(an.eff (.app y e sz (.t x) b) none).run (br G) J=some J2:=by
   simp only[an.run,bE,Oz,cond_true,cg.run,Cd,←hpx,tx,hel];rw[if_neg bQ];rw[if_neg (by simpa using hne)];simp only[q3];rw[if_pos ⟨trivial,trivial,hlen,by omega⟩];simp only[if_true];rfl
  have Bo: ∀p,p∈L→J2.m p.u=J.m p.u:=fun p hp=>by
   rw[h2m,if_neg (Ne.symm (M.cr y (JB p hp)).1),(o4 p hp).2.2.1];simp only[HO.eB];by_cases hpg:p.g=q.g
   ·obtain⟨m,hm⟩:=List.getElem?_of_mem hp;have hmj:m=j:=xy o5 (a:=p.g) (by rw[Dz,hm];rfl) (by rw[Dz,hq,hpg];rfl);subst hmj;rw[hm]at hq;cases hq;rw[if_neg (by omega)]
   ·rw[if_neg fun hh=>hpg hh.1]
  have Yr: ∀o:HO,(∀e es,o≠ .row q.g e es)→HO.eB q.g q.es.length (some o)=some o:=fun o ho=>by
   cases o with
   |row g' e' es'=>simp only[HO.eB];rw[if_neg fun hh=>ho e' es' (by rw[hh.1])]
   |_=>rfl
  have XN: ∀j o,find Y.h j=some o→ι j≠ []→J2.m (ι j)=J.m (ι j):=fun j o ho hi=>by
   rw[h2m,if_neg (M.ez y ho)];cases o with
   |box vs=>obtain⟨_,_,h,_⟩:=M.box j vs ho;rw[h];rfl
   |map c=>obtain⟨_,_,_,h⟩:=M.mpo j c ho;rw[h];rfl
   |mpl e' sz' c=>obtain⟨_,_,_,h,_⟩:=M.own j e' sz' c ho;rw[h];rfl
   |raw kk=>obtain⟨_,_,h,_⟩:=M.rwo j kk ho;rw[h];rfl
   |au e' sz' c'=>
    obtain⟨es3,_,_,h⟩:=M.au j _ _ _ ho;rcases h with⟨h,_⟩|⟨_,h⟩
    ·exact absurd h hi
    ·rw[h];exact Yr _ fun e2 es4 h2=>q5 j _ _ _ ho hi (by injection h2)
  have M2:=M.apm (y:=y) (c':=c) (L':=L) (J':=J2) hf h2s ((M.wf.aG _ _).new y _ _) (fun z=>by rw[hc2];split<;>omega) (fun j o hj ho hi=>XN j o ho hi) (fun t o ho=>by rw[h2m,if_neg (fun e=>by rw[e,M.wf.tok y]at ho;cases ho),ho];rfl) o2 o1 h2n
   ⟨fun q hq=>(o4 q hq).lE (Bo q hq) (o4 q hq).2.2.2.1 (o4 q hq).2.2.2.2.1 (fun z=>by rw[hc2];split<;>omega),o5⟩
  refine⟨J2,r2,M2.sub (fun i v h=>h) (fun k=>(lV k).symm) rfl,h2s,fun Y3 J3 M3 k1 k2 k3 k4 k5 k6=> ?_⟩;have Tj:J3.s i'= .mp (ι n):=by have:=M3.slot i' _ k5;generalize J3.s i'=d at this;cases this;rfl
  have e2:=bJ (az M3 k') k6 b2;let o4':HO:= .map ((L.map (OE.en sz)).set j (q.k,v))
  have r3:(an.eff (.mupd ks (.t i') k' (.t y)) none).run (br G) J3=some (J3.put (ι n) (some o4')):=by
   simp only[an.run,bE,Oz,cond_true,cg.run,Cd,Tj,←e2,k3,h2y,jx,k1,h2n];rw[if_pos ⟨rfl,C6⟩,fG (keys_eq L sz),hr];simp only[Oz,Dz,hq,Pz,OE.en];rfl
  refine⟨_,r3, ?_⟩;have hm3: ∀t,(J3.put (ι n) (some o4')).m t=if t=ι n then some o4' else J3.m t:=fun t=>rfl
  have hf3:find Y3.h n=some (.mpl e sz c):=by rw[k4];exact hf
  have jN:(L.set j ⟨q.k,J.tok y,q.g,q.es++es2⟩).map (OE.en sz)=(L.map (OE.en sz)).set j (q.k,v):=by
   rw[List.map_set];simp only[OE.en,v,List.length_append]
  have IK:(L.set j ⟨q.k,J.tok y,q.g,q.es++es2⟩).map OE.pr=(L.map OE.pr).set j (q.k, .list (q.es++es2)):=by
   rw[List.map_set];rfl
  have Xy:(L.set j ⟨q.k,J.tok y,q.g,q.es++es2⟩).map OE.g=L.map OE.g:=by
   rw[List.map_set];refine List.ext_getElem? fun m=> ?_;rw[List.getElem?_set];by_cases hmj:j=m
   ·subst hmj;rw[if_pos rfl,if_pos (by simpa using hjl),Dz,hq];rfl
   ·rw[if_neg hmj]
  refine M3.apm (L':=L.set j ⟨q.k,J.tok y,q.g,q.es++es2⟩) hf3 (fun j hj=>rfl) (M3.wf.put (by rw[k1,h2n];simp)) (fun z=>Nat.le_refl _) (fun j o hj ho hi=> ?_) (fun t o ho=> ?_) o2 ?_ ?_ ⟨fun p hp=> ?_,by rw[Xy];exact o5⟩
  ·rw[hm3,if_neg (fun e=>hj (M3.inj j n _ _ ho hf3 e hi))]
  ·rw[hm3,if_neg (fun e=>by rw[e,k1,h2n]at ho;cases ho)];exact ho
  ·rw[IK];exact hd'
  ·rw[hm3,if_pos rfl,jN]
  ·have hcz: ∀z,J.c z≤J3.c z:=fun z=>by rw[k2,hc2];split<;>omega
   obtain⟨m,hm⟩:=List.getElem?_of_mem hp;rw[List.getElem?_set]at hm;by_cases hmj:j=m
   ·rw[if_pos hmj,if_pos hjl]at hm;cases hm;refine⟨mS J y,jT q2 gi, ?_,fun j o ho=>M.ez y (by rw[←k4];exact ho),fun j e sz c ho=>q5 j e sz c (by rw[←k4];exact ho),fun z j rr hz=>Nat.lt_of_lt_of_le (q6 z j rr hz) (hcz z)⟩;rw[hm3,if_neg (Ne.symm hnt),k1,h2m,if_pos rfl]
   ·rw[if_neg hmj]at hm;have hpm:=Lz hm;refine(o4 p hpm).lE ?_ (fun k o ho=>(o4 p hpm).2.2.2.1 k o (by rw[←k4];exact ho)) (fun k e sz c ho=>(o4 p hpm).2.2.2.2.1 k e sz c (by rw[←k4];exact ho)) hcz;rw[hm3,if_neg (M.mJ hf (JB p hpm)),k1];exact Bo p hpm
theorem KV(M:Mt Ω G E ι γ Y J){i n e sz:Nat}{k:aJ}{ks:List Nat}{c cb kx:X}(ha:find Y.s i=some (.mp n))(hf:find Y.h n=some (.mpl e sz c))
  (hk:(bL Y k).nM=some kx) (hO: ∃d,X.ev G E (.mk (.mapp ks sz) [c,kx,cb])=some d): ∃d,oF J.m ks .nil false [J.s i,k.val J.s]=some d:=by
 obtain⟨L,o1,o2,o3,o4,o5⟩:=M.own n e sz c hf;have hsi:J.s i= .mp (ι n):=by have:=M.slot i _ ha;generalize J.s i=d at this;cases this;rfl
 obtain⟨d',hd'⟩:=hO;obtain⟨ds0,a1,a2⟩:=aP hd';simp only[X.ba,Bz,Mz]at a1;obtain⟨dc,b1,r1,⟨dk,b2,r2,⟨db,b3,r3,b4,rfl⟩,rfl⟩,rfl⟩:=a1;cases b4;rw[o1]at b1;cases b1;have e1:=bJ (az M k) hk b2;simp only[XK.run,aH,Oz,Bz,Mz]at a2;obtain⟨es2,g1,es',g2,rfl⟩:=a2;unfold uA at g2;split at g2
 rotate_left
 ·cases g2
 rename_i bc;obtain⟨r,hr,g2⟩:=Bz.1 g2;simp only[oF,hsi,o3,←e1];rw[if_pos bc.1,fG (keys_eq L sz),hr,Oz];cases r with
 |none=>exact⟨_,rfl⟩
 |some j=>
  grind
theorem BF(M:Mt Ω G E ι γ Y J){i:Nat}(h:E6 Y i=true): ∃t es,J.s i= .mp t∧J.m t=some (.map es):=by
 unfold E6 at h;split at h
 ·rename_i n hs;split at h
  ·rename_i e sz c hf;obtain⟨L,_,_,o3,_⟩:=M.own n _ _ _ hf;have:=M.slot i _ hs;generalize J.s i=d at this;cases this;exact⟨_,_,rfl,o3⟩
  ·cases h
 ·cases h
theorem pb{f:List an→List Nat→Nat→aJ→qc}{y:Nat}(hf: ∀C ks' i' k',(f C ks' i' k').C=C∧(f C ks' i' k').S3= .eff (.mupd ks' (.t i') k' (.t y)) none): ∀{r C:List an} {q:qc} {R:List an},pa f y C r=some (q,R)→
  (∃C' ks' i' k',q=f C' ks' i' k')∧C.reverse++r=q.C++ [q.S3]++R
 | [],C,q,R,h=>by cases C<;>simp[pa]at h
 |st::r,C,q,R,h=>by
  unfold pa at h;split at h
  ·grind
  ·rename_i heq;cases heq;split at h
   ·obtain⟨h1,h2⟩:=pb hf h
    grind
   ·cases h
  ·grind
theorem o_{x:Nat}{ks:List Nat}{i:Nat}{k:aJ}: ∀{r B:List an} {q:qc} {R:List an},o9 x ks i k B r=some (q,R)→q.x=x∧q.ks=ks∧q.i=i∧q.k=k∧B.reverse++r=q.B++(q.S2::(q.C++ [q.S3]))++R
 | [],B,q,R,h=>by cases B<;>simp[o9]at h
 |st::r,B,q,R,h=>by
  unfold o9 at h;split at h
  ·rename_i heq;cases heq;split at h
   ·rename_i hc;subst hc;obtain⟨⟨C',ks',i',k',rfl⟩,h2⟩:=pb (fun _ _ _ _=>⟨rfl,rfl⟩) h;simp only[List.reverse_nil,List.nil_append]at h2;rw[h2];simp[qc.S2]
   ·cases h
  ·rename_i heq;cases heq;split at h
   ·obtain⟨h1,h2,h3,h4,h5⟩:=o_ h
    grind
   ·cases h
  ·grind
theorem pU: ∀{sts:List an} {Y:Sy} {J:St} {Y':Sy} {O:List X},Mt Ω G E ι γ Y J→sts.all an.Db=true→ei sts Y=some (Y',O)→(∀e∈O,∃d,X.ev G E e=some d)→
  ∃J',runs (br G) sts J=some J'∧Mt Ω G E ι γ Y' J'∧J'.m=J.m∧J'.c=J.c∧Y'.h=Y.h
 | [],Y,J,Y',O,M,_,hs,_=>by cases hs;exact⟨J,rfl,M,rfl,rfl,rfl⟩
 |st::r,Y,J,Y',O,M,ho,hs,hO=>by
  simp only[List.all_cons,Az]at ho;simp only[ei,Bz,Mz]at hs;obtain⟨⟨Y1,O1⟩,h1,⟨Y2,O2⟩,h2,h3⟩:=hs;cases h3
  have one: ∃J1,st.run (br G) J=some J1∧Mt Ω G E ι γ Y1 J1∧J1.m=J.m∧J1.c=J.c∧Y1.h=Y.h:=by
   obtain⟨J1,ι1,γ1,g1,g2,g3⟩:=n5 M h1 fun e he=>hO e (by simp[he]);cases st with
   |op x k args g=>
    obtain⟨rfl,rfl,hh⟩:=g3 rfl;obtain⟨d,rfl,_⟩:=iA g1;exact⟨_,g1,g2,rfl,rfl,hh⟩
   |_=>simp[an.Db]at ho
  obtain⟨J1,g1,M1,k1,k2,k3⟩:=one;obtain⟨J2,g2,M2,k4,k5,k6⟩:=pU M1 ho.2 h2 fun e he=>hO e (by simp[he]);exact⟨J2,by simp[runs,g1,g2],M2,k4.trans k1,k5.trans k2,k6.trans k3⟩
theorem jU: ∀{sts A:List an} {q:qc} {R:List an},mO sts=some (A,q,R)→sts=A++(q.all++R)
 | [],A,q,R,h=>by cases h
 |st::r,A,q,R,h=>by
  unfold mO at h;split at h
  ·grind
  ·rename_i heq;cases heq;rename_i x ks z ok i k;split at h
   ·rename_i q' hq;cases h;split at hq
    ·rename_i hz;obtain⟨h1,h2,h3,h4,h5⟩:=o_ hq;simp only[Az,Bool.not_eq_true']at hz;have hz1:z= .nil:=by cases z<;>simp[IS]at hz;rfl
     obtain rfl:=hz.2;subst hz1;simp only[List.reverse_nil,List.nil_append]at h5;rw[h5];simp[qc.all,qc.S1,h1,h2,h3,h4]
    ·cases hq
   ·obtain⟨p,hp,h2⟩:=Mz.1 h;obtain⟨A',q',R'⟩:=p;cases h2;have:=jU hp;simp[this]
  ·rename_i heq;cases heq;obtain⟨p,hp,h2⟩:=Mz.1 h;obtain⟨A',q',R'⟩:=p;cases h2;have:=jU hp;simp[this]
theorem zy(M:Mt Ω G E ι γ Y J){q:qc}{Y':Sy}{O:List X}(hs:zx q Y=some (Y',O))(hO: ∀e∈O,∃d,X.ev G E e=some d):
  ∃J' ι' γ',runs (br G) q.all J=some J'∧Mt Ω G E ι' γ' Y' J':=by
 unfold zx at hs;by_cases hok:(q.ok&&E6 Y q.i)=true
 rotate_left
 ·grind
 rw[if_pos hok]at hs;rw[Bz]at hs;obtain⟨⟨Y1,O1⟩,h1,hs⟩:=hs;rw[Bz]at hs;obtain⟨⟨Y3,O3⟩,h3,hs⟩:=hs;simp only[]at hs h3;split at hs
 rotate_left
 ·cases hs
 rename_i n n' hi hi';split at hs
 rotate_left
 ·cases hs
 rename_i e sz c hf;simp only[Bz]at hs;obtain⟨kx,hk,kx',hk',cb,hcb,hs⟩:=hs;split at hs<;>cases hs;rename_i hc;obtain⟨⟨rfl,rfl⟩,rfl,hbe⟩:=hc;obtain rfl:=aK _ _ hbe;simp only[Az,qc.ok,beq_iff_eq]at hok;obtain⟨⟨⟨⟨⟨ok1,ok2⟩,ok3⟩,ok5⟩,ok4⟩,hat⟩:=hok
 have YT:q.x≠q.i∧q.x∉q.k.reads:=by
  grind
 have Wm: ∀st∈q.B,st.CS=true:=fun st hst=>by
  have:=Tz.1 ok1 st hst
  grind
 have Sw: ∀j,(j=q.x∨j=q.i∨j∈q.k.reads)→ ∀st∈q.B,st.dst≠some j:=fun j hj st hst hd=>by
  have:=Tz.1 ok1 st hst
  grind
 have opC:q.C.all an.Db=true:=Tz.2 fun st hst=>by
  have:=Tz.1 ok5 st hst;simp only[Az]at this;exact this.1
 have Wn: ∀st∈q.C,st.CS=true:=fun st hst=>by
  have:=Tz.1 opC st hst;cases st<;>first|rfl|(simp[an.Db]at this;done)
 have ab_: ∀st∈q.C,st.dst≠some q.y:=fun st hst hd=>by
  have:=Tz.1 ok5 st hst;simp[hd]at this
 have hOm: ∃d,X.ev G E (.mk (.mapp q.ks q.sz) [c,kx,cb])=some d:=hO _ (by simp);obtain⟨t,es0,t1,t2⟩:=BF M hat;let d1:=(oF J.m q.ks .nil false [J.s q.i,q.k.val J.s]).getD .undef;let J1:=J.set q.x d1;have M1:Mt Ω G E ι γ (Y.xO q.x) J1:=M.set .un;obtain⟨J2,ι2,γ2,g2,M2⟩:=eV M1 h1 fun e he=>hO e (by simp[he]);obtain⟨fm,fs⟩:=oL M1.wf g2 Wm;have si:J2.s q.i=J.s q.i:=by rw[fs _ (Sw _ (.inr (.inl rfl)))];exact St.cN _ _ (Ne.symm YT.1)
 have sk:q.k.val J2.s=q.k.val J.s:=val_congr fun j hj=>by
  rw[fs _ (Sw _ (.inr (.inr hj)))];exact St.cN _ _ fun e=>YT.2 (e▸hj)
 have sx:J2.s q.x=d1:=by rw[fs _ (Sw _ (.inl rfl))];exact St.vj _ _ _
 obtain⟨d,hd⟩:=KV M2 hi hf hk hOm
 have hl:oF J.m q.ks .nil false [J.s q.i,q.k.val J.s]=some d:=by
  rw[si,sk]at hd;have m2:J2.m t=some (.map es0):=fm t _ t2;rw[t1]at hd⊢;simp only[oF,m2]at hd;simp only[oF,t2];exact hd
 have hd1:d1=d:=by simp only[d1,hl,Option.getD_some]
 obtain⟨J3,r3,M3,fs3,fin⟩:=FM M2 (x:=q.x) (y:=q.y) (i':=q.i') (k':=q.k') hi hf hk hcb hOm (by rw[hd,sx,hd1]);obtain⟨J4,r4,M4,m4,c4,hh4⟩:=pU M3 opC h3 fun e he=>hO e (by simp[he]);obtain⟨_,fs4⟩:=oL M3.wf r4 Wn;obtain⟨J5,r5,M5⟩:=fin Y3 J4 M4 m4 c4 (fs4 _ ab_) (fun k=>by rw[hh4];rfl) hi' hk';refine⟨J5,ι2,γ2, ?_,M5⟩
 have r1:q.S1.run (br G) J=some J1:=by
  simp only[qc.S1,an.run,bE,Oz,cond_true,PE,List.map_cons,List.map_nil,Cd,PK.run,hl,Pz];simp only[J1,hd1]
 have e4:q.S3= .eff (.mupd q.ks (.t q.i') q.k' (.t q.y)) none:=by simp only[qc.S3,←ok4]
 have r2:q.S2.run (br G) J2=some J3:=r3;simp only[qc.all,runs,r1,Oz,jC,g2,r2,r4];rw[e4,r5];rfl
theorem jW{sts:List an}{Y:Sy}{J:St}{ι γ:Nat→Tok}{Y':Sy}{O:List X}(M:Mt Ω G E ι γ Y J)(hs:lO sts Y=some (Y',O))(hO: ∀e∈O,∃d,X.ev G E e=some d):
  ∃J' ι' γ',runs (br G) sts J=some J'∧Mt Ω G E ι' γ' Y' J':=by
 unfold lO at hs;split at hs
 ·rename_i A q R hsp;simp only[Bz,Mz]at hs;obtain⟨⟨Y1,O1⟩,h1,⟨Y2,O2⟩,h2,⟨Y3,O3⟩,h3,h4⟩:=hs;cases h4;obtain⟨J1,ι1,γ1,g1,M1⟩:=eV M h1 fun e he=>hO e (by simp[he]);obtain⟨J2,ι2,γ2,g2,M2⟩:=zy M1 h2 fun e he=>hO e (by simp[he]);obtain⟨J3,ι3,γ3,g3,M3⟩:=eV M2 h3 fun e he=>hO e (by simp[he]);exact⟨J3,ι3,γ3,by rw[jU hsp,jC,g1,Oz,jC,g2,Oz,g3],M3⟩
 ·exact eV M hs hO
end
section
variable {P : Program} {fr : p8} {B : fe} {n : Nat} {r : Option Nat} {Ω : bO} {G : FP} {E : List D}
theorem sH(hG:Sound P (br G))(hm:P.follows .mixedOrders=true){id:Nat}{ops:Array Oper}{draw:Bool}{Y Y':Sy}{O:List X}{J:St}{ι γ:Nat→Tok}{a:Act}{w:World}{Q:Exit→Act→World→Prop}
  (hs:gI P fr n ops draw Y=some (Y',O)) (hO: ∀e∈O,∃d,X.ev G E e=some d) (M:Mt Ω G E ι γ Y J) (R:dB P B n w a.tmps J)
  (hQ: ∀a' w' J' ι' γ',a'.defers=a.defers→dB P B n w' a'.tmps J'→Mt Ω G E ι' γ' Y' J'→Q .normal a' w'):Code.wK r P (Code.region id ops draw) Q a w:=by
 unfold gI at hs;cases draw
 ·simp only[Bool.false_eq_true]at hs;obtain⟨J',ι',γ',h1,h2⟩:=jW M hs hO;exact zg hG R h1 fun a' w' hd R'=>hQ a' w' J' ι' γ' hd R' h2
 ·simp only[if_true]at hs;split at hs
  ·rename_i s ss ho;rw[Bz]at hs;obtain⟨q,h1,hs⟩:=hs;split at hs
   ·rename_i bQ;cases hs;refine AQ (K:=fun J'=> ∃ι' γ',Mt Ω G E ι' γ' Y' J') hG hm R ho (fun s' hs'=> ?_) fun a' w' J' hd R' ⟨ι',γ',M'⟩=>hQ a' w' J' ι' γ' hd R' M';rcases List.mem_cons.1 hs' with rfl|hs'
    ·obtain⟨J',ι',γ',g1,g2⟩:=jW M h1 hO
     grind
    ·have:=Tz.1 bQ s' hs';split at this
     ·rename_i p hp;simp only[JS,Az,beq_iff_eq]at this;obtain⟨⟨⟨⟨k1,k2⟩,k3⟩,k4⟩,k5⟩:=this
      obtain⟨J',ι',γ',g1,g2⟩:=jW M hp fun e he=>by
       obtain⟨e',he',hee⟩:=List.any_eq_true.1 (Tz.1 k4 e he);rw[aK _ _ hee];exact hO e' he'
      refine⟨J',g1,ι',γ',g2.sub (fun i v hv=>ur mb k1 hv) (fun m=> ?_) k5⟩;cases hz:find Y'.h m with
      |some o=>exact(ur (fun _ _=>Ap) k2 hz).symm
      |none=>
       cases hy:find p.1.h m with
       |none=>rfl
       |some o=>have:=ur (fun _ _=>Ap) k3 hy;rw[hz]at this;cases this
     ·grind
   ·cases hs
  ·cases hs
end
end
end Go.Proofs.YtkcfpgaepmllhaaGreatDoor
