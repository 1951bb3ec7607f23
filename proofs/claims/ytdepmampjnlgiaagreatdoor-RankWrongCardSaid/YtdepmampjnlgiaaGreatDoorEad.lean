/- Part of the proof: symbolic execution of the program, its soundness, and the closing lemmas. No condition. -/
import Derived.Test.YtdepmampjnlgiaaGreatDoorEac
namespace Go.Proofs.YtdepmampjnlgiaaGreatDoor
open Go.RowKit
set_option maxRecDepth 100000
set_option linter.all false
section
section
variable {Ω : bz} {G : FP} {E : List D} {ι : Im} {γ : Nat → Tok} {Y : Sy} {J : St} {h : List (Nat × SO)}
theorem bA.one{v:SV}{ds:List D}(H:bA G E ι h [v] ds): ∃d,ds= [d]∧VR G E ι h v d:=by
 obtain⟨hl,hh⟩:=H
 match ds,hl with
 | [d],_=>exact⟨d,rfl,hh 0 v d rfl rfl⟩
theorem bA.cons{v:SV}{vs:List SV}{ds:List D}(H:bA G E ι h (v::vs) ds): ∃d r,ds=d::r∧VR G E ι h v d∧bA G E ι h vs r:=by
 obtain⟨hl,hh⟩:=H
 match ds,hl with
 |d::r,hl=>exact⟨d,r,rfl,hh 0 v d rfl rfl,by simpa using hl,fun i u e hu he=>hh (i+1) u e (by simpa using hu) (by simpa using he)⟩
theorem bA.nil:bA G E ι h [] []:=⟨rfl,fun i v d h=>by simp at h⟩
theorem bA.mk{v:SV}{vs:List SV}{d:D}{ds:List D}(H:VR G E ι h v d)(K:bA G E ι h vs ds):bA G E ι h (v::vs) (d::ds):=by
 refine⟨by simp[K.1],fun i u e hu he=> ?_⟩;cases i with
 |zero=>simp at hu he;subst hu;subst he;exact H
 |succ i=>exact K.2 i u e (by simpa using hu) (by simpa using he)
theorem bA.two{v u:SV}{ds:List D}(H:bA G E ι h [v,u] ds): ∃d e,ds= [d,e]∧VR G E ι h v d∧VR G E ι h u e:=by
 obtain⟨d,r,rfl,h1,h2⟩:=H.cons;obtain⟨e,rfl,h3⟩:=h2.one
 grind
theorem bA.three{v u t:SV}{ds:List D}(H:bA G E ι h [v,u,t] ds): ∃d e f,ds= [d,e,f]∧VR G E ι h v d∧VR G E ι h u e∧VR G E ι h t f:=by
 obtain⟨d,r,rfl,h1,h2⟩:=H.cons;obtain⟨e,f,rfl,h3,h4⟩:=h2.two
 grind
theorem bA.append{vs us:List SV}{ds es:List D}(H:bA G E ι h vs ds)(K:bA G E ι h us es):bA G E ι h (vs++us) (ds++es):=by
 refine⟨by simp[H.1,K.1],fun i v d hv hd=> ?_⟩;by_cases hi:i<vs.length
 ·rw[Yz hi]at hv;rw[Yz (by rw[←H.1];exact hi)]at hd;exact H.2 i v d hv hd
 ·rw[Xz (by omega)]at hv;rw[Xz (by rw[←H.1];omega),←H.1]at hd;exact K.2 _ v d hv hd
theorem bA.drop{vs:List SV}{ds:List D}(H:bA G E ι h vs ds)(k:Nat):bA G E ι h (vs.drop k) (ds.drop k):=
 ⟨by simp[H.1],fun i v d hv hd=>by rw[List.getElem?_drop]at hv hd;exact H.2 _ v d hv hd⟩
theorem bA.take{vs:List SV}{ds:List D}(H:bA G E ι h vs ds)(k:Nat):bA G E ι h (vs.take k) (ds.take k):=
 ⟨by simp[H.1],fun i v d hv hd=>by
  rw[List.getElem?_take]at hv hd;split at hv
  ·rename_i hi;rw[if_pos hi]at hd;exact H.2 i v d hv hd
  ·cases hv⟩
theorem aH{k:XK}{xs:List X}{d:D}(he:X.ev G E (.mk k xs)=some d): ∃ds,X.bh G E xs=some ds∧k.run G ds=some d:=by
 simpa only[X.ev,Bz]using he
theorem iP{x:X}{ds:List D}(he:X.bh G E [x]=some ds): ∃d,ds= [d]∧X.ev G E x=some d:=by
 simp only[X.bh,Bz]at he
 grind
theorem jz{x y:X}{ds:List D}(he:X.bh G E [x,y]=some ds): ∃d e,ds= [d,e]∧X.ev G E x=some d∧X.ev G E y=some e:=by
 simp only[X.bh,Bz,Mz]at he
 grind
theorem KU{k:PK}(hp:rK k=true)(Γ Γ':Env)(m:Mem)(ds:List D):k.run Γ m ds=k.run Γ' m ds:=by
 cases k<;>first|rfl|(simp[rK]at hp)
theorem iY{k:PK}{ds:List D}{d:D}(he:(XK.pk k).run G ds=some d)(hp:rK k=true:=by rfl):k.run (bg G) eh ds=some d∧d.aK=true:=by
 simp only[XK.run,Bz]at he;obtain⟨d',h1,h2⟩:=he;split at h2<;>cases h2;exact⟨by rw[KU hp _ (bg Vq)];exact h1,by assumption⟩
theorem Ku(m:Mem):lN eh m:=fun _ _ h=>by cases h
theorem aC{k:PK}{vs:List SV}{ds:List D}{v:SV}{O:List X}(hv:bA G E ι Y.h vs ds)(hs:bK k vs=some (v,O))(hO: ∀e∈O,∃d,X.ev G E e=some d):
  ∃d,k.run (bg G) J.m ds=some d∧VR G E ι Y.h v d:=by
 unfold bK at hs;split at hs
 ·rename_i hpp;obtain⟨xs,hx,he⟩:=Mz.1 hs;cases he
  have hex: ∃d,X.ev G E (qC k xs)=some d:=by
   cases hq:isQ (qC k xs)with
   |true=>
    generalize qC k xs=y at hq;cases y<;>simp only[isQ]at hq<;>first|exact⟨_,rfl⟩|cases hq
   |false=>exact hO _ (by rw[hq];exact List.mem_singleton.2 rfl)
  obtain⟨d,hd⟩:=hex;obtain⟨ds',h1,h2⟩:=aH (GA.symm.trans hd);obtain rfl:=fP hv hx h1;obtain⟨h3,h4⟩:=iY h2 hpp;exact⟨d,oU (Ku _) h3, .x hd h4⟩
 ·cases hs
theorem nu(M:Mt Ω G E ι γ Y J){f:Nat}{vs:List SV}{ds:List D}{v:SV}{O:List X}(hv:bA G E ι Y.h vs ds)(hs:x7 Y.h f vs=some (v,O))(hO: ∀e∈O,∃d,X.ev G E e=some d):
  ∃d,lQ (bg G) J.m f ds=some d∧VR G E ι Y.h v d:=by
 obtain⟨es,hx,he⟩:=Mz.1 hs;cases he;obtain⟨d,hd⟩:=hO _ (List.mem_singleton.2 rfl);obtain⟨as,h1,h2⟩:=aH hd;obtain⟨h3,h4⟩:=qT M hv hx h1;obtain⟨h5,h6⟩:=qq h3 (fun hf=>h4 (by simpa using hf)) h2;exact⟨d,h5, .x hd h6⟩
theorem b7{n:Nat}{c:X}(hc:cont h n=some c): ∃e sz,find h n=some (.aA e sz c):=by
 unfold cont at hc
 grind
theorem VR.bQ{e:X}{d:D}(H:VR G E ι h (.x e) d):X.ev G E e=some d∧d.aK=true:=by cases H;exact⟨by assumption,by assumption⟩
theorem VR.Dh{v:SV}{d:D}(H:VR G E ι h v d)(hu:v.Qp=false):d.Dh=true:=by
 cases H<;>first|rfl|(simp[SV.Qp]at hu;done)|skip
 rename_i e h1 h2;cases d<;>first|rfl|(simp[D.aK,D.aN,D.eF]at h2)
theorem xi{c k:X}{es:List (List D)}{d:D}(hc:X.ev G E c=some (.list es))(h:X.ev G E (.mk .drp [c,k])=some d):
  ∃q z,X.ev G E k=some (.v (.int q z))∧0≤z∧z≤es.length∧d= .list (es.drop z.toNat):=by
 obtain⟨ds,a1,a2⟩:=aH h;obtain⟨dc,dk,rfl,c3,c4⟩:=jz a1;simp only[XK.run]at a2
 grind
theorem eM{c k:X}{es:List (List D)}{d:D}(hc:X.ev G E c=some (.list es))(h:X.ev G E (.mk .take [c,k])=some d):
  ∃q z,X.ev G E k=some (.v (.int q z))∧0≤z∧z≤es.length∧d= .list (es.take z.toNat):=by
 obtain⟨ds,a1,a2⟩:=aH h;obtain⟨dc,dk,rfl,c3,c4⟩:=jz a1;simp only[XK.run]at a2
 grind
theorem Ay(M:Mt Ω G E ι γ Y J){vs:List SV}{ds:List D}{v:SV}{O:List X}(hv:bA G E ι Y.h vs ds)(hs:IC Y.h vs=some (v,O))(hO: ∀e∈O,∃d,X.ev G E e=some d):
  ∃d,(PK.mv).run (bg G) J.m ds=some d∧VR G E ι Y.h v d:=by
 unfold IC at hs;split at hs
 ·cases hs;obtain⟨d,rfl,H⟩:=hv.one;exact⟨d,rfl,H⟩
 ·exact aC hv hs hO
theorem yb(M:Mt Ω G E ι γ Y J){q:Nat}{vs:List SV}{ds:List D}{v:SV}{O:List X}(hv:bA G E ι Y.h vs ds)(hs:Cj Y.h q vs=some (v,O))(hO: ∀e∈O,∃d,X.ev G E e=some d):
  ∃d,(PK.ext q).run (bg G) J.m ds=some d∧VR G E ι Y.h v d:=by
 unfold Cj at hs;split at hs
 ·rename_i vs;obtain⟨d,rfl,H⟩:=hv.one;obtain⟨v',hv',he⟩:=Mz.1 hs;cases he;cases H with
  |tup hl hh=>
   rename_i xs;have hlt:=(Gz.1 hv').1;have hx:=Ez (show q<xs.length by omega);exact⟨_,hx,hh q _ _ hv' hx⟩
 ·exact aC hv hs hO
theorem D8{n:Nat}{c:X}(hc:yN h n=some c): ∃e,find h n=some (.bL e 0 c):=by
 unfold yN at hc;split at hc<;>cases hc;exact⟨_,by assumption⟩
theorem Mt.H9(M:Mt Ω G E ι γ Y J){n e:Nat}{c:X}(hf:find Y.h n=some (.bL e 0 c)): ∃L:List OE,X.ev G E c=some (.list (aG (L.map OE.pr)))∧ι n≠ []∧J.m (ι n)=some (.map (L.map (OE.en 0)))∧
  D0 Y.h ι γ J e 0 (ι.e n) L∧ ∀(i:Nat) (q:OE),L[i]?=some q→q.u=ι.e n i∧ ∃cs,q.es= [cs]∧J.m (ι.e n i)=some (.box cs):=by
 obtain⟨L,h1,h2,h3,h4⟩:=M.own n _ _ _ hf;refine⟨L,h1,h2,h3,h4,fun i q hq=> ?_⟩;obtain⟨_,_,k3,_,_,_,k7⟩:=h4.1 q (Lz hq);have hu:=h4.2.2 rfl i q hq;obtain⟨cs,hcs⟩:=List.length_eq_one_iff.1 (k7 rfl).2;exact⟨hu,cs,hcs,by rw[←hu,k3];simp[OE.ob,hcs]⟩
theorem DN{L:List OE}{z:Int}{c:List D}(h:lb (aG (L.map OE.pr)) z=some c): ∃q,0≤z∧L[z.toNat]?=some q∧c= [q.k, .list q.es]:=by
 unfold lb at h;split at h
 ·cases h
 ·simp only[aG,Dz,Option.map_map,Mz,Function.comp]at h;obtain⟨q,h1,h2⟩:=h;exact⟨q,by omega,h1,h2.symm⟩
theorem Rj{q:Nat}{ks:List Nat}{a b:Nat}{rows:List (List D)}{d:D}{r:List D}{dd:D}(hq:q=1∨q=2∨q=4∨q=5∨q=6)(h:EZ q ks a b (.list rows::d::r)=some dd): ∃k z c,d= .v (.int k z)∧lb rows z=some c:=by
 rcases hq with rfl|rfl|rfl|rfl|rfl<;>simp only[EZ]at h<;>(split at h<;>try (cases h;done))<;>
  (rename_i hh;simp only[List.cons.injEq,D.list.injEq]at hh;obtain⟨c,h1,_⟩:=Bz.1 h;exact⟨_,_,c,hh.2.1,by rw[hh.1];exact h1⟩)
theorem CU(M:Mt Ω G E ι γ Y J){n o:Nat}{i c:X}{d dd:D}(H:VR G E ι Y.h (.bp n i o) d)(hb:yN Y.h n=some c){q:Nat}{ks:List Nat}{a b:Nat}(hq:q=1∨q=2∨q=4∨q=5∨q=6){r:List X}(he:X.ev G E (.mk (.pm q ks a b) (c::i::r))=some dd):
  ∃(e:Nat) (L:List OE) (k:IntKind) (z:Int) (p:OE) (cs:List D),find Y.h n=some (.bL e 0 c)∧X.ev G E c=some (.list (aG (L.map OE.pr)))∧X.ev G E i=some (.v (.int k z))∧0≤z∧L[z.toNat]?=some p∧p.es= [cs]∧d= .ptr (ι.e n z.toNat) o∧J.m (ι.e n z.toNat)=some (.box cs)∧
   lb (aG (L.map OE.pr)) z=some [p.k, .list [cs]]:=by
 obtain⟨e,hf⟩:=D8 hb;obtain⟨L,h1,_,_,_,h4⟩:=M.H9 hf;obtain⟨ds,a1,a2⟩:=aH he;simp only[X.bh,h1,Bz,Mz,Jz,exists_eq_left']at a1;obtain⟨_,⟨di,b1,rr,_,rfl⟩,rfl⟩:=a1;obtain⟨k,z,cc,rfl,a3⟩:=Rj hq a2;obtain⟨p,h0,h5,rfl⟩:=DN a3;obtain⟨_,cs,h6,h7⟩:=h4 _ _ h5;refine⟨e,L,k,z,p,cs,hf,h1,b1,h0,h5,h6, ?_,h7,by rw[←h6];exact a3⟩;cases H with
 |bp _ _ hv=>rw[b1]at hv;cases hv;rfl
 |bpn _ hv h0'=>rw[b1]at hv;cases hv;omega
theorem x8(M:Mt Ω G E ι γ Y J){vs:List SV}{ds:List D}{v:SV}{O:List X}(hv:bA G E ι Y.h vs ds)(hs:Cg Y.h vs=some (v,O))(hO: ∀e∈O,∃d,X.ev G E e=some d):
  ∃d,(PK.bm).run (bg G) J.m ds=some d∧VR G E ι Y.h v d:=by
 unfold Cg at hs;split at hs
 ·cases hs;obtain⟨d,rfl,H⟩:=hv.one;cases H;exact⟨_,rfl, .ptr (by assumption)⟩
 ·cases hs;obtain⟨d,rfl,H⟩:=hv.one;have H':=H;cases H;exact⟨_,rfl,H'⟩
 ·cases hs;obtain⟨d,rfl,H⟩:=hv.one;have H':=H;cases H;exact⟨_,rfl,H'⟩
 ·cases hs;obtain⟨d,rfl,H⟩:=hv.one;have H':=H;cases H;exact⟨_,rfl,H'⟩
 ·obtain⟨c,hc,he⟩:=Mz.1 hs;cases he;obtain⟨d,rfl,H⟩:=hv.one;obtain⟨d',hd'⟩:=hO _ (List.mem_singleton.2 rfl);obtain⟨_,_,_,_,_,_,_,_,_,_,_,_,rfl,_⟩:=CU M H hc (.inl rfl) hd';exact⟨_,rfl,H⟩
 ·exact aC hv hs hO
theorem yc(M:Mt Ω G E ι γ Y J){q:Nat}{vs:List SV}{ds:List D}{v:SV}{O:List X}(hv:bA G E ι Y.h vs ds)(hs:Ck Y.h q vs=some (v,O))(hO: ∀e∈O,∃d,X.ev G E e=some d):
  ∃d,(PK.fld q).run (bg G) J.m ds=some d∧VR G E ι Y.h v d:=by
 unfold Ck at hs;split at hs
 ·cases hs;obtain⟨d,rfl,H⟩:=hv.one;cases H;exact⟨_,rfl, .ptr (by assumption)⟩
 ·cases hs;obtain⟨d,rfl,H⟩:=hv.one;rename_i n o c s i j;cases H with
  |dp h1 h2 h3 h4 h5=>
   have:=VR.dp (ι:=ι) (j:=j+q) h1 h2 h3 h4 h5;rw[←Nat.add_assoc]at this;exact⟨_,rfl,this⟩
 ·cases hs;obtain⟨d,rfl,H⟩:=hv.one;cases H with
  |ep h1 h2 h3 h4 h5 h6=>exact⟨_,rfl, .ep h1 h2 h3 h4 h5 h6⟩
 ·obtain⟨c,hc,he⟩:=Mz.1 hs;cases he;obtain⟨d,rfl,H⟩:=hv.one;obtain⟨d',hd'⟩:=hO _ (List.mem_singleton.2 rfl);obtain⟨e,L,k,z,p,cs,h1,h2,h3,h4,h5,_,rfl,_⟩:=CU M H hc (.inl rfl) hd';exact⟨_,rfl, .bp h1 h2 h3 h4 (by simpa[aG]using(Gz.1 h5).1)⟩
 ·exact aC hv hs hO
theorem u_(M:Mt Ω G E ι γ Y J){m:Nat}{g:Bool}{vs:List SV}{ds:List D}{v:SV}{O:List X}(hv:bA G E ι Y.h vs ds)(hs:yg Y.h m g vs=some (v,O))(hO: ∀e∈O,∃d,X.ev G E e=some d):
  ∃d,(PK.load m g).run (bg G) J.m ds=some d∧VR G E ι Y.h v d:=by
 unfold yg at hs;split at hs
 ·rename_i n o;obtain⟨d,rfl,H⟩:=hv.one;cases H with
  |ptr hf=>
   simp only[hf]at hs;split at hs
   ·rename_i ho;obtain⟨xs,_,h1,h2⟩:=M.box _ _ hf;have hl:=h2.1;simp only[PK.run,gC,h1];rw[if_pos (by omega)];cases g
    ·simp only[Bool.false_eq_true,if_false]at hs⊢;obtain⟨u,hu,he⟩:=Mz.1 hs;cases he;have hlt:=(Gz.1 hu).1;exact⟨_,Ez (show o<xs.length by omega),h2.2 o _ _ hu (Ez _)⟩
    ·simp only[if_true]at hs⊢;cases hs;exact⟨_,rfl, .agg ((h2.drop o).take m).1 ((h2.drop o).take m).2⟩
   ·cases hs
 ·rename_i n o;obtain⟨d,rfl,H⟩:=hv.one;cases H with
  |rb hf hl=>
   simp only[hf]at hs;obtain⟨v',hv',he⟩:=Mz.1 hs;cases he;obtain⟨xs,_,h1,h2⟩:=M.box _ _ hf;have hlt:o<xs.length:=by rw[←h2.1];exact hl
   refine⟨xs[o], ?_,h2.2 o _ _ hv' (Ez hlt)⟩;simp only[PK.run,gC,h1]
   grind
 ·rename_i n o c s i j;obtain⟨d,rfl,H⟩:=hv.one;cases H with
  |dp hf hiv h0 hz hl=>
   rename_i z;simp only[hf]at hs;split at hs
   ·rename_i hjm;obtain⟨xs,hx,he⟩:=Mz.1 hs;cases he;obtain⟨ds,_,h1,h2⟩:=M.box _ _ hf;obtain⟨d',hd'⟩:=hO _ (List.mem_singleton.2 rfl);obtain⟨ds1,a1,a2⟩:=aH hd';obtain⟨da,di,rfl,a3,a4⟩:=jz a1;rw[hiv]at a4;cases a4;obtain⟨xs',b1,b2⟩:=aH a3;simp only[XK.run]at b2;split at b2<;>cases b2;obtain rfl:=fP ((h2.drop o).take (c*s)) hx b1
    have hzs:z.toNat*s+s≤c*s:=by
     have:(z.toNat+1)*s≤c*s:=Nat.mul_le_mul_right _ (by omega);rw[Nat.add_mul]at this;omega
    have hdl:=h2.1;simp only[XK.run]at a2;split at a2
    ·have GW:(((ds.drop o).take (c*s)).drop (z.toNat*s+j)).take m=(ds.drop (o+z.toNat*s+j)).take m:=by
      rw[List.drop_take,List.drop_drop,List.take_take];congr 1
      ·omega
      ·congr 1;omega
     cases g
     ·simp only[Bool.false_eq_true,if_false,Bz]at a2;obtain⟨d0,c1,c2⟩:=a2;split at c2<;>cases c2;rename_i hno;have aab:=(Gz.1 c1).1;simp only[List.length_take,List.length_drop]at aab;rw[List.getElem?_take_of_lt (by omega),List.getElem?_drop]at c1;refine⟨d', ?_, .x hd' hno⟩;simp only[PK.run,gC,h1];rw[if_pos (by omega)];simp only[Bool.false_eq_true,if_false];rw[show o+z.toNat*s+j=o+(z.toNat*s+j) by omega];exact c1
     ·simp only[if_true]at a2;rw[GW]at a2;split at a2<;>cases a2;rename_i hno;refine⟨_, ?_, .x hd' hno⟩;simp only[PK.run,gC,h1];rw[if_pos (by omega)];rfl
    ·cases a2
   ·cases hs
 ·rename_i n s i j;obtain⟨d,rfl,H⟩:=hv.one;split at hs
  ·cases hs
  rename_i hjm;obtain⟨c,hc,he⟩:=Mz.1 hs;cases he;obtain⟨e0,sz0,hf⟩:=b7 hc;obtain⟨d',hd'⟩:=hO _ (List.mem_singleton.2 rfl);cases H with
  |ep g1 g2 g3 g4 g5 g6=>
   rename_i es;rw[hf]at g1;cases g1;obtain⟨es',k1,k2,k3⟩:=M.aA _ _ _ _ hf;rw[g2]at k1;cases k1;rcases k3 with⟨k3,_⟩|⟨_,k3⟩
   ·exact absurd k3 g3
   ·obtain⟨ds1,a1,a2⟩:=aH hd';obtain⟨p1,rfl,a3⟩:=iP a1;obtain⟨a4,a5⟩:=iY a2;obtain⟨ds2,b1,b2⟩:=aH a3;obtain⟨p2,rfl,b3⟩:=iP b1;obtain⟨b4,_⟩:=iY b2;obtain⟨ds3,c1,c2⟩:=aH b3;obtain⟨q1,q2,rfl,c3,c4⟩:=jz c1;obtain⟨c5,_⟩:=iY c2;rw[g2]at c3;cases c3;rw[g4]at c4;cases c4;simp only[PK.run,qY]at c5;rw[if_neg (by omega),Bz]at c5;obtain⟨cc,c6,c7⟩:=c5;by_cases hcl:cc.length=s
    ·rw[if_pos hcl]at c7;cases c7;simp only[PK.run,Gw,Jz]at b4;subst b4;refine⟨d', ?_, .x hd' a5⟩;simp only[PK.run,gC,k3,c6,Oz];simp only[PK.run,gC,List.length_drop]at a4;have Bt:(cc.drop j)[0]?=cc[j]?:=by rw[List.getElem?_drop];rfl
     rw[Bt,if_pos (by omega)]at a4;rw[if_pos ⟨hcl,by omega⟩];exact a4
    ·rw[if_neg hcl]at c7;cases c7
 ·rename_i n i o;split at hs
  rotate_left
  ·cases hs
  rename_i hgm;obtain⟨c,hc,he⟩:=Mz.1 hs;cases he;obtain⟨d,rfl,H⟩:=hv.one;obtain⟨d',hd'⟩:=hO _ (List.mem_singleton.2 rfl);obtain⟨e,L,k,z,p,cs,h1,h2,h3,h4,h5,h6,rfl,h7,h8⟩:=CU M H hc (by cases g<;>simp) hd';obtain⟨ds1,a1,a2⟩:=aH hd';obtain⟨_,_,rfl,c3,c4⟩:=jz a1;rw[h2]at c3;cases c3;rw[h3]at c4;cases c4;cases g with
  |true=>
   simp only[if_true,XK.run,EZ,h8,Oz]at a2;split at a2<;>cases a2;rename_i hl;refine⟨_, ?_, .x hd' (by simpa[D.aK]using hl.2)⟩;simp only[PK.run,gC,h7];rw[if_pos hl.1];rfl
  |false=>
   simp only[Bool.false_or,beq_iff_eq]at hgm;subst hgm;simp only[Bool.false_eq_true,if_false,XK.run,EZ,h8,Oz]at a2;obtain⟨d0,a3,a4⟩:=Bz.1 a2;split at a4<;>cases a4;rename_i hno;have hl:=(Gz.1 a3).1;refine⟨d', ?_, .x hd' hno⟩;simp only[PK.run,gC,h7];rw[if_pos (by omega)];exact a3
 ·exact aC hv hs hO
theorem yd(M:Mt Ω G E ι γ Y J){e s:Nat}{vs:List SV}{ds:List D}{v:SV}{O:List X}(hv:bA G E ι Y.h vs ds)(hs:Cl Y.h e s vs=some (v,O))(hO: ∀e∈O,∃d,X.ev G E e=some d):
  ∃d,(PK.idx e s).run (bg G) J.m ds=some d∧VR G E ι Y.h v d:=by
 unfold Cl at hs;split at hs
 ·rename_i n s' i;obtain⟨d,z,rfl,H,K⟩:=hv.two;split at hs
  ·rename_i hss;subst hss;obtain⟨c,hc,he⟩:=Mz.1 hs;cases he;obtain⟨e0,sz0,hf⟩:=b7 hc;obtain⟨d',hd'⟩:=hO _ (List.mem_singleton.2 rfl);obtain⟨ds1,a1,a2⟩:=aH hd';obtain⟨q1,q2,rfl,c3,c4⟩:=jz a1;obtain⟨c5,_⟩:=iY a2;obtain⟨k1,_⟩:=K.bQ;rw[k1]at c4;cases c4;obtain⟨es,j1,j2,j3⟩:=M.aA _ _ _ _ hf;rw[j1]at c3;cases c3;simp only[PK.run,qY]at c5;split at c5
   ·rename_i es0 kd zz heq;simp only[List.cons.injEq,D.list.injEq,and_true]at heq;obtain⟨rfl,rfl⟩:=heq;split at c5
    ·cases c5
    ·rename_i hz0;rw[Bz]at c5;obtain⟨cc,c6,_⟩:=c5;have hlt:=(Gz.1 c6).1;rcases j3 with⟨_,rfl⟩|⟨j4,j5⟩
     ·simp at hlt
     ·cases H with
      |gln g1 g2=>exact absurd g2 j4
      |gl g1 g2 g3=>
       rw[hf]at g1;cases g1;rw[j1]at g2;cases g2;refine⟨.rptr (ι n) s zz.toNat 0, ?_, .ep hf j1 j4 k1 (by omega) hlt⟩;simp only[PK.run,qY];rw[if_neg hz0,if_pos ⟨trivial,hlt⟩,Nat.zero_add]
   ·rename_i heq;simp at heq
   ·cases c5
  ·cases hs
 ·rename_i n s' k i;obtain⟨d,z,rfl,H,K⟩:=hv.two;split at hs
  ·rename_i hss;subst hss;obtain⟨c,hc,he⟩:=Mz.1 hs;cases he;obtain⟨e0,sz0,hf⟩:=b7 hc;obtain⟨d',hd'⟩:=hO _ (List.mem_singleton.2 rfl);obtain⟨ds1,a1,a2⟩:=aH hd';obtain⟨q1,q2,rfl,c3,c4⟩:=jz a1;obtain⟨c5,_⟩:=iY a2;obtain⟨k1,_⟩:=K.bQ;rw[k1]at c4;cases c4;obtain⟨es,j1,j2,j3⟩:=M.aA _ _ _ _ hf;obtain⟨kq,kk,g1,g2,g3,rfl⟩:=eM j1 c3;simp only[PK.run,qY]at c5;split at c5
   ·rename_i es0 kd zz heq;simp only[List.cons.injEq,D.list.injEq,and_true]at heq;obtain⟨rfl,rfl⟩:=heq;split at c5
    ·cases c5
    ·rename_i hz0;rw[Bz]at c5;obtain⟨cc,c6,_⟩:=c5;have hlt:=(Gz.1 c6).1;simp only[List.length_take]at hlt;rcases j3 with⟨_,rfl⟩|⟨j4,j5⟩
     ·simp at hlt
     ·cases H with
      |gsn _ g4=>exact absurd g4 j4
      |gs g4 g5 g6 g7 g8 g9=>
       rw[g1]at g7;cases g7;rw[hf]at g4;cases g4;refine⟨.rptr (ι n) s zz.toNat 0, ?_, .ep hf j1 j4 k1 (by omega) (by omega)⟩;simp only[PK.run,qY];rw[if_neg hz0,if_pos ⟨trivial,by omega⟩,Nat.zero_add]
   ·rename_i heq;simp at heq
   ·cases c5
  ·cases hs
 ·rename_i n s' k i;obtain⟨d,z,rfl,H,K⟩:=hv.two;split at hs
  ·rename_i hss;subst hss;obtain⟨c,hc,he⟩:=Mz.1 hs;cases he;obtain⟨e0,sz0,hf⟩:=b7 hc;obtain⟨d',hd'⟩:=hO _ (List.mem_singleton.2 rfl);obtain⟨ds1,a1,a2⟩:=aH hd';obtain⟨q1,q2,rfl,c3,c4⟩:=jz a1;obtain⟨c5,_⟩:=iY a2;obtain⟨k1,_⟩:=K.bQ;rw[k1]at c4;cases c4;obtain⟨es,j1,j2,j3⟩:=M.aA _ _ _ _ hf;obtain⟨kq,kk,g1,g2,g3,rfl⟩:=xi j1 c3;simp only[PK.run,qY]at c5;split at c5
   ·rename_i es0 kd zz heq;simp only[List.cons.injEq,D.list.injEq,and_true]at heq;obtain⟨rfl,rfl⟩:=heq;split at c5
    ·cases c5
    ·rename_i hz0;rw[Bz]at c5;obtain⟨cc,c6,_⟩:=c5;have hlt:=(Gz.1 c6).1;simp only[List.length_drop]at hlt;rcases j3 with⟨_,rfl⟩|⟨j4,j5⟩
     ·simp at hlt
     ·cases H with
      |gtn _ g4=>exact absurd g4 j4
      |gt g4 g5 g6 g7 g8 g9=>
       rw[g1]at g7;cases g7;rw[hf]at g4;cases g4;rw[j1]at g5;cases g5;have aap:0≤zz:=by omega
       have ζ:(kk+zz).toNat=kk.toNat+zz.toNat:=by omega
       refine⟨.rptr (ι n) s (kk+zz).toNat 0, ?_, .ep hf j1 j4 (by simp only[X.ev,X.bh,g1,k1,Oz,Pz,XK.run];exact if_pos ⟨g2,aap⟩) (by omega) (by omega)⟩;simp only[PK.run,qY];rw[if_neg hz0,if_pos ⟨trivial,by omega⟩,ζ]
   ·rename_i heq;simp at heq
   ·cases c5
  ·cases hs
 ·rename_i n o len kd z;obtain⟨d,e',rfl,H,K⟩:=hv.two;split at hs
  ·rename_i hz;cases hs;cases H with
   |sb hf hl=>
    obtain⟨k1,_⟩:=K.bQ;cases k1;refine⟨.rptr (ι n) 1 (o+z.toNat) 0, ?_, .rb hf (by omega)⟩;simp only[PK.run,qY];rw[if_neg (by omega),if_pos ⟨trivial,by omega⟩]
  ·cases hs
 ·exact aC hv hs hO
theorem u9(M:Mt Ω G E ι γ Y J){cnt s:Nat}{vs:List SV}{ds:List D}{v:SV}{O:List X}(hv:bA G E ι Y.h vs ds)(hs:xX Y.h cnt s vs=some (v,O))(hO: ∀e∈O,∃d,X.ev G E e=some d):
  ∃d,(PK.aidx cnt s).run (bg G) J.m ds=some d∧VR G E ι Y.h v d:=by
 unfold xX at hs;split at hs
 ·rename_i n o kd z;obtain⟨d,e,rfl,H,K⟩:=hv.two;split at hs
  ·rename_i hz;cases hs;cases H with
   |ptr hf=>
    obtain⟨k1,_⟩:=K.bQ;cases k1;refine⟨.ptr (ι n) (o+z.toNat*s), ?_, .ptr hf⟩;simp only[PK.run,vq]
    grind
  ·cases hs
 ·rename_i n o i hne;obtain⟨d,e,rfl,H,K⟩:=hv.two;split at hs
  ·rename_i us hf;split at hs
   ·rename_i hl;cases hs;obtain⟨d',hd'⟩:=hO _ (List.mem_singleton.2 rfl);obtain⟨ds1,a1,a2⟩:=aH hd';obtain⟨q1,rfl,c3⟩:=iP a1;obtain⟨k1,_⟩:=K.bQ;rw[k1]at c3;cases c3;simp only[XK.run]at a2;split at a2<;>try (cases a2;done)
    rename_i kd z heq;simp only[List.cons.injEq,and_true]at heq;rw[heq]at k1⊢;split at a2
    ·rename_i hz;cases H with
     |ptr _=>
      have:=VR.dp (ι:=ι) (j:=0) hf k1 hz.1 hz.2 hl;rw[Nat.add_zero]at this;refine⟨.ptr (ι n) (o+z.toNat*s), ?_,this⟩;simp only[PK.run,vq];rw[if_pos hz]
    ·cases a2
   ·cases hs
  ·cases hs
 ·rename_i n sz i j kd z;obtain⟨d,e,rfl,H,K⟩:=hv.two;split at hs
  ·rename_i hz;cases hs;cases H with
   |ep h1 h2 h3 h4 h5 h6=>
    obtain⟨k1,_⟩:=K.bQ;cases k1;refine⟨.rptr (ι n) sz _ (j+z.toNat*s), ?_, .ep h1 h2 h3 h4 h5 h6⟩;simp only[PK.run,vq];rw[if_pos hz]
  ·cases hs
 ·exact aC hv hs hO
theorem u'(M:Mt Ω G E ι γ Y J){vs:List SV}{ds:List D}{v:SV}{O:List X}(hv:bA G E ι Y.h vs ds)(hs:yf Y.h vs=some (v,O))(hO: ∀e∈O,∃d,X.ev G E e=some d):
  ∃d,(PK.llen).run (bg G) J.m ds=some d∧VR G E ι Y.h v d:=by
 unfold yf at hs;split at hs
 ·rename_i n sz;obtain⟨d,rfl,H⟩:=hv.one;obtain⟨c,hc,he⟩:=Mz.1 hs;cases he;obtain⟨e0,sz0,hf⟩:=b7 hc;obtain⟨d',hd'⟩:=hO _ (List.mem_singleton.2 rfl);obtain⟨ds1,a1,a2⟩:=aH hd';obtain⟨p1,rfl,a3⟩:=iP a1;obtain⟨a4,a5⟩:=iY a2;obtain⟨es,j1,j2,j3⟩:=M.aA _ _ _ _ hf;rw[j1]at a3;cases a3;simp only[PK.run,xC,D.th,Oz,Jz]at a4;subst a4;refine⟨_, ?_, .x hd' a5⟩;cases H with
  |gln g1 g2=>
   rcases j3 with⟨_,rfl⟩|⟨j4,_⟩
   ·rfl
   ·grind
  |gl g1 g2 g3=>
   rw[hf]at g1;cases g1;rw[j1]at g2;cases g2;rfl
 ·rename_i n sz k;obtain⟨d,rfl,H⟩:=hv.one;obtain⟨c,hc,he⟩:=Mz.1 hs;cases he;obtain⟨e0,sz0,hf⟩:=b7 hc;obtain⟨d',hd'⟩:=hO _ (List.mem_singleton.2 rfl);obtain⟨ds1,a1,a2⟩:=aH hd';obtain⟨p1,rfl,a3⟩:=iP a1;obtain⟨a4,a5⟩:=iY a2;obtain⟨es,j1,j2,j3⟩:=M.aA _ _ _ _ hf;obtain⟨kq,kk,g1,g2,g3,rfl⟩:=eM j1 a3;simp only[PK.run,xC,D.th,Oz,Jz,List.length_take]at a4;refine⟨_, ?_, .x hd' a5⟩;cases H with
  |gsn g4 g5 g6=>
   rcases j3 with⟨_,rfl⟩|⟨j4,_⟩
   ·rw[←a4];simp[PK.run,xC,D.th]
   ·grind
  |gs g4 g5 g6 g7 g8 g9=>
   rw[g1]at g7;cases g7;rw[←a4];simp only[PK.run,xC,D.th,Oz]
   grind
 ·rename_i n sz k;obtain⟨d,rfl,H⟩:=hv.one;obtain⟨c,hc,he⟩:=Mz.1 hs;cases he;obtain⟨e0,sz0,hf⟩:=b7 hc;obtain⟨d',hd'⟩:=hO _ (List.mem_singleton.2 rfl);obtain⟨ds1,a1,a2⟩:=aH hd';obtain⟨p1,rfl,a3⟩:=iP a1;obtain⟨a4,a5⟩:=iY a2;obtain⟨es,j1,j2,j3⟩:=M.aA _ _ _ _ hf;obtain⟨kq,kk,g1,g2,g3,rfl⟩:=xi j1 a3;simp only[PK.run,xC,D.th,Oz,Jz,List.length_drop]at a4;refine⟨_, ?_, .x hd' a5⟩;cases H with
  |gtn g4 g5 g6=>
   rcases j3 with⟨_,rfl⟩|⟨j4,_⟩
   ·rw[←a4];simp[PK.run,xC,D.th]
   ·grind
  |gt g4 g5 g6 g7 g8 g9=>
   rw[g1]at g7;cases g7;rw[hf]at g4;cases g4;rw[j1]at g5;cases g5;rw[←a4];simp only[PK.run,xC,D.th,Oz]
 ·cases hs;obtain⟨d,rfl,H⟩:=hv.one;cases H;exact⟨_,rfl, .x rfl rfl⟩
 ·exact aC hv hs hO
theorem ym(M:Mt Ω G E ι γ Y J){s:Nat}{lo hi mx:Bool}{vs:List SV}{ds:List D}{v:SV}{O:List X}(hv:bA G E ι Y.h vs ds)(hs:Co Y.h s lo hi mx vs=some (v,O))(hO: ∀e∈O,∃d,X.ev G E e=some d):
  ∃d,(PK.slc s lo hi mx).run (bg G) J.m ds=some d∧VR G E ι Y.h v d:=by
 unfold Co at hs;split at hs
 ·rename_i n s' k;obtain⟨d,z,rfl,H,K⟩:=hv.two;split at hs
  ·rename_i hss;subst hss;obtain⟨c,hc,he⟩:=Mz.1 hs;cases he;obtain⟨e0,sz0,hf⟩:=b7 hc;obtain⟨d',hd'⟩:=hO _ (List.mem_singleton.2 rfl);obtain⟨es,j1,j2,j3⟩:=M.aA _ _ _ _ hf;obtain⟨kq,kk,g1,g2,g3,rfl⟩:=eM j1 hd';obtain⟨k1,_⟩:=K.bQ;rw[k1]at g1;cases g1;cases H with
   |gln g4 g5=>
    rcases j3 with⟨_,rfl⟩|⟨j4,_⟩
    ·obtain rfl:kk=0:=by simp at g3;omega
     rw[hf]at g4;cases g4;exact⟨.list [],by simp[PK.run,qe,fg,cr,w_], .gsn hf g5 k1⟩
    ·grind
   |gl g4 g5 g6=>
    rw[hf]at g4;cases g4;rw[j1]at g5;cases g5;refine⟨.sl (ι n) s 0 kk.toNat none, ?_, .gs hf j1 g6 k1 g2 g3⟩;simp only[PK.run,qe,fg,Pz,cr,Oz]
    grind
  ·cases hs
 ·rename_i n s' k0 k;obtain⟨d,z,rfl,H,K⟩:=hv.two;split at hs
  ·rename_i hss;subst hss;obtain⟨c,hc,he⟩:=Mz.1 hs;cases he;obtain⟨e0,sz0,hf⟩:=b7 hc;obtain⟨d',hd'⟩:=hO _ (List.mem_singleton.2 rfl);obtain⟨es,j1,j2,j3⟩:=M.aA _ _ _ _ hf;obtain⟨kq,kk,g1,g2,g3,rfl⟩:=eM j1 hd';obtain⟨k1,_⟩:=K.bQ;rw[k1]at g1;cases g1;cases H with
   |gsn g4 g5 _=>
    rcases j3 with⟨_,rfl⟩|⟨j4,_⟩
    ·obtain rfl:kk=0:=by simp at g3;omega
     rw[hf]at g4;cases g4;exact⟨.list [],by simp[PK.run,qe,fg,cr,w_], .gsn hf g5 k1⟩
    ·exact absurd g5 j4
   |gs g4 g5 g6 g7 g8 g9=>
    rw[hf]at g4;cases g4;rw[j1]at g5;cases g5;rcases j3 with⟨j4,_⟩|⟨j4,j5⟩
    ·exact absurd j4 g6
    refine⟨.sl (ι n) s 0 kk.toNat none, ?_, .gs hf j1 g6 k1 g2 g3⟩;simp only[PK.run,qe,fg,Pz,cr,Oz];rw[if_pos ⟨by omega,g2, .inr (by simp only[DL,j5];simpa using g3),trivial⟩];simp
  ·cases hs
 ·rename_i n s' k mm;obtain⟨d,z,z2,rfl,H,K,K2⟩:=hv.three;split at hs
  ·rename_i hss;subst hss;obtain⟨c,hc,he⟩:=Mz.1 hs;cases he;obtain⟨e0,sz0,hf⟩:=b7 hc;obtain⟨d1,hd1⟩:=hO (.mk .take [.mk .take [c,mm],k]) (by simp);obtain⟨d2,hd2⟩:=hO (.mk .take [c,mm]) (by simp);obtain⟨d3,hd3⟩:=hO (.mk .take [c,k]) (by simp);obtain⟨es,j1,j2,j3⟩:=M.aA _ _ _ _ hf;obtain⟨mq,mk',m1,m2,m3,rfl⟩:=eM j1 hd2;obtain⟨kq,kk,g1,g2,g3,rfl⟩:=eM j1 hd3;obtain⟨kq',kk',g1',g2',g3',rfl⟩:=eM hd2 hd1;obtain⟨k1,_⟩:=K.bQ;obtain⟨k2,_⟩:=K2.bQ;rw[k1]at g1;cases g1;rw[k1]at g1';cases g1';rw[k2]at m1;cases m1;rw[List.length_take]at g3';have hkm:kk≤mk':=by omega
   cases H with
   |gln g4 g5=>
    rcases j3 with⟨_,rfl⟩|⟨j4,_⟩
    ·obtain rfl:kk=0:=by simp at g3;omega
     obtain rfl:mk'=0:=by simp at m3;omega
     rw[hf]at g4;cases g4;exact⟨.list [],by simp[PK.run,qe,fg,cr,w_], .gcn hf g5 k1⟩
    ·exact absurd g5 j4
   |gl g4 g5 g6=>
    rw[hf]at g4;cases g4;rw[j1]at g5;cases g5;refine⟨.sl (ι n) s 0 kk.toNat (some mk'.toNat), ?_, .gc hf j1 g6 k1 g2 g3⟩;simp only[PK.run,qe,fg,Pz,cr,Oz];rw[if_pos ⟨by omega,g2, .inl g3,trivial⟩];rw[if_pos ⟨hkm,m3⟩];simp
  ·cases hs
 ·rename_i n s' k0 k mm;obtain⟨d,z,z2,rfl,H,K,K2⟩:=hv.three;split at hs
  ·rename_i hss;subst hss;obtain⟨c,hc,he⟩:=Mz.1 hs;cases he;obtain⟨e0,sz0,hf⟩:=b7 hc;obtain⟨d1,hd1⟩:=hO (.mk .take [.mk .take [c,mm],k]) (by simp);obtain⟨d2,hd2⟩:=hO (.mk .take [c,mm]) (by simp);obtain⟨d3,hd3⟩:=hO (.mk .take [c,k]) (by simp);obtain⟨es,j1,j2,j3⟩:=M.aA _ _ _ _ hf;obtain⟨d4,hd4⟩:=hO (.mk .take [c,k0]) (by simp);obtain⟨d5,hd5⟩:=hO (.mk .take [.mk .take [c,k0],mm]) (by simp);obtain⟨zq,zz,z1,z2',z3,rfl⟩:=eM j1 hd4;obtain⟨mq5,mk5,QQ,m52,m53,rfl⟩:=eM hd4 hd5;rw[List.length_take]at m53;obtain⟨mq,mk',m1,m2,m3,rfl⟩:=eM j1 hd2;obtain⟨kq,kk,g1,g2,g3,rfl⟩:=eM j1 hd3;obtain⟨kq',kk',g1',g2',g3',rfl⟩:=eM hd2 hd1;obtain⟨k1,_⟩:=K.bQ;obtain⟨k2,_⟩:=K2.bQ;rw[k1]at g1;cases g1;rw[k1]at g1';cases g1';rw[k2]at m1;cases m1;rw[List.length_take]at g3';have hkm:kk≤mk':=by omega
   cases H with
   |gsn g4 g5 _=>
    rcases j3 with⟨_,rfl⟩|⟨j4,_⟩
    ·obtain rfl:kk=0:=by simp at g3;omega
     obtain rfl:mk'=0:=by simp at m3;omega
     rw[hf]at g4;cases g4;exact⟨.list [],by simp[PK.run,qe,fg,cr,w_], .gcn hf g5 k1⟩
    ·exact absurd g5 j4
   |gs g4 g5 g6 g7 g8 g9=>
    rw[hf]at g4;cases g4;rw[j1]at g5;cases g5;rcases j3 with⟨j4,_⟩|⟨j4,j5⟩
    ·exact absurd j4 g6
    refine⟨.sl (ι n) s 0 kk.toNat (some mk'.toNat), ?_, .gc hf j1 g6 k1 g2 g3⟩;rw[z1]at g7;cases g7;rw[k2]at QQ;cases QQ;simp only[PK.run,qe,fg,Pz,cr,Oz];rw[if_pos ⟨by omega,g2, .inl (by omega),trivial⟩];rw[if_pos ⟨hkm,by omega⟩];simp
  ·cases hs
 ·rename_i n s' k;obtain⟨d,z,rfl,H,K⟩:=hv.two;split at hs
  ·rename_i hss;subst hss;obtain⟨c,hc,he⟩:=Mz.1 hs;cases he;obtain⟨e0,sz0,hf⟩:=b7 hc;obtain⟨d',hd'⟩:=hO _ (List.mem_singleton.2 rfl);obtain⟨es,j1,j2,j3⟩:=M.aA _ _ _ _ hf;obtain⟨kq,kk,g1,g2,g3,rfl⟩:=xi j1 hd';obtain⟨k1,_⟩:=K.bQ;rw[k1]at g1;cases g1;cases H with
   |gln g4 g5=>
    rcases j3 with⟨_,rfl⟩|⟨j4,_⟩
    ·obtain rfl:kk=0:=by simp at g3;omega
     rw[hf]at g4;cases g4;exact⟨.list [],by simp[PK.run,qe,fg,cr,w_], .gtn hf g5 k1⟩
    ·exact absurd g5 j4
   |gl g4 g5 g6=>
    rw[hf]at g4;cases g4;rw[j1]at g5;cases g5;refine⟨.sl (ι n) s kk.toNat (es.length-kk.toNat) none, ?_, .gt hf j1 g6 k1 g2 g3⟩;simp only[PK.run,qe,fg,Pz,cr,Oz];rw[if_pos ⟨g2,g3, .inl (by omega),trivial⟩];simp
  ·cases hs
 ·exact aC hv hs hO
theorem yk(M:Mt Ω G E ι γ Y J){cnt s:Nat}{lo hi:Bool}{vs:List SV}{ds:List D}{v:SV}{O:List X}(hv:bA G E ι Y.h vs ds)(hs:Cn Y.h cnt s lo hi vs=some (v,O))(hO: ∀e∈O,∃d,X.ev G E e=some d):
  ∃d,(PK.sla cnt s lo hi).run (bg G) J.m ds=some d∧VR G E ι Y.h v d:=by
 unfold Cn at hs;split at hs
 ·rename_i n o;obtain⟨d,rfl,H⟩:=hv.one;split at hs
  ·rename_i us hf;split at hs
   ·rename_i hl;cases hs;cases H with
    |ptr _=>
     refine⟨.sl (ι n) 1 o cnt (some cnt), ?_, .sb hf hl⟩;simp[PK.run,KZ,fg,cr]
   ·cases hs
  ·cases hs
 ·rename_i n o kd z;obtain⟨d,e,rfl,H,K⟩:=hv.two;split at hs
  ·rename_i us hf;split at hs
   ·rename_i hl;cases hs;obtain⟨k1,_⟩:=K.bQ;cases k1;cases H with
    |ptr _=>
     refine⟨.sl (ι n) 1 (o+z.toNat) (cnt-z.toNat) (some (cnt-z.toNat)), ?_, .sb hf (by omega)⟩;simp only[PK.run,KZ,fg,cr]
     grind
   ·cases hs
  ·cases hs
 ·exact aC hv hs hO
theorem dP{ks:List Nat}{k:D}: ∀{l l':List (D×D)} {i:Nat},l.map Prod.fst=l'.map Prod.fst→bq ks k l i=bq ks k l' i
 | [],[],_,_=>rfl
 |p::r,p'::r',i,h=>by
  simp only[List.map_cons,List.cons.injEq]at h;simp only[bq,h.1,dP h.2]
 | [],_::_,_,h=>by simp at h
 |_::_,[],_,h=>by simp at h
theorem zr{ks:List Nat}{k:D}: ∀{l:List (D×D)} {i j:Nat},0≤i→bq ks k l i=some (some j)→j<i+l.length
 | [],_,_,_,h=>by simp[bq]at h
 |p::r,i,j,_,h=>by
  simp only[bq]at h;obtain⟨b,_,h⟩:=Bz.1 h;cases b with
  |true=>simp at h;subst h;simp
  |false=>
   have:=zr (Nat.zero_le _) (show bq ks k r (i+1)=some (some j) by simpa using h);simp only[List.length_cons];omega
theorem pH{ks:List Nat}{k v:D}(hk:cj ks k k=some true): ∀{es:List (D×D)} {i:Nat},bq ks k es i=some none→bq ks k (es++ [(k,v)]) i=some (some (i+es.length))
 | [],i,_=>by simp[bq,hk]
 |p::r,i,h=>by
  simp only[bq,List.cons_append]at h⊢;obtain⟨b,hb,h⟩:=Bz.1 h;rw[hb];cases b with
  |true=>simp at h
  |false=>
   simp only[Bool.false_eq_true,if_false,Oz]at h⊢;rw[pH hk h];simp;omega
theorem zt{ks:List Nat}{z:D}{c k:X}{rows:List (List D)}{d:D}(hc:X.ev G E c=some (.list rows))(h:X.ev G E (Gy ks z c k)=some d):X.ev G E (.mk (.mget ks z false) [c,k])=some d:=by
 unfold Gy at h;split at h
 ·rename_i ks1 c0 k1 ks2 z2 c1 k2;split at h
  ·rename_i hh;simp only[Az,beq_iff_eq]at hh;obtain⟨⟨rfl,rfl⟩,hz,e1,e2,e3⟩:=hh;obtain rfl:=aF _ _ e1;obtain rfl:=aF _ _ e2;obtain rfl:=aF _ _ e3;have hz: [z2]= [z]:=dB hz;injection hz with hz
   subst hz;obtain⟨ds,a1,a2⟩:=aH hc;simp only[X.bh,Bz,Mz]at a1;obtain⟨d0,b0,r1,⟨dk,bk,r2,⟨dv,bv,r3,b4,rfl⟩,rfl⟩,rfl⟩:=a1;cases b4;rw[h]at bv;cases bv;obtain⟨ds,a3,a4⟩:=aH h;obtain⟨_,_,rfl,c3,c4⟩:=jz a3;rw[b0]at c3;cases c3;rw[bk]at c4;cases c4
   have hev:X.ev G E (.mk (.mget ks2 z2 false) [.mk (.mset ks2) [c0,k2, .mk (.mget ks2 z2 false) [c0,k2]],k2])=XK.run G (.mget ks2 z2 false) [.list rows,dk]:=by
    show(X.bh G E [_,_]).bind _=_;simp only[X.bh,hc,bk,Oz,Pz]
   rw[hev];cases d0 with
   |list adh=>
    simp only[XK.run,Bz,Mz]at a2 a4;obtain⟨es0,u1,es',u2,u3⟩:=a2;cases u3;obtain⟨es1,w1,d1,w2,w3⟩:=a4;rw[u1]at w1;cases w1;split at w3<;>cases w3;rename_i hno;simp only[XK.run,aQ,Oz]
    have key:oM ks2 z2 false es' dk=some d:=by
     unfold lC at u2;split at u2
     rotate_left
     ·cases u2
     rename_i oA;obtain⟨r,hr,u2⟩:=Bz.1 u2;unfold oM;rw[if_pos oA.2];cases r with
     |none=>
      simp only at u2;split at u2<;>cases u2;rw[pH oA.2.2 hr];simp
     |some i=>
      obtain⟨p,hp,rfl⟩:=Mz.1 u2;have hi:=(Gz.1 hp).1
      have Ut:(es0.set i (p.1,d)).map Prod.fst=es0.map Prod.fst:=by
       rw[List.map_set];refine List.ext_getElem? fun m=> ?_;rw[List.getElem?_set];by_cases hm:i=m
       ·subst hm;rw[if_pos rfl,if_pos (by simpa using hi),Dz,hp];rfl
       ·rw[if_neg hm]
      rw[dP Ut,hr];simp[hi]
    rw[key];simp[hno]
   |_=>simp[XK.run]at a2
  ·exact h
 ·exact h
theorem ye(M:Mt Ω G E ι γ Y J){ks:List Nat}{z:D}{ok:Bool}{vs:List SV}{ds:List D}{v:SV}{O:List X}(hv:bA G E ι Y.h vs ds)(hs:Cm Y.h ks z ok vs=some (v,O))(hO: ∀e∈O,∃d,X.ev G E e=some d):
  ∃d,(PK.lkp ks z ok).run (bg G) J.m ds=some d∧VR G E ι Y.h v d:=by
 unfold Cm at hs;split at hs
 ·rename_i n k;obtain⟨d,e,rfl,H,K⟩:=hv.two;split at hs
  ·rename_i c hf;obtain⟨kx,hkx,he⟩:=Mz.1 hs;cases he;obtain⟨d',hd0⟩:=hO _ (List.mem_singleton.2 rfl);obtain⟨es,j1,j2,j3⟩:=M.mpo _ _ hf
   have hd':X.ev G E (.mk (.mget ks z ok) [c,kx])=some d':=by
    unfold QM at hd0;cases ok with
    |true=>exact hd0
    |false=>exact zt j1 hd0
   obtain⟨ds1,a1,a2⟩:=aH hd';obtain⟨dc,dk,rfl,c3,c4⟩:=jz a1;rw[j1]at c3;cases c3;obtain rfl:=aZ K hkx c4;simp only[XK.run,aQ,Oz,Bz]at a2;obtain⟨d0,g1,g2⟩:=a2;split at g2<;>cases g2;rename_i hno;cases H with
   |mp _=>
    refine⟨_, ?_, .x hd0 hno⟩;simp only[PK.run,oI,j3];exact g1
  ·rename_i e0 c hf;split at hs
   rotate_left
   ·cases hs
   rename_i hz;obtain⟨rfl,hz⟩:=hz;obtain rfl:=wR hz;obtain⟨kx,hkx,he⟩:=Mz.1 hs;cases he;obtain⟨d',hd'⟩:=hO _ (List.mem_singleton.2 rfl);obtain⟨L,j1,_,j3,_,j4⟩:=M.H9 hf;obtain⟨ds1,a1,a2⟩:=aH hd';obtain⟨dc,dk,rfl,c3,c4⟩:=jz a1;rw[j1]at c3;cases c3;obtain rfl:=aZ K hkx c4;simp only[XK.run,EZ,aQ,Oz]at a2;split at a2
   rotate_left
   ·cases a2
   rename_i hkk;obtain⟨r,g1,g2⟩:=Mz.1 a2;rw[dP (l':=L.map (OE.en 0)) (by simp[OE.pr,OE.en])]at g1;cases H with
   |mp _=>
    simp only[PK.run,oI,j3,if_pos hkk,g1,Oz];cases r with
    |none=>
     subst g2;exact⟨_,rfl, .bpn hf hd' (by decide)⟩
    |some j=>
     subst g2;have hj:j<L.length:=by simpa using zr (Nat.zero_le _) g1
     obtain⟨h5,_⟩:=j4 j _ (Ez hj);refine⟨.ptr (ι.e n j) 0,by simp[Ez hj,OE.en,h5], ?_⟩;have:=VR.bp (ι:=ι) (o:=0) hf j1 hd' (Int.natCast_nonneg j) (by simpa[aG]using hj);simpa using this
  ·cases hs
 ·exact aC hv hs hO
theorem vf(M:Mt Ω G E ι γ Y J){neg:Bool}{vs:List SV}{ds:List D}{v:SV}{O:List X}(hv:bA G E ι Y.h vs ds)(hs:yi Y.h neg vs=some (v,O))(hO: ∀e∈O,∃d,X.ev G E e=some d):
  ∃d,(PK.pnil neg).run (bg G) J.m ds=some d∧VR G E ι Y.h v d:=by
 unfold yi at hs;split at hs
 ·cases hs;obtain⟨d,e,rfl,H,K⟩:=hv.two;obtain⟨d',hd'⟩:=hO _ (List.mem_singleton.2 rfl);obtain⟨ds1,a1,a2⟩:=aH hd';obtain⟨di,dz,rfl,c3,c4⟩:=jz a1;cases c4
  have he:e= .v (.pointer none):=by
   have:=K.bQ.1;cases this;rfl
  subst he;obtain⟨a3,a4⟩:=iY a2 (by cases neg<;>rfl);cases H with
  |bp _ _ hv' h0=>
   rw[hv']at c3;cases c3
   have:d'=bv neg:=by
    cases neg<;>simp only[PK.run,g_,iv]at a3<;>(split at a3<;>cases a3)<;>simp[cN,bv]<;>omega
   subst this;exact⟨_,rfl, .x hd' rfl⟩
  |bpn _ hv' h0=>
   rw[hv']at c3;cases c3
   have:d'=bv (!neg):=by
    cases neg<;>simp only[PK.run,g_,iv]at a3<;>(split at a3<;>cases a3)<;>simp[cN,bv]<;>omega
   subst this;exact⟨_,rfl, .x hd' rfl⟩
 ·exact aC hv hs hO
theorem Gl{L:List (D×D)}{z:Int}{d:D}{q:Nat}(hq:q=1∨q=2){kd:IntKind}(h:EZ q [] 0 0 [.list (aG L), .v (.int kd z)]=some d):0≤z∧d.aK=true∧ ∃p,L[z.toNat]?=some p∧d=if q=1 then p.1 else p.2:=by
 have row: ∀{c:List D},lb (aG L) z=some c→0≤z∧ ∃p,L[z.toNat]?=some p∧c= [p.1,p.2]:=fun{c} h=>by
  unfold lb at h;split at h
  ·cases h
  ·simp only[aG,Dz,Mz]at h;obtain⟨p,h1,h2⟩:=h;exact⟨by omega,p,h1,h2.symm⟩
 rcases hq with rfl|rfl<;>
 ·simp only[EZ]at h;obtain⟨c,h1,h2⟩:=Bz.1 h;obtain⟨h0,p,h3,rfl⟩:=row h1;simp only[]at h2;split at h2<;>cases h2;exact⟨h0,by assumption,p,h3,by simp⟩
theorem x_(M:Mt Ω G E ι γ Y J){vs:List SV}{ds:List D}{v:SV}{O:List X}(hv:bA G E ι Y.h vs ds)(hs:Ci Y.h vs=some (v,O))(hO: ∀e∈O,∃d,X.ev G E e=some d):
  ∃d,(PK.ent).run (bg G) J.m ds=some d∧VR G E ι Y.h v d:=by
 unfold Ci at hs;split at hs
 ·rename_i n;obtain⟨d,rfl,H⟩:=hv.one;split at hs
  ·rename_i m c hf;obtain⟨_,t,k,seen,h2,h3⟩:=M.itr _ _ _ hf;obtain⟨rfl,_,h4,es,h5,h6⟩:=h3 m rfl;obtain rfl:d= .ptr (ι n) 0:=by cases H;rfl
   have last: ∀{cm:X} {L:List (D×D)} {q:Nat},(q=1∨q=2)→X.ev G E cm=some (.list (aG L))→(∃d,X.ev G E (.mk (.pm q [] 0 0) [cm, .mk (.pm 8 [] 0 0) [c]])=some d)→
     ∃d i p,X.ev G E (.mk (.pm q [] 0 0) [cm, .mk (.pm 8 [] 0 0) [c]])=some d∧X.ev G E (.mk (.pm 8 [] 0 0) [c])=some (iv ((i:Nat):Int))∧seen.getLast?=some i∧L[i]?=some p∧d.aK=true∧d=if q=1 then p.1 else p.2:=fun{cm L q} hq hcm ⟨d,hd⟩=>by
    obtain⟨ds,a1,a2⟩:=aH hd;obtain⟨d1,d2,rfl,b1,b2⟩:=jz a1;rw[hcm]at b1;cases b1;obtain⟨ds2,a3,a4⟩:=aH b2;obtain⟨d3,rfl,b3⟩:=iP a3;rw[h4]at b3;cases b3;simp only[XK.run,EZ,lB,vT]at a4;cases hl:seen.getLast? with
    |none=>
     rw[hl]at a4;simp only[iv]at a4;cases a4;have:=(Gl hq a2).1;omega
    |some i=>
     rw[hl]at a4;simp only[iv]at a4;cases a4;obtain⟨_,g2,p,g3,g4⟩:=Gl hq a2;exact⟨d,i,p,hd,b2,rfl,by simpa using g3,g2,g4⟩
   split at hs
   ·rename_i cm hm;cases hs;obtain⟨es',k1,_,k3⟩:=M.mpo _ _ hm;rw[h5]at k3;cases k3;obtain⟨d1,i,p,g1,_,g3,g4,g5,g6⟩:=last (.inl rfl) k1 (hO _ (by simp));obtain⟨d2,i2,p2,j1,_,j3,j4,j5,j6⟩:=last (.inr rfl) k1 (hO _ (by simp));rw[g3]at j3;cases j3;rw[g4]at j4;cases j4;refine⟨.tup [p.1,p.2], ?_, .tup rfl fun j v d hv hd=> ?_⟩
    ·simp only[PK.run,Ef,h2,h5,h6,if_true,g3,Oz,g4,Pz]
    ·match j,hv,hd with
     |0,hv,hd=>simp at hv hd;subst hv hd;exact .x (by rw[g1,g6];rfl) (by rw[g6]at g5;exact g5)
     |1,hv,hd=>simp at hv hd;subst hv hd;exact .x (by rw[j1,j6];rfl) (by rw[j6]at j5;exact j5)
     |_+2,hv,hd=>simp at hv
   ·rename_i e0 cm hm;cases hs;obtain⟨L,k1,_,k3,_,k5⟩:=M.H9 hm;rw[h5]at k3;cases k3;obtain⟨d1,i,p,g1,g2,g3,g4,g5,g6⟩:=last (.inl rfl) k1 (hO _ (by simp));rw[Dz,Mz]at g4;obtain⟨q,g4,rfl⟩:=g4;refine⟨.tup [q.k, .ptr q.u 0], ?_, .tup rfl fun j v d hv hd=> ?_⟩
    ·simp only[PK.run,Ef,h2,h5,h6,if_true,g3,Oz,Dz,g4,Pz,OE.en]
    ·match j,hv,hd with
     |0,hv,hd=>simp at hv hd;subst hv hd;exact .x (by rw[g1,g6];rfl) (by rw[g6]at g5;exact g5)
     |1,hv,hd=>
      simp at hv hd;subst hv hd;rw[(k5 i q g4).1];have:=VR.bp (ι:=ι) (o:=0) hm k1 g2 (Int.natCast_nonneg i) (by simpa[aG]using(Gz.1 g4).1);simpa using this
     |_+2,hv,hd=>simp at hv
   ·cases hs
  ·cases hs
 ·cases hs
theorem u7(M:Mt Ω G E ι γ Y J){off n:Nat}{g:Bool}{vs:List SV}{ds:List D}{v:SV}{O:List X}(hv:bA G E ι Y.h vs ds)(hs:xW Y.h off n g vs=some (v,O))(hO: ∀e∈O,∃d,X.ev G E e=some d):
  ∃d,(PK.afld off n g).run (bg G) J.m ds=some d∧VR G E ι Y.h v d:=by
 unfold xW at hs;split at hs
 ·rename_i us;obtain⟨d,rfl,H⟩:=hv.one;cases H with
  |agg hl hh=>
   rename_i xs;have h2:bA G E ι Y.h us xs:=⟨hl,hh⟩;split at hs
   ·rename_i ho;simp only[PK.run,FL];rw[if_pos (by omega)];cases g
    ·simp only[Bool.false_eq_true]at hs⊢;obtain⟨u,hu,he⟩:=Mz.1 hs;cases he;have hlt:=(Gz.1 hu).1;exact⟨_,Ez (show off<xs.length by omega),h2.2 off _ _ hu (Ez _)⟩
    ·simp only[if_true]at hs⊢;cases hs;exact⟨_,rfl, .agg ((h2.drop off).take n).1 ((h2.drop off).take n).2⟩
   ·cases hs
 ·exact aC hv hs hO
theorem x9(M:Mt Ω G E ι γ Y J){f:Nat}{vs:List SV}{ds:List D}{v:SV}{O:List X}(hv:bA G E ι Y.h vs ds)(hs:Ch Y.h f vs=some (v,O))(hO: ∀e∈O,∃d,X.ev G E e=some d):
  ∃d,(PK.clo f).run (bg G) J.m ds=some d∧VR G E ι Y.h v d:=by
 unfold Ch at hs;split at hs
 ·rename_i hu;cases hs;refine⟨.clo f ds, ?_, .clo hv.1 hv.2⟩;simp only[PK.run,Js];rw[if_pos (Tz.2 fun d hd=> ?_)];obtain⟨i,hi⟩:=List.getElem?_of_mem hd;have hil:i<vs.length:=by rw[hv.1];exact(Gz.1 hi).1
  have hvi:=Ez hil;have:=Tz.1 hu _ (Lz hvi);exact(hv.2 i _ d hvi hi).Dh (by simpa using this)
 ·cases hs
theorem ve(M:Mt Ω G E ι γ Y J){vs:List SV}{ds:List D}{v:SV}{O:List X}(hv:bA G E ι Y.h vs ds)(hs:yh Y.h vs=some (v,O))(hO: ∀e∈O,∃d,X.ev G E e=some d):
  ∃d,(PK.pick).run (bg G) J.m ds=some d∧VR G E ι Y.h v d:=by
 unfold yh at hs;split at hs
 ·rename_i c a b;obtain⟨d,e,f,rfl,H,K,L⟩:=hv.three;simp only[Bz,Mz]at hs;obtain⟨xc,h1,xa,h2,xb,h3,he⟩:=hs;cases he;obtain⟨d',hd'⟩:=hO _ (List.mem_singleton.2 rfl);have hd:=H7 hd';simp only[X.ev,Bz]at hd;obtain⟨vc,g1,bb,g2,g3⟩:=hd;obtain rfl:=aZ H h1 g1;cases bb
  ·simp only[cond_false]at g3;obtain rfl:=aZ L h3 g3;exact⟨d',by simp[PK.run,DB,g2], .x hd' (wQ L h3 g3)⟩
  ·simp only[cond_true]at g3;obtain rfl:=aZ K h2 g3;exact⟨d',by simp[PK.run,DB,g2], .x hd' (wQ K h2 g3)⟩
 ·exact aC hv hs hO
theorem ui(M:Mt Ω G E ι γ Y J){vs:List SV}{ds:List D}{v:SV}{O:List X}(hv:bA G E ι Y.h vs ds)(hs:uh Y.h vs=some (v,O))(hO: ∀e∈O,∃d,X.ev G E e=some d):
  ∃d,(PK.ccall).run (bg G) J.m ds=some d∧VR G E ι Y.h v d:=by
 unfold uh at hs;split at hs
 ·rename_i f eT vs;obtain⟨d,r,rfl,H,K⟩:=hv.cons;split at hs
  rotate_left
  ·cases hs
  rename_i Bq;cases H with
  |clo hl hh=>
   obtain⟨d',h1,h2⟩:=nu M (K.append ⟨hl,hh⟩) hs hO;exact⟨d',by simp only[PK.run,sq,if_pos Bq];exact h1,h2⟩
 ·rename_i e vs;obtain⟨d,r,rfl,H,K⟩:=hv.cons;obtain⟨es,hx,he⟩:=Mz.1 hs;cases he;obtain⟨d',hd'⟩:=hO _ (List.mem_singleton.2 rfl);obtain⟨ds1,a1,a2⟩:=aH hd';simp only[X.bh,Bz,Mz]at a1;obtain⟨dc,b1,as,b2,rfl⟩:=a1;obtain⟨k1,k2⟩:=H.bQ;rw[k1]at b1;cases b1;obtain⟨h3,h4⟩:=qT M K hx b2;simp only[XK.run]at a2;split at a2
  ·rename_i f eT rr heq;cases heq;split at a2
   rotate_left
   ·cases a2
   rename_i Bq;rw[Bz]at a2;obtain⟨cs,c1,c2⟩:=a2
   have hcp:eT.all D.aK=true:=by
    simp only[D.aK,Tz]at k2⊢;exact fun x hx=>me (k2 x hx)
   have hcv:eT.mapM (bD J.m)=some cs:=by
    rw[←c1];exact l9 fun x hx=>qS (Tz.1 hcp x hx)
   obtain⟨h5,h6⟩:=qq (m:=J.m) (ds:=r++eT) (as:=as++cs) (by rw[List.mapM_append,h3,hcv];rfl) (fun hf=>by
    simp only[List.all_append,Az]
    exact⟨h4 (by simpa using hf),hcp⟩) c2
   exact⟨d',by simp only[PK.run,sq,if_pos Bq];exact h5, .x hd' h6⟩
  ·cases a2
 ·exact aC hv hs hO
theorem uA{h:List (Nat×SO)}(d:D):VR G E ι h (AD d) d:=by
 unfold AD;split
 ·exact .x rfl (by assumption)
 ·exact .un
theorem Aa{h:List (Nat×SO)}{v:SV}{d:D}{O:List X}(H:VR G E ι h v d)(ho:H3 v=some O)(hO: ∀e∈O,∃d,X.ev G E e=some d):d.gE=true:=by
 unfold H3 at ho;split at ho
 ·split at ho<;>cases ho;cases H with|x h1 _=>cases h1;assumption
 ·cases ho;cases H with
  |x h1 _=>
   obtain⟨ds,g1,g2⟩:=aH h1;simp only[XK.run]at g2
   grind
 ·cases ho;obtain⟨d',hd'⟩:=hO _ (List.mem_singleton.2 rfl);obtain⟨ds,g1,g2⟩:=aH hd';obtain⟨d2,rfl,g3⟩:=iP g1;obtain⟨h1,_⟩:=H.bQ;simp only[XK.run]at g2
  grind
 ·cases H;rfl
 ·cases H<;>rfl
 ·cases H;rfl
 ·cases H;rfl
 ·cases H;rfl
 ·cases H<;>rfl
 ·cases H<;>rfl
 ·cases H;rfl
 ·cases H;rfl
 ·cases H;rfl
 ·cases H<;>rfl
 ·cases ho
theorem oP{h:List (Nat×SO)}: ∀{vs:List SV} {ds:List D} {O:List X},bA G E ι h vs ds→xG vs=some O→(∀e∈O,∃d,X.ev G E e=some d)→ds.all D.gE=true
 | [],ds,O,H,_,_=>by
  have h0:ds= []:=List.eq_nil_of_length_eq_zero H.1.symm
  grind
 |v::r,ds,O,H,ho,hO=>by
  obtain⟨d,ds',rfl,h1,h2⟩:=H.cons;simp only[xG,Bz,Mz]at ho;obtain⟨a,h3,b,h4,rfl⟩:=ho;simp only[List.all_cons,Aa h1 h3 fun e he=>hO e (by simp[he]),oP h2 h4 fun e he=>hO e (by simp[he]),Bool.and_self]
theorem hD{h:List (Nat×SO)}{n:Nat}{g:Bool}{v:SV}{d:D}{vs:List SV}{O:List X}(H:VR G E ι h v d)(hc:lT n g v=some (vs,O))(hO: ∀e∈O,∃d,X.ev G E e=some d):
  d.cells.length=n∧d.cells.all D.gE=true∧bA G E ι h vs d.cells:=by
 have one: ∀{u:SV} {d:D},VR G E ι h u d→d.cells= [d]→d.gE=true→n=1→d.cells.length=n∧d.cells.all D.gE=true∧bA G E ι h [u] d.cells:=fun{u d} H h1 h2 h3=>by
  rw[h1];exact⟨h3.symm,by simp[h2],bA.mk H bA.nil⟩
 unfold lT at hc;split at hc
 ·split at hc
  ·rename_i hl;obtain⟨O',h1,h2⟩:=Mz.1 hc;cases h2;cases H with
   |agg h3 h4=>exact⟨h3.symm.trans hl,oP ⟨h3,h4⟩ h1 hO,h3,h4⟩
  ·cases hc
 ·rename_i e;obtain⟨h1,h2⟩:=H.bQ;split at hc
  ·split at hc
   ·rename_i hn;cases hc;obtain⟨d',hd'⟩:=hO _ (List.mem_singleton.2 rfl);obtain⟨ds,g1,g2⟩:=aH hd';obtain⟨d2,rfl,g3⟩:=iP g1;rw[h1]at g3;cases g3;simp only[XK.run]at g2;split at g2
    ·rename_i hcc;refine⟨hcc.1,hcc.2.1,by simp[hcc.1],fun i v c hv hcd=> ?_⟩;have hi:=(Gz.1 hcd).1;simp only[Dz,List.getElem?_range (show i<n by omega),Pz,Jz]at hv;subst hv;refine .x ?_ (me (Tz.1 hcc.2.2 _ (Lz hcd)));simp only[X.ev,X.bh,h1,Oz,Pz,XK.run]
     grind
    ·cases g2
   ·cases hc
  ·split at hc
   ·rename_i hn;cases hc;obtain⟨d',hd'⟩:=hO _ (List.mem_singleton.2 rfl);obtain⟨ds,g1,g2⟩:=aH hd';obtain⟨d2,rfl,g3⟩:=iP g1;rw[h1]at g3;cases g3;simp only[XK.run]at g2;split at g2
    ·rename_i hcc;have GU:d.cells= [d]:=by cases d<;>first|rfl|(simp[D.gE]at hcc)
     grind
    ·cases g2
   ·cases hc
 ·split at hc<;>cases hc;cases H with|ptr hf=>exact one (.ptr hf) rfl rfl (by assumption)
 ·split at hc<;>cases hc;have H':=H;cases H with
  |gln=>exact one H' rfl rfl (by assumption)
  |gl=>exact one H' rfl rfl (by assumption)
 ·split at hc<;>cases hc;have H':=H;cases H;exact one H' rfl rfl (by assumption)
 ·split at hc<;>cases hc;have H':=H;cases H;exact one H' rfl rfl (by assumption)
 ·split at hc<;>cases hc;have H':=H;cases H;exact one H' rfl rfl (by assumption)
 ·split at hc<;>cases hc;have H':=H;cases H with
  |gsn=>exact one H' rfl rfl (by assumption)
  |gs=>exact one H' rfl rfl (by assumption)
 ·split at hc<;>cases hc;have H':=H;cases H;exact one H' rfl rfl (by assumption)
 ·cases hc
theorem wh{h:List (Nat×SO)}{us vs:List SV}{xs ds:List D}{o:Nat}(H:bA G E ι h us xs)(K:bA G E ι h vs ds):bA G E ι h (us.take o++vs++us.drop (o+vs.length)) (putAt xs o ds):=by
 rw[K.1];exact((H.take o).append K).append (H.drop _)
theorem qB{h:List (Nat×SO)}: ∀{ps:List (Nat×Nat)} {cells vs r:List SV} {xs ds:List D} {O:List X},bA G E ι h cells xs→bA G E ι h vs ds→zl cells ps vs=some (r,O)→(∀e∈O,∃d,X.ev G E e=some d)→
  ∃ys,nb xs ps ds=some ys∧bA G E ι h r ys∧ds.all (fun d=>d.cells.all D.gE)=true
 | [],cells,[],r,xs,ds,O,H,K,hf,hO=>by
  cases hf;have:ds= []:=List.eq_nil_of_length_eq_zero K.1.symm;subst this;exact⟨xs,rfl,H,rfl⟩
 | [],cells,v::vs,r,xs,ds,O,H,K,hf,hO=>by cases hf
 |(off,n)::ps,cells,[],r,xs,ds,O,H,K,hf,hO=>by cases hf
 |(off,n)::ps,cells,v::vs,r,xs,ds,O,H,K,hf,hO=>by
  simp only[zl,Bz]at hf;obtain⟨⟨cs,O1⟩,h1,hf⟩:=hf;split at hf
  ·rename_i hlen;obtain⟨⟨r',O2⟩,h2,h3⟩:=Mz.1 hf;cases h3;obtain⟨d,ds',rfl,K1,K2⟩:=K.cons;obtain⟨c1,c2,c3⟩:=hD K1 h1 fun e he=>hO e (List.mem_append_left _ he);have hcl:cs.length=n:=by rw[c3.1];exact c1
   have oD:=wh (o:=off) H c3;rw[hcl]at oD;obtain⟨ys,y1,y2,y3⟩:=qB oD K2 h2 fun e he=>hO e (List.mem_append_right _ he);refine⟨ys, ?_,y2,by simp[c2,y3]⟩;simp only[nb];rw[if_pos ⟨c1,by rw[←H.1];exact hlen⟩];exact y1
  ·cases hf
theorem ug(M:Mt Ω G E ι γ Y J){zero:List D}{places:List (Nat×Nat)}{vs:List SV}{ds:List D}{v:SV}{O:List X}(hv:bA G E ι Y.h vs ds)(hs:uf Y.h zero places vs=some (v,O))(hO: ∀e∈O,∃d,X.ev G E e=some d):
  ∃d,(PK.build zero places).run (bg G) J.m ds=some d∧VR G E ι Y.h v d:=by
 unfold uf at hs;split at hs
 ·rename_i q hq;cases hs
  have hz:bA G E ι Y.h (zero.map AD) zero:=⟨by simp,fun i v d hv hd=>by
   rw[Dz,hd]at hv;simp only[Pz,Jz]at hv
   subst hv;exact uA d⟩
  obtain⟨ys,y1,y2,y3⟩:=qB hz hv (show zl _ _ _=some (q.1,q.2)from hq) hO;refine⟨.agg ys, ?_, .agg y2.1 y2.2⟩;simp only[PK.run,wT]
  grind
 ·exact aC hv hs hO
theorem xY(M:Mt Ω G E ι γ Y J){n size:Nat}{g:Bool}{vs:List SV}{ds:List D}{v:SV}{O:List X}(hv:bA G E ι Y.h vs ds)(hs:Cf Y.h n size g vs=some (v,O))(hO: ∀e∈O,∃d,X.ev G E e=some d):
  ∃d,(PK.aix n size g).run (bg G) J.m ds=some d∧VR G E ι Y.h v d:=by
 unfold Cf at hs;split at hs
 ·rename_i us k i;obtain⟨d,e,rfl,H,K⟩:=hv.two;obtain⟨k1,_⟩:=K.bQ;cases k1;cases H with
  | @agg _ xs hl hh=>
   have HH:bA G E ι Y.h us xs:=⟨hl,hh⟩;split at hs
   ·rename_i hc;have hc':0≤i∧i<n∧i.toNat*size+size≤xs.length:=by rw[←hl];exact hc
    split at hs
    ·rename_i hg;cases hs;refine⟨.agg ((xs.drop (i.toNat*size)).take size),by simp only[PK.run,Jl];rw[if_pos hc',if_pos hg], ?_⟩;have:=(HH.drop (i.toNat*size)).take size;exact .agg this.1 this.2
    ·rename_i hg;obtain⟨u,hu,he⟩:=Mz.1 hs;cases he;have hi:=(Gz.1 hu).1;have hd:xs[i.toNat*size]?=some (xs[i.toNat*size]'(by omega)):=Ez _;refine⟨_,by simp only[PK.run,Jl];rw[if_pos hc',if_neg hg];exact hd,hh _ _ _ hu hd⟩
   ·cases hs
 ·exact aC hv hs hO
theorem gG(M:Mt Ω G E ι γ Y J){k:PK}{vs:List SV}{ds:List D}{v:SV}{O:List X}(hv:bA G E ι Y.h vs ds)(hs:uk Y.h k vs=some (v,O))(hO: ∀e∈O,∃d,X.ev G E e=some d):
  ∃d,k.run (bg G) J.m ds=some d∧VR G E ι Y.h v d:=by
 unfold uk at hs;split at hs
 ·exact Ay M hv hs hO
 ·exact yb M hv hs hO
 ·exact x8 M hv hs hO
 ·exact yc M hv hs hO
 ·exact u_ M hv hs hO
 ·exact yd M hv hs hO
 ·exact u9 M hv hs hO
 ·exact u' M hv hs hO
 ·exact ym M hv hs hO
 ·exact yk M hv hs hO
 ·exact ye M hv hs hO
 ·exact vf M hv hs hO
 ·exact x_ M hv hs hO
 ·exact u7 M hv hs hO
 ·exact x9 M hv hs hO
 ·exact ve M hv hs hO
 ·exact nu M hv hs hO
 ·exact ui M hv hs hO
 ·exact ug M hv hs hO
 ·exact xY M hv hs hO
 ·exact aC hv hs hO
end
end
section
def bH(Y:Sy):aM→SV
 | .t i=>(find Y.s i).getD .un
 | .c (.agg xs)=> .agg (xs.map AD)
 | .c d=>AD d
def sA(h:List (Nat×SO)):SV→Option X
 | .x e=>some e
 | .gl n _=>cont h n
 | .gs n _ k=>(cont h n).map fun c=> .mk .take [c,k]
 | .gt n _ k=>(cont h n).map fun c=> .mk .drp [c,k]
 |_=>none
def Sy.nw(Y:Sy)(x:Nat):Sy:=Y.kill (Y.nx+x)
def Sy.add(Y:Sy)(x nm:Nat)(o:SO)(v:SV):Sy:={Y with h:=bF nm o Y.h,s:=bF x v Y.s}
def jW(N:Nat)(e:X):List SV:=(List.range N).map fun k=> .x (.mk (.cell k N) [e])
def Sy.oO(Y:Sy)(n:Nat):Bool:=Y.h.all fun p=>match p.2 with
 | .itr (some m) _=>m !=n
 |_=>true
theorem nR{Y:Sy}{n k:Nat}{c:X}(h:Y.oO n=true)(hf:find Y.h k=some (.itr (some n) c)):False:=by
 have:=Tz.1 h _ (jZ hf);simp at this
def kG(n:Nat)(g:Bool)(va vv:SV)(Y:Sy):Option (Sy×List X):=
 match va with
 | .ptr m o=>match find Y.h m with
  |some (.box us)=>(lT n g vv).bind fun q=>if o+n≤us.length then some ({Y with h:=bF m (.box (us.take o++q.1++us.drop (o+n))) Y.h},q.2)else none
  |_=>none
 | .rb m o=>match find Y.h m with
  |some (.box us)=>(lT n g vv).bind fun q=>if o+n≤us.length then some ({Y with h:=bF m (.box (us.take o++q.1++us.drop (o+n))) Y.h},q.2)else none
  |_=>none
 | .dp m o c s i j=>match find Y.h m with
  |some (.box us)=>(SV.nF ((us.drop o).take (c*s))).bind fun xs=>vv.ly.bind fun x=>
   if o+c*s≤us.length then some ({Y with h:=bF m (.box (us.take o++jW (c*s) (.mk (.seta c s j n) [.mk .agg xs,i,x])++us.drop (o+c*s))) Y.h},[.mk (.seta c s j n) [.mk .agg xs,i,x]])else none
  |_=>none
 | .ep m s i j=>match find Y.h m with
  |some (.aA t sz c)=>if sz=s then vv.ly.map fun x=>({Y with h:=bF m (.aA t sz (.mk (.setl s j n) [c,i,x])) Y.h},[.mk (.setl s j n) [c,i,x]])else none
  |_=>none
 | .bp m i o=>match find Y.h m with
  |some (.bL e 0 c)=>vv.ly.map fun x=>({Y with h:=bF m (.bL e 0 (.mk (.pm 6 [] o n) [c,i,x])) Y.h},[.mk (.pm 6 [] o n) [c,i,x]])
  |_=>none
 |_=>none
def qi(x t size:Nat)(va vb:SV)(Y:Sy)(nm:Nat):Option (Sy×List X):=
 (sA Y.h vb).bind fun cb=>match va with
  | .x (.q .nil)=>some (Y.add x nm (.aA t size (.mk (.app size) [.q (.list []),cb])) (.gl nm size),[.mk (.app size) [.q (.list []),cb]])
  | .gl n s=>match find Y.h n with
   |some (.aA t' s' c)=>if t'=t∧s=size∧s'=size then some ((Y.kill n).add x nm (.aA t size (.mk (.app size) [c,cb])) (.gl nm size),[.mk (.app size) [c,cb]])else none
   |_=>none
  |_=>none
def SO.Md:SO→Bool
 | .bL .. =>true
 |_=>false
def ZK(t size f:Nat)(xs:List X):X:= .mk (.app size) [.q (.list []), .mk .drp [.mk (.call false (1000001000000+(1000000*t+f))) xs, .q (iv 0)]]
def eQ(e:bZ)(Y:Sy):Option (Sy×List X):=
 match e with
 | .box n g x a=>(lT n g (bH (Y.nw x) a)).map fun q=>((Y.nw x).add x (Y.nx+x) (.box q.1) (.ptr (Y.nx+x) 0),q.2)
 | .store n g a v=>kG n g (bH Y a) (bH Y v) Y
 | .app x t size a b=>qi x t size (bH (Y.nw x) a) (bH (Y.nw x) b) (Y.nw x) (Y.nx+x)
 | .mks x t size zero a b=>match bH (Y.nw x) a,bH (Y.nw x) b with
  | .x ea, .x eb=>some ((Y.nw x).add x (Y.nx+x) (.aA t size (.mk (.mks size zero) [ea,eb])) (.gl (Y.nx+x) size),[.mk (.mks size zero) [ea,eb]])
  |_,_=>none
 | .lit x t size len zero places args=>(SV.nF (args.map (bH (Y.nw x)))).map fun xs=>((Y.nw x).add x (Y.nx+x) (.aA t size (.mk (.lit size len zero places) xs)) (.gl (Y.nx+x) size),[.mk (.lit size len zero places) xs])
 | .mkm x=>some ((Y.nw x).add x (Y.nx+x) (.map (.q (.list []))) (.mp (Y.nx+x)),[])
 | .mkml x e sz=>if Y.h.all (fun p=> !p.2.Md)then some ((Y.nw x).add x (Y.nx+x) (.bL e sz (.q (.list []))) (.mp (Y.nx+x)),[])else none
 | .copy x a b=>match bH Y a,bH Y b with
  | .sb n o l, .sb m p l'=>match find Y.h n,find Y.h m with
   |some (.box us),some (.box vs)=>if 0<l∧0<l'∧o+l≤us.length∧p+l'≤vs.length then
     some ((match x with
      |some i=>Sy.set {Y with h:=bF n (.box (us.take o++(vs.drop p).take (min l' l)++us.drop (o+min l' l))) Y.h} i (.x (.q (iv ((min l' l:Nat):Int))))
      |none=>{Y with h:=bF n (.box (us.take o++(vs.drop p).take (min l' l)++us.drop (o+min l' l))) Y.h}),[])else none
   |_,_=>none
  |_,_=>none
 | .mupd ks a k v=>match bH Y a with
  | .mp n=>match find Y.h n with
   |some (.map c)=>if Y.oO n=true then(bH Y k).ly.bind fun kx=>(bH Y v).ly.map fun vx=>({Y with h:=bF n (.map (.mk (.mset ks) [c,kx,vx])) Y.h},[.mk (.mset ks) [c,kx,vx]])else none
   |some (.bL e 0 c)=>match bH Y v with
    | .ptr b 0=>match find Y.h b with
     |some (.box us)=>if Y.oO n=true then(SV.agg us).ly.bind fun ax=>(bH Y k).ly.map fun kx=>({Y.kill b with h:=bF n (.bL e 0 (.mk (.pm 7 ks 0 0) [c,kx,ax])) (Y.kill b).h},[.mk (.pm 7 ks 0 0) [c,kx,ax]])else none
     |_=>none
    |_=>none
   |_=>none
  |_=>none
 | .ment ks z x a k=>match bH Y a with
  | .mp n=>match find Y.h n with
   |some (.map c)=>if Y.oO n=false then none else(bH Y k).ly.map fun kx=>(Sy.set {Y with h:=bF n (.map (.mk (.mset ks) [c,kx, .mk (.mget ks z false) [c,kx]])) Y.h} x (.tup [.un, .x (.mk (.mix ks) [.mk (.mset ks) [c,kx, .mk (.mget ks z false) [c,kx]],kx])]),[.mk (.mset ks) [c,kx, .mk (.mget ks z false) [c,kx]]])
   |_=>none
  |_=>none
 | .mest a s v=>match bH Y a,bH Y s with
  | .mp n, .x (.mk (.mix ks) [c2,kx])=>match find Y.h n with
   |some (.map (.mk (.mset ks') [c,kx',y]))=>if cZ c2 (.mk (.mset ks') [c,kx',y])&&cZ kx kx'&&ks==ks'&&Y.oO n then(bH Y v).ly.map fun vx=>({Y with h:=bF n (.map (.mk (.mset ks') [c,kx',vx])) Y.h},[.mk (.mset ks') [c,kx',vx]])else none
   |_=>none
  |_,_=>none
 | .clr size zero a=>match bH Y a with
  | .gt n sz k=>match find Y.h n with
   |some (.aA e sz' c)=>if(sz'=sz∧size=sz)∧(zero.length==size&&zero.all D.rG)=true then some ({Y with h:=bF n (.aA e sz (.mk (.clr zero) [c,k])) Y.h},[.mk (.clr zero) [c,k]])else none
   |_=>none
  |_=>none
 | .ecall x k f args=>match(args.map (bH Y))[k]? with
  |some (.gl n sz)=>match find Y.h n with
   |some (.aA e sz' c)=>if sz'=sz then(SV.nF ((args.map (bH Y)).set k (.x c))).map fun xs=>
     (Sy.set {Y with h:=bF n (.aA e sz (.mk (.pk (.ext 1)) [.mk (.ecall k f sz) xs])) Y.h} x (.x (.mk (.pk (.ext 0)) [.mk (.ecall k f sz) xs])),[.mk (.pk (.ext 1)) [.mk (.ecall k f sz) xs], .mk (.pk (.ext 0)) [.mk (.ecall k f sz) xs]])else none
   |_=>none
  |_=>none
 | .acall x t size f args=>if f<1000000 then(SV.nF (args.map (bH (Y.nw x)))).map fun xs=>((Y.nw x).add x (Y.nx+x) (.aA t size (ZK t size f xs)) (.gl (Y.nx+x) size),ZK t size f xs::xs.map fun a=> .mk .aj [a])else none
section
variable {Ω : bz} {G : FP} {E : List D} {ι : Im} {γ : Nat → Tok} {Y : Sy} {J : St}
theorem ay(M:Mt Ω G E ι γ Y J)(a:aM):VR G E ι Y.h (bH Y a) (a.val J.s):=by
 cases a with
 |t i=>
  simp only[bH];cases hf:find Y.s i with
  |none=>exact .un
  |some v=>exact M.slot i v hf
 |c d=>
  cases d<;>simp only[bH]<;>try exact uA _
  exact .agg (by simp) fun i v d hv hd=>by
   rw[Dz,hd]at hv;simp only[Pz,Jz]at hv;subst hv;exact uA d
theorem tq{n:Nat}: ∀{vs:List SV},(∀v∈vs,v.im n=false)→SV.oL n vs=false
 | [],_=>rfl
 |v::r,h=>by
  have h1:=tq (n:=n) (vs:=r) fun u hu=>h u (Cz _ hu);simp only[SV.oL,h v (List.mem_cons_self ..),h1,Bool.or_self]
theorem HQ{n:Nat}{vs:List SV}(h:SV.oL n vs=false): ∀v∈vs,v.im n=false:=fun v hv=>by
 obtain⟨i,hi⟩:=List.getElem?_of_mem hv;exact tv h i v hi
theorem Fp{x:Nat}(F:Y.free x)(a:aM):(bH Y a).im x=false:=by
 have vd: ∀d:D,(AD d).im x=false:=fun d=>by unfold AD;split<;>rfl
 cases a with
 |t i=>
  simp only[bH];cases hf:find Y.s i with
  |none=>rfl
  |some v=>exact F.2.1 i v hf
 |c d=>
  cases d<;>simp only[bH]<;>try exact vd _
  exact tq fun v hv=>by obtain⟨d,_,rfl⟩:=List.mem_map.1 hv;exact vd d
theorem yR {x n : Nat} {g : Bool} {v : SV} {vs : List SV} {O : List X} (hc : lT n g v = some (vs, O)) (hv : v.im x = false) : ∀ u ∈ vs, u.im x = false := by
  unfold lT at hc
  split at hc
  · split at hc
    · obtain ⟨O', h1, h2⟩ := Mz.1 hc
      cases h2
      exact HQ (by simpa only [SV.im] using hv)
    · cases hc
  · split at hc
    · split at hc <;> cases hc
      intro u hu
      obtain ⟨j, _, rfl⟩ := List.mem_map.1 hu
      rfl
    · grind
  all_goals first
    | (cases hc; done)
    | (split at hc <;> cases hc
       intro u hu; simp at hu; subst hu; exact hv)
theorem VR.fresh{h:List (Nat×SO)}{v:SV}{d:D}(H:VR G E ι h v d){x:Nat}(hx:v.im x=false){t:Tok}{o:SO}:VR G E (ι.set x t) (bF x o h) v d:=
 H.mono (fun _ _ h=>h) fun n hn=>by
  have hne:n≠x:=fun e=>by subst e;rw[hx]at hn;cases hn
  exact⟨if_neg hne,Lk.same (fun _ _ h=>h) (by rw[ba,if_neg hne])⟩
theorem bA.fresh{h:List (Nat×SO)}{vs:List SV}{ds:List D}(H:bA G E ι h vs ds){x:Nat}(hx: ∀v∈vs,v.im x=false){t:Tok}{o:SO}:bA G E (ι.set x t) (bF x o h) vs ds:=
 ⟨H.1,fun i v d hv hd=>(H.2 i v d hv hd).fresh (hx v (Lz hv))⟩
theorem Mt.nw(M:Mt Ω G E ι γ Y J)(x:Nat):Mt Ω G E ι γ (Y.nw x) J∧(Y.nw x).free (Y.nx+x):=M.kill _
theorem Mt.vY(M:Mt Ω G E ι γ Y J){n:Nat}{o:SO}(h:find Y.h n=some o)(ho:o.uU=true):ι n≠ []:=by
 cases o<;>first|(cases ho;done)|skip
 ·exact(M.mpo _ _ h).choose_spec.2.1
 ·exact(M.own _ _ _ _ h).choose_spec.2.1
theorem Mt.add(M:Mt Ω G E ι γ Y J){x nm:Nat}(F:Y.free nm){o:SO}{v:SV}{t g:Tok}{J':St}(W:WF J')(hs: ∀j,j≠x→J'.s j=J.s j)
  (hm: ∀n o',find Y.h n=some o'→ι n≠ []→J'.m (ι n)=J.m (ι n)) (hc: ∀y,J.c y≤J'.c y) (hr: ∀t q,J.m t=some (.raw q)→J'.m t=some (.raw q))
  (hv:VR G E (ι.set nm t) (bF nm o Y.h) v (J'.s x))
  (ho:match o with
   | .box vs=> ∃ds,t≠ []∧J'.m t=some (.box ds)∧bA G E (ι.set nm t) (bF nm o Y.h) vs ds
   | .aA e sz c=> ∃es,X.ev G E c=some (.list es)∧bj sz es=true∧(t= []∧es= []∨t≠ []∧J'.m t=some (.row g e es))∧(t≠ []→ ∀n e sz c,find Y.h n=some (.aA e sz c)→ι n≠ []→γ n≠g)∧(t≠ []→ ∀y k r,g=(y+1)::k::r→k<J'.c y)
   | .map c=> ∃es,X.ev G E c=some (.list (aG es))∧t≠ []∧J'.m t=some (.map es)
   | .bL e sz c=>X.ev G E c=some (.list [])∧t≠ []∧J'.m t=some (.map [])∧ ∀k e sz c,find Y.h k≠some (.bL e sz c)
   | .raw k=>t=Ω.t nm∧t≠ []∧J'.m t=some (.raw (Ω.f nm k))∧ ¬Ω.c t
   | .itr m c=>qn G E (ι.set nm t) (bF nm o Y.h) J' nm m c)
  (ht:t≠ []→ ∀n o,find Y.h n=some o→ι n≠t) (hx: ∀q,fw Y.h ι γ J q→t≠q.u∧(t≠ []→(∃e sz c,o= .aA e sz c)→rowAt J q.u→g≠q.g)∧J'.m q.u=J.m q.u):
  Mt Ω G E (ι.set nm t) (fun n=>if n=nm then g else γ n) (Y.add x nm o v) J':=by
 have hf: ∀n,find (Y.add x nm o v).h n=if n=nm then some o else find Y.h n:=fun n=>ba nm n o Y.h
 refine⟨fun i u hu=> ?_,fun n vs hn=> ?_,fun n e sz c hn=> ?_,fun n c hn=> ?_,fun n e sz c hn=> ?_,fun n n' e e' sz sz' c c' h1 h2=> ?_,fun n kk hn=> ?_,fun n n' o1 o2 h1 h2 he hne=> ?_,fun n n' e e' sz sz' c c' h1 h2 k1 k2 he=> ?_,W,fun n e sz c hn hne y k r hg=> ?_,M.nv,fun t ht=>hr t _ (M.con t ht),fun n m c hn=> ?_⟩
 ·simp only[Sy.add,ba]at hu;by_cases hi:i=x
  ·rw[if_pos hi]at hu;cases hu;rw[hi];exact hv
  ·rw[if_neg hi]at hu;rw[hs i hi];exact(M.slot i u hu).fresh (F.2.1 i u hu)
 ·rw[hf]at hn;by_cases hi:n=nm
  ·rw[if_pos hi]at hn;cases hn;obtain⟨ds,h1,h2,h3⟩:=ho;exact⟨ds,by simpa[hi]using h1,by simpa[hi]using h2,h3⟩
  ·rw[if_neg hi]at hn;obtain⟨ds,h1,h2,h3⟩:=M.box n vs hn;refine⟨ds,by simpa[hi]using h1, ?_,h3.fresh (F.2.2 n vs hn)⟩;simp only[Im.gF,if_neg hi];rw[hm n _ hn h1];exact h2
 ·rw[hf]at hn;by_cases hi:n=nm
  ·rw[if_pos hi]at hn;cases hn;obtain⟨es,h1,h2,h3,_⟩:=ho;exact⟨es,h1,h2,by simpa[hi]using h3⟩
  ·rw[if_neg hi]at hn;obtain⟨es,h1,h2,h3⟩:=M.aA n e sz c hn;refine⟨es,h1,h2, ?_⟩;simp only[Im.gF,if_neg hi];rcases h3 with h3|⟨h3,h4⟩
   ·exact .inl h3
   ·exact .inr ⟨h3,by rw[hm n _ hn h3];exact h4⟩
 ·rw[hf]at hn;by_cases hi:n=nm
  ·rw[if_pos hi]at hn;cases hn;obtain⟨es,h1,h2,h3⟩:=ho;exact⟨es,h1,by simpa[hi]using h2,by simpa[hi]using h3⟩
  ·rw[if_neg hi]at hn;obtain⟨es,h1,h2,h3⟩:=M.mpo n c hn;refine⟨es,h1,by simpa[hi]using h2, ?_⟩;simp only[Im.gF,if_neg hi];rw[hm n _ hn h2];exact h3
 ·rw[hf]at hn;by_cases hi:n=nm
  ·rw[if_pos hi]at hn;cases hn;obtain⟨h1,h2,h3,_⟩:=ho;exact⟨[],h1,by simpa[hi]using h2,by simpa[hi]using h3,fun q hq=>(by cases hq),List.nodup_nil,fun _ i q hq=>by simp at hq⟩
  ·rw[if_neg hi]at hn;obtain⟨L,h1,h2,h3,h4⟩:=M.own n e sz c hn;refine⟨L,h1,by simpa[hi]using h2, ?_,fun q hq=> ?_,h4.2⟩
   ·simp only[Im.gF,if_neg hi];rw[hm n _ hn h2];exact h3
   ·obtain⟨k1,k2,k3⟩:=hx q ⟨n,e,sz,c,L,hn,h3,h4,hq⟩;obtain⟨_,_,_,q4,q5,_⟩:=h4.1 q hq;refine(h4.1 q hq).eP k3 (fun k o' hk=> ?_) (fun hz k e' sz' c' hk hne=> ?_) hc
    ·rw[hf]at hk;by_cases hkn:k=nm
     ·simp only[Im.gF,if_pos hkn];exact k1
     ·rw[if_neg hkn]at hk;simp only[Im.gF,if_neg hkn];exact q4 k o' hk
    ·rw[hf]at hk;by_cases hkn:k=nm
     ·rw[if_pos hkn]at hk;simp only[Im.gF,if_pos hkn]at hne⊢;exact k2 hne ⟨_,_,_,Option.some.inj hk⟩ ⟨_,_,_,by rw[(h4.1 q hq).2.2.1];simp[OE.ob,hz];exact⟨rfl,rfl,rfl⟩⟩
     ·rw[if_neg hkn]at hk;simp only[Im.gF,if_neg hkn]at hne⊢;exact q5 hz k e' sz' c' hk hne
 ·rw[hf]at h1 h2;by_cases hi:n=nm<;>by_cases hi':n'=nm
  ·rw[hi,hi']
  ·rw[if_pos hi]at h1;rw[if_neg hi']at h2;cases h1;exact absurd h2 (ho.2.2.2 _ _ _ _)
  ·rw[if_neg hi]at h1;rw[if_pos hi']at h2;cases h2;exact absurd h1 (ho.2.2.2 _ _ _ _)
  ·rw[if_neg hi]at h1;rw[if_neg hi']at h2;exact M.one n n' _ _ _ _ _ _ h1 h2
 ·rw[hf]at hn;by_cases hi:n=nm
  ·rw[if_pos hi]at hn;cases hn;obtain⟨h0,h1,h2⟩:=ho;exact⟨by simpa[hi]using h0,by simpa[hi]using h1,by simpa[hi]using h2⟩
  ·rw[if_neg hi]at hn;obtain⟨h0,h1,h2⟩:=M.rwo n kk hn;refine⟨by simpa[hi]using h0,by simpa[hi]using h1, ?_⟩;simp only[Im.gF,if_neg hi];rw[hm n _ hn h1];exact h2
 ·rw[hf]at h1 h2;by_cases hi:n=nm<;>by_cases hi':n'=nm
  ·rw[hi,hi']
  ·simp only[Im.gF,if_pos hi,if_neg hi']at he hne h2;exact absurd he.symm (ht hne n' o2 h2)
  ·simp only[Im.gF,if_neg hi,if_pos hi']at he hne h1;exact absurd he (ht (he▸hne) n o1 h1)
  ·simp only[Im.gF,if_neg hi,if_neg hi']at he hne h1 h2;exact M.inj n n' o1 o2 h1 h2 he hne
 ·rw[hf]at h1 h2;by_cases hi:n=nm<;>by_cases hi':n'=nm
  ·rw[hi,hi']
  ·simp only[Im.gF,if_pos hi,if_neg hi']at he k1 k2 h1 h2;cases h1;obtain⟨es,_,_,_,h4,_⟩:=ho;exact absurd he.symm (h4 k1 n' e' sz' c' h2 k2)
  ·simp only[Im.gF,if_neg hi,if_pos hi']at he k1 k2 h1 h2;cases h2;obtain⟨es,_,_,_,h4,_⟩:=ho;exact absurd he (h4 k2 n e sz c h1 k1)
  ·simp only[Im.gF,if_neg hi,if_neg hi']at he k1 k2 h1 h2;exact M.gJ n n' e e' sz sz' c c' h1 h2 k1 k2 he
 ·rw[hf]at hn;by_cases hi:n=nm
  ·simp only[Im.gF,if_pos hi]at hn hne hg;cases hn;obtain⟨es,_,_,_,_,h5⟩:=ho;exact h5 hne y k r hg
  ·simp only[Im.gF,if_neg hi]at hn hne hg;exact Nat.lt_of_lt_of_le (M.old n e sz c hn hne y k r hg) (hc y)
 ·rw[hf]at hn;by_cases hi:n=nm
  ·rw[if_pos hi]at hn;cases hn;rw[hi];exact ho
  ·rw[if_neg hi]at hn;have H:=M.itr n m c hn;refine H.eP (by simp[hi]) (hm n _ hn H.1) (fun _ _ h=>h) fun m' o' e hf' hmp=> ?_;have hne:m'≠nm:=fun e=>by rw[e,F.1]at hf';cases hf'
   exact⟨by simp[hne],⟨o',by rw[hf,if_neg hne];exact hf',hmp⟩,fun es h=>⟨es,by rw[hm m' _ hf' (M.vY hf' hmp)];exact h,rfl⟩⟩
end
end
section
section
variable {Ω : bz} {G : FP} {E : List D} {ι : Im} {γ : Nat → Tok} {Y : Sy} {J : St}
theorem bT(J:St)(x:Nat)(o:HO)(d:D)(t:Tok):(J.new x o d).m t=if t=J.tok x then some o else J.m t:=rfl
theorem ef(J:St)(x:Nat)(o:HO)(d:D)(j:Nat):(J.new x o d).s j=if j=x then d else J.s j:=rfl
theorem nj(J:St)(x:Nat)(o:HO)(d:D)(y:Nat):(J.new x o d).c y=if y=x then J.c y+1 else J.c y:=rfl
theorem mQ{J:St}(W:WF J)(x:Nat)(o:HO)(d:D)(t:Tok)(q:Obj)(h:J.m t=some (.raw q)):(J.new x o d).m t=some (.raw q):=by rw[bT,if_neg (fun e=>by rw[e,W.tok x]at h;cases h)];exact h
theorem lj(J:St)(x:Nat):J.tok x≠ []:=by simp[St.tok]
theorem Mt.live(M:Mt Ω G E ι γ Y J){n:Nat}{o:SO}(h:find Y.h n=some o)(hi:ι n≠ []): ∃q,J.m (ι n)=some q:=by
 cases o with
 |box vs=>obtain⟨ds,_,h1,_⟩:=M.box n vs h;exact⟨_,h1⟩
 |aA e sz c=>
  obtain⟨es,_,_,h1⟩:=M.aA n e sz c h
  grind
 |map c=>obtain⟨es,_,_,h1⟩:=M.mpo n c h;exact⟨_,h1⟩
 |bL e sz c=>obtain⟨L,_,_,h1,_⟩:=M.own n e sz c h;exact⟨_,h1⟩
 |raw k=>obtain⟨_,_,h1,_⟩:=M.rwo n k h;exact⟨_,h1⟩
 |itr m c=>obtain⟨_,_,_,_,h1,_⟩:=M.itr n m c h;exact⟨_,h1⟩
theorem Mt.du(M:Mt Ω G E ι γ Y J)(x:Nat){n:Nat}{o:SO}(h:find Y.h n=some o):ι n≠J.tok x:=fun e=>by
 obtain⟨q,hq⟩:=M.live h (by rw[e];exact lj J x);rw[e,M.wf.tok x]at hq;cases hq
theorem Mt.Db(M:Mt Ω G E ι γ Y J)(x:Nat){n e sz:Nat}{c:X}(h:find Y.h n=some (.aA e sz c))(hi:ι n≠ []):γ n≠J.tok x:=fun e=>by
 have:=M.old n _ _ _ h hi x (J.c x) [] e;omega
theorem fw.mem{h:List (Nat×SO)}{q:OE}(H:fw h ι γ J q):(∃e sz,J.m q.u=some (q.ob e sz)∧(sz=0→q.g=q.u)∧(sz≠0→ ∀k e sz c,find h k=some (.aA e sz c)→ι k≠ []→γ k≠q.g))∧q.u≠ []∧(∀k o,find h k=some o→ι k≠q.u)∧ ∀y k r,q.g=(y+1)::k::r→k<J.c y:=by
 obtain⟨n,e,sz,c,L,_,_,h3,hq⟩:=H;obtain⟨k1,k2,k3,k4,k5,k6,k7⟩:=h3.1 q hq;exact⟨⟨e,sz,k3,fun h=>(k7 h).1,k5⟩,k1,k4,k6⟩
theorem HX{q:OE}{e sz:Nat}{x:Obj}:q.ob e sz≠ .raw x:=by unfold OE.ob;split<;>simp
theorem fw.row{h:List (Nat×SO)}{q:OE}(H:fw h ι γ J q)(hr:rowAt J q.u){k e sz:Nat}{c:X}(hf:find h k=some (.aA e sz c))(hi:ι k≠ []):γ k≠q.g:=by
 obtain⟨⟨e0,sz0,h1,_,h3⟩,_⟩:=H.mem;refine h3 (fun hz=> ?_) k e sz c hf hi;obtain⟨_,_,_,h4⟩:=hr;rw[h1]at h4;simp[OE.ob,hz]at h4
theorem fw.cE{h:List (Nat×SO)}{q:OE}(H:fw h ι γ J q){g:Tok}(hg:rowAt J q.u→g≠q.g)(j:Nat):HO.cE g j (J.m q.u)=J.m q.u:=by
 obtain⟨⟨e,sz,h1,_,_⟩,_⟩:=H.mem;by_cases hz:sz=0
 ·rw[h1];simp[OE.ob,hz,HO.cE]
 ·have h1':J.m q.u=some (.row q.g e q.es):=by rw[h1];simp[OE.ob,hz]
  have:=hg ⟨_,_,_,h1'⟩;rw[h1'];simp only[HO.cE];rw[if_neg fun h=>this h.1.symm]
theorem Mt.bO(M:Mt Ω G E ι γ Y J)(x:Nat){q:OE}(H:fw Y.h ι γ J q):J.tok x≠q.u∧J.tok x≠q.g:=by
 obtain⟨⟨e,sz,h1,_⟩,_,_,h5⟩:=H.mem;refine⟨fun e2=> ?_,fun e2=> ?_⟩
 ·rw[←e2,M.wf.tok x]at h1;cases h1
 ·have:=h5 x (J.c x) [] e2.symm;omega
theorem fw.kill{q:OE}{n:Nat}(M:Mt Ω G E ι γ Y J)(H:fw (Y.kill n).h ι γ J q): ∃q',fw Y.h ι γ J q'∧q'.u=q.u∧q'.g=q.g:=by
 obtain⟨n',e,sz,c,L,h1,h2,h3,hq⟩:=H;obtain⟨_,o,ho,h⟩:=aU h1;cases o<;>simp only[fE,reduceCtorEq]at h;cases h;obtain⟨L1,k1,k2,k3,k4⟩:=M.own n' _ _ _ ho;rw[k3]at h2;have hL:L1.map (OE.en sz)=L.map (OE.en sz):=by injection h2 with h2;injection h2
 obtain⟨i,hi⟩:=List.getElem?_of_mem hq;have e1:(L1.map (OE.en sz))[i]?=some (q.en sz):=by rw[hL,Dz,hi];rfl
 rw[Dz,Mz]at e1;obtain⟨q',hq',he⟩:=e1
 have hu:q'.u=q.u:=by
  simp only[OE.en,Prod.mk.injEq]at he;by_cases hz:sz=0
  ·simp only[hz,if_true,D.ptr.injEq]at he;exact he.2.1
  ·simp only[hz,if_false,D.sl.injEq]at he;exact he.2.1
 have K1:=k4.1 q' (Lz hq');have K2:=h3.1 q hq
 have hg:q'.g=q.g:=by
  by_cases hz:sz=0
  ·rw[(K1.2.2.2.2.2.2 hz).1,(K2.2.2.2.2.2.2 hz).1,hu]
  ·have m1:=K1.2.2.1;have m2:=K2.2.2.1;rw[hu,m2]at m1;simp only[OE.ob,hz,if_false]at m1;injection m1 with m1;injection m1 with m1;exact m1.symm
 exact⟨q',⟨n',_,_,_,L1,ho,k3,k4,Lz hq'⟩,hu,hg⟩
theorem Mt.Jq(M:Mt Ω G E ι γ Y J){x nm:Nat}(F:Y.free nm){vs:List SV}{ds:List D}(hv:bA G E ι Y.h vs ds)(hf: ∀v∈vs,v.im nm=false):
  Mt Ω G E (ι.set nm (J.tok x)) (fun n=>if n=nm then []else γ n) (Y.add x nm (.box vs) (.ptr nm 0)) (J.new x (.box ds) (.ptr (J.tok x) 0)):=by
 refine M.add F (t:=J.tok x) (g:= []) (M.wf.new x _ _) (fun j hj=>by rw[ef,if_neg hj]) (fun n o' h hi=>by rw[bT,if_neg (M.du x h)]) (fun y=>by rw[nj];split<;>omega) (fun t q h=>by rw[bT,if_neg (fun e=>by rw[e,M.wf.tok x]at h;cases h)];exact h) ?_ ⟨ds,lj J x,by rw[bT,if_pos rfl],hv.fresh hf⟩ (fun _ n o h=>M.du x h) (fun q hq=>⟨(M.bO x hq).1,fun _ h=>(by obtain⟨_,_,_,h⟩:=h;cases h),by rw[bT,if_neg (Ne.symm (M.bO x hq).1)]⟩);rw[ef,if_pos rfl];have:=VR.ptr (G:=G) (E:=E) (ι:=ι.set nm (J.tok x)) (h:=bF nm (.box vs) Y.h) (n:=nm) (o:=0) (vs:=vs) (by rw[ba,if_pos rfl]);simpa using this
theorem Mt.Kl(M:Mt Ω G E ι γ Y J){x nm:Nat}(F:Y.free nm):
  Mt Ω G E (ι.set nm (J.tok x)) (fun n=>if n=nm then []else γ n) (Y.add x nm (.map (.q (.list []))) (.mp nm)) (J.new x (.map []) (.mp (J.tok x))):=by
 refine M.add F (t:=J.tok x) (g:= []) (M.wf.new x _ _) (fun j hj=>by rw[ef,if_neg hj]) (fun n o' h hi=>by rw[bT,if_neg (M.du x h)]) (fun y=>by rw[nj];split<;>omega) (fun t q h=>by rw[bT,if_neg (fun e=>by rw[e,M.wf.tok x]at h;cases h)];exact h) ?_ ⟨[],rfl,lj J x,by rw[bT,if_pos rfl]⟩ (fun _ n o h=>M.du x h) (fun q hq=>⟨(M.bO x hq).1,fun _ h=>(by obtain⟨_,_,_,h⟩:=h;cases h),by rw[bT,if_neg (Ne.symm (M.bO x hq).1)]⟩);rw[ef,if_pos rfl];have:=VR.mp (G:=G) (E:=E) (ι:=ι.set nm (J.tok x)) (h:=bF nm (.map (.q (.list []))) Y.h) (n:=nm) (o:= .map (.q (.list []))) (by rw[ba,if_pos rfl]) rfl;simpa using this
theorem Mt.Kt(M:Mt Ω G E ι γ Y J){x nm:Nat}(e sz:Nat)(F:Y.free nm)(hn: ∀k e sz c,find Y.h k≠some (.bL e sz c)):
  Mt Ω G E (ι.set nm (J.tok x)) (fun n=>if n=nm then []else γ n) (Y.add x nm (.bL e sz (.q (.list []))) (.mp nm)) (J.new x (.map []) (.mp (J.tok x))):=by
 refine M.add F (t:=J.tok x) (g:= []) (M.wf.new x _ _) (fun j hj=>by rw[ef,if_neg hj]) (fun n o' h hi=>by rw[bT,if_neg (M.du x h)]) (fun y=>by rw[nj];split<;>omega) (fun t q h=>by rw[bT,if_neg (fun e=>by rw[e,M.wf.tok x]at h;cases h)];exact h) ?_ ⟨rfl,lj J x,by rw[bT,if_pos rfl],hn⟩ (fun _ n o h=>M.du x h) (fun q hq=>⟨(M.bO x hq).1,fun _ h=>(by obtain⟨_,_,_,h⟩:=h;cases h),by rw[bT,if_neg (Ne.symm (M.bO x hq).1)]⟩);rw[ef,if_pos rfl];have:=VR.mp (G:=G) (E:=E) (ι:=ι.set nm (J.tok x)) (h:=bF nm (.bL e sz (.q (.list []))) Y.h) (n:=nm) (o:= .bL e sz (.q (.list []))) (by rw[ba,if_pos rfl]) rfl;simpa using this
theorem Mt.mL(M:Mt Ω G E ι γ Y J){x nm e sz:Nat}{c:X}(F:Y.free nm){es:List (List D)}(hc:X.ev G E c=some (.list es))(hr:bj sz es=true){J':St}{g:Tok}(W:WF J')
  (hs:J'.s=(J.new x (.row g e es) (.sl (J.tok x) sz 0 es.length none)).s) (hm: ∀n o',find Y.h n=some o'→ι n≠ []→J'.m (ι n)=J.m (ι n)) (cB:J'.m (J.tok x)=some (.row g e es)) (lI: ∀t q,J.m t=some (.raw q)→J'.m t=some (.raw q)) (hcc: ∀y,J'.c y=if y=x then J.c y+1 else J.c y)
  (hx: ∀q,fw Y.h ι γ J q→(rowAt J q.u→g≠q.g)∧J'.m q.u=J.m q.u)
  (hg:g=J.tok x∨(∀n e sz c,find Y.h n=some (.aA e sz c)→ι n≠ []→γ n≠g)∧ ∀y k r,g=(y+1)::k::r→k<J.c y):
  Mt Ω G E (ι.set nm (J.tok x)) (fun n=>if n=nm then g else γ n) (Y.add x nm (.aA e sz c) (.gl nm sz)) J':=by
 refine M.add F (t:=J.tok x) (g:=g) W (fun j hj=>by rw[hs,ef,if_neg hj]) hm (fun y=>by rw[hcc];split<;>omega) lI ?_ ⟨es,hc,hr, .inr ⟨lj J x,cB⟩,fun _ n e' sz' c' h hi=> ?_,fun _ y k r h=> ?_⟩ (fun _ n o h=>M.du x h) (fun q hq=>⟨(M.bO x hq).1,fun _ _=>(hx q hq).1,(hx q hq).2⟩)
 ·rw[hs,ef,if_pos rfl];have:=VR.gl (G:=G) (E:=E) (ι:=ι.set nm (J.tok x)) (h:=bF nm (.aA e sz c) Y.h) (n:=nm) (sz:=sz) (e:=e) (c:=c) (es:=es) (by rw[ba,if_pos rfl]) hc (by simp[lj]);simpa using this
 ·rcases hg with rfl|hg
  ·exact M.Db x h hi
  ·grind
 ·rw[hcc];rcases hg with rfl|hg
  ·simp only[St.tok,List.cons.injEq]at h;have:y=x:=by omega
   subst this;rw[if_pos rfl];omega
  ·have:=hg.2 y k r h;split<;>omega
theorem Mt.tn(M:Mt Ω G E ι γ Y J){x nm e sz:Nat}{c:X}(F:Y.free nm){es:List (List D)}(hc:X.ev G E c=some (.list es))(hr:bj sz es=true){t g:Tok}{d:D}
  (h:t= []∧es= []∧d= .nil∨t≠ []∧J.m t=some (.row g e es)∧d= .sl t sz 0 es.length none∧(∀n o,find Y.h n=some o→ι n≠t)∧(∀n e sz c,find Y.h n=some (.aA e sz c)→ι n≠ []→γ n≠g)∧ ∀y k r,g=(y+1)::k::r→k<J.c y) (hx: ∀q,fw Y.h ι γ J q→t≠q.u∧(t≠ []→rowAt J q.u→g≠q.g)):
  Mt Ω G E (ι.set nm t) (fun n=>if n=nm then g else γ n) (Y.add x nm (.aA e sz c) (.gl nm sz)) (J.set x d):=by
 refine M.add F (t:=t) (g:=g) M.wf (fun j hj=>St.cQ J d hj) (fun _ _ _ _=>rfl) (fun y=>Nat.le_refl _) (fun _ _ h=>h) ?_ ⟨es,hc,hr, ?_,fun ht=> ?_,fun ht=> ?_⟩ (fun ht=> ?_) (fun q hq=>⟨(hx q hq).1,fun ht _=>(hx q hq).2 ht,rfl⟩)
 ·rw[St.ub];rcases h with⟨h1,h2,rfl⟩|⟨h1,h2,rfl,_⟩
  ·exact .gln (by rw[ba,if_pos rfl]) (by simp[h1])
  ·have:=VR.gl (G:=G) (E:=E) (ι:=ι.set nm t) (h:=bF nm (.aA e sz c) Y.h) (n:=nm) (sz:=sz) (e:=e) (c:=c) (es:=es) (by rw[ba,if_pos rfl]) hc (by simpa using h1);simpa using this
 ·rcases h with⟨h1,h2,_⟩|⟨h1,h2,_⟩
  ·exact .inl ⟨h1,h2⟩
  ·exact .inr ⟨h1,h2⟩
 ·rcases h with⟨h1,_⟩|⟨_,_,_,_,h2,_⟩
  ·exact absurd h1 ht
  ·exact h2
 ·rcases h with⟨h1,_⟩|⟨_,_,_,_,_,h2⟩
  ·exact absurd h1 ht
  ·exact h2
 ·rcases h with⟨h1,_⟩|⟨_,_,_,h2,_⟩
  ·exact absurd h1 ht
  ·exact h2
theorem VR.write{h:List (Nat×SO)}{v:SV}{d:D}(H:VR G E ι h v d){n:Nat}{o o':SO}(hf:find h n=some o)(hoo:SO.cC G E E (ι.e n) (ι.e n) o o'):VR G E ι (bF n o' h) v d:=
 H.mono (fun _ _ h=>h) fun k hk=>by
  by_cases hkn:k=n
  ·subst hkn;exact⟨rfl,fun q hq=>⟨o',by rw[ba,if_pos rfl],by rw[hf]at hq;cases hq;exact hoo⟩⟩
  ·exact⟨rfl,Lk.same (fun _ _ h=>h) (by rw[ba,if_neg hkn])⟩
theorem Mt.write(M:Mt Ω G E ι γ Y J){n:Nat}{o o':SO}{q:HO}{J':St}(hf:find Y.h n=some o)(hi:ι n≠ [])(W:WF J')(hs:J'.s=J.s)(hc:J'.c=J.c)(cB:J'.m (ι n)=some q)
  (hm: ∀k o',k≠n→find Y.h k=some o'→ι k≠ []→J'.m (ι k)=J.m (ι k))
  (lI: ∀t q,J.m t=some (.raw q)→t≠ι n→J'.m t=some (.raw q)) (UB: ∀q,J.m (ι n)≠some (.raw q)) (hoo:SO.cC G E E (ι.e n) (ι.e n) o o') (Ev: ∀q,fw Y.h ι γ J q→J'.m q.u=J.m q.u)
  (ho:match o' with
   | .box vs=> ∃ds,q= .box ds∧bA G E ι Y.h vs ds
   | .aA e sz c=> ∃es,X.ev G E c=some (.list es)∧bj sz es=true∧q= .row (γ n) e es
   | .map c=> ∃es,X.ev G E c=some (.list (aG es))∧q= .map es
   | .bL .. =>False
   | .raw k=>False
   | .itr m c=>qn G E ι (bF n o' Y.h) J' n m c) (hit:o.uU=true→Y.oO n=true:=by(intro h;cases h)):Mt Ω G E ι γ {Y with h:=bF n o' Y.h} J':=by
 have hf': ∀k,find (bF n o' Y.h) k=if k=n then some o' else find Y.h k:=fun k=>ba n k o' Y.h
 have back: ∀k e sz c,find (bF n o' Y.h) k=some (.aA e sz c)→ ∃c0,find Y.h k=some (.aA e sz c0):=fun k e sz c h=>by
  rw[hf']at h;by_cases hk:k=n
  ·rw[if_pos hk]at h;cases h;cases o<;>simp only[SO.cC]at hoo
   grind
  ·rw[if_neg hk]at h;exact⟨c,h⟩
 have uc: ∀k p,find (bF n o' Y.h) k=some p→ ∃p0,find Y.h k=some p0:=fun k p h=>by
  rw[hf']at h;by_cases hk:k=n
  ·exact⟨o,by rw[hk];exact hf⟩
  ·rw[if_neg hk]at h;exact⟨p,h⟩
 refine⟨fun i v hv=>by rw[hs];exact(M.slot i v hv).write hf hoo,fun k vs hk=> ?_,fun k e sz c hk=> ?_,fun k c hk=> ?_,fun k e sz c hk=> ?_,fun a b e e' sz sz' c c' h1 h2=> ?_,fun k kk hk=> ?_,fun a b p p' h1 h2=> ?_,fun a b e e' sz sz' c c' h1 h2=> ?_,W,fun k e sz c hk=> ?_,M.nv,fun t ht=>lI t _ (M.con t ht) fun e=>UB _ (e▸M.con t ht),fun k m c hk=> ?_⟩
 ·rw[hf']at hk;by_cases hkn:k=n
  ·rw[if_pos hkn]at hk;cases hk;obtain⟨ds,rfl,h2⟩:=ho;exact⟨ds,by rw[hkn];exact hi,by rw[hkn];exact cB,h2.1,fun i v d hv hd=>(h2.2 i v d hv hd).write hf hoo⟩
  ·rw[if_neg hkn]at hk;obtain⟨ds,h1,h2,h3⟩:=M.box k vs hk;exact⟨ds,h1,by rw[hm k _ hkn hk h1];exact h2,h3.1,fun i v d hv hd=>(h3.2 i v d hv hd).write hf hoo⟩
 ·rw[hf']at hk;by_cases hkn:k=n
  ·rw[if_pos hkn]at hk;cases hk
   grind
  ·rw[if_neg hkn]at hk;obtain⟨es,h1,h2,h3⟩:=M.aA k e sz c hk;refine⟨es,h1,h2, ?_⟩;rcases h3 with h3|⟨h3,h4⟩
   ·exact .inl h3
   ·exact .inr ⟨h3,by rw[hm k _ hkn hk h3];exact h4⟩
 ·rw[hf']at hk;by_cases hkn:k=n
  ·rw[if_pos hkn]at hk;cases hk;obtain⟨es,h1,rfl⟩:=ho;exact⟨es,h1,by rw[hkn];exact hi,by rw[hkn];exact cB⟩
  ·rw[if_neg hkn]at hk;obtain⟨es,h1,h2,h3⟩:=M.mpo k c hk;exact⟨es,h1,h2,by rw[hm k _ hkn hk h2];exact h3⟩
 ·rw[hf']at hk;by_cases hkn:k=n
  ·rw[if_pos hkn]at hk;cases hk;exact ho.elim
  ·rw[if_neg hkn]at hk;obtain⟨L,h1,h2,h3,h4⟩:=M.own k e sz c hk;refine⟨L,h1,h2,by rw[hm k _ hkn hk h2];exact h3,fun q hq=> ?_,h4.2⟩;refine(h4.1 q hq).eP (Ev q ⟨k,e,sz,c,L,hk,h3,h4,hq⟩) (fun j o2 hj=> ?_) (fun hz j e' sz' c' hj=> ?_) fun y=>by rw[hc];exact Nat.le_refl _
   ·obtain⟨p0,g1⟩:=uc j o2 hj;exact(h4.1 q hq).2.2.2.1 j p0 g1
   ·obtain⟨c0,g1⟩:=back j _ _ _ hj;exact(h4.1 q hq).2.2.2.2.1 hz j _ _ c0 g1
 ·have nm: ∀{k e sz c},find (bF n o' Y.h) k=some (.bL e sz c)→find Y.h k=some (.bL e sz c):=fun{k e sz c} h=>by
   rw[hf']at h;by_cases hk:k=n
   ·rw[if_pos hk]at h;cases h;exact ho.elim
   ·rw[if_neg hk]at h;exact h
  exact M.one a b _ _ _ _ _ _ (nm h1) (nm h2)
 ·rw[hf']at hk;by_cases hkn:k=n
  ·rw[if_pos hkn]at hk;cases hk;exact ho.elim
  ·rw[if_neg hkn]at hk;obtain⟨h1,h2,h3⟩:=M.rwo k kk hk;exact⟨h1,h2,by rw[hm k _ hkn hk h2];exact h3⟩
 ·obtain⟨p0,g1⟩:=uc a p h1;obtain⟨p1,g2⟩:=uc b p' h2;exact M.inj a b p0 p1 g1 g2
 ·obtain⟨c0,g1⟩:=back a e sz c h1;obtain⟨c1,g2⟩:=back b e' sz' c' h2;exact M.gJ a b e e' sz sz' c0 c1 g1 g2
 ·obtain⟨c0,g1⟩:=back k e sz c hk;rw[hc];exact M.old k e sz c0 g1
 ·rw[hf']at hk;by_cases hkn:k=n
  ·rw[if_pos hkn]at hk;cases hk;rw[hkn];exact ho
  ·rw[if_neg hkn]at hk;have H:=M.itr k m c hk;refine H.eP rfl (hm k _ hkn hk H.1) (fun _ _ h=>h) fun m' o2 e hf2 hmp=>⟨rfl, ?_,fun es h=>⟨es, ?_,rfl⟩⟩
   ·by_cases hmn:m'=n
    ·refine⟨o',by rw[hf',if_pos hmn], ?_⟩;rw[hmn,hf]at hf2;cases hf2;cases o<;>cases o'<;>simp only[SO.cC]at hoo<;>first|rfl|cases hmp
    ·exact⟨o2,by rw[hf',if_neg hmn];exact hf2,hmp⟩
   ·rw[hm m' o2 (fun e2=> ?_) hf2 (M.vY hf2 hmp)];exact h;subst e2;subst e;rw[hf]at hf2;cases hf2;exact nR (hit hmp) hk
theorem pY{α:Type}: ∀{l:List α} {i j:Nat} {a:α},l.Nodup→l[i]?=some a→l[j]?=some a→i=j
 | [],i,j,a,_,h,_=>by simp at h
 |b::r,i,j,a,hd,hi,hj=>by
  have hd:=List.nodup_cons.1 hd;cases i with
  |zero=>
   grind
  |succ i=>
   cases j with
   |zero=>simp at hi hj;subst hj;exact absurd (Lz hi) hd.1
   |succ j=>exact congrArg (· +1) (pY hd.2 (a:=a) (by simpa using hi) (by simpa using hj))
theorem Mt.Q8(M:Mt Ω G E ι γ Y J){n e sz:Nat}{c c':X}{L':List OE}{J':St}{ι':Im}{s':List (Nat×SV)}(hf:find Y.h n=some (.bL e sz c))(hιt:ι'.t=ι.t)(hιe: ∀k,k≠n→ι'.e k=ι.e k)
  (hιn: ∀z es,X.ev G E c=some (.list es)→z<es.length→ι'.e n z=ι.e n z) (hlen: ∀es,X.ev G E c=some (.list es)→es.length≤L'.length) (hit:(∀k d,find Y.h k≠some (.itr (some n) d))∨ ∀es,X.ev G E c=some (.list es)→es.length=L'.length)
  (hs: ∀i v,find s' i=some v→v= .un∨find Y.s i=some v∧J'.s i=J.s i) (W:WF J') (hc: ∀y,J.c y≤J'.c y)
  (hm: ∀k o,k≠n→find Y.h k=some o→ι k≠ []→J'.m (ι k)=J.m (ι k)) (lI: ∀t q,J.m t=some (.raw q)→J'.m t=some (.raw q)) (he:X.ev G E c'=some (.list (aG (L'.map OE.pr))))
  (hmp:J'.m (ι n)=some (.map (L'.map (OE.en sz)))) (hL:D0 Y.h ι' γ J' e sz (ι'.e n) L'):Mt Ω G E ι' γ {Y with s:=s',h:=bF n (.bL e sz c') Y.h} J':=by
 have hf': ∀k,find (bF n (.bL e sz c') Y.h) k=if k=n then some (.bL e sz c')else find Y.h k:=fun k=>ba n k _ Y.h
 have hι: ∀k,ι' k=ι k:=fun k=>congrFun hιt k;obtain⟨L,l1,hi,l3,_⟩:=M.own n _ _ _ hf;have hpl:(aG (L'.map OE.pr)).length=L'.length:=by simp[aG]
 have vr: ∀{v:SV} {d:D},VR G E ι Y.h v d→VR G E ι' (bF n (.bL e sz c') Y.h) v d:=fun H=>H.mono (fun _ _ h=>h) fun k hk=>⟨hι k,fun o ho=>by
  by_cases hkn:k=n
  ·subst hkn;rw[hf]at ho;cases ho;exact⟨.bL e sz c',by rw[hf',if_pos rfl],(fun hz=>⟨hz,fun es hes=>⟨⟨_,he,by rw[hpl];exact hlen es hes⟩,fun z hz=>hιn z es hes hz⟩⟩:SO.cC G E E (ι.e k) (ι'.e k) (.bL e sz c) (.bL e sz c'))⟩
  ·refine⟨o,by rw[hf',if_neg hkn];exact ho, ?_⟩
   rw[hιe k hkn];exact ki (fun _ _ h=>h) o⟩
 have back: ∀{k:Nat} {o:SO},(∀a b d,o≠ .bL a b d)→find (bF n (.bL e sz c') Y.h) k=some o→k≠n∧find Y.h k=some o:=fun{k o} hq h=>by
  rw[hf']at h;by_cases hk:k=n
  ·rw[if_pos hk]at h;cases h;exact absurd rfl (hq _ _ _)
  ·rw[if_neg hk]at h;exact⟨hk,h⟩
 have uM: ∀{k:Nat} {o:SO},find (bF n (.bL e sz c') Y.h) k=some o→ ∃o',find Y.h k=some o':=fun{k o} h=>by
  rw[hf']at h;by_cases hk:k=n
  ·rw[hk];exact⟨_,hf⟩
  ·rw[if_neg hk]at h;exact⟨_,h⟩
 have only: ∀{k a b:Nat} {d:X},find (bF n (.bL e sz c') Y.h) k=some (.bL a b d)→k=n:=fun{k a b d} h=>by
  rw[hf']at h;by_cases hk:k=n
  ·exact hk
  ·rw[if_neg hk]at h;exact M.one k n _ _ _ _ _ _ h hf
 refine⟨fun i v hv=> ?_,fun k vs hk=> ?_,fun k e sz c hk=> ?_,fun k c hk=> ?_,fun k a b d hk=> ?_,fun a b _ _ _ _ _ _ h1 h2=>(only h1).trans (only h2).symm,fun k kk hk=> ?_,fun a b o o' h1 h2=> ?_,fun a b e e' sz sz' c c' h1 h2=> ?_,W,fun k e sz c hk hne z j r hg=> ?_,M.nv,fun t ht=>lI t _ (M.con t ht),fun k m d hk=> ?_⟩
 ·rcases hs i v hv with rfl|⟨h1,h2⟩
  ·exact .un
  ·rw[h2];exact vr (M.slot i v h1)
 ·obtain⟨hne,hk⟩:=back (by simp) hk;obtain⟨ds,h1,h2,h3⟩:=M.box k vs hk;exact⟨ds,by rw[hι];exact h1,by rw[hι,hm k _ hne hk h1];exact h2,h3.1,fun i v d hv hd=>vr (h3.2 i v d hv hd)⟩
 ·obtain⟨hne,hk⟩:=back (by simp) hk;obtain⟨es,h1,h2,h3⟩:=M.aA k _ _ _ hk;refine⟨es,h1,h2, ?_⟩;rw[hι];rcases h3 with h3|⟨h3,h4⟩
  ·exact .inl h3
  ·exact .inr ⟨h3,by rw[hm k _ hne hk h3];exact h4⟩
 ·obtain⟨hne,hk⟩:=back (by simp) hk;obtain⟨es,h1,h2,h3⟩:=M.mpo k c hk;exact⟨es,h1,by rw[hι];exact h2,by rw[hι,hm k _ hne hk h2];exact h3⟩
 ·obtain rfl:=only hk;rw[hf',if_pos rfl]at hk;cases hk;refine⟨L',he,by rw[hι];exact hi,by rw[hι];exact hmp,fun q hq=>(hL.1 q hq).eP rfl (fun k o ho=> ?_) (fun hz k e sz c ho=> ?_) fun _=>Nat.le_refl _,hL.2⟩
  ·obtain⟨o',ho'⟩:=uM ho;exact(hL.1 q hq).2.2.2.1 k o' ho'
  ·exact(hL.1 q hq).2.2.2.2.1 hz k _ _ _ (back (by simp) ho).2
 ·obtain⟨hne,hk⟩:=back (by simp) hk;obtain⟨h1,h2,h3,h4⟩:=M.rwo k kk hk;exact⟨by rw[hι];exact h1,by rw[hι];exact h2,by rw[hι,hm k _ hne hk h2];exact h3,by rw[hι];exact h4⟩
 ·obtain⟨_,g1⟩:=uM h1;obtain⟨_,g2⟩:=uM h2;rw[hι,hι];exact M.inj a b _ _ g1 g2
 ·rw[hι,hι];exact M.gJ a b _ _ _ _ _ _ (back (by simp) h1).2 (back (by simp) h2).2
 ·rw[hι]at hne;exact Nat.lt_of_lt_of_le (M.old k _ _ _ (back (by simp) hk).2 hne z j r hg) (hc z)
 ·obtain⟨hne,hk2⟩:=back (by simp) hk;have H:=M.itr k m d hk2;refine H.eP (hι k) (hm k _ hne hk2 H.1) (fun _ _ h=>h) fun m' o2 e hf2 Uy=>⟨hι m', ?_,fun es h=> ?_⟩
  ·by_cases hmn:m'=n
   ·exact⟨_,by rw[hf',if_pos hmn],rfl⟩
   ·exact⟨o2,by rw[hf',if_neg hmn];exact hf2,Uy⟩
  ·by_cases hmn:m'=n
   ·subst hmn;rcases hit with hit|hit
    ·subst e;exact absurd hk2 (hit _ _)
    ·rw[l3]at h;cases h;exact⟨_,hmp,by have:=hit _ l1;simp only[aG,List.length_map]at this⊢;exact this.symm⟩
   ·exact⟨es,by rw[hm m' o2 hmn hf2 (M.vY hf2 Uy)];exact h,rfl⟩
theorem kN(M:Mt Ω G E ι γ Y J){v:SV}{d dc:D}{cb:X}{es:List (List D)}(H:VR G E ι Y.h v d)(hc:sA Y.h v=some cb)(he:X.ev G E cb=some dc)(hl:l8 dc=some es):d.elems J.m=some es:=by
 unfold sA at hc;split at hc
 ·cases hc;obtain⟨h1,h2⟩:=H.bQ;rw[h1]at he;cases he;cases d<;>simp only[l8]at hl<;>first|exact hl|cases hl
 ·obtain⟨e0,sz0,hf⟩:=b7 hc;obtain⟨es',h1,h2,h3⟩:=M.aA _ _ _ _ hf;rw[h1]at he;cases he;cases hl;cases H with
  |gln g1 g2=>
   rcases h3 with⟨_,rfl⟩|⟨h3,_⟩
   ·rfl
   ·grind
  |gl g1 g2 g3=>
   rw[hf]at g1;cases g1;rw[h1]at g2;cases g2;rcases h3 with⟨h3,_⟩|⟨_,h3⟩
   ·grind
   ·simp only[D.elems,h3];rw[if_pos ⟨by omega,bP h2⟩];simp
 ·obtain⟨c,hc',he'⟩:=Mz.1 hc;subst he';obtain⟨e0,sz0,hf⟩:=b7 hc';obtain⟨es',h1,h2,h3⟩:=M.aA _ _ _ _ hf;obtain⟨q,z,k1,k2,k3,rfl⟩:=eM h1 he;cases hl;cases H with
  |gsn g1 g2 g3=>
   rcases h3 with⟨_,rfl⟩|⟨h3,_⟩
   ·simp[D.elems]
   ·grind
  |gs g1 g2 g3 g4 g5 g6=>
   rw[hf]at g1;cases g1;rw[k1]at g4;cases g4;rcases h3 with⟨h3,_⟩|⟨_,h3⟩
   ·grind
   ·simp only[D.elems,h3];rw[if_pos ⟨by omega,bP h2⟩];simp
 ·obtain⟨c,hc',he'⟩:=Mz.1 hc;subst he';obtain⟨e0,sz0,hf⟩:=b7 hc';obtain⟨es',h1,h2,h3⟩:=M.aA _ _ _ _ hf;obtain⟨q,z,k1,k2,k3,rfl⟩:=xi h1 he;cases hl;cases H with
  |gtn g1 g2 g3=>
   rcases h3 with⟨_,rfl⟩|⟨h3,_⟩
   ·simp[D.elems]
   ·grind
  |gt g1 g2 g3 g4 g5 g6=>
   rw[hf]at g1;cases g1;rw[h1]at g2;cases g2;rw[k1]at g4;cases g4;rcases h3 with⟨h3,_⟩|⟨_,h3⟩
   ·grind
   ·simp only[D.elems,h3];rw[if_pos ⟨by omega,bP h2⟩];exact congrArg some (List.take_of_length_le (by simp))
 ·cases hc
theorem El{x n:Nat}(F:Y.free x):(Y.kill n).free x:=by
 have un: ∀v:SV,v.im x=false→(qG n v).im x=false:=fun v hv=>by unfold qG;cases v.im n<;>simp[hv,SV.im]
 refine⟨?_,fun i v hv=> ?_,fun k vs hk v hv=> ?_⟩
 ·rw[iF,F.1];simp
 ·simp only[Sy.kill,dh]at hv;obtain⟨u,hu,rfl⟩:=Mz.1 hv;exact un u (F.2.1 i u hu)
 ·obtain⟨_,o,ho,h⟩:=aU hk;cases o<;>simp only[fE,reduceCtorEq,SO.box.injEq]at h;subst h;obtain⟨u,hu,rfl⟩:=List.mem_map.1 hv;exact un u (F.2.2 k _ ho u hu)
end
end
section
section
variable {Ω : bz} {G : FP} {E : List D} {ι : Im} {γ : Nat → Tok} {Y : Sy} {J : St}
theorem CJ{size:Nat}{a b:D}{d:D}(h:(XK.app size).run G [a,b]=some d): ∃x y,l8 a=some x∧l8 b=some y∧bj size y=true∧x.length+y.length≤bx∧d= .list (x++y):=by
 simp only[XK.run,Bz]at h
 grind
theorem jI{size:Nat}{a b:List (List D)}(h:bj size a=true)(k:bj size b=true):bj size (a++b)=true:=by
 simp only[bj]at*
 grind
theorem D1{h:List (Nat×SO)}{N:Nat}{e:X}{ds:List D}(he:X.ev G E e=some (.agg ds))(hl:ds.length=N)(hn:ds.all D.aN=true):bA G E ι h (jW N e) ds:=by
 refine⟨by simp[jW,hl],fun i v c hv hc=> ?_⟩;have hi:=(Gz.1 hc).1;simp only[jW,Dz,List.getElem?_range (show i<N by omega),Pz,Jz]at hv;subst hv
 have hok:ds.all D.gE=true:=Tz.2 fun d hd=>by
  have:=Tz.1 hn d hd;cases d<;>first|rfl|cases this
 refine .x ?_ (me (Tz.1 hn _ (Lz hc)));simp only[X.ev,X.bh,he];exact(if_pos ⟨hl,hok,hn⟩).trans hc
theorem E4{p:D→Bool}{xs ds:List D}{o:Nat}(h:xs.all p=true)(k:ds.all p=true):(putAt xs o ds).all p=true:=by
 simp only[putAt]
 grind
theorem Mt.jF(M:Mt Ω G E ι γ Y J){n:Nat}{o:SO}(hf:find Y.h n=some o){q:OE}(H:fw Y.h ι γ J q):q.u≠ι n:=fun e=>by
 obtain⟨_,_,h,_⟩:=H.mem;exact h n o hf e.symm
theorem Mt.Ly(M:Mt Ω G E ι γ Y J){m o:Nat}{us vs:List SV}{xs ds:List D}(hf:find Y.h m=some (.box us))(k1:ι m≠ [])(k2:J.m (ι m)=some (.box xs))(k3:bA G E ι Y.h us xs)(hv:bA G E ι Y.h vs ds)(ho:o+vs.length≤us.length):
  Mt Ω G E ι γ {Y with h:=bF m (.box (us.take o++vs++us.drop (o+vs.length))) Y.h} (J.put (ι m) (some (.box (putAt xs o ds)))):=by
 refine M.write (o:= .box us) (q:= .box (putAt xs o ds)) hf k1 (M.wf.put (by rw[k2];simp)) rfl rfl (by simp[St.put]) (fun k o' hk hfk hik=> ?_) (fun t q h hne=>by simp only[St.put,if_neg hne];exact h) (fun q h=>by rw[k2]at h;cases h) (by simp only[SO.cC,List.length_append,List.length_take,List.length_drop];omega) (fun q hq=>by simp only[St.put,if_neg (M.jF hf hq)]) ⟨_,rfl,wh k3 hv⟩;have:ι k≠ι m:=fun e=>hk (M.inj k m _ _ hfk hf e hik);simp[St.put,this]
theorem Mt.Rn(M:Mt Ω G E ι γ Y J){n m e o:Nat}{c c':X}{rows:List (List D)}{z:Int}{kk:D}{cs:List D}{dv:D}(hf:find Y.h m=some (.bL e 0 c))(h2:X.ev G E c=some (.list rows))(h8:lb rows z=some [kk, .list [cs]])
  (h7:J.m (ι.e m z.toNat)=some (.box cs)) (hc:dv.cells.length=n∧o+n≤cs.length∧dv.cells.all D.gE=true) (hd':X.ev G E c'=some (.list (rows.set z.toNat [kk, .list [putAt cs o dv.cells]]))):
  ∃J',gT n (.ptr (ι.e m z.toNat) o) dv J=some J'∧Mt Ω G E ι γ {Y with h:=bF m (.bL e 0 c') Y.h} J':=by
 obtain⟨L,l1,l2,l3,l4,l5⟩:=M.H9 hf;rw[l1]at h2;cases h2;obtain⟨p,h4,h5,h6⟩:=DN h8;simp only[List.cons.injEq,D.list.injEq,and_true]at h6;obtain⟨rfl,h6⟩:=h6;have P:=l4.1 p (Lz h5);have hu:=(l5 _ _ h5).1;have hz:=(Gz.1 h5).1;let p':OE:=⟨p.k,p.u,p.g,[putAt cs o dv.cells]⟩;have hun:p.u≠ι m:=fun h=>P.2.2.2.1 m _ hf h.symm;have oD: ∀t,t≠p.u→(J.put p.u (some (.box (putAt cs o dv.cells)))).m t=J.m t:=fun t h=>by simp[St.put,h]
 refine⟨J.put p.u (some (.box (putAt cs o dv.cells))), ?_, ?_⟩
 ·rw[←hu];simp only[gT,show J.m p.u=some (.box cs) by rw[hu];exact h7];rw[if_pos hc]
 have fp: ∀(i:Nat) (q:OE),(L.set z.toNat p')[i]?=some q→i=z.toNat∧q=p'∨i≠z.toNat∧L[i]?=some q:=fun i q h=>by
  by_cases hi:z.toNat=i
  ·subst hi;rw[List.getElem?_set_self hz]at h;exact .inl ⟨rfl,(Option.some.inj h).symm⟩
  ·rw[List.getElem?_set_ne hi]at h;exact .inr ⟨fun e=>hi e.symm,h⟩
 have hen:(L.set z.toNat p').map (OE.en 0)=L.map (OE.en 0):=by
  refine List.ext_getElem? fun i=> ?_;rw[Dz,Dz];by_cases hi:z.toNat=i
  ·subst hi;rw[List.getElem?_set_self hz,h5];rfl
  ·rw[List.getElem?_set_ne hi]
 have hpr:aG ((L.set z.toNat p').map OE.pr)=(aG (L.map OE.pr)).set z.toNat [p.k, .list [putAt cs o dv.cells]]:=by
  simp only[aG,List.map_set,OE.pr,p']
 have hg:(L.set z.toNat p').map OE.g=L.map OE.g:=by
  refine List.ext_getElem? fun i=> ?_;rw[Dz,Dz];by_cases hi:z.toNat=i
  ·subst hi;rw[List.getElem?_set_self hz,h5];rfl
  ·rw[List.getElem?_set_ne hi]
 refine M.Q8 (s':=Y.s) (L':=L.set z.toNat p') hf rfl (fun _ _=>rfl) (fun _ _ _ _=>rfl) (fun es h=> ?_) (.inr fun es h=> ?_) (fun i v h=> .inr ⟨h,rfl⟩) (M.wf.put (by rw[hu,h7];simp)) (fun _=>Nat.le_refl _)
  (fun k q hk h hi=>oD _ fun e1=>P.2.2.2.1 k _ h e1) (fun t q h=>by rw[oD t (fun e1=>by rw[e1,hu,h7]at h;cases h)];exact h) (by rw[hpr];exact hd') (by rw[hen,oD _ (Ne.symm hun)];exact l3) ⟨fun q hq=> ?_,by rw[hg];exact l4.2.1,fun _ i q hq=> ?_⟩
 ·rw[l1]at h;cases h;simp[aG]
 ·rw[l1]at h;cases h;simp[aG]
 ·obtain⟨i,hi⟩:=List.getElem?_of_mem hq;rcases fp i q hi with⟨_,rfl⟩|⟨hne,hi⟩
  ·exact⟨P.1,fun h=>absurd rfl h,by simp[St.put,OE.ob,p'],P.2.2.2.1,fun h=>absurd rfl h,P.2.2.2.2.2.1,fun _=>⟨(P.2.2.2.2.2.2 rfl).1,rfl⟩⟩
  ·have Q:=l4.1 q (Lz hi);refine Q.eP (oD _ fun e1=> ?_) Q.2.2.2.1 Q.2.2.2.2.1 fun _=>Nat.le_refl _;refine hne (pY l4.2.1 (a:=p.u) ?_ ?_)
   ·rw[Dz,hi,Pz,(Q.2.2.2.2.2.2 rfl).1,e1]
   ·rw[Dz,h5,Pz,(P.2.2.2.2.2.2 rfl).1]
 ·rcases fp i q hq with⟨rfl,rfl⟩|⟨_,hi⟩
  ·exact hu
  ·exact(l5 i q hi).1
theorem uq(M:Mt Ω G E ι γ Y J){n:Nat}{g:Bool}{va vv:SV}{da dv:D}{Y':Sy}{O:List X}(ha:VR G E ι Y.h va da)(hvv:VR G E ι Y.h vv dv)(hs:kG n g va vv Y=some (Y',O))(hO: ∀e∈O,∃d,X.ev G E e=some d):
  ∃J',gT n da dv J=some J'∧Mt Ω G E ι γ Y' J':=by
 unfold kG at hs;split at hs
 ·rename_i m o;split at hs
  ·rename_i us hf;rw[Bz]at hs;obtain⟨⟨vs,O'⟩,hc,hs⟩:=hs;split at hs
   ·rename_i ho;cases hs;obtain⟨h1,h2,h3⟩:=hD hvv hc hO;obtain⟨xs,k1,k2,k3⟩:=M.box m us hf;have hvl:vs.length=n:=by rw[h3.1,h1]
    cases ha;refine⟨_,by simp only[gT,k2];rw[if_pos ⟨h1,by rw[←k3.1];exact ho,h2⟩], ?_⟩;have:=M.Ly (o:=o) hf k1 k2 k3 h3 (by omega)
    grind
   ·cases hs
  ·cases hs
 ·rename_i m o;split at hs
  ·rename_i us hf;rw[Bz]at hs;obtain⟨⟨vs,O'⟩,hc,hs⟩:=hs;split at hs
   ·rename_i ho;cases hs;obtain⟨h1,h2,h3⟩:=hD hvv hc hO;obtain⟨xs,k1,k2,k3⟩:=M.box m us hf;have hvl:vs.length=n:=by rw[h3.1,h1]
    cases ha;refine⟨_,by simp only[gT,k2];rw[if_pos ⟨trivial,h1,by rw[←k3.1];omega,h2⟩], ?_⟩;have:=M.Ly (o:=o) hf k1 k2 k3 h3 (by omega)
    grind
   ·cases hs
  ·cases hs
 ·rename_i m o c s i j;split at hs
  ·rename_i us hf;simp only[Bz]at hs;obtain⟨xs,hx,x,hxv,hs⟩:=hs;split at hs
   ·rename_i ho;cases hs;obtain⟨d',hd'⟩:=hO _ (List.mem_singleton.2 rfl);obtain⟨ds0,a1,a2⟩:=aH hd';simp only[X.bh,Bz,Mz]at a1;obtain⟨dc,b1,r1,⟨di,b2,r2,⟨dx,b3,r3,b4,rfl⟩,rfl⟩,rfl⟩:=a1;cases b4;obtain⟨zs,k1,k2,k3⟩:=M.box m us hf;cases ha with
    |dp hf2 hiv h0 hz hl=>
     rename_i z;rw[hiv]at b2;cases b2;obtain⟨ws,c1,c2⟩:=aH b1;simp only[XK.run]at c2;split at c2<;>cases c2;have Qd:=(k3.drop o).take (c*s);obtain rfl:=fP Qd hx c1;obtain rfl:=aZ hvv hxv b3;have hkl:=k3.1;simp only[XK.run]at a2;split at a2
     ·rename_i bc;cases a2;obtain⟨_,_,q3,q4,q5,q6,q7,q8⟩:=bc
      have hzs:z.toNat*s+s≤c*s:=by
       have:(z.toNat+1)*s≤c*s:=Nat.mul_le_mul_right _ (by omega);rw[Nat.add_mul]at this;omega
      have hsl:((zs.drop o).take (c*s)).length=c*s:=by simp;omega
      have hpl:(putAt ((zs.drop o).take (c*s)) (z.toNat*s+j) dx.cells).length=c*s:=by rw[eL (by omega)];exact hsl
      have GU:=D1 (ι:=ι) (h:=Y.h) hd' hpl (E4 q8 q7);have hcl:(jW (c*s) (.mk (.seta c s j n) [.mk .agg xs,i,x])).length=c*s:=by simp[jW]
      have:=M.Ly (o:=o) hf k1 k2 k3 GU (by rw[hcl];exact ho);rw[hcl]at this;refine⟨_, ?_,this⟩;simp only[gT,k2];rw[if_pos ⟨q5,by omega,q6⟩];congr 3;refine congrArg HO.box (List.ext_getElem? fun p=> ?_);rw[fX (show o+z.toNat*s+j+dx.cells.length≤zs.length by omega),fX (show o+(putAt ((zs.drop o).take (c*s)) (z.toNat*s+j) dx.cells).length≤zs.length by rw[hpl];omega),hpl];by_cases hp:o≤p∧p<o+c*s
      ·rw[if_pos hp,fX (by omega)];by_cases hp2:o+z.toNat*s+j≤p∧p<o+z.toNat*s+j+dx.cells.length
       ·rw[if_pos hp2,if_pos (by omega)];congr 1;omega
       ·rw[if_neg hp2,if_neg (by omega),List.getElem?_take_of_lt (by omega),List.getElem?_drop];congr 1;omega
      ·rw[if_neg hp,if_neg (by omega)]
     ·cases a2
   ·cases hs
  ·cases hs
 ·rename_i m s i j;split at hs
  ·rename_i t sz c hf;split at hs
   ·rename_i hss;subst hss;obtain⟨xe,hx,he⟩:=Mz.1 hs;cases he;obtain⟨d',hd'⟩:=hO _ (List.mem_singleton.2 rfl);obtain⟨ds,a1,a2⟩:=aH hd';simp only[X.bh,Bz,Mz]at a1;obtain⟨dc,b1,r1,⟨di,b2,r2,⟨dx,b3,r3,b4,rfl⟩,rfl⟩,rfl⟩:=a1;cases b4;obtain⟨es,k1,k2,k3⟩:=M.aA _ _ _ _ hf;rw[k1]at b1;cases b1;cases ha with
    |ep g1 g2 g3 g4 g5 g6=>
     rw[hf]at g1;cases g1;rw[k1]at g2;cases g2;rename_i kd z;rw[g4]at b2;cases b2;rcases k3 with⟨k3,_⟩|⟨_,k3⟩
     ·exact absurd k3 g3
     ·have hv:=aZ hvv hx b3;subst hv;simp only[XK.run]at a2;rw[if_neg (by omega),Bz]at a2;obtain⟨cc,c1,c2⟩:=a2;split at c2
      ·rename_i hcc;cases c2;obtain⟨q1,q2,q3,q4,q5⟩:=hcc;have hlen:cc.length=sz:=q3;refine⟨(J.aL (γ m) z.toNat).put (ι m) (some (.row (γ m) t (es.set z.toNat (putAt cc j dx.cells)))), ?_, ?_⟩
       ·simp only[gT,k3,c1,Oz];rw[if_pos ⟨q1,q2,q3,q4⟩]
       ·refine M.write (o:= .aA t sz c) (q:= .row (γ m) t (es.set z.toNat (putAt cc j dx.cells))) hf g3 ?_ rfl rfl (by simp[St.put]) (fun k o' hk hfk hik=> ?_) (fun t q h hne=>by simp only[St.put,if_neg hne,St.aL];rw[h];rfl) (fun q h=>by rw[k3]at h;cases h) ⟨rfl,rfl,fun es' he'=>⟨_,hd',by rw[k1]at he';cases he';simp⟩⟩ (fun q hq=>by simp only[St.put,if_neg (M.jF hf hq),St.aL];exact hq.cE (fun h=>hq.row h hf g3) _) ⟨_,hd', ?_,rfl⟩
        ·intro x k r hkk
         have hne:(x+1)::k::r≠ι m:=fun e=>by
          have:=M.wf x k r hkk;rw[e,k3]at this;cases this
         simp only[St.put,if_neg hne];exact M.wf.aL _ _ x k r hkk
        ·have hne:ι k≠ι m:=fun e=>hk (M.inj k m _ _ hfk hf e hik);simp only[St.put,if_neg hne,St.aL];cases o' with
         |box vs'=>obtain⟨ds',_,e1,_⟩:=M.box k vs' hfk;rw[e1];rfl
         |map c'=>obtain⟨_,_,_,e1⟩:=M.mpo k c' hfk;rw[e1];rfl
         |bL e' sz' c'=>obtain⟨_,_,_,e1,_⟩:=M.own k e' sz' c' hfk;rw[e1];rfl
         |raw kk=>obtain⟨_,_,e1,_⟩:=M.rwo k kk hfk;rw[e1];rfl
         |itr m0 c0=>obtain⟨_,_,_,_,e1,_⟩:=M.itr k _ _ hfk;rw[e1];rfl
         |aA e' sz' c'=>
          obtain⟨es',_,_,e1⟩:=M.aA k _ _ _ hfk;rcases e1 with⟨e1,_⟩|⟨_,e1⟩
          ·exact absurd e1 hik
          ·rw[e1];simp only[HO.cE];rw[if_neg fun hh=>hk (M.gJ k m _ _ _ _ _ _ hfk hf hik g3 hh.1)]
        ·refine Tz.2 fun q hq=> ?_;rcases List.mem_or_eq_of_mem_set hq with hq|rfl
         ·exact Tz.1 k2 q hq
         ·have hl:(putAt cc j dx.cells).length=cc.length:=eL (by omega);have GS:=Tz.1 k2 cc (Lz c1);simp only[Az,Tz]at GS q5;simp only[Az,Tz,beq_iff_eq];refine⟨by rw[hl];exact q3,fun z hz=> ?_⟩;unfold putAt at hz;simp only[List.mem_append]at hz;rcases hz with(hz|hz)|hz
          ·exact GS.2 z (List.mem_of_mem_take hz)
          ·exact q5 z hz
          ·exact GS.2 z (List.mem_of_mem_drop hz)
      ·cases c2
   ·cases hs
  ·cases hs
 ·rename_i m i o;split at hs
  rotate_left
  ·cases hs
  rename_i e0 c hf;obtain⟨x,hx,he⟩:=Mz.1 hs;cases he;obtain⟨d',hd'⟩:=hO _ (List.mem_singleton.2 rfl);obtain⟨e1,L,k,z,p,cs,_,h2,h3,h4,h5,h6,rfl,h7,h8⟩:=CU M ha (show yN Y.h m=some c by simp[yN,hf]) (by simp) hd';obtain⟨ds0,a1,a2⟩:=aH hd';simp only[X.bh,Bz,Mz]at a1;obtain⟨dc,b1,r1,⟨di,b2,r2,⟨dx,b3,r3,b4,rfl⟩,rfl⟩,rfl⟩:=a1;cases b4;rw[h2]at b1;cases b1;rw[h3]at b2;cases b2;have hv:=aZ hvv hx b3;subst hv;simp only[XK.run,EZ,h8,Oz]at a2;split at a2<;>cases a2;rename_i hc;exact M.Rn hf h2 h8 h7 hc hd'
 ·cases hs
theorem x6(M1:Mt Ω G E ι γ Y J){x t size nm:Nat}(F:Y.free nm){va vb:SV}{da db:D}{Y':Sy}{O:List X}(ha:VR G E ι Y.h va da)(hb:VR G E ι Y.h vb db)(hs:qi x t size va vb Y nm=some (Y',O))(hO: ∀e∈O,∃d,X.ev G E e=some d):
  ∃J' ι' γ',rY x t size da db J=some J'∧Mt Ω G E ι' γ' Y' J':=by
 unfold qi at hs;rw[Bz]at hs;obtain⟨cb,hcb,hs⟩:=hs;split at hs
 ·cases hs;obtain⟨h1,_⟩:=ha.bQ;obtain rfl:da= .nil:=(Option.some.inj (show some D.nil=some da from h1)).symm;obtain⟨d',hd'⟩:=hO _ (List.mem_singleton.2 rfl);obtain⟨ds,a1,a2⟩:=aH hd';obtain⟨p,q,rfl,a3,a4⟩:=jz a1;cases a3;obtain⟨x0,y,e1,e2,e3,e4,rfl⟩:=CJ a2;cases e1;simp only[List.nil_append,List.length_nil,Nat.zero_add]at hd' e4;have hel:=kN M1 hb hcb a4 e2;simp only[rY,hel,Oz];rw[if_neg (by rw[bP e3];simp)];by_cases hy:y.isEmpty=true
  ·rw[if_pos hy];have hy0:y= []:=List.isEmpty_iff.1 hy;subst hy0;exact⟨_,_,_,rfl,M1.tn F (t:= []) (g:= []) hd' rfl (.inl ⟨rfl,rfl,rfl⟩) fun q hq=>⟨Ne.symm hq.mem.2.1,fun h=>absurd rfl h⟩⟩
  ·rw[if_neg hy,if_pos e4];exact⟨_,_,_,rfl,M1.mL F hd' e3 (M1.wf.new x _ _) rfl (fun n o' h hi=>by rw[bT,if_neg (M1.du x h)]) (by rw[bT,if_pos rfl]) (mQ (by first|exact M1.wf|exact M2.wf) x _ _) (fun y=>nj ..) (fun q hq=>⟨fun _=>(M1.bO x hq).2,by rw[bT,if_neg (Ne.symm (M1.bO x hq).1)]⟩) (.inl rfl)⟩
 ·rename_i n s;split at hs
  ·rename_i t' s' c hf;split at hs
   ·rename_i bc;obtain⟨rfl,rfl,rfl⟩:=bc;cases hs;obtain⟨d',hd'⟩:=hO _ (List.mem_singleton.2 rfl);obtain⟨ds,a1,a2⟩:=aH hd';obtain⟨p,q,rfl,a3,a4⟩:=jz a1;obtain⟨x0,y,e1,e2,e3,e4,rfl⟩:=CJ a2;obtain⟨es,k1,k2,k3⟩:=M1.aA _ _ _ _ hf;rw[k1]at a3;cases a3;obtain rfl:es=x0:=Option.some.inj e1;have hel:=kN M1 hb hcb a4 e2;obtain⟨M2,F2⟩:=M1.kill n;have F3:(Y.kill n).free nm:=El F
    have back: ∀k o,find (Y.kill n).h k=some o→k≠n∧ ∃o',find Y.h k=some o'∧ ∀e sz c,o= .aA e sz c→o'= .aA e sz c:=fun k o h=>by
     obtain⟨h1,o1,h2,h3⟩:=aU h;refine⟨h1,o1,h2,fun e sz c ho=> ?_⟩;subst ho;cases o1<;>simp only[fE,reduceCtorEq]at h3
     grind
    have hne: ∀k o,find (Y.kill n).h k=some o→ι n≠ []→ι k≠ι n:=fun k o h hi e=>by
     obtain⟨h1,o',h2,_⟩:=back k o h;exact h1 (M1.inj k n o' _ h2 hf e (by rw[e];exact hi))
    have hgr:ι n≠ []→ ∀k e sz c,find (Y.kill n).h k=some (.aA e sz c)→ι k≠ []→γ k≠γ n:=fun hi k e sz c h hk eg=>by
     obtain⟨h1,o',h2,h3⟩:=back k _ h;rw[h3 _ _ _ rfl]at h2;exact h1 (M1.gJ k n _ _ _ _ _ _ h2 hf hk hi eg)
    have hold:=fun hi=>M1.old n _ _ _ hf hi
    have G3: ∀q,fw (Y.kill n).h ι γ J q→ι n≠ []→ι n≠q.u∧(ι n≠ []→rowAt J q.u→γ n≠q.g):=fun q hq hi=>by
     obtain⟨q',hq',h1,h2⟩:=hq.kill M1;exact⟨by rw[←h1];exact Ne.symm (M1.jF hf hq'),fun _ hr=>by rw[←h2];exact hq'.row (by rw[h1];exact hr) hf hi⟩
    rcases k3 with⟨k3,rfl⟩|⟨k3,k4⟩
    ·obtain rfl:da= .nil:=by
      cases ha with
      |gln=>rfl
      |gl g1 g2 g3=>exact absurd k3 g3
     simp only[List.nil_append,List.length_nil,Nat.zero_add]at hd' e4;simp only[rY,hel,Oz];rw[if_neg (by rw[bP e3];simp)];by_cases hy:y.isEmpty=true
     ·rw[if_pos hy];have hy0:y= []:=List.isEmpty_iff.1 hy;subst hy0;exact⟨_,_,_,rfl,M2.tn F3 (t:= []) (g:= []) hd' rfl (.inl ⟨rfl,rfl,rfl⟩) fun q hq=>⟨Ne.symm hq.mem.2.1,fun h=>absurd rfl h⟩⟩
     ·rw[if_neg hy,if_pos e4];exact⟨_,_,_,rfl,M2.mL F3 hd' e3 (M2.wf.new x _ _) rfl (fun n o' h hi=>by rw[bT,if_neg (M2.du x h)]) (by rw[bT,if_pos rfl]) (mQ (by first|exact M1.wf|exact M2.wf) x _ _) (fun y=>nj ..) (fun q hq=>⟨fun _=>(M2.bO x hq).2,by rw[bT,if_neg (Ne.symm (M2.bO x hq).1)]⟩) (.inl rfl)⟩
    ·obtain rfl:da= .sl (ι n) s' 0 es.length none:=by
      cases ha with
      |gln g1 g2=>exact absurd g2 k3
      |gl g1 g2 g3=>
       rw[hf]at g1;cases g1;rw[k1]at g2;cases g2;rfl
     simp only[rY,hel,Oz];rw[if_neg (by rw[bP e3];simp)];by_cases hy:y.isEmpty=true
     ·rw[if_pos hy];have hy0:y= []:=List.isEmpty_iff.1 hy;subst hy0;simp only[List.append_nil]at hd';exact⟨_,_,_,rfl,M2.tn F3 (t:=ι n) (g:=γ n) hd' k2 (.inr ⟨k3,k4,rfl,fun k o h=>hne k o h k3,fun k e sz c h hi=>hgr k3 k e sz c h hi,hold k3⟩) fun q hq=>G3 q hq k3⟩
     ·rw[if_neg hy];simp only[k4];rw[if_pos ⟨trivial,trivial,e4,by omega⟩];simp only[if_true,List.take_length]
      refine⟨_,_,_,rfl,M2.mL F3 (g:=γ n) hd' (jI k2 e3) ((M2.wf.aL _ _).new x _ _) ?_ (fun k o' h hi=> ?_) ?_ (fun t q h=>mQ (M2.wf.aL _ _) x _ _ t q (by simp only[St.aL];rw[h];rfl)) (fun y=>nj ..) (fun q hq=>⟨(G3 q hq k3).2 k3,by
       have hnt:q.u≠(J.aL (γ n) es.length).tok x:=Ne.symm (M2.bO x hq).1;rw[bT,if_neg hnt]
       exact hq.cE ((G3 q hq k3).2 k3) _⟩) (.inr ⟨fun k e sz c h hi=>hgr k3 k e sz c h hi,hold k3⟩)⟩
      ·rw[List.length_append];rfl
      ·have hnt:ι k≠(J.aL (γ n) es.length).tok x:=M2.du x h;rw[bT,if_neg hnt];simp only[St.aL];cases o' with
       |box vs'=>obtain⟨ds',_,e1,_⟩:=M2.box k vs' h;rw[e1];rfl
       |map c'=>obtain⟨_,_,_,e1⟩:=M2.mpo k c' h;rw[e1];rfl
       |bL e' sz' c'=>obtain⟨_,_,_,e1,_⟩:=M2.own k e' sz' c' h;rw[e1];rfl
       |raw kk=>obtain⟨_,_,e1,_⟩:=M2.rwo k kk h;rw[e1];rfl
       |itr m0 c0=>obtain⟨_,_,_,_,e1,_⟩:=M2.itr k _ _ h;rw[e1];rfl
       |aA e' sz' c'=>
        obtain⟨es',_,_,e1⟩:=M2.aA k _ _ _ h;rcases e1 with⟨e1,_⟩|⟨_,e1⟩
        ·exact absurd e1 hi
        ·rw[e1];simp only[HO.cE];rw[if_neg fun hh=>hgr k3 k _ _ _ h hi hh.1]
      ·exact(bT ..).trans (if_pos rfl)
   ·cases hs
  ·cases hs
 ·cases hs
theorem Mt.Ii(M:Mt Ω G E ι γ Y J){n e sz:Nat}{c c':X}{es:List (List D)}(hf:find Y.h n=some (.aA e sz c))(hc:X.ev G E c=some (.list es))(hc':X.ev G E c'=some (.list es)):
  Mt Ω G E ι γ {Y with h:=bF n (.aA e sz c') Y.h} J:=by
 have hf': ∀k,find (bF n (.aA e sz c') Y.h) k=if k=n then some (.aA e sz c')else find Y.h k:=fun k=>ba n k _ Y.h
 have L: ∀k,Lk G E E (ι.e k) (ι.e k) Y.h (bF n (.aA e sz c') Y.h) k:=fun k o ho=>by
  by_cases hk:k=n
  ·rw[hk,hf]at ho;cases ho;exact⟨.aA e sz c',by rw[hf',if_pos hk],(⟨rfl,rfl,fun es1 h1=>⟨es,hc',by rw[hc]at h1;cases h1;rfl⟩⟩:SO.cC G E E (ι.e k) (ι.e k) (.aA e sz c) (.aA e sz c'))⟩
  ·refine Lk.same (fun _ _ h=>h) ?_ o ho;rw[hf',if_neg hk]
 have V: ∀{v d},VR G E ι Y.h v d→VR G E ι (bF n (.aA e sz c') Y.h) v d:=fun{v d} H=>H.mono (fun _ _ h=>h) fun k _=>⟨rfl,L k⟩;have old: ∀k o,find (bF n (.aA e sz c') Y.h) k=some o→k≠n→find Y.h k=some o:=fun k o h hk=>by rw[hf',if_neg hk]at h;exact h
 have uc: ∀k o,find (bF n (.aA e sz c') Y.h) k=some o→ ∃o0,find Y.h k=some o0:=fun k o h=>by
  by_cases hk:k=n
  ·exact⟨_,hk▸hf⟩
  ·exact⟨_,old k o h hk⟩
 have Kk: ∀k e1 sz1 c1,find (bF n (.aA e sz c') Y.h) k=some (.aA e1 sz1 c1)→ ∃c0,find Y.h k=some (.aA e1 sz1 c0):=fun k e1 sz1 c1 h=>by
  by_cases hk:k=n
  ·rw[hf',if_pos hk]at h;cases h;exact⟨c,hk▸hf⟩
  ·exact⟨_,old k _ h hk⟩
 have QU: ∀k e1 sz1 c1,find (bF n (.aA e sz c') Y.h) k=some (.bL e1 sz1 c1)→find Y.h k=some (.bL e1 sz1 c1):=fun k e1 sz1 c1 h=>old k _ h fun hk=>by rw[hf',if_pos hk]at h;cases h
 refine⟨fun i v hv=>V (M.slot i v hv),fun k vs hk=> ?_,fun k e1 sz1 c1 hk=> ?_,fun k c1 hk=> ?_,fun k e1 sz1 c1 hk=> ?_,fun a b _ _ _ _ _ _ h1 h2=>M.one a b _ _ _ _ _ _ (QU _ _ _ _ h1) (QU _ _ _ _ h2),fun k q hk=> ?_,fun a b o o' h1 h2=> ?_,fun a b e1 e2 s1 s2 c1 c2 h1 h2=> ?_,M.wf,fun k e1 sz1 c1 hk=> ?_,M.nv,M.con,fun k m d hk=> ?_⟩
 ·obtain⟨ds,h0,h1,h2,h3⟩:=M.box k vs (old k _ hk fun e1=>by rw[hf',if_pos e1]at hk;cases hk);exact⟨ds,h0,h1,h2,fun i v d hv hd=>V (h3 i v d hv hd)⟩
 ·by_cases hkn:k=n
  ·rw[hf',if_pos hkn]at hk;cases hk;obtain⟨es1,h1,h2,h3⟩:=M.aA k _ _ _ (hkn▸hf);rw[hc]at h1;cases h1;exact⟨es,hc',h2,h3⟩
  ·exact M.aA k _ _ _ (old k _ hk hkn)
 ·exact M.mpo k _ (old k _ hk fun e1=>by rw[hf',if_pos e1]at hk;cases hk)
 ·obtain⟨L1,h1,h2,h3,h4⟩:=M.own k _ _ _ (QU _ _ _ _ hk);exact⟨L1,h1,h2,h3,fun q hq=>(h4.1 q hq).eP rfl (fun j o hj=>let⟨o0,h0⟩:=uc j o hj;(h4.1 q hq).2.2.2.1 j o0 h0) (fun hz j e sz c hj=>let⟨c0,h0⟩:=Kk j _ _ _ hj;(h4.1 q hq).2.2.2.2.1 hz j e sz c0 h0) fun _=>Nat.le_refl _,h4.2⟩
 ·exact M.rwo k _ (old k _ hk fun e1=>by rw[hf',if_pos e1]at hk;cases hk)
 ·obtain⟨o0,h0⟩:=uc a o h1;obtain⟨o1,h3⟩:=uc b o' h2;exact M.inj a b o0 o1 h0 h3
 ·obtain⟨c0,h0⟩:=Kk a _ _ _ h1;obtain⟨c3,h3⟩:=Kk b _ _ _ h2;exact M.gJ a b _ _ _ _ c0 c3 h0 h3
 ·obtain⟨c0,h0⟩:=Kk k _ _ _ hk;exact M.old k _ _ c0 h0
 ·have hk0:=old k _ hk fun e1=>by rw[hf',if_pos e1]at hk;cases hk
  refine(M.itr k m d hk0).eP rfl rfl (fun _ _ h=>h) fun m' o2 _ hf2 hmp=>⟨rfl,⟨o2, ?_,hmp⟩,fun es h=>⟨es,h,rfl⟩⟩;rw[hf',if_neg (fun e1=>by rw[e1,hf]at hf2;cases hf2;cases hmp)];exact hf2
theorem HT{d:D}(h:d.SY=true):d.eF=true:=by cases d<;>first|rfl|cases h
theorem tz{d:D}(h:d.rG=true):d.aN=true:=by
 cases d
 case clo f xs=>
  simp only[D.rG,D.aN,Tz]at h⊢;exact fun x hx=>HT (h x hx)
 all_goals first|rfl|cases h
theorem Mt.xS(M:Mt Ω G E ι γ Y J){n k' e sz lim:Nat}{c:X}{o':SO}(hf:find Y.h n=some (.aA e sz c))(hfk:find Y.h k'=some o')(hk':k'≠n)(hik:ι k'≠ [])(g3:ι n≠ []):HO.cE (γ n) lim (J.m (ι k'))=J.m (ι k'):=by
 cases o' with
 |box vs=>obtain⟨ds,_,h1,_⟩:=M.box k' vs hfk;rw[h1];rfl
 |aA e' sz' c'=>
  obtain⟨es1,_,_,h1⟩:=M.aA k' _ _ _ hfk;rcases h1 with⟨h1,_⟩|⟨_,h1⟩
  ·grind
  ·rw[h1];simp only[HO.cE];rw[if_neg fun hh=>hk' (M.gJ k' n _ _ _ _ _ _ hfk hf hik g3 hh.1)]
 |map c=>obtain⟨es,_,_,h1⟩:=M.mpo k' c hfk;rw[h1];rfl
 |bL e' sz' c=>obtain⟨L,_,_,h1,_⟩:=M.own k' _ _ _ hfk;rw[h1];rfl
 |raw q=>obtain⟨_,_,h1,_⟩:=M.rwo k' q hfk;rw[h1];rfl
 |itr m0 c0=>obtain⟨_,_,_,_,e1,_⟩:=M.itr k' _ _ hfk;rw[e1];rfl
theorem uj(M:Mt Ω G E ι γ Y J){x k f n sz e:Nat}{args:List aM}{c:X}{xs:List X}(hk:(args.map (bH Y))[k]?=some (.gl n sz))(hf:find Y.h n=some (.aA e sz c))(hx:SV.nF ((args.map (bH Y)).set k (.x c))=some xs)
  {d0 d1:D} (h0:X.ev G E (.mk (.pk (.ext 1)) [.mk (.ecall k f sz) xs])=some d1) (h1:X.ev G E (.mk (.pk (.ext 0)) [.mk (.ecall k f sz) xs])=some d0):
  ∃J',kP (bg G) x k f (args.map (aM.val J.s)) J=some J'∧Mt Ω G E ι γ (Sy.set {Y with h:=bF n (.aA e sz (.mk (.pk (.ext 1)) [.mk (.ecall k f sz) xs])) Y.h} x (.x (.mk (.pk (.ext 0)) [.mk (.ecall k f sz) xs]))) J':=by
 have hvs:bA G E ι Y.h (args.map (bH Y)) (args.map (aM.val J.s)):=⟨by simp,fun i v d hv hd=>by
  rw[Dz,Mz]at hv hd;obtain⟨g,hg,rfl⟩:=hv;obtain⟨g',hg',rfl⟩:=hd;rw[hg]at hg';cases hg'
  exact ay M g⟩
 generalize args.map (aM.val J.s)=ds at hvs;generalize args.map (bH Y)=vs at hk hx hvs;obtain⟨es,k1,k2,k3⟩:=M.aA n e sz c hf;have hkl:=(Gz.1 hk).1;have hkd:k<ds.length:=by rw[←hvs.1];exact hkl
 have hdk:=Ez hkd;have hgl:=hvs.2 k _ _ hk hdk
 have aan:bA G E ι Y.h (vs.set k (.x c)) (ds.set k (.list es)):=⟨by simp[hvs.1],fun i v d hv hd=>by
  by_cases hik:i=k
  ·subst hik;rw[List.getElem?_set_self hkl]at hv;rw[List.getElem?_set_self hkd]at hd;cases hv;cases hd;exact .x k1 rfl
  ·rw[List.getElem?_set_ne (Ne.symm hik)]at hv hd
   exact hvs.2 i v d hv hd⟩
 obtain⟨ts,a1,a2⟩:=aH h0;obtain⟨r,rfl,a3⟩:=iP a1;obtain⟨as,a4,a5⟩:=aH a3;obtain rfl:=fP aan hx a4;obtain⟨ts',b1,b2⟩:=aH h1;obtain⟨r',rfl,b3⟩:=iP b1;rw[a3]at b3;cases b3;simp only[XK.run,List.set_set]at a5;split at a5
 rotate_left
 ·cases a5
 rename_i bc;rw[List.getElem?_set_self hkd]at a5;simp only[]at a5;obtain⟨q,hq,a5⟩:=Bz.1 a5;split at a5
 rotate_left
 ·cases a5
 rename_i d es';split at a5<;>cases a5;rename_i hok;obtain⟨o1,o2,o3⟩:=hok
 have e1:d1= .list es':=by
  simp only[XK.run,Bz]at a2;obtain⟨y,hy,a2⟩:=a2;split at a2<;>cases a2;simpa[PK.run,Gq]using hy.symm
 have e0:d0=d:=by
  simp only[XK.run,Bz]at b2;obtain⟨y,hy,b2⟩:=b2;split at b2<;>cases b2;simpa[PK.run,Gq]using hy.symm
 subst e1 e0;have hq':(bg G).e k f (ds.set k (.list es))=some (.tup [d0, .list es']):=hq
 have bS:es.all (fun c=>c.all D.aN)=true:=Tz.2 fun c hc=>Tz.2 fun d hd=>tz (by
  have:=Tz.1 k2 c hc;simp only[Az]at this
  exact Tz.1 this.2 d hd)
 unfold kP;rw[if_pos bc,hdk];generalize ds[k]=dk at hgl hdk;cases hgl with
 |gln g1 g2=>
  have hes:es= []:=by
   rcases k3 with⟨_,h⟩|⟨h,_⟩
   ·exact h
   ·exact absurd g2 h
  subst hes;have ϟ:es'= []:=List.length_eq_zero_iff.1 (by simpa using o2);subst ϟ;simp only[hq',Oz,if_pos o1];exact⟨_,rfl,(M.Ii hf k1 h0).set (.x h1 o1)⟩
 |gl g1 g2 g3=>
  rw[hf]at g1;cases g1;rw[k1]at g2;cases g2;rcases k3 with⟨k3,_⟩|⟨_,k3⟩
  ·exact absurd k3 g3
  simp only[k3,bS,and_self,if_true,hq',Oz,if_pos o1];refine⟨_,rfl,Mt.set (M.write (o:= .aA e sz c) (o':= .aA e sz (.mk (.pk (.ext 1)) [.mk (.ecall k f sz) xs])) (q:= .row (γ n) e es') (J':=(J.aL (γ n) 0).put (ι n) (some (.row (γ n) e es'))) hf g3 ?_ rfl rfl (by simp[St.put]) (fun k' o' hk' hfk hik=> ?_) (fun t q h hne=> ?_) (fun q h=>by rw[k3]at h;cases h) ⟨rfl,rfl,fun es1 h=>⟨es',h0,by rw[k1]at h;cases h;exact o2⟩⟩ (fun q hq=> ?_) ⟨es',h0,o3,rfl⟩) (.x h1 o1)⟩
  ·intro y k r hk;simp only[St.put];split
   ·rename_i e;rw[←e,M.wf y k r hk]at k3;cases k3
   ·exact M.wf.aL _ _ y k r hk
  ·have hne:ι k'≠ι n:=fun e=>hk' (M.inj k' n _ _ hfk hf e hik);simp only[St.put,if_neg hne];show HO.cE (γ n) 0 (J.m (ι k'))=J.m (ι k');cases o' with
   |box vs=>obtain⟨ds,_,h1,_⟩:=M.box k' vs hfk;rw[h1];rfl
   |aA e' sz' c'=>
    obtain⟨es1,_,_,h1⟩:=M.aA k' _ _ _ hfk;rcases h1 with⟨h1,_⟩|⟨_,h1⟩
    ·exact absurd h1 hik
    ·rw[h1];simp only[HO.cE];rw[if_neg fun hh=>hk' (M.gJ k' n _ _ _ _ _ _ hfk hf hik g3 hh.1)]
   |map c=>obtain⟨es,_,_,h1⟩:=M.mpo k' c hfk;rw[h1];rfl
   |bL e' sz' c=>obtain⟨L,_,_,h1,_⟩:=M.own k' _ _ _ hfk;rw[h1];rfl
   |raw q=>obtain⟨_,_,h1,_⟩:=M.rwo k' q hfk;rw[h1];rfl
   |itr m0 c0=>obtain⟨_,_,_,_,e1,_⟩:=M.itr k' _ _ hfk;rw[e1];rfl
  ·simp only[St.put,if_neg hne];show HO.cE (γ n) 0 (J.m t)=some (.raw q);rw[h];rfl
  ·simp only[St.put,if_neg (M.jF hf hq)];exact hq.cE (fun h=>hq.row h hf g3) _
theorem fW{ks:List Nat}{es es':List (D×D)}{k v:D}(h:lC ks es k v=some es'):v.rJ=true∧k.rJ=true∧cj ks k k=some true∧
  ((∃i p,bq ks k es 0=some (some i)∧es[i]?=some p∧es'=es.set i (p.1,v))∨(bq ks k es 0=some none∧es.length<bx∧es'=es++ [(k,v)])):=by
 unfold lC at h;split at h
 ·rename_i hok;refine⟨hok.1,hok.2.1,hok.2.2, ?_⟩;obtain⟨r,hr,h⟩:=Bz.1 h;cases r with
  |some i=>obtain⟨p,hp,rfl⟩:=Mz.1 h;exact .inl ⟨i,p,hr,hp,rfl⟩
  |none=>
   simp only[]at h;split at h<;>cases h;rename_i hlt;exact .inr ⟨hr,hlt,rfl⟩
 ·cases h
theorem v7{ks:List Nat}{es es':List (D×D)}{k v:D}{t:Tok}{J:St}(h:lC ks es k v=some es')(hm:J.m t=some (.map es)):gW ks (.mp t) k v J=some (J.put t (some (.map es'))):=by
 obtain⟨h1,h2,h3,h4⟩:=fW h;unfold gW;simp only[hm];rw[if_pos ⟨h1,h2,h3⟩];rcases h4 with⟨i,p,f,g,rfl⟩|⟨f,g,rfl⟩<;>simp[f,g]
theorem vZ{ks:List Nat}{es es':List (D×D)}{k v:D}(h:lC ks es k v=some es'): ∃i q,bq ks k es' 0=some (some i)∧es'[i]?=some (q,v)∧(∀v2 es2,lC ks es k v2=some es2→es'.set i (q,v2)=es2)∧ ∀r,bq ks k es 0=some r→r.getD es.length=i:=by
 obtain⟨h1,h2,h3,h4⟩:=fW h;rcases h4 with⟨i,p,f,g,rfl⟩|⟨f,g,rfl⟩
 ·have hi:=(Gz.1 g).1
  have e:(es.set i (p.1,v)).map Prod.fst=es.map Prod.fst:=by
   apply List.ext_getElem?;intro j;simp only[Dz,List.getElem?_set];by_cases hij:i=j
   ·subst hij;simp[hi,(Gz.1 g).2]
   ·simp[hij]
  refine⟨i,p.1,by rw[dP e,f],by simp[hi],fun v2 es2 h5=> ?_,fun r hr=>by rw[f]at hr;cases hr;rfl⟩;rcases(fW h5).2.2.2 with⟨j,p2,f2,g2,rfl⟩|⟨f2,_,_⟩
  ·rw[f]at f2;cases f2;rw[g]at g2;cases g2;simp
  ·rw[f]at f2;cases f2
 ·refine⟨es.length,k,by rw[pH h3 f];simp,by simp,fun v2 es2 h5=> ?_,fun r hr=>by rw[f]at hr;cases hr;rfl⟩;rcases(fW h5).2.2.2 with⟨j,p2,f2,g2,rfl⟩|⟨f2,_,rfl⟩
  ·rw[f]at f2;cases f2
  ·simp
theorem Mt.BP(M:Mt Ω G E ι γ Y J){n:Nat}{c c':X}{es es':List (D×D)}(hf:find Y.h n=some (.map c))(hit:Y.oO n=true)(k2:ι n≠ [])(k3:J.m (ι n)=some (.map es))(hd:X.ev G E c'=some (.list (aG es'))):
  Mt Ω G E ι γ {Y with h:=bF n (.map c') Y.h} (J.put (ι n) (some (.map es'))):=
 M.write (o:= .map c) (q:= .map es') hf k2 (M.wf.put (by rw[k3];simp)) rfl rfl (by simp[St.put]) (fun k o' hk hfk hik=>by
   have:ι k≠ι n:=fun e=>hk (M.inj k n _ _ hfk hf e hik)
   simp[St.put,this]) (fun t q h hne=>by simp only[St.put,if_neg hne];exact h) (fun q h=>by rw[k3]at h;cases h) trivial (fun q hq=>by simp only[St.put,if_neg (M.jF hf hq)]) ⟨es',hd,rfl⟩ fun _=>hit
theorem Mt.KE(M:Mt Ω G E ι γ Y J){n e b:Nat}{c kx ax:X}{us:List SV}{ks:List Nat}{vk:SV}{dk d':D}(hf:find Y.h n=some (.bL e 0 c))(hb:find Y.h b=some (.box us))(hit: ∀k d,find Y.h k≠some (.itr (some n) d))
  (hax:(SV.agg us).ly=some ax) (hvk:VR G E ι Y.h vk dk) (hkx:vk.ly=some kx) (hd':X.ev G E (.mk (.pm 7 ks 0 0) [c,kx,ax])=some d'):
  ∃J' ι',gW ks (.mp (ι n)) dk (.ptr (ι b) 0) J=some J'∧Mt Ω G E ι' γ {Y.kill b with h:=bF n (.bL e 0 (.mk (.pm 7 ks 0 0) [c,kx,ax])) (Y.kill b).h} J':=by
 obtain⟨ds,k1,k2,k3⟩:=M.box _ _ hb;obtain⟨L,l1,l2,l3,l4,l5⟩:=M.H9 hf;obtain⟨ds0,a1,a2⟩:=aH hd';simp only[X.bh,Bz,Mz]at a1;obtain⟨dc,b1,r1,⟨dk',b2,r2,⟨da,b3,r3,b4,rfl⟩,rfl⟩,rfl⟩:=a1;cases b4;rw[l1]at b1;cases b1;have hk:=aZ hvk hkx b2;have ha:=aZ (VR.agg k3.1 k3.2) hax b3;subst hk ha;simp only[XK.run,EZ,aQ,Oz]at a2;split at a2<;>try (cases a2;done)
 rename_i hc;obtain⟨r,g1,g2⟩:=Bz.1 a2;cases r<;>cases g2;have g1':bq ks dk' (L.map (OE.en 0)) 0=some none:=by rw[dP (l':=L.map OE.pr) (by simp[OE.pr,OE.en])];exact g1
 have hbn:ι b≠ι n:=fun h=>by have:=M.inj b n _ _ hb hf h k1;subst this;rw[hf]at hb;cases hb
 let q0:OE:=⟨dk',ι b,ι b,[ds]⟩;have hen:(L++ [q0]).map (OE.en 0)=L.map (OE.en 0)++ [(dk', .ptr (ι b) 0)]:=by simp[OE.en,q0]
 have hpr:(L++ [q0]).map OE.pr=L.map OE.pr++ [(dk', .list [ds])]:=by simp[OE.pr,q0]
 have hnk:find (Y.kill b).h n=some (.bL e 0 c):=by rw[iF,if_neg (fun h=>hbn (by rw[h])),hf];rfl
 have hlen: ∀es,X.ev G E c=some (.list es)→es.length=L.length:=fun es h=>by rw[l1]at h;cases h;simp[aG]
 have oD: ∀t,t≠ι n→(J.put (ι n) (some (.map (L.map (OE.en 0)++ [(dk', .ptr (ι b) 0)])))).m t=J.m t:=fun t h=>by simp[St.put,h]
 refine⟨J.put (ι n) (some (.map (L.map (OE.en 0)++ [(dk', .ptr (ι b) 0)]))),⟨ι.t,fun k=>if k=n then(fun z=>if z=L.length then ι b else ι.e n z)else ι.e k⟩, ?_, ?_⟩
 ·simp only[gW,l3];rw[if_pos ⟨rfl,hc.1,hc.2.1⟩,g1'];simp only[Oz];rw[if_pos (by simpa using hc.2.2.1)]
 ·refine(M.kill b).1.Q8 (L':=L++ [q0]) hnk rfl (fun k hk=>by simp[hk]) (fun z es h hz=> ?_) (fun es h=>by rw[hlen es h];simp) (.inl fun k d h=> ?_) (fun i v h=> .inr ⟨h,rfl⟩) (M.wf.put (by rw[l3];simp)) (fun _=>Nat.le_refl _)
   (fun k o hk h hi=>oD _ fun e1=> ?_) (fun t q h=>by rw[oD t (fun e1=>by rw[e1,l3]at h;cases h)];exact h) (by rw[hpr];exact hd') (by rw[hen];simp[St.put]) ⟨fun q hq=> ?_, ?_,fun _ i q hq=> ?_⟩
  ·have:=hlen es h;simp only[if_true];rw[if_neg (by omega)]
  ·obtain⟨_,o,ho,h⟩:=aU h;cases o<;>simp only[fE,reduceCtorEq,SO.itr.injEq]at h;obtain⟨h,rfl⟩:=h;split at h
   ·cases h
   ·exact hit _ _ (h▸ho)
  ·obtain⟨hkb,o0,h0,_⟩:=aU h;exact hk (M.inj k n _ _ h0 hf e1 hi)
  ·rcases List.mem_append.1 hq with hq|hq
   ·have Q:=l4.1 q hq;refine Q.eP (oD _ fun e1=>Q.2.2.2.1 n _ hf e1.symm) (fun k o h=> ?_) (fun h=>absurd rfl h) fun _=>Nat.le_refl _;obtain⟨_,o0,h0,_⟩:=aU h;exact Q.2.2.2.1 k o0 h0
   ·rw[List.mem_singleton]at hq;subst hq;refine⟨k1,fun h=>absurd rfl h, ?_,fun k o h=> ?_,fun h=>absurd rfl h,fun y k r h=> ?_,fun _=>⟨rfl,rfl⟩⟩
    ·exact(oD _ hbn).trans (by rw[k2];simp[OE.ob,q0])
    ·obtain⟨hkb,o0,h0,_⟩:=aU h;exact fun e1=>hkb (M.inj k b _ _ h0 hb e1 (by rw[e1];exact k1))
    ·refine Nat.lt_of_not_le fun hle=> ?_;have:=M.wf y k r hle;rw[←h,k2]at this;cases this
  ·rw[List.map_append,List.nodup_append];refine⟨l4.2.1,by simp,fun a ha b' hb'=> ?_⟩;obtain⟨q,hq,rfl⟩:=List.mem_map.1 ha;simp only[List.map_cons,List.map_nil,List.mem_singleton]at hb';subst hb';have Q:=l4.1 q hq;rw[(Q.2.2.2.2.2.2 rfl).1];exact fun e1=>Q.2.2.2.1 b _ hb e1.symm
  ·simp only[if_true];by_cases hi:i<L.length
   ·rw[Yz hi]at hq;rw[if_neg (by omega)];exact(l5 i q hq).1
   ·rw[Xz (by omega)]at hq
    have:i-L.length=0:=by
     by_cases h0:i-L.length=0
     ·exact h0
     ·rw[List.getElem?_eq_none (by simp;omega)]at hq;cases hq
    rw[this]at hq;simp at hq;subst hq;rw[if_pos (by omega)]
theorem o9(M:Mt Ω G E ι γ Y J){e:bZ}{Y':Sy}{O:List X}(hs:eQ e Y=some (Y',O))(hO: ∀e∈O,∃d,X.ev G E e=some d):
  ∃J' ι' γ',e.run (bg G) J=some J'∧Mt Ω G E ι' γ' Y' J':=by
 unfold eQ at hs;split at hs
 ·rename_i n g x a;obtain⟨M1,F⟩:=M.nw x;obtain⟨⟨vs,O'⟩,hc,he⟩:=Mz.1 hs;cases he;obtain⟨h1,h2,h3⟩:=hD (ay M1 a) hc hO;refine⟨_,_,_, ?_,M1.Jq F h3 (yR hc (Fp F a))⟩;simp only[bZ.run,A0]
  grind
 ·rename_i n g a v;obtain⟨J',h1,h2⟩:=uq M (ay M a) (ay M v) hs hO;exact⟨J',ι,γ,h1,h2⟩
 ·rename_i x t size a b;obtain⟨M1,F⟩:=M.nw x;exact x6 M1 F (ay M1 a) (ay M1 b) hs hO
 ·rename_i x t size zero a b;obtain⟨M1,F⟩:=M.nw x;have ha:=ay M1 a;have hb:=ay M1 b;split at hs
  ·rename_i ea eb hva hvb;cases hs;rw[hva]at ha;rw[hvb]at hb;obtain⟨h1,_⟩:=ha.bQ;obtain⟨h2,_⟩:=hb.bQ;obtain⟨d',hd'⟩:=hO _ (List.mem_singleton.2 rfl);obtain⟨ds,a1,a2⟩:=aH hd';obtain⟨p,q,rfl,a3,a4⟩:=jz a1;rw[h1]at a3;cases a3;rw[h2]at a4;cases a4;simp only[XK.run]at a2;split at a2<;>try (cases a2;done)
   rename_i k1 l k2 c heq;simp only[List.cons.injEq,and_true]at heq;split at a2<;>cases a2;rename_i hc;simp only[bZ.run,BO,heq.1,heq.2];rw[if_pos ⟨hc.1,hc.2.1,hc.2.2.1,hc.2.2.2.1⟩];have hlen:l.toNat=(List.replicate l.toNat zero).length:=by simp
   have hok:bj size (List.replicate l.toNat zero)=true:=Tz.2 fun q hq=>by
    obtain⟨_,rfl⟩:=List.mem_replicate.1 hq;simp[hc.2.2.2.2.1,hc.2.2.2.2.2]
   refine⟨_,_,_,rfl,M1.mL F hd' hok (M1.wf.new x _ _) ?_ (fun n o' h hi=>by rw[bT,if_neg (M1.du x h)]) (by rw[bT,if_pos rfl]) (mQ (by first|exact M1.wf|exact M2.wf) x _ _) (fun y=>nj ..) (fun q hq=>⟨fun _=>(M1.bO x hq).2,by rw[bT,if_neg (Ne.symm (M1.bO x hq).1)]⟩) (.inl rfl)⟩;rw[←hlen]
  ·cases hs
 ·rename_i x t size len zero places args;obtain⟨M1,F⟩:=M.nw x;obtain⟨xs,hx,he⟩:=Mz.1 hs;cases he;obtain⟨d',hd'⟩:=hO _ (List.mem_singleton.2 rfl);obtain⟨ds,a1,a2⟩:=aH hd'
  have hvs:bA G E ι (Y.nw x).h (args.map (bH (Y.nw x))) (args.map (aM.val J.s)):=⟨by simp,fun i v d hv hd=>by
   rw[Dz,Mz]at hv hd;obtain⟨g,hg,rfl⟩:=hv;obtain⟨g',hg',rfl⟩:=hd;rw[hg]at hg';cases hg'
   exact ay M1 g⟩
  obtain rfl:=fP hvs hx a1;simp only[XK.run]at a2;split at a2
  ·rename_i bS;rw[Bz]at a2;obtain⟨cs,c1,c2⟩:=a2;split at c2<;>cases c2;rename_i hc;simp only[bZ.run,BK];rw[if_pos bS,c1];simp only[Oz];rw[if_pos hc.1];have hlen:(kL size len (cs.map D.nz)).length=len:=gu size len (cs.map D.nz);refine⟨_,_,_,rfl,M1.mL F hd' hc.2 (M1.wf.new x _ _) ?_ (fun n o' h hi=>by rw[bT,if_neg (M1.du x h)]) (by rw[bT,if_pos rfl]) (mQ (by first|exact M1.wf|exact M2.wf) x _ _) (fun y=>nj ..) (fun q hq=>⟨fun _=>(M1.bO x hq).2,by rw[bT,if_neg (Ne.symm (M1.bO x hq).1)]⟩) (.inl rfl)⟩;rw[hlen]
  ·cases a2
 ·rename_i x;obtain⟨M1,F⟩:=M.nw x;cases hs;exact⟨_,_,_,rfl,M1.Kl F⟩
 ·rename_i x e sz;obtain⟨M1,F⟩:=M.nw x;split at hs<;>cases hs;rename_i bS;refine⟨_,_,_,rfl,M1.Kt e sz F fun k e' sz' c' hk=> ?_⟩;obtain⟨_,o,ho,h⟩:=aU hk;cases o<;>simp only[fE,reduceCtorEq]at h;have:=Tz.1 bS _ (jZ ho);simp[SO.Md]at this
 ·rename_i x a b;have ha:=ay M a;have hb:=ay M b;split at hs
  ·rename_i n o l m p l' hva hvb;rw[hva]at ha;rw[hvb]at hb;split at hs
   ·rename_i us vs hf hf';split at hs<;>cases hs;rename_i hc;obtain⟨c1,c2,c3,c4⟩:=hc;obtain⟨xs,k1,k2,k3⟩:=M.box n us hf;obtain⟨ys,j1,j2,j3⟩:=M.box m vs hf';generalize hda:a.val J.s=da at ha;generalize hdb:b.val J.s=db at hb;cases ha with
    |sb _ _=>
     cases hb with
     |sb _ _=>
      have hvl:((vs.drop p).take (min l' l)).length=min l' l:=by simp;omega
      have M2:=M.Ly (o:=o) hf k1 k2 k3 ((j3.drop p).take (min l' l)) (by rw[hvl];omega);rw[hvl]at M2
      have af: ∀(x:Option Nat) (lm lm':Option Nat),copyV x (.sl (ι n) 1 o l lm) (.sl (ι m) 1 p l' lm') J=some (match x with
        |some i=>(J.put (ι n) (some (.box (putAt xs o ((ys.drop p).take (min l' l)))))).set i (iv ((min l' l:Nat):Int))
        |none=>J.put (ι n) (some (.box (putAt xs o ((ys.drop p).take (min l' l)))))):=fun x lm lm'=>by
       simp only[copyV,k2,j2];rw[if_pos ⟨c1,c2,by rw[←k3.1];exact c3,by rw[←j3.1];exact c4⟩];cases x<;>rfl
      cases x with
      |none=>exact⟨_,ι,γ,by simp only[bZ.run,hda,hdb];exact af none _ _,M2⟩
      |some i=>exact⟨_,ι,γ,by simp only[bZ.run,hda,hdb];exact af (some i) _ _,M2.set (.x rfl rfl)⟩
   ·cases hs
  ·cases hs
 ·rename_i ks a k v;have ha:=ay M a;split at hs
  ·rename_i n hva;rw[hva]at ha;split at hs
   ·rename_i c hf;split at hs
    rotate_left
    ·cases hs
    rename_i hit;simp only[Bz,Mz]at hs;obtain⟨kx,hkx,vx,hvx,he⟩:=hs;cases he;obtain⟨d',hd'⟩:=hO _ (List.mem_singleton.2 rfl);obtain⟨ds0,a1,a2⟩:=aH hd';simp only[X.bh,Bz,Mz]at a1;obtain⟨dc,b1,r1,⟨dk,b2,r2,⟨dv,b3,r3,b4,rfl⟩,rfl⟩,rfl⟩:=a1;cases b4;obtain⟨es,k1,k2,k3⟩:=M.mpo n c hf;rw[k1]at b1;cases b1;have hk:=aZ (ay M k) hkx b2;have hv:=aZ (ay M v) hvx b3;simp only[XK.run,aQ,Oz,Mz]at a2;obtain⟨es',g1,g2⟩:=a2;cases g2;generalize hda:a.val J.s=da at ha;cases ha with
    |mp _ _=>exact⟨_,ι,γ,by simp only[bZ.run,hda,←hk,←hv];exact v7 g1 k3,M.BP hf hit k2 k3 hd'⟩
   ·rename_i e0 c hf;split at hs
    rotate_left
    ·cases hs
    rename_i b hvb;split at hs
    rotate_left
    ·cases hs
    rename_i us hb;split at hs
    rotate_left
    ·cases hs
    rename_i hit;simp only[Bz,Mz]at hs;obtain⟨ax,hax,kx,hkx,he⟩:=hs;cases he;obtain⟨d',hd'⟩:=hO _ (List.mem_singleton.2 rfl);have hv:=ay M v;rw[hvb]at hv;obtain⟨J',ι',h1,h2⟩:=M.KE hf hb (fun k d h=>nR hit h) hax (ay M k) hkx hd';generalize hda:a.val J.s=da at ha;generalize hdv:v.val J.s=dv at hv;cases ha with
    |mp _ _=>
     cases hv with
     |ptr _=>exact⟨J',ι',γ,by simp only[bZ.run,hda,hdv];exact h1,h2⟩
   ·cases hs
  ·cases hs
 ·rename_i ks z x a k;have ha:=ay M a;split at hs
  ·rename_i n hva;rw[hva]at ha;split at hs
   ·rename_i c hf;split at hs
    ·cases hs
    rename_i hit;have hit:Y.oO n=true:=by simpa using hit
    obtain⟨kx,hkx,he⟩:=Mz.1 hs;cases he;obtain⟨d',hd'⟩:=hO _ (List.mem_singleton.2 rfl);obtain⟨ds0,a1,a2⟩:=aH hd';simp only[X.bh,Bz,Mz]at a1;obtain⟨dc,b1,r1,⟨dk,b2,r2,⟨dv,b3,r3,b4,rfl⟩,rfl⟩,rfl⟩:=a1;cases b4;obtain⟨es,k1,k2,k3⟩:=M.mpo n c hf;rw[k1]at b1;cases b1;have hk:=aZ (ay M k) hkx b2;obtain⟨ds1,c1,c2⟩:=aH b3;obtain⟨q1,q2,rfl,c3,c4⟩:=jz c1;rw[k1]at c3;cases c3;rw[b2]at c4;cases c4;simp only[XK.run,aQ,Oz]at c2;obtain⟨d1,c5,c6⟩:=Bz.1 c2;split at c6<;>cases c6;simp only[XK.run,aQ,Oz,Mz]at a2;obtain⟨es',g1,g2⟩:=a2;cases g2;obtain⟨h1,h2,h3,_⟩:=fW g1;have hu:=v7 g1 k3;obtain⟨i,q,m1,m2,_,m4⟩:=vZ g1;generalize hda:a.val J.s=da at ha;cases ha with
    |mp _ _=>
     refine⟨(J.put (ι n) (some (.map es'))).set x (.tup [dv,iv i]),ι,γ, ?_,(M.BP hf hit k2 k3 hd').set (.tup rfl fun j v d hv hd=> ?_)⟩
     ·simp only[bZ.run,hda,vX,k3,←hk];rw[if_pos h3];unfold oM at c5;rw[if_pos ⟨h2,h3⟩]at c5;obtain⟨r,hr,c5⟩:=Bz.1 c5;have hi:=m4 _ hr;rw[hr];simp only[Oz];cases r with
      |some i'=>
       obtain⟨p,hp,rfl⟩:=Mz.1 c5;simp only[Option.getD_some]at hi;subst hi;simp only[Bool.false_eq_true,if_false]at hu;simp only[hp,Oz,hu,Pz];rfl
      |none=>
       simp only[Option.getD_none]at hi;subst hi;simp only[Bool.false_eq_true,if_false,Jz]at c5;subst c5;simp only[hu,Pz]
     ·match j,hv,hd with
      |0,hv,hd=>simp at hv;subst hv;exact .un
      |1,hv,hd=>
       simp at hv hd;subst hv;subst hd;have he:X.bh G E [.mk (.mset ks) [c,kx, .mk (.mget ks z false) [c,kx]],kx]=some [.list (aG es'),dk]:=by simp only[X.bh,hd',b2,Oz,Pz]
       exact .x (by rw[X.ev,he];simp[XK.run,aQ,m1]) rfl
      |_+2,hv,hd=>simp at hv
   ·cases hs
  ·cases hs
 ·rename_i a s v;have ha:=ay M a;have hS:=ay M s;split at hs
  ·rename_i n ks c2 kx hva hvs;rw[hva]at ha;rw[hvs]at hS;split at hs
   ·rename_i ks' c kx' y hf;split at hs
    ·rename_i bc;obtain⟨vx,hvx,he⟩:=Mz.1 hs;cases he;simp only[Az,beq_iff_eq]at bc;obtain⟨⟨⟨e1,e2⟩,rfl⟩,hit⟩:=bc;obtain rfl:=aF _ _ e1;obtain rfl:=aF _ _ e2;obtain⟨d',hd'⟩:=hO _ (List.mem_singleton.2 rfl);obtain⟨ds0,a1,a2⟩:=aH hd';simp only[X.bh,Bz,Mz]at a1;obtain⟨dc,b1,r1,⟨dk,b2,r2,⟨dv,b3,r3,b4,rfl⟩,rfl⟩,rfl⟩:=a1;cases b4;have hv:=aZ (ay M v) hvx b3;obtain⟨es1,k1,k2,k3⟩:=M.mpo n _ hf;obtain⟨ds1,c1,c2⟩:=aH k1;simp only[X.bh,Bz,Mz]at c1;obtain⟨dc',b1',r1,⟨dk',b2',r2,⟨dy,b3',r3,b4,rfl⟩,rfl⟩,rfl⟩:=c1;cases b4;rw[b1]at b1';cases b1';rw[b2]at b2';cases b2';simp only[XK.run]at a2 c2;split at c2
     rotate_left
     ·cases c2
     rename_i rows k' v' heq;simp only[List.cons.injEq,and_true]at heq;obtain⟨rfl,rfl,rfl⟩:=heq;simp only[]at a2;obtain⟨es,f1,c2⟩:=Bz.1 c2;rw[f1]at a2;simp only[Oz,Mz]at a2 c2;obtain⟨es',g1,g2⟩:=c2;obtain⟨es2,g3,g4⟩:=a2;cases g4
     have hes:es'=es1:=by
      have:=congrArg (fun d=>match d with| .list r=>aB r|_=>none) g2;simpa[aQ]using this
     subst hes;obtain⟨i,q,m1,m2,m3,_⟩:=vZ g1;obtain⟨h1,_⟩:=fW g3;generalize hda:a.val J.s=da at ha;generalize hds:s.val J.s=ds at hS;cases ha with
     |mp _ _=>
      cases hS with
      |x hx _=>
       have hx2:ds=iv i:=by
        obtain⟨ds2,x1,x2⟩:=aH hx;obtain⟨y1,y2,rfl,x3,x4⟩:=jz x1;rw[k1]at x3;cases x3;rw[b2]at x4;cases x4;simp only[XK.run,aQ,Oz,m1,Pz,Jz]at x2;exact x2.symm
       subst hx2;refine⟨_,ι,γ, ?_,M.BP hf hit k2 k3 hd'⟩;simp only[bZ.run,hda,hds,←hv];show tw (.mp (ι n)) (.v (.int .i64 (i:Int))) dv J=_;simp only[tw,k3];rw[if_pos ⟨h1,by omega⟩];simp only[Int.toNat_natCast,m2,Pz,m3 _ _ g3]
    ·cases hs
   ·cases hs
  ·cases hs
 ·rename_i size zero a;have ha:=ay M a;split at hs
  ·rename_i n sz k hva;rw[hva]at ha;split at hs
   ·rename_i e sz' c hf;split at hs<;>cases hs;rename_i bc;obtain⟨⟨rfl,rfl⟩,hz⟩:=bc;obtain⟨d',hd'⟩:=hO _ (List.mem_singleton.2 rfl);obtain⟨es,k1,k2,k3⟩:=M.aA n _ _ c hf;obtain⟨ts,a1,a2⟩:=aH hd';obtain⟨q1,q2,rfl,c3,c4⟩:=jz a1;rw[k1]at c3;cases c3;simp only[XK.run]at a2;split at a2
    rotate_left
    ·cases a2
    rename_i es0 kd z heq;simp only[List.cons.injEq,D.list.injEq,and_true]at heq;obtain⟨rfl,rfl⟩:=heq;split at a2<;>cases a2;rename_i hr
    have G4:bj size (es.take z.toNat++List.replicate (es.length-z.toNat) zero)=true:=by
     refine jI (Tz.2 fun c hc=>Tz.1 k2 c (List.mem_of_mem_take hc)) (Tz.2 fun c hc=> ?_);rw[List.eq_of_mem_replicate hc];exact hz
    have hln:(es.take z.toNat++List.replicate (es.length-z.toNat) zero).length=es.length:=by simp;omega
    generalize hda:a.val J.s=da at ha
    have same:es.length-z.toNat=0→es.take z.toNat++List.replicate (es.length-z.toNat) zero=es:=fun h=>by
     rw[h,List.replicate_zero,List.append_nil,List.take_of_length_le (by omega)]
    cases ha with
    |gtn g1 g2 g3=>
     have hes:es= []:=by
      rcases k3 with⟨_,h⟩|⟨h,_⟩
      ·exact h
      ·exact absurd g2 h
     subst hes;refine⟨J,ι,γ,by simp only[bZ.run,hda,yT],M.Ii hf k1 ?_⟩;rw[hd',same (by simp)]
    |gt g1 g2 g3 g4 g5 g6=>
     rw[hf]at g1;cases g1;rw[k1]at g2;cases g2;rw[c4]at g4;cases g4;by_cases h0:es.length-z.toNat=0
     ·refine⟨J,ι,γ,by simp only[bZ.run,hda,yT,if_pos h0],M.Ii hf k1 ?_⟩;rw[hd',same h0]
     rcases k3 with⟨k3,_⟩|⟨_,k3⟩
     ·exact absurd k3 g3
     have hzl:zero.length=size:=by simp only[Az,beq_iff_eq]at hz;exact hz.1
     have hdr:es.drop (z.toNat+(es.length-z.toNat))= []:=List.drop_eq_nil_of_le (by omega);refine⟨(J.aL (γ n) z.toNat).put (ι n) (some (.row (γ n) e (es.take z.toNat++List.replicate (es.length-z.toNat) zero))),ι,γ, ?_, ?_⟩
     ·simp only[bZ.run,hda,yT,if_neg h0,k3];rw[if_pos ⟨⟨trivial,hzl⟩,by omega,bP k2⟩,hdr,List.append_nil]
     ·refine M.write (o:= .aA e size c) (o':= .aA e size (.mk (.clr zero) [c,k])) (q:= .row (γ n) e (es.take z.toNat++List.replicate (es.length-z.toNat) zero)) hf g3 ?_ rfl rfl (by simp[St.put]) (fun k' o' hk' hfk hik=> ?_) (fun t q h hne=> ?_) (fun q h=>by rw[k3]at h;cases h) ⟨rfl,rfl,fun es1 h=>⟨_,hd',by rw[k1]at h;cases h;exact hln⟩⟩ (fun q hq=> ?_) ⟨_,hd',G4,rfl⟩
      ·intro y k r hk;simp only[St.put];split
       ·rename_i e;rw[←e,M.wf y k r hk]at k3;cases k3
       ·exact M.wf.aL _ _ y k r hk
      ·have hne:ι k'≠ι n:=fun e=>hk' (M.inj k' n _ _ hfk hf e hik);simp only[St.put,if_neg hne];exact M.xS hf hfk hk' hik g3
      ·simp only[St.put,if_neg hne];show HO.cE (γ n) z.toNat (J.m t)=some (.raw q);rw[h];rfl
      ·simp only[St.put,if_neg (M.jF hf hq)];exact hq.cE (fun h=>hq.row h hf g3) _
   ·cases hs
  ·cases hs
 ·rename_i x k f args;split at hs
  ·rename_i n sz hk;split at hs
   ·rename_i e sz' c hf;split at hs
    ·rename_i hss;subst hss;obtain⟨xs,hx,he⟩:=Mz.1 hs;cases he;obtain⟨d1,h1⟩:=hO _ (List.mem_cons_self ..);obtain⟨d0,h0⟩:=hO _ (Cz _ (List.mem_singleton.2 rfl));obtain⟨J',g1,g2⟩:=uj (x:=x) M hk hf hx h1 h0;exact⟨J',ι,γ,g1,g2⟩
    ·cases hs
   ·cases hs
  ·cases hs
 ·rename_i x t size f args;split at hs
  rotate_left
  ·cases hs
  rename_i hf6;obtain⟨M1,F⟩:=M.nw x;obtain⟨xs,hx,he⟩:=Mz.1 hs;cases he;obtain⟨d',hd'⟩:=hO _ (List.mem_cons_self ..);have hd1:=hd';unfold ZK at hd1;obtain⟨ts,a1,a2⟩:=aH hd1;obtain⟨p,q,rfl,b1,b2⟩:=jz a1;cases b1;obtain⟨ts2,c1,c2⟩:=aH b2;obtain⟨p2,q2,rfl,e1,e2⟩:=jz c1;cases e2;obtain⟨ds,f1,f2⟩:=aH e1
  have hvs:bA G E ι (Y.nw x).h (args.map (bH (Y.nw x))) (args.map (aM.val J.s)):=⟨by simp,fun i v d hv hd=>by
   rw[Dz,Mz]at hv hd;obtain⟨g,hg,rfl⟩:=hv;obtain⟨g',hg',rfl⟩:=hd;rw[hg]at hg';cases hg'
   exact ay M1 g⟩
  obtain rfl:=fP hvs hx f1
  have hno:(args.map (aM.val J.s)).all D.aK=true:=Tz.2 fun d hd=>by
   obtain⟨i,hi⟩:=List.getElem?_of_mem hd;have hil:i<xs.length:=by rw[←dg f1];exact(Gz.1 hi).1
   have hxi:=Ez hil;obtain⟨r,hr⟩:=hO (.mk .aj [xs[i]]) (Cz _ (List.mem_map.2 ⟨xs[i],List.getElem_mem hil,rfl⟩));obtain⟨us,g1,g2⟩:=aH hr;obtain⟨u,rfl,g3⟩:=iP g1;have:=eZ f1 i _ d hxi hi;rw[g3]at this;cases this;simp only[XK.run]at g2;split at g2
   ·assumption
   ·cases g2
  simp only[XK.run]at c2 a2;split at c2
  rotate_left
  ·cases c2
  rename_i es k0 z heq;simp only[List.cons.injEq,and_true]at heq;obtain⟨rfl,hz⟩:=heq;cases hz;split at c2<;>cases c2;simp only[Int.toNat_zero,List.drop_zero,l8,Oz,List.nil_append]at a2;split at a2<;>cases a2;rename_i hok;simp only[XK.run,gU]at f2;obtain⟨r,hr,f3⟩:=Bz.1 f2
  have TN:r.bare= .list es:=by
   simp only[Bool.false_eq_true,if_false]at f3;by_cases hn:r.bare.aK=true
   ·rw[if_pos hn]at f3;exact Option.some.inj f3
   ·rw[if_neg hn]at f3;cases f3
  have hq:(bg G).q (1000000*t+f) (args.map (aM.val J.s))=some (.list es,eh):=by
   show(G (1000001000000+(1000000*t+f)) _).map _=_;rw[hr];simp[TN]
  have hes:es.all (fun c=>c.length==size)=true:=Tz.2 fun c hc=>by
   have:=Tz.1 hok.1 c hc;simp only[Az]at this;exact this.1
  simp only[bZ.run,nC];rw[if_pos ⟨hno,hf6⟩,hq];simp only[Oz];rw[if_pos hes];exact⟨_,_,_,rfl,M1.mL F hd' hok.1 (M1.wf.new x _ _) rfl (fun n o' h hi=>by rw[bT,if_neg (M1.du x h)]) (by rw[bT,if_pos rfl]) (mQ (by first|exact M1.wf|exact M2.wf) x _ _) (fun y=>nj ..) (fun q hq=>⟨fun _=>(M1.bO x hq).2,by rw[bT,if_neg (Ne.symm (M1.bO x hq).1)]⟩) (.inl rfl)⟩
end
end
end Go.Proofs.YtdepmampjnlgiaaGreatDoor
