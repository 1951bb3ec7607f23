/- Part of the proof: symbolic execution of the program, its soundness, and the closing lemmas. No condition. -/
import Derived.Test.YtkcfpgaepmllhaaGreatDoorCaq
import Derived.Test.YtkcfpgaepmllhaaGreatDoorCaj
namespace Go.Proofs.YtkcfpgaepmllhaaGreatDoor
open Go.RowKit
set_option maxRecDepth 100000
set_option linter.all false
section
namespace Ty
def ahr : Array Field := #[{ name := "Round", type := 3, offset := 0, embedded := false, tag := "", pkgPath := "", byteOffset := 0 }, { name := "Table", type := 3, offset := 1, embedded := false, tag := "", pkgPath := "", byteOffset := 8 }, { name := "Board", type := 3, offset := 2, embedded := false, tag := "", pkgPath := "", byteOffset := 16 }, { name := "Version", type := 3, offset := 3, embedded := false, tag := "", pkgPath := "", byteOffset := 24 }, { name := "Kind", type := 5, offset := 4, embedded := false, tag := "", pkgPath := "", byteOffset := 32 }, { name := "Field", type := 5, offset := 5, embedded := false, tag := "", pkgPath := "", byteOffset := 33 }, { name := "Turned", type := 4, offset := 6, embedded := false, tag := "", pkgPath := "", byteOffset := 34 }, { name := "Out", type := 37, offset := 7, embedded := false, tag := "", pkgPath := "", byteOffset := 40 }, { name := "Award", type := 38, offset := 31, embedded := false, tag := "", pkgPath := "", byteOffset := 136 }]
def ahq : Array Field := #[{ name := "Contract", type := 34, offset := 0, embedded := false, tag := "", pkgPath := "", byteOffset := 0 }, { name := "Tricks", type := 3, offset := 4, embedded := false, tag := "", pkgPath := "", byteOffset := 8 }, { name := "Weight", type := 3, offset := 5, embedded := false, tag := "", pkgPath := "", byteOffset := 16 }]
def ahp : Array Field := #[{ name := "Level", type := 5, offset := 0, embedded := false, tag := "", pkgPath := "", byteOffset := 0 }, { name := "Denom", type := 5, offset := 1, embedded := false, tag := "", pkgPath := "", byteOffset := 1 }, { name := "Risk", type := 5, offset := 2, embedded := false, tag := "", pkgPath := "", byteOffset := 2 }, { name := "Declarer", type := 5, offset := 3, embedded := false, tag := "", pkgPath := "", byteOffset := 3 }]
theorem u27:PP.underlying 27=some (.slice 40):=by kernel_rfl
theorem u40:PP.underlying 40=some (.struct ahr):=by kernel_rfl
theorem u37:PP.underlying 37=some (.array 4 36):=by kernel_rfl
theorem u38:PP.underlying 38=some (.array 2 3):=by kernel_rfl
theorem u36:PP.underlying 36=some (.struct ahq):=by kernel_rfl
theorem u34:PP.underlying 34=some (.struct ahp):=by kernel_rfl
theorem c3:PP.cellsOf 3=1:=by kernel_rfl
theorem c34:PP.cellsOf 34=4:=by kernel_rfl
theorem c36:PP.cellsOf 36=6:=by kernel_rfl
theorem c37:PP.cellsOf 37=24:=by kernel_rfl
theorem c38:PP.cellsOf 38=2:=by kernel_rfl
theorem c40:PP.cellsOf 40=33:=by kernel_rfl
variable {H : FP}
theorem ag_{n:Nat}{d:D}(h:bE PP (n+1) 3 [d]): ∃z,d=iv z:=by
 obtain⟨z,h1,_⟩:=Ri u3 h;exact⟨z,by simpa using h1⟩
theorem ahm{n:Nat}{ds:List D}(h:bE PP (n+2) 34 ds): ∃a b c d,ds= [uv a,uv b,uv c,uv d]∧u8 a=true∧u8 b=true∧u8 c=true∧u8 d=true:=by
 obtain⟨h1,h2⟩:=Jq u34 h;rw[c34]at h1;obtain⟨a,b,c,d,rfl⟩:=adB h1;have g: ∀i (f:Field),ahp.toList[i]?=some f→bE PP (n+1) f.type (([a,b,c,d].drop f.offset).take (PP.cellsOf f.type)):=fun i f hf=>h2 f (Lz hf);have g0:=g 0 _ rfl;have g1:=g 1 _ rfl;have g2:=g 2 _ rfl;have g3:=g 3 _ rfl;rw[show PP.cellsOf _=1 from c5]at g0 g1 g2 g3;obtain⟨z0,rfl,y0⟩:=nM g0;obtain⟨z1,rfl,y1⟩:=nM g1;obtain⟨z2,rfl,y2⟩:=nM g2;obtain⟨z3,rfl,y3⟩:=nM g3;exact⟨z0,z1,z2,z3,rfl,y0,y1,y2,y3⟩
theorem ahi{n:Nat}{ds:List D}(h:bE PP (n+3) 36 ds): ∃o:Ou,ds=o.cells∧o.okB=true:=by
 obtain⟨h1,h2⟩:=Jq u36 h;rw[c36]at h1;have g: ∀i (f:Field),ahq.toList[i]?=some f→bE PP (n+2) f.type ((ds.drop f.offset).take (PP.cellsOf f.type)):=fun i f hf=>h2 f (Lz hf)
 match ds,h1 with
 | [a0,a1,a2,a3,a4,a5],_=>
  have g0:=g 0 _ rfl;have g1:=g 1 _ rfl;have g2:=g 2 _ rfl;rw[show PP.cellsOf _=4 from c34]at g0;rw[show PP.cellsOf _=1 from c3]at g1 g2;obtain⟨a,b,c,d,e,y0,y1,y2,y3⟩:=ahm (n:=n) g0;have e: [a0,a1,a2,a3]= [uv a,uv b,uv c,uv d]:=e;simp only[List.cons.injEq,and_true]at e;obtain⟨rfl,rfl,rfl,rfl⟩:=e;obtain⟨t,rfl⟩:=ag_ g1;obtain⟨w,rfl⟩:=ag_ g2;exact⟨⟨a,b,c,d,t,w⟩,rfl,by simp[Ou.okB,y0,y1,y2,y3]⟩
theorem ahu{n:Nat}{ds:List D}(h:bE PP (n+5) 40 ds): ∃e:En,ds=e.cells∧e.okB=true:=by
 obtain⟨h1,h2⟩:=Jq u40 h;rw[c40]at h1;have g: ∀i (f:Field),ahr.toList[i]?=some f→bE PP (n+4) f.type ((ds.drop f.offset).take (PP.cellsOf f.type)):=fun i f hf=>h2 f (Lz hf)
 match ds,h1 with
 |x0::x1::x2::x3::x4::x5::x6::x7::x8::x9::x10::x11::x12::x13::x14::x15::x16::x17::x18::x19::x20::x21::x22::x23::x24::x25::x26::x27::x28::x29::x30::x31::x32:: [],_=>
  have g0:=g 0 _ rfl;have g1:=g 1 _ rfl;have g2:=g 2 _ rfl;have g3:=g 3 _ rfl;have g4:=g 4 _ rfl;have g5:=g 5 _ rfl;have g6:=g 6 _ rfl;have g7:=g 7 _ rfl;have g8:=g 8 _ rfl;rw[show PP.cellsOf _=1 from c3]at g0 g1 g2 g3;rw[show PP.cellsOf _=1 from c5]at g4 g5;rw[show PP.cellsOf _=1 from c4]at g6;rw[show PP.cellsOf _=24 from c37]at g7;rw[show PP.cellsOf _=2 from c38]at g8;obtain⟨z0,rfl⟩:=ag_ g0;obtain⟨z1,rfl⟩:=ag_ g1;obtain⟨z2,rfl⟩:=ag_ g2;obtain⟨z3,rfl⟩:=ag_ g3;obtain⟨z4,rfl,y4⟩:=nM g4;obtain⟨z5,rfl,y5⟩:=nM g5;obtain⟨z6,hz6⟩:=aav u4 g6;have hz6:x6=bv z6:=by simpa using hz6
  subst hz6;have a7:=(aau u37 g7).2;rw[c36]at a7;have o0:=a7 0 (by omega);have o1:=a7 1 (by omega);have o2:=a7 2 (by omega);have o3:=a7 3 (by omega);obtain⟨p0,e0,k0⟩:=ahi (n:=n) o0;obtain⟨p1,e1,k1⟩:=ahi (n:=n) o1;obtain⟨p2,e2,k2⟩:=ahi (n:=n) o2;obtain⟨p3,e3,k3⟩:=ahi (n:=n) o3;have a8:=(aau u38 g8).2;rw[c3]at a8;obtain⟨w0,hw0⟩:=ag_ (a8 0 (by omega));obtain⟨w1,hw1⟩:=ag_ (a8 1 (by omega));have e0: [x7,x8,x9,x10,x11,x12]=p0.cells:=e0;have e1: [x13,x14,x15,x16,x17,x18]=p1.cells:=e1;have e2: [x19,x20,x21,x22,x23,x24]=p2.cells:=e2;have e3: [x25,x26,x27,x28,x29,x30]=p3.cells:=e3;simp only[Ou.cells,List.cons.injEq,and_true]at e0 e1 e2 e3;obtain⟨rfl,rfl,rfl,rfl,rfl,rfl⟩:=e0;obtain⟨rfl,rfl,rfl,rfl,rfl,rfl⟩:=e1;obtain⟨rfl,rfl,rfl,rfl,rfl,rfl⟩:=e2;obtain⟨rfl,rfl,rfl,rfl,rfl,rfl⟩:=e3;have hw0:x31=iv w0:=hw0;have hw1:x32=iv w1:=hw1;subst hw0 hw1;exact⟨⟨z0,z1,z2,z3,z4,z5,z6,p0,p1,p2,p3,w0,w1⟩,rfl,by simp[En.okB,y4,y5,k0,k1,k2,k3]⟩
theorem ahn{P:Program}{n t1 t2 t3 t4:Nat}: ∀{Ds:List D},nN P n [t1,t2,t3,t4] Ds→ ∃a b c d,Ds= [a,b,c,d]∧jU P n t1 a∧jU P n t2 b∧jU P n t3 c∧jU P n t4 d
 | [],h=>h.elim
 | [_],h=>h.2.elim
 | [_,_],h=>h.2.2.elim
 | [_,_,_],h=>h.2.2.2.elim
 | [a,b,c,d],h=>⟨a,b,c,d,rfl,h.1,h.2.1,h.2.2.1,h.2.2.2.1⟩
 |_::_::_::_::_::_,h=>h.2.2.2.2.elim
theorem aho{Ds:List D}(h:nN PP 6 [45,46,5,27] Ds): ∃(n1 n2 n3 n4:Int) (l:List It) (k:Int) (odd:List En),Ds= [.agg [uv n1,uv n2,uv n3,uv n4], .list (l.map It.cells),uv k, .list (odd.map En.cells)]∧u8 n1=true∧u8 n2=true∧u8 n3=true∧u8 n4=true∧(∀i∈l,It.ok i=true)∧u8 k=true∧(∀e∈odd,En.okB e=true)∧odd.length≤maxLen:=by
 obtain⟨a,b,c,d,rfl,h1,h2,h3,h4⟩:=ahn h;unfold jU at h1 h2 h3 h4;rw[u45]at h1;rw[u46]at h2;rw[u5]at h3;rw[u27]at h4;obtain⟨ds,rfl,h1⟩:=h1;obtain⟨n1,n2,n3,n4,rfl,y1,y2,y3,y4⟩:=Uw (n:=4) h1;obtain⟨es,he0,hml,hes⟩:=aax (n:=5) u46 h2;have he:b= .list es:=by simpa using he0
 clear he0;obtain⟨k,hk,hku⟩:=nM (n:=5) h3;obtain⟨es2,ahs,ahl,aht⟩:=aax (n:=5) u27 h4;have he2:d= .list es2:=by simpa using ahs
 clear ahs
 obtain⟨l,hl,hlo⟩: ∃l:List It,es=l.map It.cells∧ ∀i∈l,i.ok=true:=by
  clear he h2 hml
  induction es with
  |nil=>exact⟨[],rfl,fun i hi=>by cases hi⟩
  |cons e r ih=>
   obtain⟨l,h4,h5⟩:=ih fun c hc=>hes c (Cz _ hc);obtain⟨i,h6,h7⟩:=aaw (n:=1) (hes e (List.mem_cons_self ..))
   exact⟨i::l,by rw[List.map_cons,←h6,←h4],fun j hj=>by
    rcases List.mem_cons.1 hj with rfl|hj
    ·exact h7
    ·exact h5 j hj⟩
 obtain⟨l2,hl2,ahv⟩: ∃l:List En,es2=l.map En.cells∧ ∀i∈l,i.okB=true:=by
  clear he2 h4 ahl
  induction es2 with
  |nil=>exact⟨[],rfl,fun i hi=>by cases hi⟩
  |cons e r ih=>
   obtain⟨l,h4,h5⟩:=ih fun c hc=>aht c (Cz _ hc);obtain⟨i,h6,h7⟩:=ahu (n:=0) (aht e (List.mem_cons_self ..))
   exact⟨i::l,by rw[List.map_cons,←h6,←h4],fun j hj=>by
    rcases List.mem_cons.1 hj with rfl|hj
    ·exact h7
    ·exact h5 j hj⟩
 exact⟨n1,n2,n3,n4,l,k,l2,by rw[he,hk,hl,he2,hl2],y1,y2,y3,y4,hlo,hku,ahv,by rw[hl2,List.length_map]at ahl;exact ahl⟩
end Ty
end
section
namespace Ty
variable {H : FP}
theorem ahk(hH:Hd H)(hB:Fb H)(hM:xj H)(h11:XK.run (GK H) (.call false 11) []=some (bv true))
  (hS:Sound PP (bw H)) {Ds:List D} (h:nN PP 6 [45,46,5,27] Ds):xk PP 5 Ds (bv true):=by
 obtain⟨n1,n2,n3,n4,l,k,odd,rfl,y1,y2,y3,y4,hl,hk,ho,_⟩:=aho h;obtain⟨s,hs,h13⟩:=X6 hH.fr hM y1 y2 y3 y4;exact((oD (C:=cx) (N:=10000) rfl hS qm).p 5 _ _ (by decide) (afP hH hB h11 hs h13 l hl k hk odd ho)).1
end Ty
end
end Go.Proofs.YtkcfpgaepmllhaaGreatDoor
