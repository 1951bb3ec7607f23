/- Part of the proof: symbolic execution of the program, its soundness, and the closing lemmas. No condition. -/
import Derived.Test.YtdepmampjnlgiaaGreatDoorPaj
import Derived.Test.YtdepmampjnlgiaaGreatDoorPak
import Derived.Test.YtdepmampjnlgiaaGreatDoorEag
import Derived.Test.YtdepmampjnlgiaaGreatDoorPaa
import Derived.Test.YtdepmampjnlgiaaGreatDoorPab
namespace Go.Proofs.YtdepmampjnlgiaaGreatDoor
open Go.RowKit
set_option maxRecDepth 100000
set_option linter.all false
section
open Go.RowKit Go.Sort
namespace Ty
def H4(f:Fq)(t:Int):Bool:=decide (f.d=1)&&(decide (0≤f.n)&&decide (f.n≤t))
def Ry(ks:List Int)(x:Sc):Bool:= !x.ct||(decide (x.ns∈ks)&&(decide (x.ew∈ks)&&(decide (x.ns≠x.ew)&&(decide (1≤x.tp)&&(H4 x.f0 x.tp&&H4 x.f1 x.tp)))))
def tZ(ks:List Int)(l:List Sc):Bool:=decide (gh l+1≤1073741824)&&l.all (Ry ks)
theorem Dw{f:Fq}{t:Int}(h:H4 f t=true): ∃a,f=red a 1∧0≤a∧a≤1*t:=by
 unfold H4 at h;simp only[Az,decide_eq_true_eq]at h;obtain⟨h1,h2,h3⟩:=h;refine⟨f.n, ?_,h2,by omega⟩;have hok:f.ok:=⟨by omega,by rw[h1];simp⟩;have:=E5 hok;rw[h1]at this;exact this.symm
theorem Ap{ks:List Int}{l:List Sc}(h:tZ ks l=true):lO 1 ks l:=by
 unfold tZ at h;rw[Az,Tz,decide_eq_true_eq]at h;refine⟨by decide,by omega,fun x hx=> ?_⟩;have h2:=h.2 x hx;unfold Ry at h2
 have h3:x.ct=true→_:=fun hc=>by
  rw[hc]at h2;simpa only[Bool.not_true,Bool.false_or,Az,decide_eq_true_eq]using h2
 exact⟨fun c=>(h3 c).1,fun c=>(h3 c).2.1,fun c=>(h3 c).2.2.1,fun c=>(h3 c).2.2.2.1,fun c=>Dw (h3 c).2.2.2.2.1,fun c=>Dw (h3 c).2.2.2.2.2⟩
def i64(z:Int):Bool:=decide (-9223372036854775808≤z)&&decide (z<9223372036854775808)
def Rx(x:Sc):Bool:=(i64 x.f0.n&&(i64 x.f0.d&&(i64 x.f1.n&&i64 x.f1.d)))&&(decide (x.tp<9223372036854775808)&&(decide (x.tp.natAbs*x.f0.d.natAbs<18446744073709551616)&&decide (x.tp.natAbs*x.f1.d.natAbs<18446744073709551616)))
theorem Rv{x:Sc}(h:Rx x=true):OJ x:=by
 unfold Rx i64 at h;simp only[Az,decide_eq_true_eq]at h;obtain⟨⟨a,b,c,d⟩,e,f,g⟩:=h;exact⟨⟨a,b⟩,⟨c,d⟩,e,f,g⟩
def Bh:Ss:=⟨3,3,3,1,2,[⟨0,0,1,4,0⟩,⟨0,1,2,5,1⟩,⟨0,2,3,6,2⟩,⟨1,0,1,6,1⟩,⟨1,1,2,4,2⟩,⟨1,2,3,5,0⟩,⟨2,0,1,5,2⟩,⟨2,1,2,6,0⟩,⟨2,2,3,4,1⟩],1⟩
def SN(a b c d:Int):List Sc:= [⟨0,0,1,1,4,⟨a,1⟩,⟨b,1⟩,4,true⟩,⟨1,2,1,3,5,⟨c,1⟩,⟨d,1⟩,4,true⟩,⟨2,1,1,2,6,⟨0,1⟩,⟨4,1⟩,4,true⟩]
theorem Qw:ak.Ze= [⟨[.agg Bh.cells],D.own (.tup [bY Bh.aV,iv 0])⟩]:=by kernel_rfl
theorem Qx:ak.SR= [⟨[.agg Bh.cells,rQ (SN 2 2 4 0)],fG Bh (SN 2 2 4 0)⟩,⟨[.agg Bh.cells,rQ []],fG Bh []⟩,⟨[.agg Bh.cells,rQ (SN 3 1 3 1)],fG Bh (SN 3 1 3 1)⟩]:=by kernel_rfl
noncomputable def HE:FP:=dG [(46,ak.Hc)] bJ
theorem iW{H:FP}{f:Nat}{ds:List D}: ∀{K:KT},(∀p∈K,p.1≠f)→dG K H f ds=H f ds
 | [],_=>rfl
 |p::r,h=>by
  have hb:Nat.beq p.1 f=false:=by
   cases hb:Nat.beq p.1 f with
   |false=>rfl
   |true=>exact absurd (Nat.eq_of_beq_eq_true hb) (h p (List.mem_cons_self ..))
  show b6 (Nat.beq p.1 f) (An ds (H f ds) p.2) (dG r H f ds)=_;rw[hb];exact iW fun q hq=>h q (Cz _ hq)
theorem sR{f:Nat}{ds:List D}(h:f=185∨f=186):bJ f ds=jj f ds:=by
 unfold bJ kg aR;rw[if_neg (by omega),if_neg (by omega),if_neg (by omega),if_neg (by omega)]
def QG:List Nat:= [46,94,209,210,211,150,12]
theorem M8{K:KT}(hK:K.all (fun p=>QG.contains p.1)=true):Sr (dG K bJ):=by
 have hK:=Tz.1 hK
 have HR: ∀f,QG.contains f=false→ ∀p∈K,p.1≠f:=fun f hf p hp e=>by
  have:=hK p hp;rw[e,hf]at this;cases this
 refine⟨⟨fun f ds hlt hf=> ?_,fun ds=> ?_,fun ds=> ?_⟩,fun ds=>iW (HR _ (by decide)),fun ds=>iW (HR _ (by decide))⟩
 ·have hf2:QG.contains f=false:=by
   simp[Dd,QG]at hf⊢;omega
  rw[iW (HR f hf2)];exact GB f ds hlt hf
 ·rw[iW (HR _ (by decide)),sR (.inl rfl)];rfl
 ·rw[iW (HR _ (by decide)),sR (.inr rfl)];rfl
theorem Kz{K:KT}(hK:K.all (fun p=>QG.contains p.1)=true){f:Nat}(hf:f=22∨f=23∨f=46∧False)(ds:List D):dG K bJ f ds=none:=by
 have hK:=Tz.1 hK;have hc:QG.contains f=false:=by rcases hf with rfl|rfl|h<;>first|rfl|exact absurd h.2 id
 rw[iW fun p hp e=>by
  have:=hK p hp
  rw[e,hc]at this;cases this]
 unfold bJ kg aR jj;rw[if_neg (by omega),if_neg (by omega),if_neg (by omega),if_neg (by omega),if_neg (by omega),if_neg (by omega)]
theorem LX(h:dw Tryz.prog 46 ak.Hc):Sound Tryz.prog (bg HE):=mJ qD (fun p hp e he=>by
 simp at hp;subst hp;exact h e he)
theorem Dc:GK HE 46 [.agg Bh.cells]=some (iv 0):=dL (show dG [(46,ak.Hc)] bJ 46 [.agg Bh.cells]=some (iv 0) by kernel_rfl)
theorem XD:Sr HE:=M8 (by decide)
theorem JM(h:dw Tryz.prog 46 ak.Hc):dw Tryz.prog 22 ak.Ze:=fun e he=>by
 rw[Qw,List.mem_singleton]at he;subst he;exact .inl ⟨by decide,(jO (C:=cx) (N:=10000) rfl (LX h) l_).p 22 _ _ (by decide) (QH XD Bh (by decide) (Kz (by decide) (.inl rfl) _) Dc)⟩
theorem sO(h:dw Tryz.prog 46 ak.Hc)(l:List Sc)(hl:l.length<9999)(hb:l.all Rx=true)(hg:tZ Bh.au.1 l=true):YT Tryz.prog 23 [.agg Bh.cells,rQ l] (fG Bh l):=
 .inl ⟨by decide,(jO (C:=cx) (N:=10000) rfl (LX h) l_).p 23 _ _ (by decide) (QI XD Bh l (by decide) (by decide) hl (fun x hx=>Rv (Tz.1 hb x hx)) (fun _=>⟨1,Ap hg⟩) (Kz (by decide) (.inr (.inl rfl)) _) Dc)⟩
theorem JN(h:dw Tryz.prog 46 ak.Hc):dw Tryz.prog 23 ak.SR:=fun e he=>by
 rw[Qx]at he;simp only[List.mem_cons,List.not_mem_nil,or_false]at he;rcases he with rfl|rfl|rfl
 ·exact sO h (SN 2 2 4 0) (by decide) (by decide) (by decide)
 ·exact sO h [] (by decide) (by decide) (by decide)
 ·exact sO h (SN 3 1 3 1) (by decide) (by decide) (by decide)
end Ty
end
section
open Go.RowKit Go.Sort
namespace Ty
variable {H : FP}
theorem yP{f n:Nat}{t:FT}(ho:a_ cx f n t){ds:List D}{d:D}(h0:H f ds=none)(he:aa (GK H) 10000 t [] ds=some d)(hlt:f<1000000:=by decide)(hl:ds.length=n:=by rfl)(hn:ds.all D.aK=true:=by rfl):GK H f ds=some d:=gn ho h0 hlt hl hn he
abbrev Ss.mv(s:Ss):Mv:=⟨s.tb,s.rs,s.ss,s.cp,s.wn,s.rows⟩
section
variable {G : FP} {m : Mv}
@[simp] theorem Mv.fb:XK.run G (.pk (.fbox 6)) [.agg m.cells]=some (.lptr m.cells):=nr rfl
@[simp] theorem Mv.ldz:XK.run G (.pk (.load 1 false)) [.lptr m.cells]=some (iv m.tb):=nr rfl
@[simp] theorem Mv.Zf:XK.run G (.pk (.load 1 false)) [.lptr m.cells.tail]=some (iv m.rs):=nr rfl
@[simp] theorem Mv.ld2:XK.run G (.pk (.load 1 false)) [.lptr (m.cells.drop 2)]=some (iv m.ss):=nr rfl
@[simp] theorem Mv.ld3:XK.run G (.pk (.load 1 false)) [.lptr (m.cells.drop 3)]=some (iv m.cp):=nr rfl
@[simp] theorem Mv.SS:XK.run G (.pk (.load 6 true)) [.lptr m.cells]=some (.agg m.cells):=nr rfl
end
theorem Va(hF:Fr H)(m:Mv)(h:m.cp<1):GK H 216 [.agg m.cells]=some (bv false):=by
 refine aJ hF MO ?_;rw[Yi];have h': ¬1≤m.cp:=by omega
 by_cases h1:1≤m.tb
 ·by_cases h2:m.tb≤24
  ·by_cases h3:1≤m.rs
   ·by_cases h4:m.rs≤30
    ·by_cases h5:1≤m.ss
     ·by_cases h6:m.ss≤128
      ·simp[-aq,h',h1,h2,h3,h4,h5,h6]
      ·simp[-aq,h',h1,h2,h3,h4,h5,h6]
     ·simp[-aq,h',h1,h2,h3,h4,h5]
    ·simp[-aq,h',h1,h2,h3,h4]
   ·simp[-aq,h',h1,h2,h3]
  ·simp[-aq,h',h1,h2]
 ·simp[-aq,h',h1]
theorem GC:DU= .lets [.mk (.pk (.fbox 6)) [.t 0]] (.lets [.mk (.call false 216) [.mk .aj [.mk (.pk (.load 6 true)) [.t 2]]]] (.lets [.mk (.pk .inot) [.t 3]] (.ite (.t 4) (.ret (.mk .tup [.mk .aj [.q .nil], .mk .aj [.q (iv 280)]])) (sub [0,0,0,1] DU)))):=by kernel_rfl
theorem U8(hF:Fr H)(m:Mv)(h:m.cp<1)(z:Int):GK H 151 [.agg m.cells,iv z]=some (D.own (.tup [.list [],iv 280])):=by
 refine aJ hF MM ?_;rw[GC];have k:XK.run (GK H) (.call false 216) [.agg m.cells]=some (bv false):=ao (Va hF m h) rfl rfl;simp[k];rfl
theorem aaQ(hF:Fr H)(m:Mv)(h:m.cp<1)(z:Int)(h0:H 94 [.agg m.cells,iv z]=none):GK H 94 [.agg m.cells,iv z]=some (.tup [bv false,iv 280]):=by
 refine yP W8 h0 ?_;rw[abX];have k:XK.run (GK H) (.call false 151) [.agg m.cells,iv z]=some (.tup [.list [],iv 280]):=e7 (U8 hF m h z) rfl;simp[k]
theorem aaN(hF:Fr H){s:Ss}(h0:H 46 [.agg s.cells]=none)(h1:H 94 [.agg s.mv.cells,iv 9223372036854775807]=none)(h:s.cp<1):GK H 46 [.agg s.cells]=some (iv 280):=by
 refine yP Q3 h0 ?_;rw[Yl];have k:XK.run (GK H) (.call false 94) [.agg s.mv.cells,iv 9223372036854775807]=some (.tup [bv false,iv 280]):=ao (aaQ hF s.mv h _ h1) rfl rfl;simp[k,Vf,Kf]
theorem aaK{s:Ss}{c:Int}(hc:c≠0)(h0:H 22 [.agg s.cells]=none)(Dc:GK H 46 [.agg s.cells]=some (iv c)):GK H 22 [.agg s.cells]=some (D.own (.tup [.list [],iv c])):=by
 refine yP Q1 h0 ?_;rw[Yj];have k:XK.run (GK H) (.call false 46) [.agg s.cells]=some (iv c):=ao Dc rfl rfl;simp[k,hc];rfl
theorem aaL{s:Ss}{l:List Sc}{c:Int}(hc:c≠0)(h0:H 23 [.agg s.cells,rQ l]=none)(Dc:GK H 46 [.agg s.cells]=some (iv c)):GK H 23 [.agg s.cells,rQ l]=some (D.own (.tup [.list [],iv c])):=by
 refine yP Q2 h0 ?_;rw[Yk];have k:XK.run (GK H) (.call false 46) [.agg s.cells]=some (iv c):=ao Dc rfl rfl;simp[k,hc];rfl
theorem aaF(hF:Fr H)(s:Ss)(l:List En){c:Int}(hc:c≠0)(h27:GK H 27 [.agg s.cells, .list (l.map En.cells)]=some (D.own (.tup [.list [],iv c]))):GK H 15 [.agg s.cells, .list (l.map En.cells)]=some (D.own (.tup [.list [],iv c])):=by
 refine aJ hF VC ?_;rw[abH];have k:XK.run (GK H) (.call false 27) [.agg s.cells, .list (l.map En.cells)]=some (.tup [.list [],iv c]):=e7 h27 rfl;simp[k,hc];rfl
end Ty
end
noncomputable section
open Go.RowKit Go.Sort
namespace Ty
variable {H : FP}
def abz:List D→Rw
 | [.v (.int .i64 a), .v (.int .i64 b), .v (.int .i64 c), .v (.int .i64 d), .v (.int .i64 e)]=>⟨a,b,c,d,e⟩
 |_=>⟨0,0,0,0,0⟩
def ET:D→Mv
 | .tup [.agg [.v (.int .i64 a), .v (.int .i64 b), .v (.int .i64 c), .v (.int .i64 d), .v (.int .i64 e), .list rows],_]=>⟨a,b,c,d,e,rows.map abz⟩
 |_=>⟨0,0,0,0,0,[]⟩
def is0:Option D→Bool
 |some (.v (.int .i64 0))=>true
 |_=>false
def J8:Option D→Bool
 |some (.tup [.v (.bool true), .v (.int .i64 0)])=>true
 |_=>false
def Da(K:KT)(s:Ss):Bool:=
 Nat.blt s.rows.length 4999&&(s.rows.all (fun r=>decide (r.ns<1000)&&decide (r.ew<1000))&&(AZ s.rows&&(is0 (dG K bJ 46 [.agg s.cells])&&(!s.keys.isEmpty&&(Nat.blt s.keys.length 65536&&(decide (0≤s.ss*s.bs)&&(decide (s.ss*s.bs<10000)&&(LV s&&(GO s.rows&&(Nat.blt s.keys.length 9999&&s.keys.all fun k=>decide (k.bd≤s.ss*s.bs)))))))))))
def QR:D:=iv 9223372036854775807
def jm(K:KT)(c:Nat×List D):Bool:=
 match dG K bJ c.1 c.2 with
 |some r=>yJ r.bare (.tup [.agg (ET r.bare).cells,iv 0])&&((D.tup [.agg (ET r.bare).cells,iv 0]).aK&&(Da K ((ET r.bare).Iu 1)&&(Da K ((ET r.bare).Iu 2)&&J8 (dG K bJ 94 [.agg (ET r.bare).cells,QR]))))
 |none=>false
theorem Qk{o:Option D}(h:is0 o=true):o=some (iv 0):=by
 unfold is0 at h;split at h
 ·rfl
 ·cases h
theorem J9{o:Option D}(h:J8 o=true):o=some (.tup [bv true,iv 0]):=by
 unfold J8 at h;split at h
 ·rfl
 ·cases h
def Rk:List D→Bool
 | [.v (.int .i64 z)]=>decide (0<z)
 | []=>true
 |_=>false
def Ac(K:KT):Bool:=K.all fun p=> !(Nat.beq p.1 46||Nat.beq p.1 94)||p.2.all fun e=>match e.ds with
 | .agg (_::_::_:: .v (.int .i64 c)::_::_::r)::_=>decide (0<c)&&Rk r
 |_=>false
theorem n54: ∀ds,bJ 46 ds=none∧bJ 94 ds=none:=fun ds=>by
 unfold bJ kg aR jj;constructor<;>rw[if_neg (by omega),if_neg (by omega),if_neg (by omega),if_neg (by omega),if_neg (by omega),if_neg (by omega)]
theorem Hy{K:KT}(hK:Ac K=true){f:Nat}(hf:f=46∨f=94){a b c w r:D}{cp:Int}{q t:List D}(h:cp≤0∨ ∃z,q= [iv z]∧z≤0):dG K bJ f (.agg (a::b::c::iv cp::w::r::q)::t)=none:=by
 cases hv:dG K bJ f (.agg (a::b::c::iv cp::w::r::q)::t)with
 |none=>rfl
 |some d=>
  rcases BH hv with⟨p,hp,h1,e,he,h2,_⟩|hn
  ·have h3:=Tz.1 hK p hp;have hb:(Nat.beq p.1 46||Nat.beq p.1 94)=true:=by rw[h1];rcases hf with rfl|rfl<;>rfl
   rw[hb]at h3;have h4:=Tz.1 h3 e he;rw[h2]at h4
   replace h4:(decide (0<cp)&&Rk q)=true:=h4
   rw[Az,decide_eq_true_eq]at h4;rcases h with h|⟨z,rfl,h⟩
   ·omega
   ·have:=h4.2;simp[Rk]at this;omega
  ·rcases hf with rfl|rfl
   ·rw[(n54 _).1]at hn;cases hn
   ·rw[(n54 _).2]at hn;cases hn
theorem aay{K:KT}(hK:Ac K=true){s:Ss}(hb:s.bs≤0):dG K bJ 46 [.agg s.cells]=none:=Hy hK (.inl rfl) (.inr ⟨_,rfl,hb⟩)
theorem QJ{s:Ss}(h0:H 46 [.agg s.cells]=none)(h90:GK H 94 [.agg s.mv.cells,QR]=some (.tup [bv true,iv 0]))(hb:s.bs≤0):GK H 46 [.agg s.cells]=some (iv 282):=by
 refine yP Q3 h0 ?_;rw[Yl];have k:XK.run (GK H) (.call false 94) [.agg s.mv.cells,iv 9223372036854775807]=some (.tup [bv true,iv 0]):=ao h90 rfl rfl;have hlt:s.bs<1:=by omega
 simp[k,hlt,Vf,Kf]
theorem GP{K:KT}(hF:Fr (dG K bJ))(hK:Ac K=true){m:Mv}{b:Int}(hb:b=1∨b=2)(h:Da K (m.Iu b)=true)(h90:J8 (dG K bJ 94 [.agg m.cells,QR])=true):lM (dG K bJ) (m.Iu b):=by
 unfold Da at h;simp only[Az,decide_eq_true_eq,Bool.not_eq_true']at h;obtain⟨h1,hpb,h2,h3,h4,h5,h6,h7,h8,h9,h10,h11⟩:=h;refine⟨by simpa[Nat.blt_eq]using h1,h2,dL (Qk h3),fun r hr=>by simpa using Tz.1 hpb r hr,fun c hc=> ?_,fun c hc=> ?_, ?_,(fun e=>by rw[e]at h4;cases h4),by simpa[Nat.blt_eq]using h5,⟨h6,h7⟩,h8,h9,⟨by simpa[Nat.blt_eq]using h10,fun k hk=>by simpa using Tz.1 h11 k hk⟩⟩
 ·exact aaN (s:={m.Iu b with cp:=c}) hF (Hy hK (.inl rfl) (.inl hc)) (Hy hK (.inr rfl) (.inl hc)) (by show c<1;omega)
 ·exact QJ (s:={m.Iu b with bs:=c}) (aay hK hc) (dL (J9 h90)) hc
 ·rcases hb with rfl|rfl
  ·exact⟨1,rfl,by omega⟩
  ·exact⟨2,rfl,by omega⟩
theorem PT{K:KT}(hF:Fr (dG K bJ))(hK:Ac K=true){f:Nat}{ds:List D}(h:jm K (f,ds)=true):Mk (dG K bJ) f ds:=by
 unfold jm at h;simp only[]at h;split at h
 ·rename_i r hr;simp only[Az]at h;obtain⟨h1,h2,h3,h4,h5⟩:=h;refine⟨ET r.bare,rM (dL hr) (mC h1) h2,fun b hb=> ?_⟩;rcases hb with rfl|rfl
  ·exact GP hF hK (.inl rfl) h3 h5
  ·exact GP hF hK (.inr rfl) h4 h5
 ·cases h
end Ty
end
section
open Go.RowKit Go.Sort
namespace Ty
variable {H : FP}
theorem wo{P:Int→Prop}{st:List Int×(Int→Bool)}{a:Int}{b:Bool}(h: ∀p∈st.1,P p)(ha:0<a→P a): ∀p∈(i_ st a b).1,P p:=by
 unfold i_;split
 ·rename_i hc;intro p hp;rcases List.mem_append.1 hp with hp|hp
  ·exact h p hp
  ·simp at hp;subst hp;exact ha hc.1
 ·exact h
theorem Ff{s:Ss}(h: ∀r∈s.rows,r.ns<1000∧r.ew<1000): ∀p∈s.au.1,0<p∧p<1000:=by
 have key: ∀(l:List Rw) (st:List Int×(Int→Bool)),(∀r∈l,r.ns<1000∧r.ew<1000)→(∀p∈st.1,0<p∧p<1000)→ ∀p∈(l.foldl (Al s.wn) st).1,0<p∧p<1000:=fun l=>by
  induction l with
  |nil=>exact fun st _ h=>h
  |cons r t ih=>
   intro st h1 h2;have hr:=h1 r (List.mem_cons_self ..);refine ih _ (fun q hq=>h1 q (Cz _ hq)) ?_;unfold Al;exact wo (wo h2 fun h=>⟨h,hr.1⟩) fun h=>⟨h,hr.2⟩
 exact key s.rows ([],fun _=>false) h (by simp)
def tY(a b c d t:Int):Sc:=⟨0,0,0,a,b,⟨c,1⟩,⟨d,1⟩,t,true⟩
def SZ:Sc:=⟨0,0,0,0,0,⟨0,0⟩,⟨0,0⟩,0,false⟩
section
variable {G : FP}
theorem Vi{a b c d t:Int}:XK.run G (.lit 11 1 [iv 0,iv 0,iv 0,iv 0,iv 0,iv 0,iv 0,iv 0,iv 0,iv 0,bv false] [(0,11)]) [.agg [iv 0,iv 0,iv 0,iv a,iv b,iv c,iv 1,iv d,iv 1,iv t,bv true]]=some (rQ [tY a b c d t]):=nr rfl
theorem Vj{a b c d t:Int}:XK.run G (.lit 11 2 [iv 0,iv 0,iv 0,iv 0,iv 0,iv 0,iv 0,iv 0,iv 0,iv 0,bv false,iv 0,iv 0,iv 0,iv 0,iv 0,iv 0,iv 0,iv 0,iv 0,iv 0,bv false] [(0,11),(11,11)]) [.agg [iv 0,iv 0,iv 0,iv 0,iv 0,iv 0,iv 0,iv 0,iv 0,iv 0,bv false], .agg [iv 0,iv 0,iv 0,iv a,iv b,iv c,iv 1,iv d,iv 1,iv t,bv true]]=some (rQ [SZ,tY a b c d t]):=nr rfl
theorem Qi{l:List Int}{i:Nat}{z:Int}(h:l[i]?=some z):XK.run G (.pk (.idx 3 1)) [bY l,iv (i:Int)]=some (.lptr [iv z]):=by
 unfold bY;rw[wj];simp[h]
theorem Mu{l:List Int}:XK.run G (.pk .llen) [bY l]=some (iv (l.length:Int)):=by unfold bY;rw[Ic];simp
end
theorem MT{a b c d t:Int}(h1:i64 c=true)(h2:i64 d=true)(h3:i64 t=true):OJ (tY a b c d t):=by
 unfold i64 at h1 h2 h3;simp only[Az,decide_eq_true_eq]at h1 h2 h3;exact⟨⟨h1,by show(-9223372036854775808:Int)≤1;decide,by show(1:Int)<_;decide⟩,⟨h2,by show(-9223372036854775808:Int)≤1;decide,by show(1:Int)<_;decide⟩,h3.2,by show t.natAbs*1<_;omega,by show t.natAbs*1<_;omega⟩
theorem XA:OJ SZ:=by
 refine⟨⟨⟨?_, ?_⟩, ?_, ?_⟩,⟨⟨?_, ?_⟩, ?_, ?_⟩, ?_, ?_, ?_⟩
 all_goals decide
theorem aaw(hH:Sr H){s:Ss}(hs:lM H s)(h0:s.au.1≠ [])(hn: ∀ds,H 23 ds=none){a b c d t:Int}(h1:i64 c=true)(h2:i64 d=true)(h3:i64 t=true)(hw:(tY a b c d t).pg s.au.1=false):
  XK.run (GK H) (.call true 23) [.agg s.cells,rQ [SZ,tY a b c d t]]=some (.tup [.list [],iv 330]):=by
 have hR:mn s.au.1 [SZ,tY a b c d t]=false:=by
  unfold mn;simp[hw,show(tY a b c d t).ct=true from rfl]
 have h:=QI hH s [SZ,tY a b c d t] hs.len h0 (by show 2<9999;omega) (fun x hx=>by
  simp at hx;rcases hx with rfl|rfl
  ·exact XA
  ·exact MT h1 h2 h3) (fun e=>by rw[hR]at e;cases e) (hn _) hs.ok
 unfold fG at h;rw[if_neg (by rw[hR];simp)]at h;exact e7 h rfl
theorem aav(hH:Sr H){s:Ss}(hs:lM H s)(h0:s.au.1≠ [])(hn: ∀ds,H 23 ds=none){a b:Int}(ha:a∈s.au.1)(hb:b∈s.au.1)(hab:a≠b):
  ∃L,XK.run (GK H) (.call true 23) [.agg s.cells,rQ [tY a b 1 1 2]]=some (.tup [fN L,iv 0]):=by
 have hk:tZ s.au.1 [tY a b 1 1 2]=true:=by
  unfold tZ;simp[Ry,tY,ha,hb,hab,H4,gh,yn]
 have hR:mn s.au.1 [tY a b 1 1 2]=true:=by
  unfold mn;simp[tY,Sc.pg,ha,hb,hab];decide
 have h:=QI hH s [tY a b 1 1 2] hs.len h0 (by show 1<9999;omega) (fun x hx=>by
  simp at hx;rcases hx with rfl
  exact MT rfl rfl rfl) (fun _=>⟨1,Ap hk⟩) (hn _) hs.ok
 unfold fG at h;rw[if_pos hR]at h;exact⟨_,e7 h rfl⟩
theorem HC{l:List Int}(h:l.Pairwise fun a b=>decide (b<a)=false){z:Int}(hz:l.getLast?=some z): ∀p∈l,p≤z:=by
 intro p hp;obtain⟨l',rfl⟩:=List.getLast?_eq_some_iff.1 hz;rcases List.mem_append.1 hp with hp|hp
 ·have:=(List.pairwise_append.1 h).2.2 p hp z (by simp);simp at this;omega
 ·simp at hp;omega
end Ty
end
section
open Go.RowKit Go.Sort
namespace Ty
variable {H : FP}
theorem UR(hF:Fr H){s:Ss}{c:Int}(hc:c≠0)(h19:GK H 112 [.agg s.cells, .list ([zE,zE].map En.cells)]=some (D.own (.tup [.list [], .list [],iv c]))):
  XK.run (GK H) (.call true 15) [.agg s.cells, .list [zE.cells,zE.cells]]=some (.tup [.list [],iv c]):=
 e7 (aaF hF s [zE,zE] hc (aaG hF s [zE,zE] hc (aaO hF s [zE,zE] hc h19))) rfl
theorem Vd(hH:Sr H)(h12:XK.run (GK H) (.call false 12) []=some (bv true))(Bv: ∀ds,H 22 ds=none){n1 n2 n3 n4:Int}{s:Ss}(hs:lM H s)(h21:XK.run (GK H) (.call false 21) [.agg [uv n1,uv n2,uv n3,uv n4]]=some (.agg s.cells))(k:Int)(how:Int)(hl:s.aV.length<2):
  GK H 6 [.agg [uv n1,uv n2,uv n3,uv n4],iv k,uv how]=some (bv true):=by
 refine aJ hH.fb.fr WY ?_;rw[tx6];have kc:XK.run (GK H) (.cell 0 4) [.agg [uv n1,uv n2,uv n3,uv n4]]=some (uv n1):=rfl;have nn:XK.run (GK H) .aj [.agg [uv n1,uv n2,uv n3,uv n4]]=some (.agg [uv n1,uv n2,uv n3,uv n4]):=rfl;have h22:XK.run (GK H) (.call false 22) [.agg s.cells]=some (.tup [bY s.aV,iv 0]):=e7 (QH hH s hs.len (Bv _) hs.ok) rfl;have e0:XK.run (GK H) (.pk (.ext 0)) [.tup [bY s.aV,iv 0]]=some (bY s.aV):=rfl;have e1:XK.run (GK H) (.pk (.ext 1)) [.tup [bY s.aV,iv 0]]=some (iv 0):=rfl;have hl':(s.aV.length:Int)<2:=by omega
 simp[-aq,kc,nn,h21,h22,e0,e1,Mu,hl,hl',h12]
set_option maxHeartbeats 4000000 in
theorem Ve(hH:Sr H)(h12:XK.run (GK H) (.call false 12) []=some (bv true))(Bv: ∀ds,H 22 ds=none)(G0: ∀ds,H 23 ds=none){n1 n2 n3 n4:Int}{s:Ss}(hs:lM H s)(h21:XK.run (GK H) (.call false 21) [.agg [uv n1,uv n2,uv n3,uv n4]]=some (.agg s.cells))(k:Int)(hk:i64 k=true)(how:Int)(hw:u8 how=true)(hl: ¬s.aV.length<2):
  GK H 6 [.agg [uv n1,uv n2,uv n3,uv n4],iv k,uv how]=some (bv true):=by
 have hF:=hH.fb.fr;have hpp:s.aV.Perm s.au.1:=b9 _ _;have aaj:s.aV.Pairwise fun a b=>decide (b<a)=false:=dm K7 s.au.1;have hnd:s.aV.Nodup:=hpp.nodup_iff.2 s.It;have hrg: ∀p∈s.aV,0<p∧p<1000:=fun p hp=>Ff hs.pb p (hpp.mem_iff.1 hp)
 have hsd:s.au.1≠ []:=fun e=>by
  have:=hpp.length_eq;rw[e,List.length_nil]at this;omega
 have i0:s.aV[0]?=some s.aV[0]:=Ez (by omega);have i1:s.aV[1]?=some s.aV[1]:=Ez (by omega);have il:s.aV[s.aV.length-1]?=some s.aV[s.aV.length-1]:=Ez (by omega);have hne:s.aV[0]≠s.aV[1]:=fun e=>by have:=we hnd e;omega
 have hll:s.aV.getLast?=some s.aV[s.aV.length-1]:=by rw[List.getLast?_eq_getElem?];exact il
 generalize s.aV[0]=p0 at i0 hne;generalize s.aV[1]=p1 at i1 hne;generalize s.aV[s.aV.length-1]=pl at il hll;have m0:p0∈s.au.1:=hpp.mem_iff.1 (Lz i0);have m1:p1∈s.au.1:=hpp.mem_iff.1 (Lz i1);have r0:=hrg p0 (Lz i0);have r1:=hrg p1 (Lz i1);have rl:=hrg pl (Lz il);have sV: ∀p∈s.au.1,0<p∧p≤pl:=fun p hp=>⟨(hrg p (hpp.mem_iff.2 hp)).1,HC aaj hll p (hpp.mem_iff.2 hp)⟩;obtain⟨L0,SR⟩:=aav hH hs hsd G0 m0 m1 hne;have h22:XK.run (GK H) (.call false 22) [.agg s.cells]=some (.tup [bY s.aV,iv 0]):=e7 (QH hH s hs.len (Bv _) hs.ok) rfl;have hpl:s.aV.length<10000:=by have:=hpp.length_eq;have:=s.B6;have:=hs.len;omega
 have x0:XK.run (GK H) (.pk (.idx 3 1)) [bY s.aV,iv 0]=some (.lptr [iv p0]):=Qi (i:=0) i0;have x1:XK.run (GK H) (.pk (.idx 3 1)) [bY s.aV,iv 1]=some (.lptr [iv p1]):=Qi (i:=1) i1;have xl:=Qi (G:=GK H) il;have ll:=Mu (G:=GK H) (l:=s.aV);have aaa:((s.aV.length-1:Nat):Int)=(s.aV.length:Int)-1:=by omega
 rw[aaa]at xl;have wl:IntKind.i64.wrap ((s.aV.length:Int)-1)=(s.aV.length:Int)-1:=wr (by omega) (by omega);have hl2: ¬(s.aV.length:Int)<2:=by omega
 have e0:XK.run (GK H) (.pk (.ext 0)) [.tup [bY s.aV,iv 0]]=some (bY s.aV):=rfl;have e1:XK.run (GK H) (.pk (.ext 1)) [.tup [bY s.aV,iv 0]]=some (iv 0):=rfl;generalize s.aV=ps at*;have abA:oX [zE,zE]=false:=B7 [] zE;have k15:=UR hF (s:=s) (c:=314) (by decide) (aaI hF s [zE,zE] (by show 2<9999;omega) hs.ok abA);have hA:(if 0<k then(0:Int)else k)≤0:=by split<;>omega
 have PV:=hs.cpb _ hA;have US:XK.run (GK H) (.call false 22) [.agg ({s with cp:=if 0<k then 0 else k}:Ss).cells]=some (.tup [.list [],iv 280]):=e7 (aaK (by decide) (Bv _) PV) rfl;have UT: ∀l:List Sc,XK.run (GK H) (.call true 23) [.agg ({s with cp:=if 0<k then 0 else k}:Ss).cells,rQ l]=some (.tup [.list [],iv 280]):=fun l=>e7 (aaL (by decide) (G0 _) PV) rfl;have UQ:=UR hF (s:={s with cp:=if 0<k then 0 else k}) (c:=280) (by decide) (aaH hF _ _ PV (by decide));have aax: ∀a b c d t:Int,i64 c=true→i64 d=true→i64 t=true→(tY a b c d t).pg s.au.1=false→XK.run (GK H) (.call true 23) [.agg s.cells,rQ [SZ,tY a b c d t]]=some (.tup [.list [],iv 330]):=fun a b c d t h1 h2 h3 h4=>aaw hH hs hsd G0 h1 h2 h3 h4;have hi1:i64 1=true:=rfl;have hi2:i64 2=true:=rfl;have hki: -9223372036854775808≤k∧k<9223372036854775808:=by unfold i64 at hk;simpa using hk
 have iz: ∀z:Int,-9223372036854775808≤z→z<9223372036854775808→i64 z=true:=fun z h1 h2=>by unfold i64;simp[h1,h2]
 refine aJ hF WY ?_;rw[tx6];have kc:XK.run (GK H) (.cell 0 4) [.agg [uv n1,uv n2,uv n3,uv n4]]=some (uv n1):=rfl;have nn:XK.run (GK H) .aj [.agg [uv n1,uv n2,uv n3,uv n4]]=some (.agg [uv n1,uv n2,uv n3,uv n4]):=rfl;have kz: ∀v:Int,XK.run (GK H) .eV [iv v]=some (iv v):=fun v=>rfl;have kb: ∀v:Bool,XK.run (GK H) .eV [bv v]=some (bv v):=fun v=>rfl;have cz: ∀v:Int,XK.run (GK H) (.cell 0 1) [iv v]=some (iv v):=fun v=>rfl;have ez: ∀c:Int,XK.run (GK H) (.pk (.ext 0)) [.tup [.list [],iv c]]=some (.list []):=fun _=>rfl;have ey: ∀c:Int,XK.run (GK H) (.pk (.ext 1)) [.tup [.list [],iv c]]=some (iv c):=fun _=>rfl;have fz:XK.run (GK H) (.pk (.ext 0)) [.tup [fN L0,iv 0]]=some (fN L0):=rfl;have fy:XK.run (GK H) (.pk (.ext 1)) [.tup [fN L0,iv 0]]=some (iv 0):=rfl;have km: ∀a b:Int,XK.run (GK H) (.pk (.mx2 false)) [iv a,iv b]=some (iv (if b<a then b else a)):=fun a b=>Xn;have kM: ∀a b:Int,XK.run (GK H) (.pk (.mx2 true)) [iv a,iv b]=some (iv (if a<b then b else a)):=fun a b=>Xm;have U0:=fun a b c d t=>Vi (G:=GK H) (a:=a) (b:=b) (c:=c) (d:=d) (t:=t);have kl2:=fun a b c d t=>Vj (G:=GK H) (a:=a) (b:=b) (c:=c) (d:=d) (t:=t);have klz:=Vg (G:=GK H)
 have h6:how.tmod 6=0∨how.tmod 6=1∨how.tmod 6=2∨how.tmod 6=3∨how.tmod 6=4∨how.tmod 6=5:=by
  have:=uy hw;rw[tm this.1];omega
 have ka:XK.run (GK H) .agg [iv s.tb,iv s.rs,iv s.ss,iv (if 0<k then 0 else k),iv s.wn, .list (s.rows.map Rw.cells),iv s.bs]=some (.agg ({s with cp:=if 0<k then 0 else k}:Ss).cells):=rfl;generalize({s with cp:=if 0<k then 0 else k}:Ss)=s' at US UT UQ ka;simp[-LU,-aq,kc,nn,h21,h22,e0,e1,ll,hl,hl2,kz,kb,cz,x0,x1,U0,SR,fz,fy];rw[LU];generalize hf:(fun vs=>aa (GK H) 10000 _ _ (_++vs))=f
 have key: ∀a b c d t:Int,i64 c=true→i64 d=true→i64 t=true→(tY a b c d t).pg s.au.1=false→f [iv a,iv b,iv c,iv d,iv t]=some (bv true):=fun a b c d t h1 h2 h3 h4=>by
  have kx:=aax a b c d t h1 h2 h3 h4;rw[←hf];simp[-aq,kl2,kx,ez,ey,klz,k15,km,ka,US,UT,UQ,U0,h12,kz,kb,cz];rfl
 have o1: ∀z:Int,(z≤0∨pl<z)→z∉s.au.1:=fun z hz hm=>by have:=sV z hm;omega
 have wpl:IntKind.i64.wrap (pl+1)=pl+1:=wr (by omega) (by omega);rcases h6 with h6|h6|h6|h6|h6|h6
 ·have kk:=key (if 0<k then 0 else k) p1 1 1 2 hi1 hi1 hi2 (by
   have:=o1 (if 0<k then 0 else k) (.inl (by split<;>omega))
   simp[Sc.pg,tY,this])
  simp[-aq,h6,km,kz,cz,kk]
 ·have kk:=key p0 (if k<pl+1 then pl+1 else k) 1 1 2 hi1 hi1 hi2 (by
   have:=o1 (if k<pl+1 then pl+1 else k) (.inr (by split<;>omega))
   simp[Sc.pg,tY,this])
  simp[-aq,h6,kM,kz,cz,kk,ll,wl,xl,wpl]
 ·have kk:=key p0 p1 1 1 (if 0<k then 0 else k) hi1 hi1 (iz _ (by split<;>omega) (by split<;>omega)) (by
   have: ¬1≤(if 0<k then 0 else k):=by split<;>omega
   simp[Sc.pg,tY,this])
  simp[-aq,h6,km,kz,cz,kk]
 ·have kk:=key p0 p1 1 (if k<3 then 3 else k) 2 hi1 (iz _ (by split<;>omega) (by split<;>omega)) hi2 (by
   have: ¬(if k<3 then 3 else k)≤2:=by split<;>omega
   simp[Sc.pg,tY,l6,this])
  simp[-aq,h6,kM,kz,cz,kk]
 ·have kk:=key p0 p1 (if-1<k then-1 else k) 1 2 (iz _ (by split<;>omega) (by split<;>omega)) hi1 hi2 (by
   have: ¬0≤(if-1<k then-1 else k):=by split<;>omega
   simp[Sc.pg,tY,l6,this])
  simp[-aq,h6,km,kz,cz,kk]
 ·have kk:=key p1 p1 1 1 2 hi1 hi1 hi2 (by simp[Sc.pg,tY]);simp[-aq,h6,kz,cz,kk]
end Ty
end
section
namespace Ty
noncomputable abbrev PP:=Tryz.prog
def TG : Array Field := #[{ name := "Tables", type := 5, offset := 0, embedded := false, tag := "", pkgPath := "", byteOffset := 0 }, { name := "Rounds", type := 5, offset := 1, embedded := false, tag := "", pkgPath := "", byteOffset := 1 }, { name := "Kind", type := 5, offset := 2, embedded := false, tag := "", pkgPath := "", byteOffset := 2 }, { name := "Boards", type := 5, offset := 3, embedded := false, tag := "", pkgPath := "", byteOffset := 3 }]
theorem u57:PP.underlying 57=some (.struct TG):=by kernel_rfl
theorem u5:PP.underlying 5=some (.int .u8):=by kernel_rfl
theorem u3:PP.underlying 3=some (.int .i64):=by kernel_rfl
theorem c5:PP.cellsOf 5=1:=by kernel_rfl
theorem c57:PP.cellsOf 57=4:=by kernel_rfl
variable {H : FP}
theorem Yn{n t:Nat}{fs:Array Field}{ds:List D}(hu:PP.underlying t=some (.struct fs))(h:dH PP (n+1) t ds):ds.length=PP.cellsOf t∧ ∀f∈fs.toList,dH PP n f.type ((ds.drop f.offset).take (PP.cellsOf f.type)):=by
 unfold dH at h;rw[hu]at h;exact h
theorem OB{n t:Nat}{k:IntKind}{ds:List D}(hu:PP.underlying t=some (.int k))(h:dH PP (n+1) t ds): ∃z,ds= [.v (.int k z)]∧(Lit.int k z).wf=true:=by
 unfold dH at h;rw[hu]at h;exact h
theorem AB{n:Nat}{d:D}(h:dH PP (n+1) 5 [d]): ∃z,d=uv z∧u8 z=true:=by
 obtain⟨z,h1,h2⟩:=OB u5 h;simp only[List.cons.injEq,and_true]at h1;refine⟨z,h1, ?_⟩;simp[Lit.wf]at h2;have e1:IntKind.u8.min=0:=rfl;have e2:IntKind.u8.max=255:=rfl;rw[e1,e2]at h2;exact Yo h2.1 (by omega)
theorem aaS{l:List D}(h:l.length=4): ∃a b c d,l= [a,b,c,d]:=by
 match l,h with
 | [a,b,c,d],_=>exact⟨a,b,c,d,rfl⟩
theorem R8{n:Nat}{ds:List D}(h:dH PP (n+2) 57 ds): ∃a b c d,ds= [uv a,uv b,uv c,uv d]∧u8 a=true∧u8 b=true∧u8 c=true∧u8 d=true:=by
 obtain⟨h1,h2⟩:=Yn u57 h;rw[c57]at h1;obtain⟨a,b,c,d,rfl⟩:=aaS h1;have g: ∀i (f:Field),TG.toList[i]?=some f→dH PP (n+1) f.type (([a,b,c,d].drop f.offset).take (PP.cellsOf f.type)):=fun i f hf=>h2 f (Lz hf);have g0:=g 0 _ rfl;have g1:=g 1 _ rfl;have g2:=g 2 _ rfl;have g3:=g 3 _ rfl;rw[show PP.cellsOf _=1 from c5]at g0 g1 g2 g3;obtain⟨z0,rfl,y0⟩:=AB g0;obtain⟨z1,rfl,y1⟩:=AB g1;obtain⟨z2,rfl,y2⟩:=AB g2;obtain⟨z3,rfl,y3⟩:=AB g3;exact⟨z0,z1,z2,z3,rfl,y0,y1,y2,y3⟩
theorem Tp{P:Program}{n t1 t2 t3:Nat}: ∀{Ds:List D},lK P n [t1,t2,t3] Ds→ ∃a b c,Ds= [a,b,c]∧jM P n t1 a∧jM P n t2 b∧jM P n t3 c
 | [],h=>h.elim
 | [_],h=>h.2.elim
 | [_,_],h=>h.2.2.elim
 | [a,b,c],h=>⟨a,b,c,rfl,h.1,h.2.1,h.2.2.1⟩
 |_::_::_::_::_,h=>h.2.2.2.elim
theorem Tq{Ds:List D}(h:lK PP 6 [57,3,5] Ds): ∃(n1 n2 n3 n4 k w:Int),Ds= [.agg [uv n1,uv n2,uv n3,uv n4],iv k,uv w]∧u8 n1=true∧u8 n2=true∧u8 n3=true∧u8 n4=true∧i64 k=true∧u8 w=true:=by
 obtain⟨a,b,c,rfl,h1,h2,h3⟩:=Tp h
 ·unfold jM at h1 h2 h3;rw[u57]at h1;rw[u3]at h2;rw[u5]at h3;obtain⟨ds,rfl,h1⟩:=h1;obtain⟨n1,n2,n3,n4,rfl,y1,y2,y3,y4⟩:=R8 (n:=4) h1;obtain⟨k,hk,hki⟩:=OB (n:=5) u3 h2;have hk:b=iv k:=by simpa using hk
  obtain⟨w,hw,hwi⟩:=AB (n:=5) h3;refine⟨n1,n2,n3,n4,k,w,by rw[hk,hw],y1,y2,y3,y4, ?_,hwi⟩;simp[Lit.wf]at hki;have e1:IntKind.i64.min= -9223372036854775808:=rfl;rw[e1]at hki;unfold i64;simp only[Az,decide_eq_true_eq];omega
theorem FC(hH:Sr H)(hM:YU H)(h12:XK.run (GK H) (.call false 12) []=some (bv true))(Bv: ∀ds,H 22 ds=none)(G0: ∀ds,H 23 ds=none)(hS:Sound PP (bg H)){Ds:List D}(h:lK PP 6 [57,3,5] Ds):wM PP 6 Ds (bv true):=by
 obtain⟨n1,n2,n3,n4,k,w,rfl,y1,y2,y3,y4,hk,hw⟩:=Tq h;obtain⟨s,hs,h21⟩:=Vt hH.fb.fr hM y1 y2 y3 y4
 have law:GK H 6 [.agg [uv n1,uv n2,uv n3,uv n4],iv k,uv w]=some (bv true):=by
  by_cases hl:s.aV.length<2
  ·exact Vd hH h12 Bv hs h21 k w hl
  ·exact Ve hH h12 Bv G0 hs h21 k hk w hw hl
 exact((jO (C:=cx) (N:=10000) rfl hS l_).p 6 _ _ (by decide) law).1
end Ty
end
section
noncomputable def tmA:FT:=qQ IU
theorem Q6:ZJ cx 109 263 1 tmA:=Q7 (by kernel_rfl)
end
end Go.Proofs.YtdepmampjnlgiaaGreatDoor
