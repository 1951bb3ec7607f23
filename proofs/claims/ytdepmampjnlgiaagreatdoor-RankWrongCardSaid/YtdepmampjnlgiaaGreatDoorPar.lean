/- Part of the proof: symbolic execution of the program, its soundness, and the closing lemmas. No condition. -/
import Derived.Test.YtdepmampjnlgiaaGreatDoorPaj
import Derived.Test.YtdepmampjnlgiaaGreatDoorPal
import Derived.Test.YtdepmampjnlgiaaGreatDoorPam
import Derived.Test.YtdepmampjnlgiaaGreatDoorPan
import Derived.Test.YtdepmampjnlgiaaGreatDoorPao
import Derived.Test.YtdepmampjnlgiaaGreatDoorPap
import Derived.Test.YtdepmampjnlgiaaGreatDoorPaq
import Derived.Test.YtdepmampjnlgiaaGreatDoorEag
namespace Go.Proofs.YtdepmampjnlgiaaGreatDoor
open Go.RowKit
set_option maxRecDepth 100000
set_option linter.all false
section
theorem cs {s : gI} (hs : jN cx.P s) {f lo n : Nat} {l : List cV} (h : chunk (h_ tr.get (dG (aY s) aR) 10000 60) f lo n l = true) : dw cx.P f ((l.drop lo).take n):=yS rfl fS l_ Oy hs h
theorem z : jN cx.P []:=.nil
theorem o {f : Nat} {l : List cV} {gs : List Nat} {r : gI} (h : dw cx.P f l) (k : jN cx.P r) : jN cx.P ((f,l,gs) :: r):=.cons h k
theorem d209 : dw cx.P 209 ak.Qs:=(cs (s:=s0) z c0).fin (by kernel_rfl)
theorem lX : dw cx.P 1000110000263 ak.fD:=wY (e:=109) (f:=263) rfl fS l_ Oy Q6 (by decide) z c1
theorem d211 : dw cx.P 211 ak.Qu:=(cs (s:=s2) (o lX z) c2).fin (by kernel_rfl)
theorem d210 : dw cx.P 210 ak.Qt:=(cs (s:=s3) (o lX z) c3).fin (by kernel_rfl)
theorem d214 : dw cx.P 214 ak.Qv:=(cs (s:=s4) z c4).fin (by kernel_rfl)
theorem d271 : dw cx.P 271 ak.Qy:=(cs (s:=s5) z c5).fin (by kernel_rfl)
theorem d150 : dw cx.P 150 ak.Qr:=(cs (s:=s6) (o d214 (o d271 z)) c6).fin (by kernel_rfl)
theorem d95 : dw cx.P 95 ak.pf:=(cs (s:=s7) z c7).fin (by kernel_rfl)
theorem d272 : dw cx.P 272 ak.gz:=(cs (s:=s8) z c8).fin (by kernel_rfl)
theorem d94 : dw cx.P 94 ak.pe:=(cs (s:=s9) (o d95 (o d272 z)) c9).join ((cs (s:=s10) (o d95 (o d272 z)) c10).join ((cs (s:=s11) (o d95 (o d272 z)) c11).join ((cs (s:=s12) (o d95 (o d272 z)) c12).join ((cs (s:=s13) (o d95 (o d272 z)) c13).join ((cs (s:=s14) (o d95 (o d272 z)) c14).join ((cs (s:=s15) (o d95 (o d272 z)) c15).join ((cs (s:=s16) (o d95 (o d272 z)) c16).join ((cs (s:=s17) (o d95 (o d272 z)) c17).join ((cs (s:=s18) (o d95 (o d272 z)) c18).join ((cs (s:=s19) (o d95 (o d272 z)) c19).join ((cs (s:=s20) (o d95 (o d272 z)) c20).join ((cs (s:=s21) (o d95 (o d272 z)) c21).join ((cs (s:=s22) (o d95 (o d272 z)) c22).join ((cs (s:=s23) (o d95 (o d272 z)) c23).join ((cs (s:=s24) (o d95 (o d272 z)) c24).join ((cs (s:=s25) (o d95 (o d272 z)) c25).join ((cs (s:=s26) (o d95 (o d272 z)) c26).join ((cs (s:=s27) (o d95 (o d272 z)) c27).join ((cs (s:=s28) (o d95 (o d272 z)) c28).join ((cs (s:=s29) (o d95 (o d272 z)) c29).join ((cs (s:=s30) (o d95 (o d272 z)) c30).join ((cs (s:=s31) (o d95 (o d272 z)) c31).join ((cs (s:=s32) (o d95 (o d272 z)) c32).fin (by kernel_rfl))))))))))))))))))))))))
theorem d46 : dw cx.P 46 ak.Hc:=(cs (s:=s33) (o d95 (o d94 z)) c33).join ((cs (s:=s34) (o d95 (o d94 z)) c34).fin (by kernel_rfl))
theorem d22 : dw cx.P 22 ak.Ze:=Ty.JM d46
theorem d23 : dw cx.P 23 ak.SR:=Ty.JN d46
theorem d31 : dw cx.P 31 ak.k31:=(cs (s:=s35) z c35).fin (by kernel_rfl)
theorem d348 : dw cx.P 348 ak.Hb:=(cs (s:=s36) z c36).fin (by kernel_rfl)
theorem d116 : dw cx.P 116 ak.Qq:=(cs (s:=s37) (o d348 z) c37).fin (by kernel_rfl)
theorem d122 : dw cx.P 122 ak.Ka:=(cs (s:=s38) z c38).fin (by kernel_rfl)
theorem d292 : dw cx.P 292 ak.Qz:=(cs (s:=s39) (o d348 z) c39).fin (by kernel_rfl)
theorem d71 : dw cx.P 71 ak.k71:=(cs (s:=s40) z c40).fin (by kernel_rfl)
theorem d78 : dw cx.P 78 ak.k78:=(cs (s:=s41) z c41).fin (by kernel_rfl)
theorem d295 : dw cx.P 295 ak.QA:=(cs (s:=s42) (o d122 (o d71 (o d78 z))) c42).fin (by kernel_rfl)
theorem d12 : dw cx.P 12 ak.SQ:=(cs (s:=s43) (o d46 (o d22 (o d23 (o d31 (o d348 (o d116 (o d122 (o d292 (o d295 z))))))))) c43).fin (by kernel_rfl)
noncomputable def KM : KT:=[(209,ak.Qs),(211,ak.Qu),(210,ak.Qt),(150,ak.Qr),(94,ak.pe),(46,ak.Hc),(12,ak.SQ)]
theorem U1 : KM.AP cx.P:=(KT.AP.cons d209 (KT.AP.cons d211 (KT.AP.cons d210 (KT.AP.cons d150 (KT.AP.cons d94 (KT.AP.cons d46 (KT.AP.cons d12 KT.AP.nil)))))))
end
section
open Go.RowKit Go.Sort
namespace Ty
noncomputable abbrev HM:FP:=dG KM bJ
theorem Yq{p:Int→Prop}{k:Nat}(h: ∀i:Nat,i<k→p ((i:Int)+1))(n:Int)(h1:1≤n)(h2:n≤k):p n:=by
 have:=h (n-1).toNat (by omega);rw[show(((n-1).toNat:Nat):Int)+1=n by omega]at this;exact this
theorem QF:Ac KM=true:=by kernel_rfl
theorem Hx:KM.all (fun p=>QG.contains p.1)=true:=by kernel_rfl
theorem L5:Sr HM:=M8 Hx
theorem mb{f k:Nat}{pre post:List D}(h:((List.range k).all fun i=>jm KM (f,pre++iv ((i:Int)+1)::post))=true)(n:Int)(h1:1≤n)(h2:n≤k):Mk HM f (pre++iv n::post):=
 Yq (p:=fun n=>Mk HM f (pre++iv n::post)) (k:=k) (fun i hi=>PT L5.fb.fr QF (Tz.1 h i (List.mem_range.2 hi))) n h1 h2
theorem m22:((List.range 1).all fun i=>jm KM (211,[iv 2]++iv ((i:Int)+1):: [uv 2]))=true:=by kernel_rfl
theorem Zl:((List.range 3).all fun i=>jm KM (211,[iv 4]++iv ((i:Int)+1):: [uv 2]))=true:=by kernel_rfl
theorem m23:((List.range 2).all fun i=>jm KM (211,[iv 2]++iv ((i:Int)+1):: [uv 3]))=true:=by kernel_rfl
theorem Zm:((List.range 4).all fun i=>jm KM (211,[iv 4]++iv ((i:Int)+1):: [uv 3]))=true:=by kernel_rfl
theorem Zk:((List.range 3).all fun i=>jm KM (211,[iv 3]++iv ((i:Int)+1):: [uv 1]))=true:=by kernel_rfl
theorem QQ:((List.range 5).all fun i=>jm KM (211,[iv 5]++iv ((i:Int)+1):: [uv 1]))=true:=by kernel_rfl
theorem r5:((List.range 5).all fun i=>jm KM (210,[iv 5]++iv ((i:Int)+1):: []))=true:=by kernel_rfl
theorem h2:((List.range 3).all fun i=>jm KM (150,[iv 2]++iv ((i:Int)+1):: []))=true:=by kernel_rfl
theorem h3:((List.range 5).all fun i=>jm KM (150,[iv 3]++iv ((i:Int)+1):: []))=true:=by kernel_rfl
theorem h4:((List.range 7).all fun i=>jm KM (150,[iv 4]++iv ((i:Int)+1):: []))=true:=by kernel_rfl
theorem h5:((List.range 9).all fun i=>jm KM (150,[iv 5]++iv ((i:Int)+1):: []))=true:=by kernel_rfl
theorem mvs:YU HM where
 q22:=ao (dL (show dG KM bJ 209 [iv 2,uv 2]=some (.tup [iv 1,iv 0]) by kernel_rfl)) rfl rfl
 m22:=mb m22
 q42:=ao (dL (show dG KM bJ 209 [iv 4,uv 2]=some (.tup [iv 3,iv 0]) by kernel_rfl)) rfl rfl
 Zl:=mb Zl
 q23:=ao (dL (show dG KM bJ 209 [iv 2,uv 3]=some (.tup [iv 2,iv 0]) by kernel_rfl)) rfl rfl
 m23:=mb m23
 q43:=ao (dL (show dG KM bJ 209 [iv 4,uv 3]=some (.tup [iv 4,iv 0]) by kernel_rfl)) rfl rfl
 Zm:=mb Zm
 q31:=ao (dL (show dG KM bJ 209 [iv 3,uv 1]=some (.tup [iv 3,iv 0]) by kernel_rfl)) rfl rfl
 Zk:=mb Zk
 q51:=ao (dL (show dG KM bJ 209 [iv 5,uv 1]=some (.tup [iv 5,iv 0]) by kernel_rfl)) rfl rfl
 QQ:=mb QQ
 r5:=mb r5
 h2:=mb h2
 h3:=mb h3
 h4:=mb h4
 h5:=mb h5
theorem GZ:Sound PP (bg HM):=mJ qD U1
theorem Uv:XK.run (GK HM) (.call false 12) []=some (bv true):=ao (dL (show dG KM bJ 12 []=some (bv true) by kernel_rfl)) rfl rfl
theorem Uw(ds:List D):HM 22 ds=none:=Kz Hx (.inl rfl) ds
theorem Ux(ds:List D):HM 23 ds=none:=Kz Hx (.inr (.inl rfl)) ds
end Ty
end
section
open Go.ChangeShapes Go.WideShapes Go.ChangeAt Go.RowKit
theorem CC{H:Type}(ds:List (DataW H))(hl:ds.length=Tryz.f6.params.size):Rows.rankWrongSpec.fn H ds={results:= [.lit (.bool true)],args:=ds}:=by
 match ds,hl with
 | [_,_,_],_=>rfl
theorem Cy:cX Tryz.prog 6:=⟨Tryz.f6,Tryz.func6,rfl,by kernel_rfl⟩
theorem lx:Tryz.f6.params.toList= [57,3,5]:=by kernel_rfl
theorem FB:([57,3,5]:List Nat).all (fun t=>decide (t<Tryz.prog.types.size)&&tA Tryz.prog 6 t&&Tryz.prog.readableRec t)=true:=by kernel_rfl
theorem yz(hc: ∀Ds,lK Tryz.prog 6 [57,3,5] Ds→wM Tryz.prog 6 Ds (bv true))(os:Os)(started:os.Started)(H:Type)(enc:TypeId×Value→H):
  ReturnsInHanded {} Tryz.checked os 6 .any (fun w args=>(Rows.rankWrongSpec.pre enc Tryz.prog Tryz.f6 [] false w args∧laidMetH Tryz.prog Rows.rankWrongRow.laid w)∧sizedMet enc Tryz.prog Tryz.f6 (OpenSpec.ofChange Rows.rankWrongSpec) false w args)
   (Rows.rankWrongSpec.post enc Tryz.prog Tryz.f6 false true false false):=by
 refine returnsInHanded_of_change_and (C:=Tryz.checked) (X:=fun w _=>laidMetH Tryz.prog Rows.rankWrongRow.laid w) (fun _ _ _ hh h=>h.of_heap hh) abk started (by kernel_rfl) Tryz.func6
  (ChangeSpec.witness_at (enc:=enc) (C:=Tryz.checked) (os:=os) (X:=fun w _=>laidMetH Tryz.prog Rows.rankWrongRow.laid w) false (vS os) #[.agg #[.int .u8 0, .int .u8 0, .int .u8 0, .int .u8 0], .int .i64 0, .int .u8 0] 8 rfl (by kernel_rfl) (by kernel_rfl) (by kernel_rfl) (by kernel_rfl) (by kernel_rfl) (uV os _)) ?_
 intro W base args ds gs before Qf hW _ _ hL _
 exact xB (P:=Tryz.prog) (fn:=Tryz.f6) (s:=Rows.rankWrongSpec) (n:=6) (tb:=4) laidOut rfl CC (by kernel_rfl) (by kernel_rfl) (fun t h=>by
  rw[lx]at h;have h2:=Tz.1 FB t h;simp only[Az,decide_eq_true_eq]at h2
  exact⟨h2.1.1,h2.1.2,h2.2⟩) (fun Ds h=>hc Ds (by rw[lx]at h;exact h)) W base args ds gs before Qf (GN hL) Cy hW
end
end Go.Proofs.YtdepmampjnlgiaaGreatDoor
