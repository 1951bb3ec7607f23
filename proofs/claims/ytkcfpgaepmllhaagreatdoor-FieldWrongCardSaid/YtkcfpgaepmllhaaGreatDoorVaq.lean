/- Part of the proof: symbolic execution of the program, its soundness, and the closing lemmas. No condition. -/
import Derived.Test.YtkcfpgaepmllhaaGreatDoorVap
import Derived.Test.YtkcfpgaepmllhaaGreatDoorVae
import Derived.Test.YtkcfpgaepmllhaaGreatDoorVao
import Derived.Test.YtkcfpgaepmllhaaGreatDoorVad
import Derived.Test.YtkcfpgaepmllhaaGreatDoorVaf
namespace Go.Proofs.YtkcfpgaepmllhaaGreatDoor
open Go.RowKit
set_option maxRecDepth 100000
section
open Go.ChangeShapes Go.WideShapes Go.ChangeAt Go.RowKit
theorem wrong_said(hc: ∀Ds,ArgsTy Tryz.prog 6 [45,46,3] Ds→VCp Tryz.prog 9 Ds (bv true)):Rows.FieldWrongSaid:=
 OpenClaim.holds_of_wide 9 Tryz.f9 rfl rfl rfl rfl rfl rfl rfl ⟨rfl,rfl,rfl,rfl,rfl⟩ rfl rfl rfl rfl rfl (by kernel_rfl) Tryz.func9 wrong_facts
  (of_decide_eq_true (by kernel_rfl)) (by unfold Func.isWrapper;first|(rw[if_pos (by decide+kernel)];kernel_rfl)|(rw[if_neg (by decide+kernel)];exact⟨rfl,rfl⟩))
  (fun os started H enc _=>wrong_lifted hc os started H enc)
end
section
def kA(e:Nat)(rs:List VRes)(x:VE)(Y:Sy):FT:=
 match x with
 | .exit _=> .bad 100021
 |_=>match rs with
  | [.t i]=>(match valS Y (.t i)with
   | .gl n _=>(match find Y.h n with
    |some (.lst e' _ c)=>if e'=e then .ret c else .bad 100051
    |_=> .bad 100052)
   |_=> .bad 100053)
  |_=> .bad 100054
def compA(C:Cx)(e f:Nat):Option (Nat×FT):=
 match C.P.funcs[f]? with
 |some fn=>match fn.body,fn.results.toList.mapM (dRes C.P fn.ntmps)with
  | some c, some rs => if (fn.name == "runtime.NumGoroutine") = false ∧ fn.params.size + fn.nfree ≤ fn.ntmps then some (fn.params.size + fn.nfree, compC { C with rt := f } (compL { C with rt := f } 8) f fn.ntmps yl0 false 0 (keepOf fn) c (sy0 (fn.params.size + fn.nfree)) (kA e rs)) else none
  |_,_=>none
 |none=>none
theorem kA_inv{G:FP}{N e:Nat}{rs:List VRes}{x:VE}{Y:Sy}{L:List (List D→Option D)}{E:List D}{d:D}:evalFT G N (kA e rs x Y) L E=some d→
  ∃i n sz sz' c,rs= [.t i]∧valS Y (.t i)= .gl n sz∧find Y.h n=some (.lst e sz' c)∧evalFT G N (.ret c) L E=some d:=by
 have key: ∀(rs:List VRes),evalFT G N (match rs with
  | [.t i]=>(match valS Y (.t i)with
   | .gl n _=>(match find Y.h n with
    |some (.lst e' _ c)=>if e'=e then FT.ret c else .bad 100051
    |_=> .bad 100052)
   |_=> .bad 100053)
  |_=> .bad 100054) L E=some d→ ∃i n sz sz' c,rs= [.t i]∧valS Y (.t i)= .gl n sz∧find Y.h n=some (.lst e sz' c)∧evalFT G N (.ret c) L E=some d:=fun rs h=>by
  split at h
  ·split at h
   ·rename_i hv
    split at h
    ·rename_i hf
     split at h
     ·rename_i hee
      subst hee
      exact⟨_,_,_,_,_,rfl,hv,hf,h⟩
     ·cases h
    ·cases h
   ·cases h
  ·cases h
 intro h
 cases x with
 |normal=>exact key rs h
 |ret=>exact key rs h
 |exit i=>cases h
theorem fta_sound{P:Program}{C:Cx}{inl:Inl}{ks:List Nat}{G:FP}{N:Nat}(hP:C.P=P)(hG:Sound P (env0 G))(hm:P.follows .mixedOrders=true){f e0:Nat}(hI: ∀dr,InlOK P G N dr inl){fn:Func}{c:Code}{rs:List VRes}(h1:P.funcs[f]?=some fn)
  (h2 : (fn.name == "runtime.NumGoroutine") = false) (h3 : fn.body = some c) (h4 : fn.results.toList.mapM (dRes P fn.ntmps) = some rs) {ds : List D} {es : List (List D)} (hlen : ds.length ≤ fn.ntmps) (hn : ds.all D.noT = true) (hne : es ≠ []) (hes : (es.all fun c => c.all D.flatC) = true)
  (he:(evalFT G N (compC C inl f fn.ntmps yl0 false 0 ks c (sy0 ds.length) (kA e0 rs)) [] ds).map D.bare=some (.list es)):VCa P f e0 ds es:=by
 refine⟨⟨fn,h1,by rw[h3];rfl,h2⟩,fun w pr cargs hpr hg hargs=> ?_⟩
 obtain⟨d,he,hd⟩:=Mz.1 he
 have hY0:YlOK P G N d yl0 (⟨w,pr,noArea⟩:Base).A.sv fn.ntmps raws0:=fun h=>by cases h
 refine callsIn_wF.1 (callsIn_of_wp_marks (F:=wF none) (n:=0) h1 h3 trivial ?_)
 refine compC_sound (r:=none) (Ω0:=raws0) (Ω:=raws0) hP hG hm (hI d) c (fun _=>rfl) hY0 (mt0 hn) (initialE hpr hg hargs hlen) DM.nil rfl he ?_
 rintro ex Ω' Y' L' E' ι' γ' J' a' w' hle M' R' hd' _ _ _ he'
 obtain⟨i,n,sz,sz',c',rfl,hv,hf,h'⟩:=kA_inv he'
 have fin:LeavesInM (wF none) 0 P fn a'.tmps (fun ex w'=> ∃b cap C,ex= .returned (.slice (some ⟨b,0,none⟩) es.length cap)∧Chg (fun _=>False) w w'∧w.heap.size≤b∧w'.heap[b]?=some (.cells C e0 (0,0))∧es.length≤cap∧cap≤maxLen∧C.size=cap*P.cellsOf e0∧RepRow P w' (fun _ _=>False) noTok C e0 es) a'.defers .returning w':=by
  simp only[evalFT,Bz]at h'
  obtain⟨d0,g1,g2⟩:=h'
  split at g2
  rotate_left
  ·cases g2
  rename_i hnoT
  injection g2 with g2
  have hd0:d0.bare= .list es→d0= .list es:=fun h=>by
   unfold D.bare at h
   split at h
   ·simp[D.noT,D.noTC,D.noTB]at hnoT
   ·exact h
  have hd1:d0= .list es:=by
   refine hd0 ?_
   rw[←hd,←g2]
   unfold tagN
   split
   ·rfl
   ·split
    ·have:d0.bare=d0:=by
      unfold D.bare
      split
      ·simp[D.noT,D.noTC,D.noTB]at hnoT
      ·rfl
     rw[this];rfl
    ·rfl
  subst hd1
  refine frame_end (S:= []) M' R' hd' hle fun Ω3 w3 J3 _ M3 R3=> ?_
  obtain⟨w1,pr1,A1,tk,R1,U⟩:=R3
  obtain⟨v,hv1,hv2⟩:=results_sound (rs:= [.t i]) (d:=J3.s i) R1 h4 rfl
  have hVR:=valS_rep M3 (.t i)
  rw[hv]at hVR
  obtain⟨es2,q1,q2,q3⟩:=M3.lst _ _ _ _ hf
  rw[g1]at q1
  injection q1 with q1
  injection q1 with q1
  subst q1
  rcases q3 with⟨_,q3⟩|⟨q3,q4⟩
  ·exact absurd q3 hne
  have hsl:J3.s i= .sl (ι' n) sz 0 es.length none:=by
   generalize hz:VArg.val J3.s (.t i)=z at hVR
   have hz:J3.s i=z:=hz
   rw[hz]
   cases hVR with
   |gln hf' hi=>exact absurd hi q3
   |gl hf' hc hi=>
    rw[hf]at hf'
    cases hf'
    rw[g1]at hc
    injection hc with hc
    injection hc with hc
    rw[hc]
  rw[hsl]at hv2
  obtain⟨b,cap,C2,p1,p2,p3,p4,p5,p6⟩:=R1.mem.obj _ _ q4
  cases hv2 with
  |sl ht hc hl ho=>
   rw[p1]at ht
   cases ht
   simp at hc
   subst hc
   have ho2:=ho.resolve_right (by omega)
   simp at ho2
   subst ho2
   have hlt:b<w3.heap.size:=(Array.getElem?_eq_some_iff.1 p2).1
   refine⟨_,hv1,b,_,C2,rfl,U.chg.trans R1.chg fun b hb h=>(U.sub b hb h:False), ?_,p2,p3,p4,p5,p6.1,fun i c hc j x hx=> ?_⟩
   ·rcases R1.live _ _ b _ q4 p1 with h|h
    ·have:=U.chg.size
     have:(⟨w,pr,noArea⟩:Base).w.heap.size=w.heap.size:=rfl
     omega
    ·exact Nat.le_of_not_lt fun hb=>(U.sub b hb h:False)
   ·obtain⟨u,u1,u2,u3⟩:=p6.2 i c hc j x hx
    exact⟨u,u1,u2,rep_flatC u3 (Tz.1 (Tz.1 hes c (Lz hc)) x (Lz hx))⟩
 cases ex with
 |normal=>exact fin
 |ret=>exact fin
 |exit i=>cases he'
theorem compA_sound{P:Program}{C:Cx}{H:FP}{N k f e n:Nat}{t:FT}(hP:C.P=P)(hH:Sound P (env0 H))(hm:P.follows .mixedOrders=true)(h1:compA C e f=some (n,t)){ds:List D}{es:List (List D)}(hl:ds.length=n)(hn:ds.all D.noT=true)
  (hne:es≠ []) (hes:(es.all fun c=>c.all D.flatC)=true) (he:(evalFT (Gs C H N k) N t [] ds).map D.bare=some (.list es)):VCa P f e ds es:=by
 have hS:=Gs_sound (N:=N) hP hH hm k
 unfold compA at h1
 subst hP
 split at h1
 ·rename_i fn hfn
  split at h1
  ·rename_i c rs hb hr
   split at h1<;>cases h1
   rename_i hcc
   refine fta_sound (C:={C with rt:=f}) (inl:=compL {C with rt:=f} 8) (N:=N) (ks:=keepOf fn) rfl hS hm (fun dr=>compL_ok (C:={C with rt:=f}) rfl hS hm 8) hfn hcc.1 hb hr (by omega) hn hne hes ?_
   rw[hl];exact he
  ·cases h1
 ·cases h1
end
noncomputable section
def okA(C:Cx)(e f n:Nat)(t:FT):Bool:=match compA C e f with
 |some q=>Nat.beq q.1 n&&beqFT (cse (cs0 q.1) q.2) t
 |none=>false
def OKA(C:Cx)(e f n:Nat)(t:FT):Prop:= ∃t0,compA C e f=some (n,t0)∧cse (cs0 n) t0=t
theorem okA_eq{C:Cx}{e f n:Nat}{t:FT}(h:okA C e f n t=true):OKA C e f n t:=by
 unfold okA at h
 split at h
 ·rename_i q hq
  obtain⟨m,t0⟩:=q
  simp only[Az]at h
  obtain rfl:=Nat.eq_of_beq_eq_true h.1
  exact⟨t0,hq,beqFT_eq _ _ h.2⟩
 ·cases h
def unown:FT→FT
 | .ret (.mk .own [x])=> .ret x
 | .chk xs k=> .chk xs (unown k)
 | .lets xs k=> .lets xs (unown k)
 | .ite c a b=> .ite c (unown a) (unown b)
 | .loop xs k=> .loop xs (unown k)
 | .jp k b=> .jp (unown k) (unown b)
 |t=>t
def rowsK(r:D):Bool:=match r with
 | .list es=> !es.isEmpty&&es.all fun c=>c.all D.flatC
 |_=>false
def chkA(G:FP)(N n:Nat)(t:FT)(l:List Known):Bool:= @List.rec Known (fun _=>Bool) true
 (fun e _ ih=>ifk (ifk (Nat.beq (lenF e.ds 0) n) (ifk (allF fT e.ds) (ifk (rowsK e.r) (@Option.rec D (fun _=>Bool) false (fun d=>beqK d.bare e.r) (fcN (lenF e.ds 0) fun m=>kf G N t [] m (revA e.ds []))) false) false) false) ih false) l
theorem chkA_eq{G:FP}{N n:Nat}{t:FT}: ∀{l:List Known},chkA G N n t l=true→ ∀e∈l,(e.ds.length=n∧e.ds.all D.noT=true)∧rowsK e.r=true∧(evalFT G N t [] e.ds).map D.bare=some e.r
 | [],_,e,he=>by cases he
 |e::r,h,e',he=>by
  replace h:ifk (ifk (Nat.beq (lenF e.ds 0) n) (ifk (allF fT e.ds) (ifk (rowsK e.r) (@Option.rec D (fun _=>Bool) false (fun d=>beqK d.bare e.r) (fcN (lenF e.ds 0) fun m=>kf G N t [] m (revA e.ds []))) false) false) false) (chkA G N n t r) false=true:=h
  rcases List.mem_cons.1 he with rfl|he
  ·have h:=(and_ifk h).1
   obtain⟨h1,h⟩:=and_ifk h
   obtain⟨h2,h⟩:=and_ifk h
   obtain⟨h3,h⟩:=and_ifk h
   rw[fcN_eq,lenF_eq,revA_eq,List.append_nil]at h
   rw[lenF_eq]at h1
   simp only[Nat.zero_add]at h h1
   rw[kf_eq,evf_eq]at h
   rw[allF_eq,fT_eq]at h2
   refine⟨⟨Nat.eq_of_beq_eq_true h1,h2⟩,h3, ?_⟩
   cases hg:evalFT G N t [] e'.ds with
   |none=>rw[hg]at h;cases h
   |some d=>rw[hg]at h;rw[Pz,beqK_eq h]
  ·exact chkA_eq (and_ifk h).2 e' he
theorem chunkA_sound{P:Program}{C:Cx}{H:FP}{N k e f n:Nat}{t:FT}{r:Tr}(hP:C.P=P)(hH:Sound P (env0 H))(hm:P.follows .mixedOrders=true)(hr:r.All C)(ht:OKA C e f n t)(hf:f<1000000){s:Sel}(hs:DoneS P s){l:List Known}
  (h:chkA (evK r.get (knK (pickK s) H) N k) N n t l=true):Done P (1000001000000+(1000000*e+f)) l:=fun x hx=>by
 obtain⟨⟨h1,h2⟩,h3,h4⟩:=chkA_eq h x hx
 obtain⟨t0,k1,k2⟩:=ht
 rw[evK_eq]at h4
 obtain⟨d,g1,g2⟩:=Mz.1 h4
 obtain⟨ds,rr⟩:=x
 cases rr<;>first|(cases h3;done)|skip
 rename_i es
 obtain⟨g3,g4⟩:(!es.isEmpty)=true∧(es.all fun c=>c.all D.flatC)=true:=by simpa[rowsK]using h3
 refine .inr ⟨e,f,es,hf,rfl,rfl, ?_⟩
 obtain⟨k0,hk⟩:=evalFT_tends (G:=evG r.get (knK (pickK s) H) N k) (Gk:=fun _=>Gs C (knK (pickK s) H) N k) (fun f ds d h=>⟨0,fun _ _=>evG_Gs hr k f ds d h⟩) (Lk:=fun _=> []) t (fun j f hf=>by simp at hf) g1
 have h5:evalFT (Gs C (knK (pickK s) H) N k) N t0 [] ds=some d:=cseF_ok (q:=(n,t0)) h1 (by rw[←k2]at hk;exact hk k0 (Nat.le_refl _))
 exact compA_sound hP (knK_sound hH (pick_ok hs)) hm k1 h1 h2 (fun e=>by rw[e]at g3;cases g3) g4 (by rw[h5,Pz,g2])
theorem KT.AOK.nil{P:Program}:KT.AOK P []:=fun p hp=>by cases hp
theorem KT.AOK.cons{P:Program}{f:Nat}{l:List Known}{r:KT}(h:Done P f l)(k:KT.AOK P r):KT.AOK P ((f,l)::r):=fun p hp=>(List.mem_cons.1 hp).elim (fun e=>by subst e;exact h) (k p)
end
section
noncomputable def tmA:FT:=unown tm210
theorem okA210:OKA cx 42 210 1 tmA:=okA_eq (by kernel_rfl)
end
end Go.Proofs.YtkcfpgaepmllhaaGreatDoor
