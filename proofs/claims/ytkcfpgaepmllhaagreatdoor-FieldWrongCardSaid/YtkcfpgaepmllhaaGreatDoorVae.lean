/- Part of the proof: symbolic execution of the program, its soundness, and the closing lemmas. No condition. -/
import Derived.Test.YtkcfpgaepmllhaaGreatDoorVac
namespace Go.Proofs.YtkcfpgaepmllhaaGreatDoor
open Go.RowKit
set_option maxRecDepth 100000
section
section
variable {P : Program} {n : Nat} {G : FP} {N : Nat} {dr : D}
theorem leaves_sound{F:Fence}{fn:Func}{R:Ending→World→Prop}{a:Act}{w1:World}{pr:Prot}{A:Area}{tk:Places}: ∀(l:List Deferred) {w:World} {J:St},Rel P w1 pr A n w a.tmps J tk→l.Nodup→(∀d∈l,∃b,d=mark b∧J.m [b+1]=some (.raw (.deferred (some []))))→
  (∀w' J',Rel P w1 pr A n w' a.tmps J' tk→J'.s=J.s→J'.c=J.c→(∀t,(∀d∈l,∀b,d=mark b→t≠ [b+1])→J'.m t=J.m t)→ ∃v,(results fn a.tmps).run P w'= .ok v w'∧R (.returned v) w')→LeavesInM F 0 P fn a.tmps R l .returning w
 | [],w,J,R1,_,_,h=>h w J R1 rfl rfl fun _ _=>rfl
 |d::l,w,J,R1,hnd,hm,h=>by
  obtain⟨b,rfl,hb⟩:=hm d (List.mem_cons_self ..)
  obtain⟨hd,hnd'⟩:=List.nodup_cons.1 hnd
  refine⟨by simp, .inl ⟨b,_,rfl,run_takeDeferred (R1.rawAt hb).2, ?_⟩⟩
  refine leaves_sound l (R1.putRaw hb (.deferred none)) hnd' (fun d' hd'=> ?_) fun w' J' R' hs hc hmm=> ?_
  ·obtain⟨b',rfl,hb'⟩:=hm d' (Cz _ hd')
   refine⟨b',rfl, ?_⟩
   rw[raw_m,if_neg fun e=> ?_]
   ·exact hb'
   ·simp only[List.cons.injEq,Nat.add_right_cancel_iff,and_true]at e
    subst e;exact hd hd'
  ·refine h w' J' R' hs hc fun t ht=> ?_
   rw[hmm t fun d' hd' b' hb'=>ht d' (Cz _ hd') b' hb',raw_m,if_neg (ht _ (List.mem_cons_self ..) b rfl)]
theorem frame_end{F:Fence}{fn:Func}{R:Ending→World→Prop}{S:List Nat}{Ω Ω2:Raws}{E:List D}{ι γ:Nat→Tok}{Y:Sy}{J:St}{B:Base}{a:Act}{w:World}(M:Mt Ω2 G E ι γ Y J)(RE:RelE P B n w a.tmps J)(hd:DM Ω Ω2 a.defers)(hle:Ω.le S Ω2)
  (h: ∀Ω3 w' J',Ω.le S Ω3→Mt Ω3 G E ι γ Y J'→RelE P B n w' a.tmps J'→ ∃v,(results fn a.tmps).run P w'= .ok v w'∧R (.returned v) w'):LeavesInM F 0 P fn a.tmps R a.defers .returning w:=by
 obtain⟨w1,pr,A,tk,R1,U⟩:=RE
 refine leaves_sound a.defers R1 hd.2.1 (fun d hdd=> ?_) fun w' J' R' hs hc hm=> ?_
 ·obtain⟨b,h1,h2,_⟩:=hd.2.2 d hdd
  exact⟨b,h1,M.con _ h2⟩
 ·refine h ⟨Ω2.t,Ω2.f,fun t=>Ω2.c t∧ ∀d∈a.defers,∀b,d=mark b→t≠ [b+1]⟩ w' J' ⟨fun t ht=>⟨hle.1 t ht,fun d hdd b hb e=> ?_⟩,hle.2⟩ ?_ ⟨w1,pr,A,tk,R',U⟩
  ·obtain⟨b',h1,_,h3⟩:=hd.2.2 d hdd
   have:b=b':=by rw[hb]at h1;simpa[mark]using h1
   subst this
   exact h3 (e▸ht)
  ·refine M.mem hs hc R'.wf (fun k o hk hi=>hm _ fun d hdd b hb e=> ?_) (fun q hq=>hm _ fun d hdd b hb e=> ?_) (fun k q hk=>⟨rfl,rfl,fun hh=>(M.rwo k q hk).2.2.2 hh.1⟩) fun t ht=>by rw[hm t ht.2];exact M.con t ht.1
   rotate_left
   ·obtain⟨b',h1,h2,_⟩:=hd.2.2 d hdd
    have:b=b':=by rw[hb]at h1;simpa[mark]using h1
    subst this
    have hr:=M.con _ h2
    obtain⟨_,p1,_⟩:=hq.mem
    rw[←e,p1]at hr;cases hr
   obtain⟨b',h1,h2,_⟩:=hd.2.2 d hdd
   have:b=b':=by rw[hb]at h1;simpa[mark]using h1
   subst this
   have hr:=M.con _ h2
   rw[←e]at hr
   cases o with
   |box vs=>obtain⟨ds,_,g,_⟩:=M.box k vs hk;rw[g]at hr;cases hr
   |map c=>obtain⟨_,_,_,g⟩:=M.mpo k c hk;rw[g]at hr;cases hr
   |mpl e' sz c=>obtain⟨_,_,_,g,_⟩:=M.own k e' sz c hk;rw[g]at hr;cases hr
   |raw q=>exact(M.rwo k q hk).2.2.2 (e▸h2)
   |lst e' sz c=>
    obtain⟨_,_,_,g⟩:=M.lst k _ _ _ hk
    rcases g with⟨g,_⟩|⟨_,g⟩
    ·exact hi g
    ·rw[g]at hr;cases hr
theorem rngOf_sound{Ω:Raws}{it:Option (Nat×Nat)}{g:Operand}{Y:Sy}{f:Nat}{vs:List SV}{O:List X}(h:rngOf it n g Y=some ((f,vs),O)){E:List D}(hO: ∀e∈O,∃d,X.ev G E e=some d){ι γ:Nat→Tok}{J:St}(M:Mt Ω G E ι γ Y J){w1 w:World}{pr:Prot}{A:Area}{tk:Places}{a:Act}(R:Rel P w1 pr A n w a.tmps J tk):
  ∃cv ds,a.eval g= .func (.func f) #[] cv∧Reps w pr tk cv.toList ds∧VRs G E ι Y.h vs ds:=by
 unfold rngOf at h
 split at h
 ·cases h;exact⟨#[],[],rfl,trivial,VRs.nil⟩
 ·rename_i t
  split at h
  ·rename_i ht
   have hev:a.eval (.tmp t)=a.tmps.getD t undef:=rfl
   have hfv:=R.slot t ht
   split at h
   ·rename_i f' caps hf
    split at h
    rotate_left
    ·cases h
    rename_i hflt
    cases h
    have H:=M.slot _ _ hf
    generalize hJ:J.s t=dt at H hfv
    cases H with
    | @clo _ _ ds hl hh=>
     generalize a.tmps.getD t undef=fv at hfv hev
     cases hfv with
     | @clo _ _ cv _ _ hs hr=>exact⟨cv,ds,hev,reps_of (by simpa using hs) fun i c x hc hx=>hr i c x (by simpa using hc) hx,hl,hh⟩
     |bclo=>omega
   ·rename_i e hf
    obtain⟨⟨g0,k⟩,_,h2⟩:=Bz.1 h
    simp only[]at h2
    split at h2
    rotate_left
    ·cases h2
    rename_i hflt
    simp only[Jz,Prod.mk.injEq]at h2
    obtain⟨⟨rfl,rfl⟩,rfl⟩:=h2
    obtain⟨d0,hd0⟩:=hO _ (List.mem_singleton.2 rfl)
    obtain⟨ds',a1,a2⟩:=ev_mk hd0
    obtain⟨de,rfl,a3⟩:=evs1 a1
    obtain⟨k1,k2⟩:=(M.slot _ _ hf).x_inv
    rw[k1]at a3
    have hst:J.s t=de:=Option.some.inj a3
    rw[hst]at hfv k1 k2
    simp only[XK.run]at a2
    split at a2
    ·rename_i g1 xs heq
     simp only[List.cons.injEq,and_true]at heq
     subst heq
     split at a2
     ·rename_i hc
      obtain⟨rfl,hlen⟩:=hc
      generalize a.tmps.getD t undef=fv at hfv hev
      cases hfv with
      | @clo _ _ cv _ _ hs hr=>
       refine⟨cv,xs,hev,reps_of (by simpa using hs) fun i c x hc hx=>hr i c x (by simpa using hc) hx,by simp[hlen],fun i v d hv hd=> ?_⟩
       rw[Dz,Mz]at hv
       obtain⟨j,hj,rfl⟩:=hv
       obtain⟨hjl,hj'⟩:=Gz.1 hj
       rw[List.getElem_range]at hj'
       subst hj'
       have hnd:d.noT=true:=by
        simp only[D.noT,Tz]at k2
        have:=k2 d (Lz hd)
        exact noTC_noT this
       refine .x ?_ hnd
       simp only[X.ev,X.evs,k1,Oz,Pz,XK.run]
       simp only[hlen,and_self,if_true,hd,Oz,hnd]
      |bclo=>omega
     ·cases a2
    ·cases a2
   ·cases h
  ·cases h
 ·cases h
def stOf:RS→LoopState
 | .ready=> .ready
 | .busy=> .busy
 | .done _=> .done
 | .over=> .exhausted
def jmp:VE→Option Code
 | .normal=>none
 | .exit id=>some (.exit id)
 | .ret=>some .ret
def pdOf:RS→Option Code
 | .done e=>jmp e
 |_=>none
def recOf(fn:Nat)(tmps:Array Value)(ps:Array Tmp)(assign body:Code)(df:Nat)(k:RS):Loop:={state:=stOf k,pending:=pdOf k,fn,tmps,params:=ps,assign,body,defers:=df}
set_option maxHeartbeats 2000000 in
theorem compC_sound{C:Cx}{inl:Inl}{cf:Nat}(hP:C.P=P)(hG:Sound P (env0 G))(hm:P.follows .mixedOrders=true)(hI:InlOK P G N dr inl):
    ∀(c:Code) {B:Base} {r:Option Nat} {Ω0 Ω:Raws} {yl:Yh} {rd:Bool} {bi:Nat} {ks:List Nat} {Y:Sy} {κ:VE→Sy→FT} {L:List (List D→Option D)} {E:List D} {ι γ:Nat→Tok} {J:St} {a:Act} {w:World} {Q:Exit→Act→World→Prop},
    (rd=false→r=none)→YlOK P G N dr yl B.A.sv n Ω→Mt Ω G E ι γ Y J→RelE P B n w a.tmps J→DM Ω0 Ω a.defers→L.length=Y.d→evalFT G N (compC C inl cf n yl rd bi ks c Y κ) L E=some dr→Goes P B n G N dr Ω0 yl.S Ω κ L E Q→Code.wpR r P c Q a w:=by
  intro c
  induction c with
  |skip=>intro B r Ω0 Ω yl rd bi ks Y κ L E ι γ J a w Q hr hY M R hd hL he hκ;exact wpIn_skip (hκ .normal Ω Y L E ι γ J a w .rfl' M R hd hL ⟨[],rfl⟩ ⟨[],by simp⟩ he)
  |region id ops draw=>
    intro B r Ω0 Ω yl rd bi ks Y κ L E ι γ J0 a w Q hr hY M0 R0 hd hL he hκ
    simp only[compC]at he
    obtain⟨J,M,R⟩: ∃J',Mt Ω G E ι γ (Y.frzR (C.un cf (2000000+id))) J'∧RelE P B n w a.tmps J':=by
      unfold Sy.frzR
      split
      · exact frzL_sound M0 R0
      · exact⟨J0,M0,R0⟩
    replace hL:L.length=(Y.frzR (C.un cf (2000000+id))).d:=by rw[hL];unfold Sy.frzR;split<;>rfl
    clear M0 R0
    generalize Y.frzR (C.un cf (2000000+id))=Y1 at he M hL
    split at he
    · rename_i q hs
      rw[eval_chk,Bz]at he
      obtain⟨_,h1,he⟩:=he
      rw[eval_lets,Bz]at he
      obtain⟨ds,h2,he⟩:=he
      have hO:=prune_sound (evs_all h2) (evs_all h1)
      replace hs:symRegion C.P (C.cfg cf) n ops draw Y1=some q:=by
        split at hs
        · cases hs
        · exact hs
      rw[hP]at hs
      refine symRegion_sound hG hm (Y':=q.1) (O:=q.2) hs hO M R fun a' w' J' ι' γ' hd' R' M'=> ?_
      exact hκ .normal Ω _ L (E++ds) ι' γ' J' a' w' .rfl' (M'.settle h2) R' (hd'▸hd) (by rw[hL,←(symRegion_like hs).1];exact settle_like.1.symm) ⟨[],rfl⟩ ⟨ds,rfl⟩ he
    · split at he
      · cases he
      · rename_i hdraw
        have hdraw:draw=false:=by simpa using hdraw
        subst hdraw
        apply wpIn_region
        rw[List.range_eq_range']
        have:=compOps_sound (r:=r) (Q:=Q) (Ω0:=Ω0) hP hG hI (ops:=ops) ops.toList 0 (by simp) hY M R hd hL he (by
          rintro Ω' Y' L' E' ι' γ' J' a' w' hle M' R' hd' hL' ⟨pre,rfl⟩ ⟨suf,rfl⟩ he'
          rw[eval_lets,Bz]at he'
          obtain⟨ds,h2,he'⟩:=he'
          exact hκ .normal Ω' _ _ _ ι' γ' J' a' w' hle (M'.settle h2) R' hd' (by rw[hL'];exact settle_like.1.symm) ⟨pre,rfl⟩ ⟨suf++ds,by simp⟩ he')
        simpa using this
  |seq x y ihx ihy=>
    intro B r Ω0 Ω yl rd bi ks Y κ L E ι γ J a w Q hr hY M R hd hL he hκ
    simp only[compC]at he
    split at he
    · rename_i jh hj
      simp only[evalFT]at he
      have ok:jh.1.ok Y.nv=true:=by
        split at hj
        · cases hj
        · exact joinS_ok (fun _=>joinHd_ok) hj
      refine wpIn_seq (ihx hr hY M.deeper R hd (by simp[hL]) he ?_)
      rintro e Ω' Y' L' E' ι' γ' J' a' w' hle M' R' hd' hL' ⟨pre,rfl⟩ ⟨suf,rfl⟩ he'
      cases e with
      |normal=>
        simp only[]at he'
        split at he'
        · rename_i p hp
          simp only[evalFT,Bz]at he'
          obtain⟨ds',h3,f,h4,h5⟩:=he'
          have hix:Y'.d-(Y.d+1)=pre.length:=by
            simp only[List.length_append,List.length_cons,hL]at hL'
            omega
          rw[hix,Xz (Nat.le_refl _),Nat.sub_self]at h4
          simp only[List.getElem?_cons_zero,Jz]at h4
          subst h4
          have hnv:=M.nv
          obtain⟨ι3,γ3,M3⟩:=jh.1.sound M' ok hp h3 M.nv (fun i hi=>by rw[Yz (by omega)]) Y.d jh.2
          rw[evs_len h3,Hd.mt_cnt hp]at M3
          refine ihy hr (hY.mono hle) M3 R' hd' (by simp[hL,Hd.mk']) h5 ?_
          exact fun e=>(hκ e).more (pre:= []) hle
        · cases he'
      |exit id=>exact hκ (.exit id) Ω' Y' _ _ ι' γ' J' a' w' hle M' R' hd' hL' ⟨_,List.append_cons pre _ L⟩ ⟨suf,rfl⟩ he'
      |ret=>exact hκ .ret Ω' Y' _ _ ι' γ' J' a' w' hle M' R' hd' hL' ⟨_,List.append_cons pre _ L⟩ ⟨suf,rfl⟩ he'
    refine wpIn_seq (ihx hr hY M R hd hL he ?_)
    rintro e Ω' Y' L' E' ι' γ' J' a' w' hle M' R' hd' hL' ⟨pre,rfl⟩ ⟨suf,rfl⟩ he'
    cases e with
    |normal=>exact ihy hr (hY.mono hle) M' R' hd' hL' he' fun e=>(hκ e).more hle
    |exit id=>exact hκ (.exit id) Ω' Y' _ _ ι' γ' J' a' w' hle M' R' hd' hL' ⟨pre,rfl⟩ ⟨suf,rfl⟩ he'
    |ret=>exact hκ .ret Ω' Y' _ _ ι' γ' J' a' w' hle M' R' hd' hL' ⟨pre,rfl⟩ ⟨suf,rfl⟩ he'
  |cond c x y ihx ihy=>
    intro B r Ω0 Ω yl rd bi ks Y κ L E ι γ J a w Q hr hY M R hd hL he hκ
    simp only[compC]at he
    have branch: ∀(e:X) (v:D) (b:Bool),(dArg n c).map (valS Y)=some (.x e)→X.ev G E e=some v→v.asBool=some b→evalFT G N (if b then compC C inl cf n yl rd 0 ks x Y κ else compC C inl cf n yl rd 0 ks y Y κ) L E=some dr→Code.wpR r P (.cond c x y) Q a w:=by
      intro e v b hc h1 h2 he
      obtain⟨g,hg,hv⟩:=Mz.1 hc
      have hvr:=valS_rep M g
      rw[hv]at hvr
      obtain⟨h3,_⟩:=hvr.x_inv
      rw[h1]at h3
      have hgv:g.val J.s= .v (.bool b):=by
        have h4:=Option.some.inj h3
        rw[←h4];exact asBool_bv h2
      obtain⟨w1,pr,A,tk,R1,_⟩:=id R
      have hr1:=dArg_rep R1 hg
      rw[hgv]at hr1
      obtain⟨hev,_⟩:=rep_v.1 hr1
      cases b
      · exact wpIn_cond_false hev (ihy hr hY M R hd hL (by simpa using he) hκ)
      · exact wpIn_cond_true hev (ihx hr hY M R hd hL (by simpa using he) hκ)
    split at he
    · rename_i hc
      exact branch _ _ true hc rfl rfl he
    · rename_i hc
      exact branch _ _ false hc rfl rfl he
    · rename_i e _ _ hc
      simp only[evalFT,Bz]at he
      obtain⟨v,h1,b,h2,he⟩:=he
      exact branch e v b hc h1 h2 (by cases b<;>exact he)
    · cases he
  |block id c ih=>
    intro B r Ω0 Ω yl rd bi ks Y κ L E ι γ J a w Q hr hY M R hd hL he hκ
    obtain⟨J0,M0,R0⟩: ∃J',Mt Ω G E ι γ (Y.frz (C.un cf (id+1))) J'∧RelE P B n w a.tmps J':=by
      unfold Sy.frz
      split
      · exact freeze_sound M R
      · exact⟨J,M,R⟩
    have hL0:L.length=(Y.frz (C.un cf (id+1))).d:=by rw[hL];unfold Sy.frz;split<;>rfl
    refine wpIn_block (ih hr hY M0 R0 hd hL0 he ?_)
    rintro e Ω' Y' L' E' ι' γ' J' a' w' hle M' R' hd' hL' hp hs he'
    cases e with
    |normal=>exact hκ .normal Ω' Y' _ _ ι' γ' J' a' w' hle M' R' hd' hL' hp hs he'
    |ret=>exact hκ .ret Ω' Y' _ _ ι' γ' J' a' w' hle M' R' hd' hL' hp hs he'
    |exit i=>
      simp only[VE.ex,Exit.inBlock]
      simp only[]at he'
      split at he'<;>rename_i hi
      · rw[if_pos hi];exact hκ .normal Ω' Y' _ _ ι' γ' J' a' w' hle M' R' hd' hL' hp hs he'
      · rw[if_neg hi];exact hκ (.exit i) Ω' Y' _ _ ι' γ' J' a' w' hle M' R' hd' hL' hp hs he'
  |loop c ih=>
    intro B r Ω0 Ω yl rd bi ks Y κ L E ι γ J a w Q hr hY M R hd hL he hκ
    simp only[compC]at he
    split at he
    · generalize hB:(fun(Y:Sy) (κ:VE→Sy→FT)=>compC C inl cf n yl rd 0 (uniq ks (crossOf c)) c Y κ)=BB at he
      refine wpIn_loopG (fun(j:Nat) a w=> ∃Ω' Y L' E' ι γ J,Ω.le yl.S Ω'∧evalFT G N (unroll BB j Y κ) L' E'=some dr∧Mt Ω' G E' ι γ Y J∧RelE P B n w a.tmps J∧DM Ω0 Ω' a.defers∧L'.length=Y.d∧(∃pre,L'=pre++L)∧ ∃suf,E'=E++suf) id
        ⟨Ω,Y,L,E,ι,γ,J, .rfl',he,M,R,hd,hL,⟨[],rfl⟩,[],by simp⟩ ?_
      rintro j a1 w1 ⟨Ω1,Y1,_,_,ι1,γ1,J1,hle1,he1,M1,R1,hd1,hL1,⟨pre1,rfl⟩,suf1,rfl⟩
      cases j with
      |zero=>cases he1
      |succ j=>
        simp only[unroll]at he1
        rw[←hB]at he1
        refine ih hr (hY.mono hle1) M1 R1 hd1 hL1 he1 ?_
        rintro e Ω' Y' L' E' ι' γ' J' a' w' hle M' R' hd' hL' ⟨pre,rfl⟩ ⟨suf,rfl⟩ he'
        cases e with
        |normal=>rw[hB]at he';exact⟨j,⟨Ω',Y',_,_,ι',γ',J',hle1.trans hle,he',M',R',hd',hL',⟨pre++pre1,by simp⟩,suf1++suf,by simp⟩,Nat.lt_succ_self j⟩
        |exit i=>exact hκ (.exit i) Ω' Y' _ _ ι' γ' J' a' w' (hle1.trans hle) M' R' hd' hL' ⟨pre++pre1,by simp⟩ ⟨suf1++suf,by simp⟩ he'
        |ret=>exact hκ .ret Ω' Y' _ _ ι' γ' J' a' w' (hle1.trans hle) M' R' hd' hL' ⟨pre++pre1,by simp⟩ ⟨suf1++suf,by simp⟩ he'
    generalize hhd:Cx.headS _ _ _=hd0 at he
    split at he
    · rename_i ok
      split at he
      · rename_i q hq
        simp only[evalFT,Bz]at he
        obtain⟨ds,h1,he⟩:=he
        generalize hnx:Y.nx+hd0.row.length=nx at he
        obtain⟨ι1,γ1,M1⟩:=hd0.sound M ok hq h1 M.nv (fun _ _=>rfl) (Y.d+1) nx
        have hlen:=evs_len h1
        rw[hlen]at M1
        generalize hF:(fun rec vs=>evalFT G N (compC C inl cf n yl rd 0 _ c (hd0.mk' Y.nv q.1.length (Y.d+1) nx) _) (rec::L) (E++vs))=F at he
        refine wpIn_loopG (fun(j:Nat) a w=> ∃Ω' vs ι γ J,Ω.le yl.S Ω'∧iter F j vs=some dr∧Mt Ω' G (E++vs) ι γ (hd0.mk' Y.nv q.1.length (Y.d+1) nx) J∧RelE P B n w a.tmps J∧DM Ω0 Ω' a.defers) id (x:=N) ⟨Ω,ds,ι1,γ1,J, .rfl',he,M1,R,hd⟩ ?_
        rintro j a1 w1 ⟨Ω1,vs,ι2,γ2,J2,hle1,hit,M2,R2,hd2⟩
        cases j with
        |zero=>cases hit
        |succ j=>
          simp only[iter]at hit
          rw[←hF]at hit
          refine ih (L:=iter F j::L) hr (hY.mono hle1) M2 R2 hd2 (by simp[hL,Hd.mk']) (by rw[←hF];exact hit) ?_
          rintro e Ω' Y' L' E' ι' γ' J' a' w' hle M' R' hd' hL' ⟨pre,rfl⟩ ⟨suf,rfl⟩ he'
          cases e with
          |normal=>
            simp only[]at he'
            split at he'
            · rename_i p hp
              simp only[evalFT,Bz]at he'
              obtain⟨ds',h3,f,h4,h5⟩:=he'
              have hix:Y'.d-(Y.d+1)=pre.length:=by
                simp only[List.length_append,List.length_cons,hL]at hL'
                omega
              rw[hix,Xz (Nat.le_refl _),Nat.sub_self]at h4
              simp only[List.getElem?_cons_zero,Jz]at h4
              subst h4
              have hnv:=M.nv
              obtain⟨ι4,γ4,M4⟩:=M'.align (ptrsOf Y.s)
              obtain⟨ι3,γ3,M3⟩:=hd0.sound M4 ok hp h3 M.nv (fun i hi=>by rw[List.append_assoc,Yz (by omega)]) (Y.d+1) nx
              have hl1:=evs_len h3
              have hl2:p.1.length=q.1.length:=by
                rw[Hd.mt_cnt hp,Hd.mt_cnt hq]
              rw[hl1,hl2]at M3
              exact⟨j,⟨Ω',ds',ι3,γ3,J',hle1.trans hle,h5,M3,R',hd'⟩,Nat.lt_succ_self j⟩
            · cases he'
          |exit i=>exact hκ (.exit i) Ω' Y' _ _ ι' γ' J' a' w' (hle1.trans hle) M' R' hd' hL' ⟨pre++ [iter F j],by simp⟩ ⟨vs++suf,by simp⟩ he'
          |ret=>exact hκ .ret Ω' Y' _ _ ι' γ' J' a' w' (hle1.trans hle) M' R' hd' hL' ⟨pre++ [iter F j],by simp⟩ ⟨vs++suf,by simp⟩ he'
      · cases he
    · cases he
  |exit id=>intro B r Ω0 Ω yl rd bi ks Y κ L E ι γ J a w Q hr hY M R hd hL he hκ;exact wpIn_exit (hκ (.exit id) Ω Y L E ι γ J a w .rfl' M R hd hL ⟨[],rfl⟩ ⟨[],by simp⟩ he)
  |ret=>intro B r Ω0 Ω yl rd bi ks Y κ L E ι γ J a w Q hr hY M R hd hL he hκ;exact wpIn_ret (hκ .ret Ω Y L E ι γ J a w .rfl' M R hd hL ⟨[],rfl⟩ ⟨[],by simp⟩ he)
  |rangeFunc g ps assign body iha ihb=>
    intro B r Ω0 Ω yl rd bi ks Y κ L E ι γ J a w Q hr hY M R hd hL he hκ
    simp only[compC]at he
    split at he
    · rename_i hc
      obtain⟨hrd,hS,hps⟩:=hc
      have hS:Y.nx∉yl.S:=by simpa using hS
      obtain rfl:=hr hrd
      have hps': ∀p∈ps.toList,p<n:=fun p hp=>by
        rw[Array.all_eq_true_iff_forall_mem]at hps
        simpa using hps p (by simpa using hp)
      split at he
      · rename_i q hq
        obtain⟨⟨f,caps⟩,OO⟩:=q
        rw[eval_chk,Bz]at he
        obtain⟨_,hOO,he⟩:=he
        obtain⟨w1,pr,A,tk,R1,U⟩:=(fun x=>x) R
        refine wpIn_rangeFunc fun fnid _=> ?_
        generalize hnm:Y.nx=nm at*
        let rec':RS→Obj:=fun k=> .loop (recOf fnid a.tmps ps assign body w.heap.size k)
        obtain⟨hn1,tk1,Ra,_,_⟩:=R1.newRaw (.deferred (some []))
        obtain⟨hn2,tk2,Rb,_,_⟩:=Ra.newRaw (rec' .ready)
        have hsz:(w.alloc (.deferred (some []))).heap.size=w.heap.size+1:=World.size_alloc ..
        rw[hsz]at hn2 Rb
        have hn2':J.m [w.heap.size+1+1]=none:=by
          rw[raw_m,if_neg (by simp)]at hn2;exact hn2
        have M1:=M.newRec (nm:=nm) (g:=rec') hn1 hn2'
        generalize hw2:((w.alloc (.deferred (some []))).alloc (rec' .ready))=w2 at Rb
        generalize hJ2:((J.raw w.heap.size (.deferred (some []))).raw (w.heap.size+1) (rec' .ready))=J2 at Rb M1
        obtain⟨cv,dcs,hev,hrc,hvc⟩:=rngOf_sound hq (evs_all hOO) M1 Rb
        generalize hΩ1:(⟨updN Ω.t nm [w.heap.size+1+1],updN Ω.f nm rec',fun t=>Ω.c t∨t= [w.heap.size+1]⟩:Raws)=Ω1 at M1
        have hle1:Ω.le yl.S Ω1:=by
          subst hΩ1
          refine⟨fun t h=> .inl h,fun k hk=> ?_⟩
          have hne:k≠nm:=fun e=>hS (e▸hk)
          exact⟨if_neg hne,if_neg hne⟩
        have ht1:Ω1.t nm= [w.heap.size+1+1]:=by subst hΩ1;exact if_pos rfl
        have hf1:Ω1.f nm=rec':=by subst hΩ1;exact if_pos rfl
        have hc1:Ω1.c [w.heap.size+1]:=by subst hΩ1;exact .inr rfl
        generalize hyl:(⟨nm::yl.S,_,_⟩:Yh)=yl' at he
        have hylS:yl'.S=nm::yl.S:=by rw[←hyl]
        have hYl:YlOK P G N dr yl' (savV 0 n a.tmps B.A.sv) 0 Ω1:=by
          intro S Bc Ω0' Ω' nm' off n0 vs x Z κ' L' E' ι' γ' J' w1' w' pr' A' tk' a' cargs ds next h1 hSS hle hV M' R' U' hr' hv hx hd' hL' he' hκ' r'
          rw[hylS]at h1 hle hSS
          rw[←hyl]at he'
          simp only[]at he'
          split at he'
          · rename_i hnm'
            subst hnm'
            split at he'
            · rename_i hready
              split at he'
              · rename_i hlen
                have hnS:nm'∈S:=hSS _ (List.mem_cons_self ..)
                have ht:Ω'.t nm'= [w.heap.size+1+1]:=((hle.2 _ (List.mem_cons_self ..)).1).trans ht1
                have hf:Ω'.f nm'=rec':=((hle.2 _ (List.mem_cons_self ..)).2).trans hf1
                obtain⟨k1,k2,k3,_⟩:=M'.rwo _ _ hready
                rw[ht]at k1
                rw[k1,hf]at k3
                have hheap:=(R'.rawAt k3).2
                have hcs:cargs.size=ps.size:=by
                  have:=hr'.length
                  have:=hv.1
                  simp at*;omega
                have htm:(ps.zip cargs).foldl (fun tmps (t,a)=>tmps.setIfInBounds t a) a.tmps=putP ps.toList cargs.toList a.tmps:=by
                  rw[←Array.foldl_toList,Array.toList_zip];exact zip_fold _ _ _
                refine⟨w.heap.size+1,fnid,putP ps.toList cargs.toList a.tmps,assign,body,ht, ?_,roundIn_of_wpIn trivial ?_⟩
                · rw[←htm];exact run_yield hheap hcs
                have hVr: ∀j,n≤j→n≤n+off+j∧savV n n0 a'.tmps Bc.A.sv (n+off+j)=B.A.sv j:=fun j hj=>by
                  obtain⟨v1,v2⟩:=hV j (Nat.zero_le _)
                  refine⟨by omega, ?_⟩
                  have e1:n+off+j-n=off+j:=by omega
                  simp only[savV,e1,if_neg (show¬off+j<n0 by omega)]
                  rw[v2]
                  simp only[savV,Nat.sub_zero,if_neg (show¬j<n by omega)]
                have hYr:YlOK P G N dr (yl.under S (n+off)) (savV n n0 a'.tmps Bc.A.sv) n Ω':=YlOK.under (YlOK.mono hY (hle1.trans (hle.sub fun x hx=>Cz _ hx))) (fun x hx=>hSS x (Cz _ hx)) hVr
                have Rr:=R'.round (n:=n) (off:=off) (T:=a.tmps) R1.size (fun i hi=>by
                  obtain⟨v1,v2⟩:=hV i (Nat.zero_le _)
                  refine⟨v1, ?_⟩
                  rw[U'.sv,v2]
                  simp only[savV,Nat.sub_zero,if_pos hi]) hr' hps'
                have Ur:=U'.enter n n0 a'.tmps
                have Mr:=M'.round (n:=n) (off:=off) (n0:=n0) (ps:=ps.toList) hv
                refine iha (r:=some (w.heap.size+1)) (B:={Bc with A:={Bc.A with sv:=savV n n0 a'.tmps Bc.A.sv}}) (Ω0:=Ω') (a:={tmps:=putP ps.toList cargs.toList a.tmps,defers:= []}) (fun h=>by cases h) hYr Mr ⟨w1',pr',_,tk',Rr,Ur⟩ DM.nil hL' he' ?_
                rintro e Ω2 Z1 L2 E2 ι2 γ2 J3 a2 w3 hle2 M2 R2 hd2 hL2 ⟨pre,rfl⟩ ⟨suf,rfl⟩ he2
                simp only[]at he2
                split at he2
                · rename_i hr1
                  obtain⟨q1,q2,q3,_⟩:=M2.rwo _ _ hr1
                  have ht2:=(hle2.2 _ hnS).1.trans ht
                  have hf2:=(hle2.2 _ hnS).2.trans hf
                  rw[ht2]at q1
                  rw[q1,hf2]at q3
                  obtain⟨wq,prq,Aq,tkq,Rq,Uq⟩:=R2
                  have hheap2:=(Rq.rawAt q3).2
                  refine⟨_,run_beginRound hheap2 rfl, ?_⟩
                  have Mb:=M2.setRaw hr1 q1 .busy
                  rw[hf2]at Mb
                  refine ihb (r:=some (w.heap.size+1)) (Ω0:=Ω') (fun h=>by cases h) (YlOK.mono hYr hle2) Mb ⟨wq,prq,Aq,tkq,Rq.putRaw q3 (rec' .busy),Uq⟩ hd2 hL2 he2 ?_
                  rintro e2 Ω3 Z2 L3 E3 ι3 γ3 J4 a3 w4 hle3 M3 R3 _ hL3 ⟨pre3,rfl⟩ ⟨suf3,rfl⟩ he3
                  simp only[]at he3
                  split at he3
                  · rename_i hbusy
                    obtain⟨p1,p2,p3,_⟩:=M3.rwo _ _ hbusy
                    have ht3:=(hle3.2 _ hnS).1.trans ht2
                    have hf3:=(hle3.2 _ hnS).2.trans hf2
                    rw[ht3]at p1
                    rw[p1,hf3]at p3
                    obtain⟨wz,prz,Az,tkz,Rz,Uz⟩:=R3
                    have hheap3:=(Rz.rawAt p3).2
                    have Me:=M3.setRaw hbusy p1 (rsOf e2)
                    rw[hf3]at Me
                    have fin:next (a'.put x (.bool (decide (e2= .normal)))) (w4.putObj (w.heap.size+1) (rec' (rsOf e2))):=
                      hκ' Ω3 _ _ _ ι3 γ3 _ _ _ (hle2.trans hle3) ((Me.leave n).setO (d:=bv (decide (e2= .normal))) fun _ _=> .x rfl rfl) (RelE.leave (Rz.putRaw p3 (rec' (rsOf e2))) Uz R'.size hx (rep_v.2 ⟨rfl,rfl⟩))
                        (by cases x<;>exact hd'.mono (hle2.trans hle3)) (by rw[hL3];cases x<;>rfl) ⟨pre3++pre,by simp⟩ ⟨suf++suf3,by simp⟩ he3
                    cases e2 with
                    |normal=>exact⟨_,_,run_endRound none hheap3,_,rfl,fin⟩
                    |ret=>exact⟨_,_,run_endRound (some .ret) hheap3,_,rfl,fin⟩
                    |exit id=>exact⟨_,_,run_endRound (some (.exit id)) hheap3,_,rfl,fin⟩
                  · cases he3
                · cases he2
              · cases he'
            · cases he'
          · rename_i hnm'
            have h1':nm'∈yl.S:=by
              rcases List.mem_cons.1 h1 with h|h
              · exact absurd h hnm'
              · exact h
            exact hY h1' (fun x hx=>hSS x (Cz _ hx)) (hle1.trans (hle.sub fun x hx=>Cz _ hx)) (fun j hj=>by
              obtain⟨v1,v2⟩:=hV j (Nat.zero_le _)
              refine⟨v1,v2.trans ?_⟩
              simp only[savV,Nat.sub_zero,if_neg (show¬j<n by omega)]) M' R' U' hr' hv hx hd' hL' he' hκ' r'
        have hdm:DM Ω0 Ω1 ([mark w.heap.size]++a.defers):=by
          have hno: ¬Ω.c [w.heap.size+1]:=fun h=>by have:=M.con _ h;rw[hn1]at this;cases this
          have h1:=hd.mono hle1
          refine⟨h1.1,List.nodup_cons.2 ⟨fun hmem=> ?_,h1.2.1⟩,fun d hdd=> ?_⟩
          · obtain⟨b',e1,e2,_⟩:=hd.2.2 _ hmem
            have:w.heap.size=b':=by simpa[mark]using e1
            subst this
            exact hno e2
          · rcases List.mem_cons.1 hdd with rfl|hdd
            · exact⟨_,rfl,hc1,fun h=>hno (hd.1 _ h)⟩
            · exact h1.2.2 d hdd
        have hreps:Reps w2 pr tk2 (#[Value.func (.yield (w.heap.size+1)) #[] #[]]++cv).toList (.v (.func (.yield (w.heap.size+1)) #[] #[])::dcs):=by
          rw[Array.toList_append]
          exact⟨rep_v.2 ⟨rfl,rfl⟩,hrc⟩
        have hvrs:VRs G E (updN ι nm [w.heap.size+1+1]) (Y.newRec nm).h (.yl nm::caps) (.v (.func (.yield (w.heap.size+1)) #[] #[])::dcs):=by
          refine VRs.mk ?_ hvc
          have:=VR.yl (G:=G) (E:=E) (ι:=updN ι nm [w.heap.size+1+1]) (h:=(Y.newRec nm).h) (n:=nm) (k:= .ready) (by simp[Sy.newRec,Sy.raw,find_set])
          simpa[updN]using this
        obtain⟨hb,hcall⟩:=hI (B:=B) (Ω0:=Ω0) (a:={a with defers:= [mark w.heap.size]++a.defers}) (x:=none) (next:=fun a' w3=> ∃jump w4,(Instr.endLoop (w.heap.size+1)).run P w3= .ok jump w4∧
            (match jump with
             |none=>Q .normal a' w4
             |some c=>c.wpIn (wF none) 0 P Q a' w4)) hYl M1 Rb U hreps hvrs (fun i h=>by cases h) hdm hL he (by
          rintro Ω2 Y2 L2 E2 ι2 γ2 J3 a2 w3 hle2 M2 R2 hd2 hL2 ⟨pre,rfl⟩ ⟨suf,rfl⟩ he2
          rw[hylS]at hle2
          have hle3:Ω.le yl.S Ω2:=hle1.trans (hle2.sub fun x hx=>Cz _ hx)
          have go: ∀{k:RS} {e:VE},find Y2.h nm=some (.raw k)→stOf k≠ .busy→pdOf k=jmp e→evalFT G N (κ e (Y2.kill nm)) (pre++L) (E++suf)=some dr→ ∃jump w4,(Instr.endLoop (w.heap.size+1)).run P w3= .ok jump w4∧
              (match jump with
               |none=>Q .normal a2 w4
               |some c=>c.wpIn (wF none) 0 P Q a2 w4):=by
            intro k e hraw hst hpd he3
            obtain⟨p1,p2,p3,_⟩:=M2.rwo _ _ hraw
            have ht2:=(hle2.2 _ (List.mem_cons_self ..)).1.trans ht1
            have hf2:=(hle2.2 _ (List.mem_cons_self ..)).2.trans hf1
            rw[ht2]at p1
            rw[p1,hf2]at p3
            obtain⟨wz,prz,Az,tkz,Rz,Uz⟩:=R2
            have hheap:=(Rz.rawAt p3).2
            have fin:=fun o=>hκ e Ω2 (Y2.kill nm) _ _ ι2 γ2 _ a2 _ hle3 (M2.dropRaw hraw p1 o) ⟨wz,prz,Az,tkz,Rz.putRaw p3 o,Uz⟩ hd2 hL2 ⟨pre,rfl⟩ ⟨suf,rfl⟩ he3
            refine⟨_,_,run_endLoop hheap hst, ?_⟩
            have hpd':(recOf fnid a.tmps ps assign body w.heap.size k).pending=jmp e:=hpd
            rw[hpd']
            cases e with
            |normal=>exact fin _
            |ret=>exact wpIn_ret (fin _)
            |exit id=>exact wpIn_exit (fin _)
          simp only[]at he2
          split at he2
          · rename_i hraw
            exact go (e:= .normal) hraw (by simp[stOf]) rfl he2
          · rename_i e hraw
            exact go (e:=e) hraw (by simp[stOf]) rfl he2
          · cases he2)
        have henter:(Instr.enterLoop fnid a.tmps ps assign body none).run P w= .ok (w.heap.size+1,[mark w.heap.size]) w2:=by
          rw[←hw2];exact run_enterLoop_outer fnid a.tmps ps assign body
        have hres:(resolve a.eval (rangeCall g (w.heap.size+1)) 0).run P w2= .ok {target:= .fn (.func f) cv,args:= #[.func (.yield (w.heap.size+1)) #[] #[]]} w2:=by
          have hconst:a.eval (.const (.func (.yield (w.heap.size+1)) #[] #[]))= .func (.yield (w.heap.size+1)) #[] #[]:=rfl
          simp[resolve,hev,hconst,Deferred.ofValue]
        have hinv:(invoke (.fn (.func f) cv) #[.func (.yield (w.heap.size+1)) #[] #[]]).run P w2= .ok (.enter f (#[.func (.yield (w.heap.size+1)) #[] #[]]++cv)) w2:=by
          simp[invoke,run_callFunc hb]
        have hcalls:CallsIn (wF none) (0-1) P f (#[.func (.yield (w.heap.size+1)) #[] #[]]++cv) w2 (rangePost (wF none) 0 P (w.heap.size+1) Q {a with defers:= [mark w.heap.size]++a.defers}):=by
          refine callsIn_wF.2 (hcall.mono ?_)
          rintro e w' ⟨v,rfl,h⟩
          exact h
        exact⟨_,_,_,_,_,_,_,_,henter,hres,fun _ _=>trivial,hinv,fun h=>(by simp[wF,Fence.wide]at h),hcalls⟩
      · cases he
    · cases he
  |scope=>intro B r Ω0 Ω yl rd bi ks Y κ L E ι γ J a w Q hr hY M R hd hL he hκ;cases he
  |label=>intro B r Ω0 Ω yl rd bi ks Y κ L E ι γ J a w Q hr hY M R hd hL he hκ;cases he
  |goto=>intro B r Ω0 Ω yl rd bi ks Y κ L E ι γ J a w Q hr hY M R hd hL he hκ;cases he
  |refuse=>intro B r Ω0 Ω yl rd bi ks Y κ L E ι γ J a w Q hr hY M R hd hL he hκ;cases he
theorem inlF_ok{C:Cx}{inl:Inl}(hP:C.P=P)(hG:Sound P (env0 G))(hm:P.follows .mixedOrders=true)(hI:InlOK P G N dr inl):InlOK P G N dr (inlF C inl):=by
 intro yl B Ω0 Ω f n vs x Y κ L E ι γ J w1 w pr A tk a cargs ds next hY M R U hr hv hx hd hL he hκ
 unfold inlF at he
 rw[hP]at he
 split at he
 ·rename_i fn hfn
  split at he
  ·rename_i c rs hb hrs
   split at he
   ·rename_i hc
    obtain⟨hname,hlen⟩:=hc
    refine⟨⟨fn,hfn,by rw[hb];rfl,hname⟩, ?_⟩
    have hds:ds.length≤fn.ntmps:=by have:=hv.1;omega
    have Mc:=M.enter (n:=fn.ntmps) (n0:=n) hv hlen
    have Rc:RelE P {B with A:={B.A with sv:=savV fn.ntmps n a.tmps B.A.sv}} fn.ntmps w (cargs++Array.replicate (fn.ntmps-cargs.size) undef) ⟨enterS fn.ntmps ds J.s,J.m,J.c⟩:=
     ⟨w1,pr,_,tk,R.enter hr hds,U.enter fn.ntmps n a.tmps⟩
    have hYc:YlOK P G N dr (yl.push fn.ntmps) (savV fn.ntmps n a.tmps B.A.sv) fn.ntmps Ω:=YlOK.push hY fun j _=>⟨by omega,by simp only[savV,Nat.add_sub_cancel_left,Nat.sub_zero]⟩
    have fin: ∀{Ω':Raws} {κ':Sy→FT} {L':List (List D→Option D)} {E':List D},Ω.le yl.S Ω'→GoesE P B n G N dr Ω0 yl.S Ω κ' L' E' next→ ∀{e:VE} {Y2:Sy} {L2:List (List D→Option D)} {E2:List D} {ι2 γ2:Nat→Tok} {J2:St} {a2:Act} {w2:World},Mt Ω' G E2 ι2 γ2 Y2 J2→
      RelE P {B with A:={B.A with sv:=savV fn.ntmps n a.tmps B.A.sv}} fn.ntmps w2 a2.tmps J2→DM Ω Ω' a2.defers→L2.length=Y2.d→(∃pre,L2=pre++L')→(∃suf,E2=E'++suf)→
      evalFT G N (match e with| .exit _=> .bad 100032|_=>match rawRs rs Y2 with|some v=>κ' ((Y2.leave fn.ntmps).setO x v)|none=> .bad 100033) L2 E2=some dr→
      bodyPostM (wF none) 0 P fn (fun e w'=> ∃v,e= .returned v∧next (a.put x v) w') e.ex a2 w2:=by
     intro Ω' κ' L' E' hle hκ' e Y2 L2 E2 ι2 γ2 J2 a2 w2 M2 R2 hd2 hL2 hp hs he2
     have go:evalFT G N (match rawRs rs Y2 with|some v=>κ' ((Y2.leave fn.ntmps).setO x v)|none=> .bad 100033) L2 E2=some dr→LeavesInM (wF none) 0 P fn a2.tmps (fun e w'=> ∃v,e= .returned v∧next (a.put x v) w') a2.defers .returning w2:=fun he2=>by
      split at he2
      ·rename_i v hvv
       refine frame_end (S:=yl.S) M2 R2 hd2 hle fun Ω3 w3 J3 hle3 M3 R3=> ?_
       obtain⟨d0,k1,k2⟩:=rawRs_sound M3 hvv
       obtain⟨wq,prq,Aq,tkq,Rq,Uq⟩:=R3
       obtain⟨u,hu1,hu2⟩:=results_sound Rq hrs k1
       exact⟨u,hu1,u,rfl,hκ' Ω3 _ L2 E2 ι2 γ2 _ _ w3 hle3 ((M3.leave fn.ntmps).setO fun _ _=>k2) (RelE.leave Rq Uq R.size hx hu2) (by cases x<;>exact hd.mono hle3) (by rw[hL2];cases x<;>rfl) hp hs he2⟩
      ·cases he2
     cases e with
     |normal=>exact go he2
     |ret=>exact go he2
     |exit i=>cases he2
    refine callsIn_wF.1 (callsIn_of_wp_marks (F:=wF none) (n:=0) hfn hb trivial ?_)
    simp only[]at he
    split at he
    ·rename_i jh hj
     have ok:jh.1.ok Y.nv=true:=by
      split at hj
      ·cases hj
      ·exact joinS_ok (fun _=>joinHd_ok) hj
     simp only[evalFT]at he
     refine compC_sound (r:=none) (Ω0:=Ω) hP hG hm hI c (fun _=>rfl) hYc Mc.deeper Rc DM.nil (by simp[hL]) he ?_
     rintro e Ω' Y2 L2 E2 ι2 γ2 J2 a2 w2 hle M2 R2 hd2 hL2 ⟨pre,rfl⟩ ⟨suf,rfl⟩ he2
     refine fin (κ':=fun Y'=>match jh.1.mt Y' with|some p=> .next (Y'.d-(Y.d+1)) p.1|none=> .bad 100034) (L':=(fun vs=>evalFT G N (κ (jh.1.mk' Y.nv (patCnt jh.1.row) Y.d jh.2)) L (E++vs))::L) (E':=E) hle ?_ M2 R2 hd2 hL2 ⟨pre,rfl⟩ ⟨suf,rfl⟩ he2
     rintro Ω' Y' L3 E3 ι' γ' J' a' w' hle' M' R' hd' hL' ⟨pre3,rfl⟩ ⟨suf3,rfl⟩ he'
     simp only[]at he'
     split at he'
     ·rename_i p hp
      simp only[evalFT,Bz]at he'
      obtain⟨ds',h3,f',h4,h5⟩:=he'
      have hix:Y'.d-(Y.d+1)=pre3.length:=by
       simp only[List.length_append,List.length_cons,hL]at hL'
       omega
      rw[hix,Xz (Nat.le_refl _),Nat.sub_self]at h4
      simp only[List.getElem?_cons_zero,Jz]at h4
      subst h4
      have hnv:=M.nv
      obtain⟨ι3,γ3,M3⟩:=jh.1.sound M' ok hp h3 M.nv (fun i hi=>by rw[Yz (by omega)]) Y.d jh.2
      rw[evs_len h3,Hd.mt_cnt hp]at M3
      exact hκ Ω' _ _ _ ι3 γ3 J' a' w' hle' M3 R' hd' (by simp[hL,Hd.mk']) ⟨[],rfl⟩ ⟨ds',rfl⟩ h5
     ·cases he'
    ·refine compC_sound (r:=none) (Ω0:=Ω) hP hG hm hI c (fun _=>rfl) hYc Mc Rc DM.nil hL he ?_
     rintro e Ω' Y2 L2 E2 ι2 γ2 J2 a2 w2 hle M2 R2 hd2 hL2 hp hs he2
     exact fin hle hκ M2 R2 hd2 hL2 hp hs he2
   ·cases he
  ·cases he
 ·cases he
theorem compL_ok{C:Cx}(hP:C.P=P)(hG:Sound P (env0 G))(hm:P.follows .mixedOrders=true): ∀k,InlOK P G N dr (compL C k)
 |0=>fun _ _ _ _ _ _ _ _ _ he _=>by cases he
 |k+1=>inlF_ok hP hG hm (compL_ok hP hG hm k)
end
end
section
theorem ft_sound{P:Program}{C:Cx}{inl:Inl}{ks:List Nat}{G:FP}{N:Nat}(hP:C.P=P)(hG:Sound P (env0 G))(hm:P.follows .mixedOrders=true){f:Nat}(hI: ∀dr,InlOK P G N dr inl){fn:Func}{c:Code}{rs:List VRes}(h1:P.funcs[f]?=some fn)
  (h2 : (fn.name == "runtime.NumGoroutine") = false) (h3 : fn.body = some c) (h4 : fn.results.toList.mapM (dRes P fn.ntmps) = some rs) {ds : List D} {d : D} (hlen : ds.length ≤ fn.ntmps) (hn : ds.all D.noT = true)
  (he:evalFT G N (compC C inl f fn.ntmps yl0 false 0 ks c (sy0 ds.length) (kR rs)) [] ds=some d):VCr P f ds d:=by
 have hb:HasBody P f:=⟨fn,h1,by rw[h3];rfl,h2⟩
 suffices key: ∀(w:World) (pr:Prot) (cargs:Array Value),(∀b o,pr b o→b<w.heap.size)→GOK w pr→Reps w pr noTok cargs.toList ds→
   Calls P f cargs w fun e w'=> ∃v pr',e= .returned v∧Chg (fun _=>False) w w'∧(d.isOwn=false→ ∀b o,pr b o→pr' b o)∧(∀b o,pr' b o→d.isOwn=false∧pr b o∨(w.heap.size≤b∧b<w'.heap.size))∧Rep w' pr' noTok v d.bare by
  cases ho:d.isOwn with
  |false=>
   refine VCp.toR (.inr ⟨hb,fun w pr cargs k1 k2 k3=>(key w pr cargs k1 k2 k3).mono ?_⟩) ho
   rintro e w' ⟨v,pr',k1,k2,k3,k4,k5⟩
   rw[bare_of ho]at k5
   exact⟨v,pr',k1,k2,k3 ho,fun b o h=>(k4 b o h).imp And.right id,k5⟩
  |true=>
   have hn:VCn P f ds d.bare:=⟨hb,fun w pr cargs k1 k2 k3=>(key w pr cargs k1 k2 k3).mono (by
    rintro e w' ⟨v,pr',k1,k2,k3,k4,k5⟩
    exact⟨v,pr',k1,k2,fun b o h=>(k4 b o h).resolve_left (fun h=>by rw[ho]at h;cases h.1),k5⟩)⟩
   exact⟨hn.toP,fun _=>hn⟩
 intro w pr cargs hpr hg hargs
 have hY0:YlOK P G N d yl0 (⟨w,pr,noArea⟩:Base).A.sv fn.ntmps raws0:=fun h=>by cases h
 refine callsIn_wF.1 (callsIn_of_wp_marks (F:=wF none) (n:=0) h1 h3 trivial ?_)
 refine compC_sound (r:=none) (Ω0:=raws0) (Ω:=raws0) hP hG hm (hI d) c (fun _=>rfl) hY0 (mt0 hn) (initialE hpr hg hargs hlen) DM.nil rfl he ?_
 rintro e Ω' Y' L' E' ι' γ' J' a' w' hle M' R' hd' _ _ _ he'
 have fin:evalFT G N (match resX rs Y' with|some x=>FT.ret x|none=> .bad 100022) L' E'=some d→LeavesInM (wF none) 0 P fn a'.tmps (fun e w'=> ∃v pr',e= .returned v∧Chg (fun _=>False) w w'∧(d.isOwn=false→ ∀b o,pr b o→pr' b o)∧(∀b o,pr' b o→d.isOwn=false∧pr b o∨(w.heap.size≤b∧b<w'.heap.size))∧Rep w' pr' noTok v d.bare) a'.defers .returning w':=fun h'=>by
  split at h'
  ·rename_i x hx
   simp only[evalFT,Bz]at h'
   obtain⟨d0,g1,g2⟩:=h'
   split at g2
   rotate_left
   ·cases g2
   rename_i hnoT
   injection g2 with g2
   refine frame_end (S:= []) M' R' hd' hle fun Ω3 w3 J3 _ M3 R3=> ?_
   obtain⟨w1,pr1,A1,tk,R1,U⟩:=R3
   obtain⟨d1,k1,k2,k3⟩:=resX_sound M3 hx g1
   obtain⟨v,hv1,hv2⟩:=results_sound R1 h4 k1
   have lt: ∀t q b c,J3.m t=some q→tk t=some (b,c)→b<w3.heap.size:=fun t q b c hm ht=>by
    obtain⟨b1,c1,g1,g2⟩:=(R1.mem.obj t q hm).place
    rw[ht]at g1;cases g1;exact g2
   have hv3:=viewT_sound (pr':=fun b o=>pr1 b o∨blocksOf tk J3.m b) R1.mem (fun _ _ h=> .inl h) (fun _ h _=> .inr h) k2 hv2
   have hsz:=U.chg.size
   have hsz2:=R1.chg.size
   have hnew: ∀b,blocksOf tk J3.m b→w.heap.size≤b∧b<w3.heap.size:=by
    rintro b ⟨t,q,c,hm,ht⟩
    have hlt:=lt t q b c hm ht
    rcases R1.live t q b c hm ht with h|h
    ·exact⟨by have:(⟨w,pr,noArea⟩:Base).w.heap.size=w.heap.size:=rfl;omega,hlt⟩
    ·refine⟨Nat.le_of_not_lt fun hb=> ?_,hlt⟩
     exact(U.sub b hb h:False)
   have hch:Chg (fun _=>False) w w3:=U.chg.trans R1.chg fun b hb h=>(U.sub b hb h:False)
   have hd0:d0.isOwn=false:=by
    unfold D.isOwn
    split
    ·simp[D.noT,D.noTC,D.noTB]at hnoT
    ·rfl
   unfold tagN at g2
   split at g2
   ·subst g2
    exact⟨v,hv1,v,fun b o=>pr1 b o∨blocksOf tk J3.m b,rfl,hch,fun _ b o h=> .inl (U.sup b o h),fun b o h=>by
     rcases h with h|h
     ·have hlt:=R1.prlt b o h
      rcases U.inf b o h with h|h|h
      ·exact .inl ⟨hd0,h⟩
      ·exact .inr ⟨h,by omega⟩
      ·exact(show False from h).elim
     ·exact .inr (hnew b h),by rw[bare_of hd0];exact hv3⟩
   ·split at g2
    ·rename_i hn
     subst g2
     exact⟨v,hv1,v,_,rfl,hch,(fun h=>by cases h),fun b o h=> .inr (hnew b h),viewT_new R1.mem k3 hn k2 hv2⟩
    ·subst g2
     exact⟨v,hv1,v,fun b o=>pr1 b o∨blocksOf tk J3.m b,rfl,hch,fun _ b o h=> .inl (U.sup b o h),fun b o h=>by
      rcases h with h|h
      ·have hlt:=R1.prlt b o h
       rcases U.inf b o h with h|h|h
       ·exact .inl ⟨hd0,h⟩
       ·exact .inr ⟨h,by omega⟩
       ·exact(show False from h).elim
      ·exact .inr (hnew b h),by rw[bare_of hd0];exact hv3⟩
  ·cases h'
 cases e with
 |normal=>exact fin he'
 |ret=>exact fin he'
 |exit i=>cases he'
end
section
section
variable (C : Cx) (H : FP) (N : Nat)
def stepG(G:FP):FP:=fun f ds=>(H f ds).or ((compF C f).bind fun q=>if(ds.length=q.1∧ds.all D.noT=true)∧f<1000000 then evalFT G N q.2 [] ds else none)
def Gs:Nat→FP
 |0=>noG
 |k+1=>stepG C H N (Gs k)
end
def Tends{α β:Type}(g:α→Option β)(gs:Nat→α→Option β):Prop:= ∀a b,g a=some b→ ∃k0,∀k,k0≤k→gs k a=some b
section
variable {G : FP} {Gk : Nat → FP}
def GT(G:FP)(Gk:Nat→FP):Prop:= ∀f ds d,G f ds=some d→ ∃k0,∀k,k0≤k→Gk k f ds=some d
theorem callX_tends(hG:GT G Gk){fl:Bool}{f:Nat}{ds:List D}{d:D}(h:callX G fl f ds=some d): ∃k0,∀k,k0≤k→callX (Gk k) fl f ds=some d:=by
 unfold callX at h
 obtain⟨d0,h1,h2⟩:=Bz.1 h
 obtain⟨k0,hk⟩:=hG f ds d0 h1
 exact⟨k0,fun k hkk=>by unfold callX;rw[hk k hkk];exact h2⟩
theorem run_tends(hG:GT G Gk){k:XK}{ds:List D}{d:D}(h:k.run G ds=some d): ∃k0,∀j,k0≤j→k.run (Gk j) ds=some d:=by
 cases k with
 |call fl f=>exact callX_tends hG h
 |ccall fl=>
  simp only[XK.run]at h⊢
  split at h
  ·split at h
   ·rename_i hlt
    obtain⟨cs,h1,h2⟩:=Bz.1 h
    obtain⟨k0,hk⟩:=callX_tends hG h2
    exact⟨k0,fun j hj=>by rw[if_pos hlt];simp only[h1,Oz];exact hk j hj⟩
   ·cases h
  ·cases h
 |ecall k f sz=>
  simp only[XK.run]at h⊢
  split at h
  ·rename_i hc
   split at h
   ·obtain⟨r,h1,h2⟩:=Bz.1 h
    obtain⟨k0,hk⟩:=hG _ _ _ h1
    exact⟨k0,fun j hj=>by rw[if_pos hc,hk j hj];exact h2⟩
   ·cases h
  ·cases h
 |_=>exact⟨0,fun j _=>h⟩
mutual
theorem ev_tends(hG:GT G Gk){E:List D}: ∀(x:X) {d:D},X.ev G E x=some d→ ∃k0,∀k,k0≤k→X.ev (Gk k) E x=some d
 | .t i,d,h=>⟨0,fun _ _=>h⟩
 | .q e,d,h=>⟨0,fun _ _=>h⟩
 | .mk kk xs,d,h=>by
  obtain⟨ds,h1,h2⟩:=ev_mk h
  obtain⟨k1,g1⟩:=evs_tends hG xs h1
  obtain⟨k2,g2⟩:=run_tends hG h2
  exact⟨max k1 k2,fun k hk=>by simp only[X.ev,g1 k (by omega),Oz,g2 k (by omega)]⟩
 | .ite c a b,d,h=>by
  simp only[X.ev,Bz]at h
  obtain⟨v,h1,x,h2,h3⟩:=h
  obtain⟨k1,g1⟩:=ev_tends hG c h1
  cases x
  ·obtain⟨k2,g2⟩:=ev_tends hG b (by simpa using h3)
   exact⟨max k1 k2,fun k hk=>by simp only[X.ev,g1 k (by omega),Oz,h2,cond_false,g2 k (by omega)]⟩
  ·obtain⟨k2,g2⟩:=ev_tends hG a (by simpa using h3)
   exact⟨max k1 k2,fun k hk=>by simp only[X.ev,g1 k (by omega),Oz,h2,cond_true,g2 k (by omega)]⟩
theorem evs_tends(hG:GT G Gk){E:List D}: ∀(xs:List X) {ds:List D},X.evs G E xs=some ds→ ∃k0,∀k,k0≤k→X.evs (Gk k) E xs=some ds
 | [],ds,h=>⟨0,fun _ _=>h⟩
 |x::r,ds,h=>by
  simp only[X.evs,Bz,Mz]at h
  obtain⟨d,h1,ds',h2,rfl⟩:=h
  obtain⟨k1,g1⟩:=ev_tends hG x h1
  obtain⟨k2,g2⟩:=evs_tends hG r h2
  exact⟨max k1 k2,fun k hk=>by simp only[X.evs,g1 k (by omega),g2 k (by omega),Oz,Pz]⟩
end
theorem evalFT_tends(hG:GT G Gk){N:Nat}: ∀(t:FT) {L:List (List D→Option D)} {Lk:Nat→List (List D→Option D)} {E:List D} {d:D},
  (∀(j:Nat) (f:List D→Option D),L[j]?=some f→ ∃fk:Nat→List D→Option D,(∀k,(Lk k)[j]?=some (fk k))∧Tends f fk)→evalFT G N t L E=some d→ ∃k0,∀k,k0≤k→evalFT (Gk k) N t (Lk k) E=some d:=by
 intro t
 induction t with
 |ret x=>
  intro L Lk E d hL h
  simp only[evalFT,Bz]at h
  obtain⟨d0,h1,h2⟩:=h
  obtain⟨k0,g⟩:=ev_tends hG x h1
  exact⟨k0,fun k hk=>by simp only[evalFT,g k hk,Oz];exact h2⟩
 |chk xs k ih=>
  intro L Lk E d hL h
  simp only[evalFT,Bz]at h
  obtain⟨ds,h1,h2⟩:=h
  obtain⟨k1,g1⟩:=evs_tends hG xs h1
  obtain⟨k2,g2⟩:=ih hL h2
  exact⟨max k1 k2,fun k hk=>by simp only[evalFT,g1 k (by omega),Oz,g2 k (by omega)]⟩
 |lets xs k ih=>
  intro L Lk E d hL h
  simp only[evalFT,Bz]at h
  obtain⟨ds,h1,h2⟩:=h
  obtain⟨k1,g1⟩:=evs_tends hG xs h1
  obtain⟨k2,g2⟩:=ih hL h2
  exact⟨max k1 k2,fun k hk=>by simp only[evalFT,g1 k (by omega),Oz,g2 k (by omega)]⟩
 |ite c a b iha ihb=>
  intro L Lk E d hL h
  simp only[evalFT,Bz]at h
  obtain⟨v,h1,x,h2,h3⟩:=h
  obtain⟨k1,g1⟩:=ev_tends hG c h1
  cases x
  ·obtain⟨k2,g2⟩:=ihb hL (by simpa using h3)
   exact⟨max k1 k2,fun k hk=>by simp only[evalFT,g1 k (by omega),Oz,h2,cond_false,g2 k (by omega)]⟩
  ·obtain⟨k2,g2⟩:=iha hL (by simpa using h3)
   exact⟨max k1 k2,fun k hk=>by simp only[evalFT,g1 k (by omega),Oz,h2,cond_true,g2 k (by omega)]⟩
 |loop xs body ih=>
  intro L Lk E d hL h
  simp only[evalFT,Bz]at h
  obtain⟨ds,h1,h2⟩:=h
  obtain⟨k1,g1⟩:=evs_tends hG xs h1
  have key: ∀n,Tends (iter (fun rec vs=>evalFT G N body (rec::L) (E++vs)) n) (fun k=>iter (fun rec vs=>evalFT (Gk k) N body (rec::Lk k) (E++vs)) n):=by
   intro n
   induction n with
   |zero=>intro a b h;cases h
   |succ n ihn=>
    intro a b h
    simp only[iter]at h⊢
    refine ih (Lk:=fun k=>iter (fun rec vs=>evalFT (Gk k) N body (rec::Lk k) (E++vs)) n::Lk k) (fun j f hf=> ?_) h
    cases j with
    |zero=>simp at hf;subst hf;exact⟨_,fun k=>rfl,ihn⟩
    |succ j=>exact(hL j f (by simpa using hf)).imp fun fk hfk=>⟨fun k=>by simpa using hfk.1 k,hfk.2⟩
  obtain⟨k2,g2⟩:=key N ds d h2
  exact⟨max k1 k2,fun k hk=>by simp only[evalFT,g1 k (by omega),Oz];exact g2 k (by omega)⟩
 |next j xs=>
  intro L Lk E d hL h
  simp only[evalFT,Bz]at h
  obtain⟨ds,h1,f,h2,h3⟩:=h
  obtain⟨k1,g1⟩:=evs_tends hG xs h1
  obtain⟨fk,g2,g3⟩:=hL j f h2
  obtain⟨k2,g4⟩:=g3 ds d h3
  exact⟨max k1 k2,fun k hk=>by simp only[evalFT,g1 k (by omega),Oz,g2 k,g4 k (by omega)]⟩
 |jp b body ihb ih=>
  intro L Lk E d hL h
  simp only[evalFT]at h⊢
  refine ih (Lk:=fun k=>(fun vs=>evalFT (Gk k) N b (Lk k) (E++vs))::Lk k) (fun j f hf=> ?_) h
  cases j with
  |zero=>simp at hf;subst hf;exact⟨_,fun k=>rfl,fun vs d' h'=>ihb hL h'⟩
  |succ j=>exact(hL j f (by simpa using hf)).imp fun fk hfk=>⟨fun k=>by simpa using hfk.1 k,hfk.2⟩
 |st Y=>intro L Lk E d hL h;cases h
 |bad _=>intro L Lk E d hL h;cases h
end
section
variable {P : Program} {C : Cx} {H : FP} {N : Nat}
theorem Gs_sound(hP:C.P=P)(hH:Sound P (env0 H))(hm:P.follows .mixedOrders=true): ∀k,Sound P (env0 (Gs C H N k))
 |0=>⟨fun f ds d _ h=>(by cases h),fun k f ds d _ _ h=>(by cases h),fun e f ds r _ h=>(by cases h)⟩
 |k+1=>⟨fun f ds d hlt h=>(by
  have h':(H f ds).or ((compF C f).bind fun q=>if(ds.length=q.1∧ds.all D.noT=true)∧f<1000000 then evalFT (Gs C H N k) N q.2 [] ds else none)=some d:=h
  cases hh:H f ds with
  |some d0=>
   rw[hh]at h'
   cases h'
   exact hH.p f ds d hlt hh
  |none=>
   rw[hh,Option.none_or]at h'
   obtain⟨⟨n,t⟩,h1,h2⟩:=Bz.1 h'
   simp only[]at h2
   split at h2
   ·rename_i hc
    have hS:=Gs_sound hP hH hm k
    unfold compF at h1
    subst hP
    split at h1
    ·rename_i fn hfn
     split at h1
     ·rename_i c rs hb hr
      split at h1<;>cases h1
      rename_i hcc
      refine ft_sound (C:={C with rt:=f}) (inl:=compL {C with rt:=f} 8) (N:=N) (ks:=keepOf fn) rfl hS hm (fun dr=>compL_ok (C:={C with rt:=f}) rfl hS hm 8) hfn hcc.1 hb hr (by omega) hc.1.2 ?_
      rw[hc.1.1];exact h2
     ·cases h1
    ·cases h1
   ·cases h2),fun k' f ds d hlt h6 h=>(by
  have h':(H (1000000+(1000000*k'+f)) ds).or ((compF C (1000000+(1000000*k'+f))).bind fun q=>if(ds.length=q.1∧ds.all D.noT=true)∧1000000+(1000000*k'+f)<1000000 then evalFT (Gs C H N k) N q.2 [] ds else none)=some d:=h
  cases hh:H (1000000+(1000000*k'+f)) ds with
  |some d0=>
   rw[hh]at h'
   cases h'
   exact hH.e k' f ds d hlt h6 hh
  |none=>
   rw[hh,Option.none_or]at h'
   obtain⟨q,_,h2⟩:=Bz.1 h'
   rw[if_neg (by omega)]at h2
   cases h2),fun e f ds r hlt h=>(by
  obtain⟨d,hd,rfl⟩:=Mz.1 (show(Gs C H N (k+1) (1000001000000+(1000000*e+f)) ds).map _=some r from h)
  have h':(H (1000001000000+(1000000*e+f)) ds).or ((compF C (1000001000000+(1000000*e+f))).bind fun q=>if(ds.length=q.1∧ds.all D.noT=true)∧1000001000000+(1000000*e+f)<1000000 then evalFT (Gs C H N k) N q.2 [] ds else none)=some d:=hd
  cases hh:H (1000001000000+(1000000*e+f)) ds with
  |some d0=>
   rw[hh]at h'
   cases h'
   exact hH.q e f ds _ hlt (show(H (1000001000000+(1000000*e+f)) ds).map _=_ by rw[hh];rfl)
  |none=>
   rw[hh,Option.none_or]at h'
   obtain⟨q,_,h2⟩:=Bz.1 h'
   rw[if_neg (by omega)]at h2
   cases h2)⟩
theorem Gs_mono: ∀k f ds d,Gs C H N k f ds=some d→Gs C H N (k+1) f ds=some d
 |0,f,ds,d,h=>by cases h
 |k+1,f,ds,d,h=>by
  have h':(H f ds).or ((compF C f).bind fun q=>if(ds.length=q.1∧ds.all D.noT=true)∧f<1000000 then evalFT (Gs C H N k) N q.2 [] ds else none)=some d:=h
  show(H f ds).or ((compF C f).bind fun q=>if(ds.length=q.1∧ds.all D.noT=true)∧f<1000000 then evalFT (Gs C H N (k+1)) N q.2 [] ds else none)=some d
  cases hh:H f ds with
  |some d0=>rw[hh]at h';exact h'
  |none=>
   rw[hh,Option.none_or]at h'
   rw[Option.none_or]
   obtain⟨q,h1,h2⟩:=Bz.1 h'
   rw[h1]
   simp only[Oz]
   split at h2
   ·rename_i hc
    rw[if_pos hc]
    obtain⟨k0,hk⟩:=evalFT_tends (G:=Gs C H N k) (Gk:=fun _=>Gs C H N (k+1)) (fun f ds d h=>⟨0,fun _ _=>Gs_mono k f ds d h⟩) (Lk:=fun _=> []) q.2 (fun j f hf=>by simp at hf) h2
    exact hk k0 (Nat.le_refl _)
   ·cases h2
theorem Gs_le{k j:Nat}(h:k≤j){f:Nat}{ds:List D}{d:D}(hd:Gs C H N k f ds=some d):Gs C H N j f ds=some d:=by
 induction h with
 |refl=>exact hd
 |step _ ih=>exact Gs_mono _ f ds d ih
open Classical in
noncomputable def GG(C:Cx)(H:FP)(N:Nat):FP:=fun f ds=>if h: ∃d,∃k,Gs C H N k f ds=some d then some h.choose else none
theorem GG_of{k f:Nat}{ds:List D}{d:D}(h:Gs C H N k f ds=some d):GG C H N f ds=some d:=by
 have hex: ∃d,∃k,Gs C H N k f ds=some d:=⟨d,k,h⟩
 simp only[GG,dif_pos hex]
 obtain⟨j,hj⟩:=hex.choose_spec
 have h1:=Gs_le (Nat.le_max_left k j) h
 have h2:=Gs_le (Nat.le_max_right k j) hj
 rw[h1]at h2
 exact h2.symm
theorem GG_some{f:Nat}{ds:List D}{d:D}(h:GG C H N f ds=some d): ∃k,Gs C H N k f ds=some d:=by
 by_cases hex: ∃d,∃k,Gs C H N k f ds=some d
 ·simp only[GG,dif_pos hex,Jz]at h
  rw[←h];exact hex.choose_spec
 ·simp only[GG,dif_neg hex]at h;cases h
theorem GG_sound(hP:C.P=P)(hH:Sound P (env0 H))(hm:P.follows .mixedOrders=true):Sound P (env0 (GG C H N)):=
 ⟨fun f ds d hlt h=>let⟨k,hk⟩:=GG_some (show GG C H N f ds=some d from h);(Gs_sound hP hH hm k).p f ds d hlt hk,
  fun k' f ds d hlt h6 h=>let⟨k,hk⟩:=GG_some (show GG C H N (1000000+(1000000*k'+f)) ds=some d from h);(Gs_sound hP hH hm k).e k' f ds d hlt h6 hk,
  fun e f ds r hlt h=>(by
   obtain⟨d,hd,rfl⟩:=Mz.1 (show(GG C H N (1000001000000+(1000000*e+f)) ds).map _=some r from h)
   obtain⟨k,hk⟩:=GG_some hd
   exact(Gs_sound hP hH hm k).q e f ds _ hlt (show(Gs C H N k (1000001000000+(1000000*e+f)) ds).map _=_ by rw[hk];rfl))⟩
theorem GG_hand{f:Nat}{ds:List D}{d:D}(h:H f ds=some d):GG C H N f ds=some d:=
 GG_of (k:=1) (show(H f ds).or _=some d by rw[h];rfl)
theorem GG_eval{f n:Nat}{t:FT}(hc:compF C f=some (n,t)){ds:List D}{d:D}(h0:H f ds=none)(hlt:f<1000000)(hl:ds.length=n)(hn:ds.all D.noT=true)(he:evalFT (GG C H N) N t [] ds=some d):GG C H N f ds=some d:=by
 obtain⟨k0,hk⟩:=evalFT_tends (G:=GG C H N) (Gk:=fun k=>Gs C H N k) (fun f ds d h=>let⟨k,hk⟩:=GG_some h;⟨k,fun j hj=>Gs_le hj hk⟩) (Lk:=fun _=> []) t (fun j f hf=>by simp at hf) he
 refine GG_of (k:=k0+1) ?_
 show(H f ds).or ((compF C f).bind fun q=>if(ds.length=q.1∧ds.all D.noT=true)∧f<1000000 then evalFT (Gs C H N k0) N q.2 [] ds else none)=some d
 rw[h0,hc]
 simp only[Option.none_or,Oz]
 rw[if_pos ⟨⟨hl,hn⟩,hlt⟩]
 exact hk k0 (Nat.le_refl _)
end
end
section
structure CsI(G:FP)(s:Cs)(E E':List D):Prop where
 l:s.rs.length=E.length
 v: ∀(i j:Nat),s.rs[i]?=some j→E'[j]?=E[i]?
 a: ∀(e:X) (j:Nat),(e,j)∈s.av→ ∃d,X.ev G E' e=some d∧E'[j]?=some d
section
variable {G : FP} {N : Nat} {s : Cs} {E E' : List D}
theorem CsI.get(I:CsI G s E E'){i j:Nat}(h:s.rs[i]?=some j): ∃d,E[i]?=some d∧E'[j]?=some d:=by
 have hi:i<E.length:=by rw[←I.l];exact(Gz.1 h).1
 exact⟨E[i],Ez hi,(I.v i j h).trans (Ez hi)⟩
theorem CsI.more(I:CsI G s E E')(t:List D):CsI G s E (E'++t):=
 ⟨I.l,fun i j h=>by
  obtain⟨d,h1,h2⟩:=I.get h
  rw[h1,Yz (Gz.1 h2).1,h2],fun e j h=>by
  obtain⟨d,h1,h2⟩:=I.a e j h
  exact⟨d,ev_more _ _ h1,by rw[Yz (Gz.1 h2).1,h2]⟩⟩
theorem look_some: ∀{l:List (X×Nat)} {y:X} {j:Nat},lookX l y=some j→(y,j)∈l
 |(e,i)::r,y,j,h=>by
  simp only[lookX]at h
  split at h
  ·rename_i hb
   cases h
   rw[beqX_eq e y hb];exact List.mem_cons_self ..
  ·exact Cz _ (look_some h)
theorem see_ev(I:CsI G s E E'){y:X}{d:D}(h:X.ev G E' (seeX s y)=some d):X.ev G E' y=some d:=by
 unfold seeX at h
 split at h
 ·split at h
  ·rename_i j hj
   obtain⟨d',h1,h2⟩:=I.a y j (look_some hj)
   rw[h1]
   have h:E'[j]?=some d:=h
   rw[h2]at h;exact h
  ·exact h
 ·exact h
mutual
theorem abs_ev(I:CsI G s E E'): ∀(x:X) {d:D},X.ev G E' (absX s x)=some d→X.ev G E x=some d
 | .t i,d,h=>by
  simp only[absX]at h
  split at h
  ·rename_i j hj
   have h:E'[j]?=some d:=h
   rw[I.v i j hj]at h;exact h
  ·cases h
 | .q _,d,h=>h
 | .mk k xs,d,h=>by
  simp only[absX]at h
  obtain⟨ds,h1,h2⟩:=ev_mk (see_ev I h)
  simp only[X.ev,abs_evs I xs h1,Oz,h2]
 | .ite c a b,d,h=>by
  simp only[absX,X.ev,Bz]at h⊢
  obtain⟨v,h1,x,h2,h3⟩:=h
  refine⟨v,abs_ev I c h1,x,h2, ?_⟩
  cases x
  ·exact abs_ev I b h3
  ·exact abs_ev I a h3
theorem abs_evs(I:CsI G s E E'): ∀(xs:List X) {ds:List D},X.evs G E' (absXs s xs)=some ds→X.evs G E xs=some ds
 | [],ds,h=>h
 |x::r,ds,h=>by
  simp only[absXs,X.evs,Bz,Mz]at h⊢
  obtain⟨d,h1,ds',h2,rfl⟩:=h
  exact⟨d,abs_ev I x h1,ds',abs_evs I r h2,rfl⟩
end
def evP(G:FP):List X→List D→Option (List D)
 | [],E=>some E
 |x::r,E=>(X.ev G E x).bind fun d=>evP G r (E++ [d])
theorem evP_append: ∀(p q:List X) (E:List D),evP G (p++q) E=(evP G p E).bind (evP G q)
 | [],q,E=>rfl
 |x::r,q,E=>by
  simp only[List.cons_append,evP,Option.bind_assoc]
  congr 1
  funext d
  exact evP_append r q _
theorem eval_wrap{L:List (List D→Option D)}{k:FT}: ∀(p:List X) (E:List D),evalFT G N (wrapL p k) L E=(evP G p E).bind (evalFT G N k L)
 | [],E=>rfl
 |x::r,E=>by
  simp only[wrapL,evalFT,X.evs,evP]
  cases hx:X.ev G E x with
  |none=>rfl
  |some d=>simp only[Oz,Pz,eval_wrap r]
structure NamI(G:FP)(s s':Cs)(E E1 E2:List D):Prop where
 i:CsI G s' E E2
 n:s'.n=E2.length
 rs:s'.rs=s.rs
 ar:s'.ar=s.ar
 e: ∃t,E2=E1++t
theorem NamI.rfl'(I:CsI G s E E')(hn:s.n=E'.length):NamI G s s E E' E':=⟨I,hn,rfl,rfl,[],by simp⟩
theorem NamI.trans{s s1 s2:Cs}{E r0 r1 r2:List D}(h:NamI G s s1 E r0 r1)(k:NamI G s1 s2 E r1 r2):NamI G s s2 E r0 r2:=by
 obtain⟨t,rfl⟩:=h.e
 obtain⟨t',rfl⟩:=k.e
 exact⟨k.i,k.n,k.rs.trans h.rs,k.ar.trans h.ar,t++t',by simp⟩
abbrev Thr(E':List D)(y:X):Prop:= ∀j,y= .t j→ ∃d,E'[j]?=some d
theorem Thr.more{E':List D}{y:X}(h:Thr E' y)(t:List D):Thr (E'++t) y:=fun j hj=>by
 obtain⟨d,h⟩:=h j hj
 exact⟨d,by rw[Yz (Gz.1 h).1,h]⟩
mutual
theorem nam_ok: ∀(x:X) {s s':Cs} {p:List X} {y:X} {E r1 r2:List D},CsI G s E r1→s.n=r1.length→namX s x=((p,s'),y)→evP G p r1=some r2→
  NamI G s s' E r1 r2∧Thr r2 y∧isOwnX y=isOwnX x∧ ∀t d,X.ev G (r2++t) y=some d→X.ev G E x=some d
 | .t i,s,s',p,y,E,r1,r2,I,hn,h,hp=>by
  simp only[namX,Prod.mk.injEq]at h
  obtain⟨⟨rfl,rfl⟩,rfl⟩:=h
  cases hp
  refine⟨.rfl' I hn,fun j hj=> ?_, ?_,fun t d hd=>abs_ev (I.more t) (.t i) hd⟩
  ·simp only[absX]at hj
   split at hj
   ·rename_i j' hj'
    cases hj
    obtain⟨d,_,h⟩:=I.get hj'
    exact⟨d,h⟩
   ·cases hj
  ·simp only[absX];split<;>rfl
 | .q e,s,s',p,y,E,r1,r2,I,hn,h,hp=>by
  simp only[namX,Prod.mk.injEq]at h
  obtain⟨⟨rfl,rfl⟩,rfl⟩:=h
  cases hp
  exact⟨.rfl' I hn,(fun j hj=>by cases hj),rfl,fun t d hd=>hd⟩
 | .mk k xs,s,s',p,y,E,r1,r2,I,hn,h,hp=>by
  simp only[namX]at h
  cases hq:namXs s xs with
  |mk ps ys=>
   obtain⟨p1,s1⟩:=ps
   rw[hq]at h
   simp only[]at h
   have run: ∀{r:List D} {d:D},(∀ds,X.evs G r ys=some ds→X.evs G E xs=some ds)→X.ev G r (.mk k ys)=some d→X.ev G E (.mk k xs)=some d:=fun hh hd=>by
    obtain⟨ds,h1,h2⟩:=ev_mk hd
    simp only[X.ev,hh ds h1,Oz,h2]
   split at h
   ·rename_i hcall
    have hown:isOwnX (.mk k xs)=false:=by cases k<;>first|rfl|cases hcall
    split at h
    ·rename_i j hj
     simp only[Prod.mk.injEq]at h
     obtain⟨⟨rfl,rfl⟩,rfl⟩:=h
     obtain⟨h1,h2⟩:=nams_ok xs I hn hq hp
     obtain⟨d0,a1,a2⟩:=h1.i.a _ _ (look_some hj)
     refine⟨h1,fun j' hj'=>by cases hj';exact⟨d0,a2⟩,hown.symm,fun t d hd=> ?_⟩
     obtain⟨d1,b1,b2⟩:=(h1.i.more t).a _ _ (look_some hj)
     have hd:(r2++t)[j]?=some d:=hd
     rw[b2]at hd;cases hd
     exact run (h2.2 t) b1
    ·simp only[Prod.mk.injEq]at h
     obtain⟨⟨rfl,rfl⟩,rfl⟩:=h
     rw[evP_append]at hp
     obtain⟨r3,hp1,hp2⟩:=Bz.1 hp
     obtain⟨h1,h2⟩:=nams_ok xs I hn hq hp1
     simp only[evP,Bz]at hp2
     obtain⟨dc,c1,c2⟩:=hp2
     cases c2
     have hget:(r3++ [dc])[s1.n]?=some dc:=by rw[h1.n];simp
     refine⟨h1.trans ⟨⟨h1.i.l,(h1.i.more [dc]).v,fun e j hm=> ?_⟩,by simp[Cs.name,h1.n],rfl,rfl,[dc],rfl⟩,fun j hj=>by cases hj;exact⟨dc,hget⟩,hown.symm,fun t d hd=> ?_⟩
     ·simp only[Cs.name,List.mem_cons,Prod.mk.injEq]at hm
      rcases hm with⟨rfl,rfl⟩|hm
      ·exact⟨dc,ev_more _ _ c1,hget⟩
      ·exact(h1.i.more [dc]).a e j hm
     ·have hd:(r3++ [dc]++t)[s1.n]?=some d:=hd
      rw[Yz (by rw[h1.n];simp),hget]at hd
      cases hd
      exact run (fun ds he=>h2.2 [] ds (by simpa using he)) c1
   ·simp only[Prod.mk.injEq]at h
    obtain⟨⟨rfl,rfl⟩,rfl⟩:=h
    obtain⟨h1,h2⟩:=nams_ok xs I hn hq hp
    refine⟨h1,(fun j hj=>by cases hj), ?_,fun t d hd=>run (h2.2 t) hd⟩
    cases k<;>rfl
 | .ite c a b,s,s',p,y,E,r1,r2,I,hn,h,hp=>by
  simp only[namX]at h
  cases hq:namX s c with
  |mk ps c'=>
   obtain⟨p1,s1⟩:=ps
   rw[hq]at h
   simp only[Prod.mk.injEq]at h
   obtain⟨⟨rfl,rfl⟩,rfl⟩:=h
   obtain⟨h1,_,_,h2⟩:=nam_ok c I hn hq hp
   refine⟨h1,(fun j hj=>by cases hj),rfl,fun t d hd=> ?_⟩
   simp only[X.ev,Bz]at hd⊢
   obtain⟨v,g1,x,g2,g3⟩:=hd
   refine⟨v,h2 t v g1,x,g2, ?_⟩
   cases x
   ·exact abs_ev (h1.i.more t) b g3
   ·exact abs_ev (h1.i.more t) a g3
theorem nams_ok: ∀(xs:List X) {s s':Cs} {p:List X} {ys:List X} {E r1 r2:List D},CsI G s E r1→s.n=r1.length→namXs s xs=((p,s'),ys)→evP G p r1=some r2→
  NamI G s s' E r1 r2∧((∀y∈ys,Thr r2 y)∧(∀ds,newXs ys ds=newXs xs ds)∧ys.length=xs.length)∧ ∀t ds,X.evs G (r2++t) ys=some ds→X.evs G E xs=some ds
 | [],s,s',p,ys,E,r1,r2,I,hn,h,hp=>by
  simp only[namXs,Prod.mk.injEq]at h
  obtain⟨⟨rfl,rfl⟩,rfl⟩:=h
  cases hp
  exact⟨.rfl' I hn,⟨(fun y hy=>by cases hy),fun ds=>rfl,rfl⟩,fun t ds hd=>hd⟩
 |x::r,s,s',p,ys,E,r1,r2,I,hn,h,hp=>by
  simp only[namXs]at h
  cases hq:namX s x with
  |mk ps y=>
   obtain⟨p1,s1⟩:=ps
   rw[hq]at h
   simp only[]at h
   cases hq2:namXs s1 r with
   |mk ps2 zs=>
    obtain⟨p2,s2⟩:=ps2
    rw[hq2]at h
    simp only[Prod.mk.injEq]at h
    obtain⟨⟨rfl,rfl⟩,rfl⟩:=h
    rw[evP_append]at hp
    obtain⟨r3,hp1,hp2⟩:=Bz.1 hp
    obtain⟨h1,h2,h3,h4⟩:=nam_ok x I hn hq hp1
    obtain⟨k1,⟨k2,k3,k5⟩,k4⟩:=nams_ok r h1.i h1.n hq2 hp2
    obtain⟨u,rfl⟩:=k1.e
    refine⟨h1.trans k1,⟨fun z hz=> ?_,fun ds=> ?_,by simp[k5]⟩,fun t ds hd=> ?_⟩
    ·rcases List.mem_cons.1 hz with rfl|hz
     ·exact h2.more u
     ·exact k2 z hz
    ·cases ds with
     |nil=>rfl
     |cons d ds=>
      simp only[newXs,k3 ds]
      congr 1
      cases d<;>first|rfl|skip
      rename_i es
      cases es with
      |nil=>rfl
      |cons e es=>
       have own: ∀(z:X),newX z (.list (e::es))=if isOwnX z then(e::es).all fun c=>c.all D.flatC else false:=fun z=>by
        cases z with
        |mk k xs=>cases k<;>rfl
        |_=>rfl
       rw[own,own,h3]
    ·simp only[X.evs,Bz,Mz]at hd⊢
     obtain⟨d,g1,ds',g2,rfl⟩:=hd
     exact⟨d,h4 (u++t) d (by simpa using g1),ds',k4 t ds' g2,rfl⟩
end
theorem newX_own{x y:X}(h:isOwnX y=isOwnX x)(d:D):newX y d=newX x d:=by
 cases d<;>first|rfl|skip
 rename_i es
 cases es with
 |nil=>rfl
 |cons e es=>
  have own: ∀(z:X),newX z (.list (e::es))=if isOwnX z then(e::es).all fun c=>c.all D.flatC else false:=fun z=>by
   cases z with
   |mk k xs=>cases k<;>rfl
   |_=>rfl
  rw[own,own,h]
theorem nam_tag{x:X}{s s':Cs}{p:List X}{y:X}{r1 r2:List D}(I:CsI G s E r1)(hn:s.n=r1.length)(h:namX s x=((p,s'),y))(hp:evP G p r1=some r2)(d:D):tagN y d=tagN x d:=by
 obtain⟨_,_,h3,_⟩:=nam_ok x I hn h hp
 have hT:newT y d=newT x d:=by
  cases d with
  |tup ds=>
   cases x with
   |mk k xs=>
    simp only[namX]at h
    cases hq:namXs s xs with
    |mk ps ys=>
     obtain⟨p1,s1⟩:=ps
     rw[hq]at h
     simp only[]at h
     split at h
     ·rename_i hcall
      have:newT (.mk k xs) (.tup ds)=false:=by cases k<;>first|rfl|cases hcall
      rw[this]
      split at h<;>(simp only[Prod.mk.injEq]at h;obtain⟨_,rfl⟩:=h;rfl)
     ·simp only[Prod.mk.injEq]at h
      obtain⟨⟨rfl,rfl⟩,rfl⟩:=h
      obtain⟨_,⟨_,k3,_⟩,_⟩:=nams_ok xs I hn hq hp
      cases k<;>first|exact k3 ds|rfl
   |t i=>
    simp only[namX,Prod.mk.injEq,absX]at h
    obtain⟨_,rfl⟩:=h
    split<;>rfl
   |q e=>
    simp only[namX,Prod.mk.injEq]at h
    obtain⟨_,rfl⟩:=h
    rfl
   |ite c a b=>
    simp only[namX]at h
    cases hq:namX s c with
    |mk ps c'=>
     obtain⟨p1,s1⟩:=ps
     rw[hq]at h
     simp only[Prod.mk.injEq]at h
     obtain⟨_,rfl⟩:=h
     rfl
  |_=>
   have nt: ∀(z:X) (d:D),(∀ds,d≠ .tup ds)→newT z d=newX z d:=fun z d hd=>by
    unfold newT
    split
    ·exact absurd rfl (hd _)
    ·rfl
   rw[nt y _ (fun ds h=>by cases h),nt x _ (fun ds h=>by cases h),newX_own h3]
 unfold tagN
 rw[hT]
theorem filter_evs: ∀{ys:List X} {E' ds:List D},(∀y∈ys,Thr E' y)→X.evs G E' (ys.filter notT)=some ds→ ∃ds',X.evs G E' ys=some ds'
 | [],E',ds,_,_=>⟨[],rfl⟩
 |y::r,E',ds,ht,h=>by
  have one: ∀d,X.ev G E' y=some d→(∃ds',X.evs G E' r=some ds')→ ∃ds',X.evs G E' (y::r)=some ds':=fun d h1 ⟨ds',h2⟩=>⟨d::ds',by simp only[X.evs,h1,h2,Oz,Pz]⟩
  have htr: ∀y∈r,Thr E' y:=fun y hy=>ht y (Cz _ hy)
  cases hy:notT y with
  |true=>
   rw[List.filter_cons_of_pos hy]at h
   simp only[X.evs,Bz,Mz]at h
   obtain⟨d,h1,ds',h2,_⟩:=h
   exact one d h1 (filter_evs htr h2)
  |false=>
   rw[List.filter_cons_of_neg (by rw[hy];simp)]at h
   cases y with
   |t j=>obtain⟨d,hd⟩:=ht (.t j) (List.mem_cons_self ..) j rfl;exact one d hd (filter_evs htr h)
   |q e=>exact one e rfl (filter_evs htr h)
   |mk=>cases hy
   |ite=>cases hy
theorem CsI.snoc(I:CsI G s E E'){j:Nat}{d:D}(h:E'[j]?=some d):CsI G {s with rs:=s.rs++ [j]} (E++ [d]) E':=
 ⟨by simp[I.l],fun i k hk=>by
  simp only[]at hk
  by_cases hi:i<s.rs.length
  ·rw[Yz hi]at hk
   rw[Yz (by rw[←I.l];exact hi)]
   exact I.v i k hk
  ·have hl:=(Gz.1 hk).1
   simp only[List.length_append,List.length_cons,List.length_nil]at hl
   have he:i=s.rs.length:=by omega
   subst he
   rw[Xz (Nat.le_refl _),Nat.sub_self]at hk
   simp only[List.getElem?_cons_zero,Jz]at hk
   subst hk
   rw[I.l,Xz (Nat.le_refl _),Nat.sub_self,h]
   rfl,I.a⟩
theorem letsY_t(s:Cs)(j:Nat)(r:List X)(κ:Cs→FT):cse.letsY s (.t j::r) κ=cse.letsY {s with rs:=s.rs++ [j]} r κ:=by
 simp only[cse.letsY]
theorem letsY_n(s:Cs)(y:X)(hy: ∀j,y≠ .t j)(r:List X)(κ:Cs→FT):cse.letsY s (y::r) κ= .lets [y] (cse.letsY {s with rs:=s.rs++ [s.n],n:=s.n+1} r κ):=by
 cases y with
 |t j=>exact absurd rfl (hy j)
 |_=>simp only[cse.letsY]
theorem letsY_ok{L:List (List D→Option D)}{κ:Cs→FT}{d:D}: ∀(ys:List X) {s:Cs} {E E':List D},CsI G s E E'→s.n=E'.length→(∀y∈ys,Thr E' y)→evalFT G N (cse.letsY s ys κ) L E'=some d→
  ∃ds s2 E2,evalFT G N (κ s2) L E2=some d∧CsI G s2 (E++ds) E2∧s2.n=E2.length∧s2.ar=s.ar∧(∃t,E2=E'++t)∧X.evs G E2 ys=some ds
 | [],s,E,E',I,hn,_,h=>⟨[],s,E',by simpa[cse.letsY]using h,by simpa using I,hn,rfl,⟨[],by simp⟩,rfl⟩
 |y::r,s,E,E',I,hn,ht,h=>by
  have htr: ∀t:List D,∀y∈r,Thr (E'++t) y:=fun t y hy=>(ht y (Cz _ hy)).more t
  by_cases hy: ∃j,y= .t j
  ·obtain⟨j,rfl⟩:=hy
   rw[letsY_t]at h
   obtain⟨d0,h0⟩:=ht (.t j) (List.mem_cons_self ..) j rfl
   obtain⟨ds,s2,E2,k1,k2,k3,k4,⟨t,rfl⟩,k6⟩:=letsY_ok r (I.snoc h0) hn (fun y hy=>ht y (Cz _ hy)) h
   refine⟨d0::ds,s2,_,k1,by simpa using k2,k3,k4,⟨t,rfl⟩, ?_⟩
   simp only[X.evs,X.ev,k6,Pz]
   rw[Yz (Gz.1 h0).1,h0]
   rfl
  ·have hy': ∀j,y≠ .t j:=fun j e=>hy ⟨j,e⟩
   rw[letsY_n s y hy']at h
   simp only[evalFT,X.evs,Bz,Mz]at h
   obtain⟨ds0,⟨d0,g1,_,g2,rfl⟩,g3⟩:=h
   cases g2
   have hget:(E'++ [d0])[s.n]?=some d0:=by rw[hn];simp
   have I2:CsI G {s with rs:=s.rs++ [s.n],n:=s.n+1} (E++ [d0]) (E'++ [d0]):=by
    have:=(I.more [d0]).snoc hget
    exact⟨this.l,this.v,this.a⟩
   obtain⟨ds,s2,E2,k1,k2,k3,k4,⟨t,rfl⟩,k6⟩:=letsY_ok r I2 (by simp[hn]) (fun y hy=>htr [d0] y hy) g3
   refine⟨d0::ds,s2,_,k1,by simpa using k2,k3,k4,⟨d0::t,by simp⟩, ?_⟩
   simp only[X.evs,k6,Pz]
   rw[show E'++ [d0]++t=E'++(d0::t) by simp,ev_more _ _ g1]
   rfl
theorem CsI.vars(I:CsI G s E E')(hn:s.n=E'.length){vs:List D}{m:Nat}(hm:vs.length=m)(ar:List Nat):CsI G {s.vars m with ar:=ar} (E++vs) (E'++vs):=
 ⟨by simp[Cs.vars,I.l,hm],fun i j h=>by
  simp only[Cs.vars]at h
  by_cases hi:i<s.rs.length
  ·rw[Yz hi]at h
   obtain⟨d,h1,h2⟩:=I.get h
   rw[Yz (Gz.1 h2).1,Yz (Gz.1 h1).1,h1,h2]
  ·have hi:s.rs.length≤i:=by omega
   rw[Xz hi]at h
   obtain⟨h3,h4⟩:=Gz.1 h
   simp only[List.length_range']at h3
   rw[List.getElem_range']at h4
   have e1:E'.length≤j:=by omega
   rw[Xz e1,Xz (by rw[←I.l];exact hi)]
   congr 1
   rw[←I.l];omega,fun e j h=>(I.more vs).a e j h⟩
def LOK(ar:List Nat)(L L':List (List D→Option D)):Prop:= ∀(j m:Nat),ar[j]?=some m→ ∀f':List D→Option D,L'[j]?=some f'→ ∃f:List D→Option D,L[j]?=some f∧ ∀(vs:List D) (d:D),vs.length=m→f' vs=some d→f vs=some d
theorem LOK.cons{ar:List Nat}{L L':List (List D→Option D)}(h:LOK ar L L'){m:Nat}{f f':List D→Option D}(hf: ∀vs d,vs.length=m→f' vs=some d→f vs=some d):LOK (m::ar) (f::L) (f'::L'):=fun j k hj g hg=>by
 cases j with
 |zero=>
  simp only[List.getElem?_cons_zero,Jz]at hj hg
  subst hj;subst hg
  exact⟨f,rfl,hf⟩
 |succ j=>exact h j k (by simpa using hj) g (by simpa using hg)
theorem cse_ok: ∀(t:FT) {s:Cs} {E E':List D} {L L':List (List D→Option D)} {d:D},CsI G s E E'→s.n=E'.length→LOK s.ar L L'→evalFT G N (cse s t) L' E'=some d→evalFT G N t L E=some d:=by
 intro t
 induction t with
 |ret x=>
  intro s E E' L L' d I hn hL h
  simp only[cse]at h
  cases hq:namX s x with
  |mk ps y=>
   obtain⟨p,s1⟩:=ps
   rw[hq]at h
   simp only[eval_wrap,Bz]at h
   obtain⟨r2,hp,h⟩:=h
   simp only[evalFT,Bz]at h⊢
   obtain⟨d0,g1,g2⟩:=h
   refine⟨d0,(nam_ok x I hn hq hp).2.2.2 [] d0 (by simpa using g1), ?_⟩
   rw[←nam_tag I hn hq hp d0];exact g2
 |chk xs k ih=>
  intro s E E' L L' d I hn hL h
  simp only[cse]at h
  cases hq:namXs s xs with
  |mk ps ys=>
   obtain⟨p,s1⟩:=ps
   rw[hq]at h
   simp only[eval_wrap,Bz]at h
   obtain⟨r2,hp,h⟩:=h
   obtain⟨h1,⟨h2,_,_⟩,h3⟩:=nams_ok xs I hn hq hp
   rw[eval_chk,Bz]at h
   obtain⟨ds,g1,g2⟩:=h
   obtain⟨ds',g3⟩:=filter_evs h2 g1
   simp only[evalFT,h3 [] ds' (by simpa using g3),Oz]
   exact ih h1.i h1.n (by rw[h1.ar];exact hL) g2
 |lets xs k ih=>
  intro s E E' L L' d I hn hL h
  simp only[cse]at h
  cases hq:namXs s xs with
  |mk ps ys=>
   obtain⟨p,s1⟩:=ps
   rw[hq]at h
   simp only[eval_wrap,Bz]at h
   obtain⟨r2,hp,h⟩:=h
   obtain⟨h1,⟨h2,_,_⟩,h3⟩:=nams_ok xs I hn hq hp
   obtain⟨ds,s2,E2,k1,k2,k3,k4,⟨t,rfl⟩,k6⟩:=letsY_ok ys h1.i h1.n h2 h
   simp only[evalFT,h3 t ds k6,Oz]
   exact ih k2 k3 (by rw[k4,h1.ar];exact hL) k1
 |ite c a b iha ihb=>
  intro s E E' L L' d I hn hL h
  simp only[cse]at h
  cases hq:namX s c with
  |mk ps y=>
   obtain⟨p,s1⟩:=ps
   rw[hq]at h
   simp only[eval_wrap,Bz]at h
   obtain⟨r2,hp,h⟩:=h
   obtain⟨h1,_,_,h3⟩:=nam_ok c I hn hq hp
   simp only[evalFT,Bz]at h⊢
   obtain⟨v,g1,x,g2,g3⟩:=h
   refine⟨v,h3 [] v (by simpa using g1),x,g2, ?_⟩
   cases x
   ·exact ihb h1.i h1.n (by rw[h1.ar];exact hL) g3
   ·exact iha h1.i h1.n (by rw[h1.ar];exact hL) g3
 |loop xs b ih=>
  intro s E E' L L' d I hn hL h
  simp only[cse]at h
  cases hq:namXs s xs with
  |mk ps ys=>
   obtain⟨p,s1⟩:=ps
   rw[hq]at h
   simp only[eval_wrap,Bz]at h
   obtain⟨r2,hp,h⟩:=h
   obtain⟨h1,⟨_,_,h5⟩,h3⟩:=nams_ok xs I hn hq hp
   simp only[evalFT,Bz]at h⊢
   obtain⟨ds,g1,g2⟩:=h
   refine⟨ds,h3 [] ds (by simpa using g1), ?_⟩
   have hlen:=evs_len g1
   have key: ∀n vs d,vs.length=ys.length→iter (fun rec vs=>evalFT G N (cse {s1.vars ys.length with ar:=ys.length::s1.ar} b) (rec::L') (r2++vs)) n vs=some d→iter (fun rec vs=>evalFT G N b (rec::L) (E++vs)) n vs=some d:=by
    intro n
    induction n with
    |zero=>intro vs d _ h;cases h
    |succ n ihn=>
     intro vs d hv h
     simp only[iter]at h⊢
     exact ih (h1.i.vars h1.n hv _) (by simp[Cs.vars,h1.n,hv]) ((show LOK s1.ar L L' by rw[h1.ar];exact hL).cons fun vs d hv h=>ihn vs d hv h) h
   exact key N ds d hlen g2
 |next j xs=>
  intro s E E' L L' d I hn hL h
  simp only[cse]at h
  cases hq:namXs s xs with
  |mk ps ys=>
   obtain⟨p,s1⟩:=ps
   rw[hq]at h
   simp only[]at h
   split at h
   ·rename_i har
    simp only[eval_wrap,Bz]at h
    obtain⟨r2,hp,h⟩:=h
    obtain⟨h1,⟨_,_,h5⟩,h3⟩:=nams_ok xs I hn hq hp
    simp only[evalFT,Bz]at h⊢
    obtain⟨ds,g1,f',g2,g3⟩:=h
    rw[h1.ar]at har
    obtain⟨f,k1,k2⟩:=hL j _ har f' g2
    exact⟨ds,h3 [] ds (by simpa using g1),f,k1,k2 ds d (evs_len g1) g3⟩
   ·cases h
 |jp k b ihk ihb=>
  intro s E E' L L' d I hn hL h
  simp only[cse]at h
  split at h
  ·rename_i m _
   simp only[evalFT]at h⊢
   refine ihb (s:={s with ar:=m::s.ar}) ⟨I.l,I.v,I.a⟩ hn (hL.cons fun vs d hv h=> ?_) h
   exact ihk (s:=s.vars m) (I.vars hn hv s.ar) (by simp[Cs.vars,hn,hv]) hL h
  ·simp only[evalFT]at h⊢
   refine ihb (s:={s with ar:=0::s.ar}) ⟨I.l,I.v,I.a⟩ hn (hL.cons fun vs d hv h=> ?_) h
   cases h
 |st Y=>intro s E E' L L' d I hn hL h;cases h
 |bad w Y=>intro s E E' L L' d I hn hL h;cases h
theorem cseF_ok{q:Nat×FT}{ds:List D}{d:D}(hl:ds.length=q.1)(h:evalFT G N (cseF q).2 [] ds=some d):evalFT G N q.2 [] ds=some d:=by
 refine cse_ok q.2 (s:=cs0 q.1) ⟨by simp[cs0,hl],fun i j h=> ?_,fun e j h=>by cases h⟩ hl.symm (fun j m h=>by simp[cs0]at h) h
 simp only[cs0]at h
 obtain⟨h1,h2⟩:=Gz.1 h
 simp at h2
 rw[h2]
end
end
noncomputable section
def x_pk(k:PK)(ds:List D):Option D:=(k.run (env0 noG) noMem ds).bind fun d=>if d.noT then some d else none
def x_call(G:FP)(fl:Bool)(f:Nat)(ds:List D):Option D:=callX G fl f ds
def x_ccall(G:FP)(fl:Bool)(ds:List D):Option D:=match ds with
  | .clo f caps::r=>if f<1000000 then(caps.mapM (viewA noMem)).bind fun cs=>callX G fl f (r++cs)else none
  |_=>none
def x_agg(ds:List D):Option D:=if ds.all D.noTC then some (.agg ds)else none
def x_tup(ds:List D):Option D:=some (.tup ds)
def x_clo(f:Nat)(ds:List D):Option D:=if ds.all D.noTC then some (.clo f ds)else none
def x_lptr(ds:List D):Option D:=some (.lptr ds)
def x_cell(j n:Nat)(ds:List D):Option D:=match ds with
  | [d]=>if d.cells.length=n∧d.cells.all D.okC=true∧d.cells.all D.noTC=true then d.cells[j]? else none
  |_=>none
def x_okc(ds:List D):Option D:=match ds with
  | [d]=>if d.okC=true∧d.noT=true then some d else none
  |_=>none
def x_gv(w:Bool)(ds:List D):Option D:=match ds with
  | [.v (.bool b)]=>some (bv (b==w))
  | [.tup _]=>some (bv false)
  |_=>none
def x_nrm(ds:List D):Option D:=match ds with
  | [d]=>if d.noT then viewA noMem d else none
  |_=>none
def x_nrmC(ds:List D):Option D:=match ds with
  | [d]=>if d.noTC then viewC noMem 6 d else none
  |_=>none
def x_app(size:Nat)(ds:List D):Option D:=match ds with
  | [a,b]=>(lstOf a).bind fun a=>(lstOf b).bind fun b=>if rowsOK size b=true∧a.length+b.length≤maxMade then some (.list (a++b))else none
  |_=>none
def x_lit(size len:Nat)(zero:List D)(places:List (Nat×Nat))(ds:List D):Option D:=if ds.all (fun d=>d.cells.all D.okC)then(fillV zero places ds).bind fun cs=>if cs.length=len*size∧rowsOK size (chop size len (cs.map D.nz))=true then some (.list (chop size len (cs.map D.nz)))else none else none
def x_mks(size:Nat)(zero:List D)(ds:List D):Option D:=match ds with
  | [.v (.int _ l), .v (.int _ c)]=>if 0≤l∧l≤c∧c≤maxMade∧c.toNat*size≤16777216∧zero.length=size∧zero.all D.nfC=true then some (.list (List.replicate l.toNat zero))else none
  |_=>none
def x_setl(size j n:Nat)(ds:List D):Option D:=match ds with
  | [.list es, .v (.int _ i),v]=>if i<0 then none else(es[i.toNat]?).bind fun c=>if v.cells.length=n∧j+n≤size∧c.length=size∧v.cells.all D.okC=true∧v.cells.all D.nfC=true then some (.list (es.set i.toNat (putAt c j v.cells)))else none
  |_=>none
def x_take(ds:List D):Option D:=match ds with
  | [.list es, .v (.int _ k)]=>if 0≤k∧k≤es.length then some (.list (es.take k.toNat))else none
  |_=>none
def x_mget(ks:List Nat)(z:D)(ok:Bool)(ds:List D):Option D:=match ds with
  | [.list rows,k]=>(unpairR rows).bind fun es=>(mgetV ks z ok es k).bind fun d=>if d.noT then some d else none
  |_=>none
def x_mset(ks:List Nat)(ds:List D):Option D:=match ds with
  | [.list rows,k,v]=>(unpairR rows).bind fun es=>(msetV ks es k v).map fun es=> .list (pairR es)
  |_=>none
def x_rngi(n:Nat)(ds:List D):Option D:=match ds with
  | [.v (.int _ i)]=>if 0≤i∧i<n then some (.tup [])else none
  |_=>none
def x_geta(n s j m:Nat)(g:Bool)(ds:List D):Option D:=match ds with
  | [.agg xs, .v (.int _ i)]=>if 0≤i∧i<n∧j+m≤s∧n*s≤xs.length then(if g then(if((xs.drop (i.toNat*s+j)).take m).all D.noTC then some (.agg ((xs.drop (i.toNat*s+j)).take m))else none)else(xs[i.toNat*s+j]?).bind fun d=>if d.noT then some d else none)else none
  |_=>none
def x_seta(n s j m:Nat)(ds:List D):Option D:=match ds with
  | [.agg xs, .v (.int _ i),v]=>if 0≤i∧i<n∧j+m≤s∧n*s≤xs.length∧v.cells.length=m∧v.cells.all D.okC=true∧v.cells.all D.noTC=true∧xs.all D.noTC=true then some (.agg (putAt xs (i.toNat*s+j) v.cells))else none
  |_=>none
def x_ecall(G:FP)(k f sz:Nat)(ds:List D):Option D:=if(ds.set k .nil).all D.noT=true∧f<1000000 then(match ds[k]? with
  |some (.list es)=>(G (1000000+(1000000*k+f)) ds).bind fun r=>match r with
   | .tup [d, .list es']=>if d.noT=true∧es'.length=es.length∧rowsOK sz es'=true then some (.tup [d, .list es'])else none
   |_=>none
  |_=>none)else none
def x_drp(ds:List D):Option D:=match ds with
  | [.list es, .v (.int _ k)]=>if 0≤k∧k≤es.length then some (.list (es.drop k.toNat))else none
  |_=>none
def x_clr(zero:List D)(ds:List D):Option D:=match ds with
  | [.list es, .v (.int _ k)]=>if 0≤k∧k≤es.length then some (.list (es.take k.toNat++List.replicate (es.length-k.toNat) zero))else none
  |_=>none
def x_adn(ds:List D):Option D:=match ds with
  | [.v (.int _ a), .v (.int q b)]=>if 0≤a∧0≤b then some (.v (.int q (a+b)))else none
  |_=>none
def x_fmk(ds:List D):Option D:=match ds with
  | [.list rows]=>(unpairR rows).bind fun es=>if es.all (fun p=>p.1.noT&&p.2.noT)then some (.fm rows)else none
  |_=>none
def x_mapp(ks:List Nat)(sz:Nat)(ds:List D):Option D:=match ds with
  | [.list rows,k,b]=>(unpairR rows).bind fun es=>(lstOf b).bind fun b=>(mappV ks sz es k b).map fun es=> .list (pairR es)
  |_=>none
def x_own(ds:List D):Option D:=match ds with
  | [d]=>some d
  |_=>none
def x_mkl(ds:List D):Option D:=some (.list (ds.map fun d=> [d]))
def x_isc(f n:Nat)(ds:List D):Option D:=match ds with
  | [.clo g xs]=>if g=f∧xs.length=n then some (.tup [])else none
  |_=>none
def x_capc(f i n:Nat)(ds:List D):Option D:=match ds with
  | [.clo g xs]=>if g=f∧xs.length=n then(xs[i]?).bind fun d=>if d.noT then some d else none else none
  |_=>none
def runF(G:FP):XK→List D→Option D
 | .pk k=>x_pk k
 | .call fl f=>x_call G fl f
 | .ccall fl=>x_ccall G fl
 | .agg=>x_agg
 | .tup=>x_tup
 | .clo f=>x_clo f
 | .lptr=>x_lptr
 | .cell j n=>x_cell j n
 | .okc=>x_okc
 | .gv w=>x_gv w
 | .nrm=>x_nrm
 | .nrmC=>x_nrmC
 | .app size=>x_app size
 | .lit size len zero places=>x_lit size len zero places
 | .mks size zero=>x_mks size zero
 | .setl size j n=>x_setl size j n
 | .take=>x_take
 | .mget ks z ok=>x_mget ks z ok
 | .mset ks=>x_mset ks
 | .rngi n=>x_rngi n
 | .geta n s j m g=>x_geta n s j m g
 | .seta n s j m=>x_seta n s j m
 | .ecall k f sz=>x_ecall G k f sz
 | .drp=>x_drp
 | .clr zero=>x_clr zero
 | .adn=>x_adn
 | .fmk=>x_fmk
 | .mapp ks sz=>x_mapp ks sz
 | .own=>x_own
 | .mkl=>x_mkl
 | .isc f n=>x_isc f n
 | .capc f i n=>x_capc f i n
theorem runF_eq(G:FP)(k:XK)(ds:List D):runF G k ds=k.run G ds:=by cases k<;>rfl
def nth(l:List D)(i:Nat):Option D:= @Nat.rec (fun _=>List D→Option D) (fun l=>l.casesOn none fun a _=>some a) (fun _ ih l=>l.casesOn none fun _ r=>ih r) i l
theorem nth_eq: ∀(i:Nat) (l:List D),nth l i=l[i]?
 |0,[]=>rfl
 |0,_::_=>rfl
 |_+1,[]=>rfl
 |i+1,_::r=>nth_eq i r
def evx(G:FP)(x:X):List D→Option D:=
 @X.rec (fun _=>List D→Option D) (fun _=>List D→Option (List D)) (fun i E=>nth E i) (fun d _=>some d) (fun k _ ih E=>(ih E).bind (runF G k))
  (fun _ _ _ hc ha hb E=>(hc E).bind fun v=>v.asBool.bind fun x=>bif x then ha E else hb E) (fun _=>some []) (fun _ _ hx hr E=>(hx E).bind fun d=>(hr E).bind fun ds=>some (d::ds)) x
def evxs(G:FP)(xs:List X):List D→Option (List D):=
 @X.rec_1 (fun _=>List D→Option D) (fun _=>List D→Option (List D)) (fun i E=>nth E i) (fun d _=>some d) (fun k _ ih E=>(ih E).bind (runF G k))
  (fun _ _ _ hc ha hb E=>(hc E).bind fun v=>v.asBool.bind fun x=>bif x then ha E else hb E) (fun _=>some []) (fun _ _ hx hr E=>(hx E).bind fun d=>(hr E).bind fun ds=>some (d::ds)) xs
mutual
theorem evx_eq(G:FP)(E:List D): ∀(x:X),evx G x E=X.ev G E x
 | .t i=>nth_eq i E
 | .q _=>rfl
 | .mk k xs=>by
  show(evxs G xs E).bind (runF G k)=_
  rw[evxs_eq G E xs]
  simp only[X.ev]
  congr 1
  funext ds
  exact runF_eq G k ds
 | .ite c a b=>by
  show(evx G c E).bind _=_
  rw[evx_eq G E c]
  simp only[X.ev]
  congr 1
  funext v
  congr 1
  funext x
  cases x
  ·exact evx_eq G E b
  ·exact evx_eq G E a
theorem evxs_eq(G:FP)(E:List D): ∀(xs:List X),evxs G xs E=X.evs G E xs
 | []=>rfl
 |x::r=>by
  show(evx G x E).bind (fun d=>(evxs G r E).bind fun ds=>some (d::ds))=_
  rw[evx_eq G E x,evxs_eq G E r]
  simp only[X.evs]
  congr 1
  funext d
  cases X.evs G E r<;>rfl
end
def evf(G:FP)(N:Nat)(t:FT):List (List D→Option D)→List D→Option D:=
 @FT.rec (fun _=>List (List D→Option D)→List D→Option D)
  (fun x _ E=>(evx G x E).bind fun d=>bif d.noT then some (tagN x d)else none)
  (fun xs _ ih L E=>(evxs G xs E).bind fun _=>ih L E)
  (fun xs _ ih L E=>(evxs G xs E).bind fun ds=>ih L (E++ds))
  (fun c _ _ ha hb L E=>(evx G c E).bind fun v=>v.asBool.bind fun x=>bif x then ha L E else hb L E)
  (fun xs _ ih L E=>(evxs G xs E).bind fun ds=>iter (fun rec vs=>ih (rec::L) (E++vs)) N ds)
  (fun j xs L E=>(evxs G xs E).bind fun ds=>(L[j]?).bind fun f=>f ds)
  (fun _ _ hk hb L E=>hb ((fun vs=>hk L (E++vs))::L) E)
  (fun _ _ _=>none) (fun _ _ _ _=>none) t
theorem evf_eq(G:FP)(N:Nat): ∀(t:FT) (L:List (List D→Option D)) (E:List D),evf G N t L E=evalFT G N t L E:=by
 intro t
 induction t with
 |ret x=>
  intro L E
  show(evx G x E).bind _=_
  rw[evx_eq]
  simp only[evalFT]
  congr 1
  funext d
  cases d.noT<;>rfl
 |chk xs k ih=>
  intro L E
  show(evxs G xs E).bind (fun _=>evf G N k L E)=_
  simp only[evxs_eq,ih,evalFT]
 |lets xs k ih=>
  intro L E
  show(evxs G xs E).bind (fun ds=>evf G N k L (E++ds))=_
  simp only[evxs_eq,ih,evalFT]
 |ite c a b iha ihb=>
  intro L E
  show(evx G c E).bind (fun v=>v.asBool.bind fun x=>bif x then evf G N a L E else evf G N b L E)=_
  simp only[evx_eq,iha,ihb,evalFT]
 |loop xs k ih=>
  intro L E
  show(evxs G xs E).bind (fun ds=>iter (fun rec vs=>evf G N k (rec::L) (E++vs)) N ds)=_
  simp only[evxs_eq,ih,evalFT]
 |next j xs=>
  intro L E
  show(evxs G xs E).bind _=_
  simp only[evxs_eq,evalFT]
 |jp k b ihk ihb=>
  intro L E
  show evf G N b ((fun vs=>evf G N k L (E++vs))::L) E=_
  simp only[ihk,ihb,evalFT]
 |st Y=>intro L E;rfl
 |bad w Y=>intro L E;rfl
def evG(T:Nat→Option (Nat×FT))(H:FP)(N k:Nat):FP:=
 @Nat.rec (fun _=>FP) (fun _ _=>none) (fun _ ih f ds=>(H f ds).casesOn ((T f).bind fun q=>bif Nat.beq ds.length q.1&&ds.all D.noT&&Nat.blt f 1000000 then evf ih N q.2 [] ds else none) some) k
end
section
def beqFT:FT→FT→Bool
 | .ret x, .ret y=>beqX x y
 | .chk xs k, .chk ys l=>beqXs xs ys&&beqFT k l
 | .lets xs k, .lets ys l=>beqXs xs ys&&beqFT k l
 | .ite c a b, .ite c' a' b'=>beqX c c'&&(beqFT a a'&&beqFT b b')
 | .loop xs k, .loop ys l=>beqXs xs ys&&beqFT k l
 | .next i xs, .next j ys=>Nat.beq i j&&beqXs xs ys
 | .jp a b, .jp a' b'=>beqFT a a'&&beqFT b b'
 | .bad w none, .bad w' none=>Nat.beq w w'
 |_,_=>false
theorem beqFT_eq: ∀(a b:FT),beqFT a b=true→a=b
 | .ret x,b,h=>by cases b<;>simp[beqFT]at h;rw[beqX_eq _ _ h]
 | .chk xs k,b,h=>by cases b<;>simp[beqFT]at h;rw[beqXs_eq _ _ h.1,beqFT_eq _ _ h.2]
 | .lets xs k,b,h=>by cases b<;>simp[beqFT]at h;rw[beqXs_eq _ _ h.1,beqFT_eq _ _ h.2]
 | .ite c x y,b,h=>by cases b<;>simp[beqFT]at h;rw[beqX_eq _ _ h.1,beqFT_eq _ _ h.2.1,beqFT_eq _ _ h.2.2]
 | .loop xs k,b,h=>by cases b<;>simp[beqFT]at h;rw[beqXs_eq _ _ h.1,beqFT_eq _ _ h.2]
 | .next i xs,b,h=>by cases b<;>simp[beqFT]at h;rw[h.1,beqXs_eq _ _ h.2]
 | .jp x y,b,h=>by cases b<;>simp[beqFT]at h;rw[beqFT_eq _ _ h.1,beqFT_eq _ _ h.2]
 | .st Y,b,h=>by cases b<;>simp[beqFT]at h
 | .bad w o,b,h=>by
  cases o with
  |some Y=>cases b<;>simp[beqFT]at h
  |none=>
   cases b with
   |bad w' o'=>
    cases o' with
    |some Y=>simp[beqFT]at h
    |none=>simp[beqFT]at h;rw[h]
   |_=>simp[beqFT]at h
def okF(C:Cx)(f n:Nat)(t:FT):Bool:=match compF C f with
 |some q=>Nat.beq q.1 n&&beqFT (cse (cs0 q.1) q.2) t
 |none=>false
def OKF(C:Cx)(f n:Nat)(t:FT):Prop:= ∃t0,compF C f=some (n,t0)∧cse (cs0 n) t0=t
theorem okF_eq{C:Cx}{f n:Nat}{t:FT}(h:okF C f n t=true):OKF C f n t:=by
 unfold okF at h
 split at h
 ·rename_i q hq
  obtain⟨m,t0⟩:=q
  simp only[Az]at h
  obtain rfl:=Nat.eq_of_beq_eq_true h.1
  exact⟨t0,hq,beqFT_eq _ _ h.2⟩
 ·cases h
inductive Tr where
 |no
 |lf (f n:Nat) (t:FT)
 |nd (m:Nat) (a b:Tr)
noncomputable def Tr.get(r:Tr)(f:Nat):Option (Nat×FT):=
 @Tr.rec (fun _=>Option (Nat×FT)) none (fun g n t=>bif Nat.beq f g then some (n,t)else none) (fun m _ _ a b=>bif Nat.blt f m then a else b) r
def Tr.All(C:Cx):Tr→Prop
 | .no=>True
 | .lf f n t=>OKF C f n t
 | .nd _ a b=>a.All C∧b.All C
theorem Tr.get_ok{C:Cx}{f n:Nat}{t:FT}: ∀{r:Tr},r.All C→r.get f=some (n,t)→OKF C f n t
 | .no,_,h=>by cases h
 | .lf g m u,ha,h=>by
  have h:(bif Nat.beq f g then some (m,u)else none)=some (n,t):=h
  cases hb:Nat.beq f g with
  |true=>rw[hb]at h;cases h;rw[Nat.eq_of_beq_eq_true hb];exact ha
  |false=>rw[hb]at h;cases h
 | .nd m a b,ha,h=>by
  have h:(bif Nat.blt f m then a.get f else b.get f)=some (n,t):=h
  cases hb:Nat.blt f m with
  |true=>rw[hb]at h;exact get_ok ha.1 h
  |false=>rw[hb]at h;exact get_ok ha.2 h
theorem evG_Gs{C:Cx}{H:FP}{N:Nat}{r:Tr}(hr:r.All C): ∀(k f:Nat) (ds:List D) (d:D),evG r.get H N k f ds=some d→Gs C H N k f ds=some d
 |0,f,ds,d,h=>by cases h
 |k+1,f,ds,d,h=>by
  show(H f ds).or _=some d
  cases hh:H f ds with
  |some d0=>
   have h:(H f ds).casesOn ((r.get f).bind fun q=>bif Nat.beq ds.length q.1&&ds.all D.noT&&Nat.blt f 1000000 then evf (evG r.get H N k) N q.2 [] ds else none) some=some d:=h
   rw[hh]at h
   exact h
  |none=>
   have h:(H f ds).casesOn ((r.get f).bind fun q=>bif Nat.beq ds.length q.1&&ds.all D.noT&&Nat.blt f 1000000 then evf (evG r.get H N k) N q.2 [] ds else none) some=some d:=h
   rw[hh]at h
   obtain⟨⟨n,t⟩,h1,h2⟩:=Bz.1 (show((r.get f).bind fun q=>bif Nat.beq ds.length q.1&&ds.all D.noT&&Nat.blt f 1000000 then evf (evG r.get H N k) N q.2 [] ds else none)=some d from h)
   simp only[]at h2
   cases hc:(Nat.beq ds.length n&&ds.all D.noT&&Nat.blt f 1000000)with
   |false=>rw[hc]at h2;cases h2
   |true=>
    rw[hc]at h2
    simp only[Az]at hc
    obtain⟨⟨c1,c2⟩,c3⟩:=hc
    obtain rfl:=Nat.eq_of_beq_eq_true c1
    have c3:f<1000000:=by simpa[Nat.blt_eq]using c3
    obtain⟨t0,k1,k2⟩:=Tr.get_ok hr h1
    rw[Option.none_or,k1,Oz]
    rw[if_pos ⟨⟨rfl,c2⟩,c3⟩]
    have h2:evf (evG r.get H N k) N t [] ds=some d:=h2
    rw[evf_eq]at h2
    obtain⟨k0,hk⟩:=evalFT_tends (G:=evG r.get H N k) (Gk:=fun _=>Gs C H N k) (fun f ds d h=>⟨0,fun _ _=>evG_Gs hr k f ds d h⟩) (Lk:=fun _=> []) t (fun j f hf=>by simp at hf) h2
    exact cseF_ok (q:=(ds.length,t0)) rfl (by rw[←k2]at hk;exact hk k0 (Nat.le_refl _))
structure Known where
 ds:List D
 r:D
abbrev KT:=List (Nat×List Known)
def KT.OK(P:Program)(l:KT):Prop:= ∀p∈l,∀e∈p.2,p.1<1000000∧VCr P p.1 e.ds e.r
theorem KT.OK.append{P:Program}{l m:KT}(h:l.OK P)(k:m.OK P):KT.OK P (l++m):=fun p hp=>(List.mem_append.1 hp).elim (h p) (k p)
end
end Go.Proofs.YtkcfpgaepmllhaaGreatDoor
