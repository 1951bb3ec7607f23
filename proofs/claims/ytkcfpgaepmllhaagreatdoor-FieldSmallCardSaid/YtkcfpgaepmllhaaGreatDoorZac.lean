/- Part of the proof: symbolic execution of the program, its soundness, and the closing lemmas. No condition. -/
import Derived.Test.YtkcfpgaepmllhaaGreatDoorZab
import Derived.RangeFuncRecord
set_option linter.unusedVariables false
set_option linter.unusedSimpArgs false
set_option linter.constructorNameAsVariable false
namespace Go.Proofs.YtkcfpgaepmllhaaGreatDoor
open Go.RowKit
section
variable {Ω : Raws} {G : FP} {ρ : List D} {ι γ : Nat→Tok} {Y : Sy} {σ : St}
theorem app_run {size : Nat} {a b : D} {d : D} (h : (XK.app size).run G [a,b] = some d) : ∃ x y,lstOf a = some x∧lstOf b = some y∧rowsOK size y = true∧x.length + y.length≤maxMade∧d = .list (x ++ y):=by
  simp only [XK.run,Option.bind_eq_some_iff] at h
  obtain ⟨x,h1,y,h2,h3⟩:=h
  split at h3 <;> cases h3
  rename_i hc
  exact ⟨x,y,h1,h2,hc.1,hc.2,rfl⟩
theorem rowsOK_append {size : Nat} {a b : List (List D)} (h : rowsOK size a = true) (k : rowsOK size b = true) : rowsOK size (a ++ b) = true:=by
  simp only [rowsOK,List.all_append,Bool.and_eq_true] at *
  exact ⟨h,k⟩
theorem VRs_cells {h : List (Nat × SO)} {N : Nat} {e : X} {ds : List D} (he : X.ev G ρ e = some (.agg ds)) (hl : ds.length = N) (hn : ds.all D.noTC = true) : VRs G ρ ι h (cellsOfX N e) ds:=by
  refine ⟨by simp [cellsOfX,hl],fun i v c hv hc=>?_⟩
  have hi:=(List.getElem?_eq_some_iff.1 hc).1
  simp only [cellsOfX,List.getElem?_map,List.getElem?_range (show i < N by omega),Option.map_some,Option.some.injEq] at hv
  subst hv
  have hok : ds.all D.okC = true:=List.all_eq_true.2 fun d hd=>by
    have:=List.all_eq_true.1 hn d hd
    cases d <;> first | rfl | cases this
  refine .x ?_ (noTC_noT (List.all_eq_true.1 hn _ (List.mem_of_getElem? hc)))
  simp only [X.ev,X.evs,he,Option.bind_some,Option.map_some,XK.run]
  exact (if_pos ⟨hl,hok,hn⟩).trans hc
theorem putAt_all {p : D→Bool} {xs ds : List D} {o : Nat} (h : xs.all p = true) (k : ds.all p = true) : (putAt xs o ds).all p = true:=by
  simp only [putAt,List.all_append,Bool.and_eq_true]
  exact ⟨⟨List.all_eq_true.2 fun d hd=>List.all_eq_true.1 h d (List.mem_of_mem_take hd),k⟩,List.all_eq_true.2 fun d hd=>List.all_eq_true.1 h d (List.mem_of_mem_drop hd)⟩
theorem Mt.own_ne (M : Mt Ω G ρ ι γ Y σ) {n : Nat} {o : SO} (hf : find Y.h n = some o) {q : OE} (H : Owned Y.h ι γ σ q) : q.u ≠ ι n:=fun e=>by
  obtain ⟨_,_,_,h,_⟩:=H.mem
  exact h n o hf e.symm
theorem own_struck {q : OE} {g : Tok} {k : Nat} {e : Nat} (h : σ.m q.u = some (.row q.g e q.es)) (hg : q.g ≠ g) : HO.struck g k (σ.m q.u) = σ.m q.u:=by
  rw [h]; simp only [HO.struck]; rw [if_neg fun hh=>hg hh.1]
theorem Mt.wbox (M : Mt Ω G ρ ι γ Y σ) {m o : Nat} {us vs : List SV} {xs ds : List D} (hf : find Y.h m = some (.box us)) (k1 : ι m ≠ []) (k2 : σ.m (ι m) = some (.box xs)) (k3 : VRs G ρ ι Y.h us xs) (hv : VRs G ρ ι Y.h vs ds) (ho : o + vs.length≤us.length) :
    Mt Ω G ρ ι γ { Y with h:=setA m (.box (us.take o ++ vs ++ us.drop (o + vs.length))) Y.h } (σ.put (ι m) (some (.box (putAt xs o ds)))):=by
  refine M.write (o:=.box us) (q:=.box (putAt xs o ds)) hf k1 (M.wf.put (by rw [k2]; simp)) rfl rfl (by simp [St.put]) (fun k o' hk hfk hik=>?_) (fun t q h hne=>by simp only [St.put,if_neg hne]; exact h) (fun q h=>by rw [k2] at h; cases h) (by simp only [SO.like,List.length_append,List.length_take,List.length_drop]; omega) (fun q hq=>by simp only [St.put,if_neg (M.own_ne hf hq)]) ⟨_,rfl,putAt_VRs k3 hv⟩
  have : ι k ≠ ι m:=fun e=>hk (M.inj k m _ _ hfk hf e hik)
  simp [St.put,this]
theorem symStore_sound (M : Mt Ω G ρ ι γ Y σ) {n : Nat} {g : Bool} {va vv : SV} {da dv : D} {Y' : Sy} {O : List X} (ha : VR G ρ ι Y.h va da) (hvv : VR G ρ ι Y.h vv dv) (hs : symStore n g va vv Y = some (Y',O)) (hO : ∀ e ∈ O,∃ d,X.ev G ρ e = some d) :
    ∃ σ',storeV n da dv σ = some σ'∧Mt Ω G ρ ι γ Y' σ':=by
  unfold symStore at hs
  split at hs
  · rename_i m o
    split at hs
    · rename_i us hf
      rw [Option.bind_eq_some_iff] at hs
      obtain ⟨⟨vs,O'⟩,hc,hs⟩:=hs
      split at hs
      · rename_i ho
        cases hs
        obtain ⟨h1,h2,h3⟩:=cellsS_sound hvv hc hO
        obtain ⟨xs,k1,k2,k3⟩:=M.box m us hf
        have hvl : vs.length = n:=by rw [h3.1,h1]
        cases ha
        refine ⟨_,by simp only [storeV,k2]; rw [if_pos ⟨h1,by rw [← k3.1]; exact ho,h2⟩],?_⟩
        have:=M.wbox (o:=o) hf k1 k2 k3 h3 (by omega)
        rw [hvl] at this; exact this
      · cases hs
    · cases hs
  · rename_i m o
    split at hs
    · rename_i us hf
      rw [Option.bind_eq_some_iff] at hs
      obtain ⟨⟨vs,O'⟩,hc,hs⟩:=hs
      split at hs
      · rename_i ho
        cases hs
        obtain ⟨h1,h2,h3⟩:=cellsS_sound hvv hc hO
        obtain ⟨xs,k1,k2,k3⟩:=M.box m us hf
        have hvl : vs.length = n:=by rw [h3.1,h1]
        cases ha
        refine ⟨_,by simp only [storeV,k2]; rw [if_pos ⟨trivial,h1,by rw [← k3.1]; omega,h2⟩],?_⟩
        have:=M.wbox (o:=o) hf k1 k2 k3 h3 (by omega)
        rw [hvl] at this; exact this
      · cases hs
    · cases hs
  · rename_i m o c s i j
    split at hs
    · rename_i us hf
      simp only [Option.bind_eq_some_iff] at hs
      obtain ⟨xs,hx,x,hxv,hs⟩:=hs
      split at hs
      · rename_i ho
        cases hs
        obtain ⟨d',hd'⟩:=hO _ (List.mem_singleton.2 rfl)
        obtain ⟨ds0,a1,a2⟩:=ev_mk hd'
        simp only [X.evs,Option.bind_eq_some_iff,Option.map_eq_some_iff] at a1
        obtain ⟨dc,b1,r1,⟨di,b2,r2,⟨dx,b3,r3,b4,rfl⟩,rfl⟩,rfl⟩:=a1
        cases b4
        obtain ⟨zs,k1,k2,k3⟩:=M.box m us hf
        cases ha with
        | dp hf2 hiv h0 hz hl=>
          rename_i z
          rw [hiv] at b2; cases b2
          obtain ⟨ws,c1,c2⟩:=ev_mk b1
          simp only [XK.run] at c2
          split at c2 <;> cases c2
          have hsub:=(k3.drop o).take (c * s)
          obtain rfl:=asXs_sound hsub hx c1
          obtain rfl:=asX_sound hvv hxv b3
          have hkl:=k3.1
          simp only [XK.run] at a2
          split at a2
          · rename_i hcond
            cases a2
            obtain ⟨_,_,q3,q4,q5,q6,q7,q8⟩:=hcond
            have hzs : z.toNat * s + s≤c * s:=by
              have : (z.toNat + 1) * s≤c * s:=Nat.mul_le_mul_right _ (by omega)
              rw [Nat.add_mul] at this; omega
            have hsl : ((zs.drop o).take (c * s)).length = c * s:=by simp; omega
            have hpl : (putAt ((zs.drop o).take (c * s)) (z.toNat * s + j) dx.cells).length = c * s:=by rw [putAt_length (by omega)]; exact hsl
            have hcells:=VRs_cells (ι:=ι) (h:=Y.h) hd' hpl (putAt_all q8 q7)
            have hcl : (cellsOfX (c * s) (.mk (.seta c s j n) [.mk .agg xs,i,x])).length = c * s:=by simp [cellsOfX]
            have:=M.wbox (o:=o) hf k1 k2 k3 hcells (by rw [hcl]; exact ho)
            rw [hcl] at this
            refine ⟨_,?_,this⟩
            simp only [storeV,k2]
            rw [if_pos ⟨q5,by omega,q6⟩]
            congr 3
            refine congrArg HO.box (List.ext_getElem? fun p=>?_)
            rw [putAt_get (show o + z.toNat * s + j + dx.cells.length≤zs.length by omega),putAt_get (show o + (putAt ((zs.drop o).take (c * s)) (z.toNat * s + j) dx.cells).length≤zs.length by rw [hpl]; omega),hpl]
            by_cases hp : o≤p∧p < o + c * s
            · rw [if_pos hp,putAt_get (by omega)]
              by_cases hp2 : o + z.toNat * s + j≤p∧p < o + z.toNat * s + j + dx.cells.length
              · rw [if_pos hp2,if_pos (by omega)]
                congr 1; omega
              · rw [if_neg hp2,if_neg (by omega),List.getElem?_take_of_lt (by omega),List.getElem?_drop]
                congr 1; omega
            · rw [if_neg hp,if_neg (by omega)]
          · cases a2
      · cases hs
    · cases hs
  · rename_i m s i j
    split at hs
    · rename_i t sz c hf
      split at hs
      · rename_i hss
        subst hss
        obtain ⟨xe,hx,he⟩:=Option.map_eq_some_iff.1 hs
        cases he
        obtain ⟨d',hd'⟩:=hO _ (List.mem_singleton.2 rfl)
        obtain ⟨ds,a1,a2⟩:=ev_mk hd'
        simp only [X.evs,Option.bind_eq_some_iff,Option.map_eq_some_iff] at a1
        obtain ⟨dc,b1,r1,⟨di,b2,r2,⟨dx,b3,r3,b4,rfl⟩,rfl⟩,rfl⟩:=a1
        cases b4
        obtain ⟨es,k1,k2,k3⟩:=M.lst _ _ _ _ hf
        rw [k1] at b1; cases b1
        cases ha with
        | ep g1 g2 g3 g4 g5 g6=>
          rw [hf] at g1; cases g1
          rw [k1] at g2; cases g2
          rename_i kd z
          rw [g4] at b2; cases b2
          rcases k3 with ⟨k3,_⟩ | ⟨_,k3⟩
          · exact absurd k3 g3
          · have hv:=asX_sound hvv hx b3
            subst hv
            simp only [XK.run] at a2
            rw [if_neg (by omega),Option.bind_eq_some_iff] at a2
            obtain ⟨cc,c1,c2⟩:=a2
            split at c2
            · rename_i hcc
              cases c2
              obtain ⟨q1,q2,q3,q4,q5⟩:=hcc
              have hlen : cc.length = sz:=q3
              refine ⟨(σ.strike (γ m) z.toNat).put (ι m) (some (.row (γ m) t (es.set z.toNat (putAt cc j dx.cells)))),?_,?_⟩
              · simp only [storeV,k3,c1,Option.bind_some]
                rw [if_pos ⟨q1,q2,q3,q4⟩]
              · refine M.write (o:=.lst t sz c) (q:=.row (γ m) t (es.set z.toNat (putAt cc j dx.cells))) hf g3 ?_ rfl rfl (by simp [St.put]) (fun k o' hk hfk hik=>?_) (fun t q h hne=>by simp only [St.put,if_neg hne,St.strike]; rw [h]; rfl) (fun q h=>by rw [k3] at h; cases h) ⟨rfl,rfl,fun es' he'=>⟨_,hd',by rw [k1] at he'; cases he'; simp⟩⟩ (fun q hq=>by obtain ⟨_,p1,_,_,p4,_⟩:=hq.mem; simp only [St.put,if_neg (M.own_ne hf hq),St.strike]; exact own_struck p1 (Ne.symm (p4 m _ _ _ hf g3))) ⟨_,hd',?_,rfl⟩
                · intro x k r hkk
                  have hne : (x + 1) :: k :: r ≠ ι m:=fun e=>by
                    have:=M.wf x k r hkk
                    rw [e,k3] at this; cases this
                  simp only [St.put,if_neg hne]
                  exact M.wf.strike _ _ x k r hkk
                · have hne : ι k ≠ ι m:=fun e=>hk (M.inj k m _ _ hfk hf e hik)
                  simp only [St.put,if_neg hne,St.strike]
                  cases o' with
                  | box vs'=>obtain ⟨ds',_,e1,_⟩:=M.box k vs' hfk; rw [e1]; rfl
                  | map c'=>obtain ⟨_,_,_,e1⟩:=M.mpo k c' hfk; rw [e1]; rfl
                  | mpl e' sz' c'=>obtain ⟨_,_,_,e1,_⟩:=M.own k e' sz' c' hfk; rw [e1]; rfl
                  | raw kk=>obtain ⟨_,_,e1,_⟩:=M.rwo k kk hfk; rw [e1]; rfl
                  | lst e' sz' c'=>
                    obtain ⟨es',_,_,e1⟩:=M.lst k _ _ _ hfk
                    rcases e1 with ⟨e1,_⟩ | ⟨_,e1⟩
                    · exact absurd e1 hik
                    · rw [e1]
                      simp only [HO.struck]
                      rw [if_neg fun hh=>hk (M.grp k m _ _ _ _ _ _ hfk hf hik g3 hh.1)]
                · refine List.all_eq_true.2 fun q hq=>?_
                  rcases List.mem_or_eq_of_mem_set hq with hq | rfl
                  · exact List.all_eq_true.1 k2 q hq
                  · have hl : (putAt cc j dx.cells).length = cc.length:=putAt_length (by omega)
                    have hccok:=List.all_eq_true.1 k2 cc (List.mem_of_getElem? c1)
                    simp only [Bool.and_eq_true,List.all_eq_true] at hccok q5
                    simp only [Bool.and_eq_true,List.all_eq_true,beq_iff_eq]
                    refine ⟨by rw [hl]; exact q3,fun z hz=>?_⟩
                    unfold putAt at hz
                    simp only [List.mem_append] at hz
                    rcases hz with (hz | hz) | hz
                    · exact hccok.2 z (List.mem_of_mem_take hz)
                    · exact q5 z hz
                    · exact hccok.2 z (List.mem_of_mem_drop hz)
            · cases c2
      · cases hs
    · cases hs
  · cases hs
theorem symApp_sound (M1 : Mt Ω G ρ ι γ Y σ) {x t size nm : Nat} (F : Y.free nm) {va vb : SV} {da db : D} {Y' : Sy} {O : List X} (ha : VR G ρ ι Y.h va da) (hb : VR G ρ ι Y.h vb db) (hs : symApp x t size va vb Y nm = some (Y',O)) (hO : ∀ e ∈ O,∃ d,X.ev G ρ e = some d) :
    ∃ σ' ι' γ',appV x t size da db σ = some σ'∧Mt Ω G ρ ι' γ' Y' σ':=by
  unfold symApp at hs
  rw [Option.bind_eq_some_iff] at hs
  obtain ⟨cb,hcb,hs⟩:=hs
  split at hs
  · cases hs
    obtain ⟨h1,_⟩:=ha.x_inv
    obtain rfl : da = .nil:=(Option.some.inj (show some D.nil = some da from h1)).symm
    obtain ⟨d',hd'⟩:=hO _ (List.mem_singleton.2 rfl)
    obtain ⟨ds,a1,a2⟩:=ev_mk hd'
    obtain ⟨p,q,rfl,a3,a4⟩:=evs2 a1
    cases a3
    obtain ⟨x0,y,e1,e2,e3,e4,rfl⟩:=app_run a2
    cases e1
    simp only [List.nil_append,List.length_nil,Nat.zero_add] at hd' e4
    have hel:=contOf_sound M1 hb hcb a4 e2
    simp only [appV,hel,Option.bind_some]
    rw [if_neg (by rw [rowsOK_len e3]; simp)]
    by_cases hy : y.isEmpty = true
    · rw [if_pos hy]
      have hy0 : y = []:=List.isEmpty_iff.1 hy
      subst hy0
      exact ⟨_,_,_,rfl,M1.lst_same F (t:=[]) (g:=[]) hd' rfl (.inl ⟨rfl,rfl,rfl⟩) fun q hq=>⟨Ne.symm hq.mem.choose_spec.2.1,fun h=>absurd rfl h⟩⟩
    · rw [if_neg hy,if_pos e4]
      exact ⟨_,_,_,rfl,M1.lst_new F hd' e3 (M1.wf.new x _ _) rfl (fun n o' h hi=>by rw [new_m,if_neg (M1.ne_tok x h)]) (by rw [new_m,if_pos rfl]) (raw_new (by first | exact M1.wf | exact M2.wf) x _ _) (fun y=>new_c ..) (fun q hq=>⟨(M1.own_tok x hq).2,by rw [new_m,if_neg (Ne.symm (M1.own_tok x hq).1)]⟩) (.inl rfl)⟩
  · rename_i n s
    split at hs
    · rename_i t' s' c hf
      split at hs
      · rename_i hcond
        obtain ⟨rfl,rfl,rfl⟩:=hcond
        cases hs
        obtain ⟨d',hd'⟩:=hO _ (List.mem_singleton.2 rfl)
        obtain ⟨ds,a1,a2⟩:=ev_mk hd'
        obtain ⟨p,q,rfl,a3,a4⟩:=evs2 a1
        obtain ⟨x0,y,e1,e2,e3,e4,rfl⟩:=app_run a2
        obtain ⟨es,k1,k2,k3⟩:=M1.lst _ _ _ _ hf
        rw [k1] at a3; cases a3
        obtain rfl : es = x0:=Option.some.inj e1
        have hel:=contOf_sound M1 hb hcb a4 e2
        obtain ⟨M2,F2⟩:=M1.kill n
        have F3 : (Y.kill n).free nm:=free_kill F
        have back : ∀ k o,find (Y.kill n).h k = some o→k ≠ n∧∃ o',find Y.h k = some o'∧∀ e sz c,o = .lst e sz c→o' = .lst e sz c:=fun k o h=>by
          obtain ⟨h1,o1,h2,h3⟩:=kill_find' h
          refine ⟨h1,o1,h2,fun e sz c ho=>?_⟩
          subst ho
          cases o1 <;> simp only [killO,reduceCtorEq] at h3
          exact h3.symm
        have hne : ∀ k o,find (Y.kill n).h k = some o→ι n ≠ []→ι k ≠ ι n:=fun k o h hi e=>by
          obtain ⟨h1,o',h2,_⟩:=back k o h
          exact h1 (M1.inj k n o' _ h2 hf e (by rw [e]; exact hi))
        have hgr : ι n ≠ []→∀ k e sz c,find (Y.kill n).h k = some (.lst e sz c)→ι k ≠ []→γ k ≠ γ n:=fun hi k e sz c h hk eg=>by
          obtain ⟨h1,o',h2,h3⟩:=back k _ h
          rw [h3 _ _ _ rfl] at h2
          exact h1 (M1.grp k n _ _ _ _ _ _ h2 hf hk hi eg)
        have hold:=fun hi=>M1.old n _ _ _ hf hi
        have hownn : ∀ q,Owned (Y.kill n).h ι γ σ q→ι n ≠ []→ι n ≠ q.u∧(ι n ≠ []→γ n ≠ q.g):=fun q hq hi=>by
          obtain ⟨q',hq',h1,h2⟩:=hq.kill M1
          obtain ⟨_,_,_,p3,p4,_⟩:=hq'.mem
          exact ⟨by rw [← h1]; exact p3 n _ hf,fun _=>by rw [← h2]; exact p4 n _ _ _ hf hi⟩
        rcases k3 with ⟨k3,rfl⟩ | ⟨k3,k4⟩
        · obtain rfl : da = .nil:=by
            cases ha with
            | gln=>rfl
            | gl g1 g2 g3=>exact absurd k3 g3
          simp only [List.nil_append,List.length_nil,Nat.zero_add] at hd' e4
          simp only [appV,hel,Option.bind_some]
          rw [if_neg (by rw [rowsOK_len e3]; simp)]
          by_cases hy : y.isEmpty = true
          · rw [if_pos hy]
            have hy0 : y = []:=List.isEmpty_iff.1 hy
            subst hy0
            exact ⟨_,_,_,rfl,M2.lst_same F3 (t:=[]) (g:=[]) hd' rfl (.inl ⟨rfl,rfl,rfl⟩) fun q hq=>⟨Ne.symm hq.mem.choose_spec.2.1,fun h=>absurd rfl h⟩⟩
          · rw [if_neg hy,if_pos e4]
            exact ⟨_,_,_,rfl,M2.lst_new F3 hd' e3 (M2.wf.new x _ _) rfl (fun n o' h hi=>by rw [new_m,if_neg (M2.ne_tok x h)]) (by rw [new_m,if_pos rfl]) (raw_new (by first | exact M1.wf | exact M2.wf) x _ _) (fun y=>new_c ..) (fun q hq=>⟨(M2.own_tok x hq).2,by rw [new_m,if_neg (Ne.symm (M2.own_tok x hq).1)]⟩) (.inl rfl)⟩
        · obtain rfl : da = .sl (ι n) s' 0 es.length none:=by
            cases ha with
            | gln g1 g2=>exact absurd g2 k3
            | gl g1 g2 g3=>
              rw [hf] at g1; cases g1
              rw [k1] at g2; cases g2; rfl
          simp only [appV,hel,Option.bind_some]
          rw [if_neg (by rw [rowsOK_len e3]; simp)]
          by_cases hy : y.isEmpty = true
          · rw [if_pos hy]
            have hy0 : y = []:=List.isEmpty_iff.1 hy
            subst hy0
            simp only [List.append_nil] at hd'
            exact ⟨_,_,_,rfl,M2.lst_same F3 (t:=ι n) (g:=γ n) hd' k2 (.inr ⟨k3,k4,rfl,fun k o h=>hne k o h k3,fun k e sz c h hi=>hgr k3 k e sz c h hi,hold k3⟩) fun q hq=>hownn q hq k3⟩
          · rw [if_neg hy]
            simp only [k4]
            rw [if_pos ⟨trivial,trivial,e4,by omega⟩]
            simp only [if_true,List.take_length]
            refine ⟨_,_,_,rfl,M2.lst_new F3 (g:=γ n) hd' (rowsOK_append k2 e3) ((M2.wf.strike _ _).new x _ _) ?_ (fun k o' h hi=>?_) ?_ (fun t q h=>raw_new (M2.wf.strike _ _) x _ _ t q (by simp only [St.strike]; rw [h]; rfl)) (fun y=>new_c ..) (fun q hq=>⟨(hownn q hq k3).2 k3,by
              obtain ⟨_,p1,_⟩:=hq.mem
              have hnt : q.u ≠ (σ.strike (γ n) es.length).tok x:=Ne.symm (M2.own_tok x hq).1
              rw [new_m,if_neg hnt]
              exact own_struck p1 (Ne.symm ((hownn q hq k3).2 k3))⟩) (.inr ⟨fun k e sz c h hi=>hgr k3 k e sz c h hi,hold k3⟩)⟩
            · rw [List.length_append]; rfl
            · have hnt : ι k ≠ (σ.strike (γ n) es.length).tok x:=M2.ne_tok x h
              rw [new_m,if_neg hnt]
              simp only [St.strike]
              cases o' with
              | box vs'=>obtain ⟨ds',_,e1,_⟩:=M2.box k vs' h; rw [e1]; rfl
              | map c'=>obtain ⟨_,_,_,e1⟩:=M2.mpo k c' h; rw [e1]; rfl
              | mpl e' sz' c'=>obtain ⟨_,_,_,e1,_⟩:=M2.own k e' sz' c' h; rw [e1]; rfl
              | raw kk=>obtain ⟨_,_,e1,_⟩:=M2.rwo k kk h; rw [e1]; rfl
              | lst e' sz' c'=>
                obtain ⟨es',_,_,e1⟩:=M2.lst k _ _ _ h
                rcases e1 with ⟨e1,_⟩ | ⟨_,e1⟩
                · exact absurd e1 hi
                · rw [e1]
                  simp only [HO.struck]
                  rw [if_neg fun hh=>hgr k3 k _ _ _ h hi hh.1]
            · exact (new_m ..).trans (if_pos rfl)
      · cases hs
    · cases hs
  · cases hs
theorem Mt.relst (M : Mt Ω G ρ ι γ Y σ) {n e sz : Nat} {c c' : X} {es : List (List D)} (hf : find Y.h n = some (.lst e sz c)) (hc : X.ev G ρ c = some (.list es)) (hc' : X.ev G ρ c' = some (.list es)) :
    Mt Ω G ρ ι γ { Y with h:=setA n (.lst e sz c') Y.h } σ:=by
  have hf' : ∀ k,find (setA n (.lst e sz c') Y.h) k = if k = n then some (.lst e sz c') else find Y.h k:=fun k=>find_set n k _ Y.h
  have L : ∀ k,Lk G ρ ρ Y.h (setA n (.lst e sz c') Y.h) k:=fun k o ho=>by
    by_cases hk : k = n
    · rw [hk,hf] at ho; cases ho
      exact ⟨.lst e sz c',by rw [hf',if_pos hk],(⟨rfl,rfl,fun es1 h1=>⟨es,hc',by rw [hc] at h1; cases h1; rfl⟩⟩ : SO.like G ρ ρ (.lst e sz c) (.lst e sz c'))⟩
    · refine Lk.same (fun _ _ h=>h) ?_ o ho
      rw [hf',if_neg hk]
  have V : ∀ {v d},VR G ρ ι Y.h v d→VR G ρ ι (setA n (.lst e sz c') Y.h) v d:=fun {v d} H=>H.mono (fun _ _ h=>h) fun k _=>⟨rfl,L k⟩
  have old : ∀ k o,find (setA n (.lst e sz c') Y.h) k = some o→k ≠ n→find Y.h k = some o:=fun k o h hk=>by rw [hf',if_neg hk] at h; exact h
  have some' : ∀ k o,find (setA n (.lst e sz c') Y.h) k = some o→∃ o0,find Y.h k = some o0:=fun k o h=>by
    by_cases hk : k = n
    · exact ⟨_,hk ▸ hf⟩
    · exact ⟨_,old k o h hk⟩
  have lst' : ∀ k e1 sz1 c1,find (setA n (.lst e sz c') Y.h) k = some (.lst e1 sz1 c1)→∃ c0,find Y.h k = some (.lst e1 sz1 c0):=fun k e1 sz1 c1 h=>by
    by_cases hk : k = n
    · rw [hf',if_pos hk] at h; cases h; exact ⟨c,hk ▸ hf⟩
    · exact ⟨_,old k _ h hk⟩
  have mpl' : ∀ k e1 sz1 c1,find (setA n (.lst e sz c') Y.h) k = some (.mpl e1 sz1 c1)→find Y.h k = some (.mpl e1 sz1 c1):=fun k e1 sz1 c1 h=>old k _ h fun hk=>by rw [hf',if_pos hk] at h; cases h
  refine ⟨fun i v hv=>V (M.slot i v hv),fun k vs hk=>?_,fun k e1 sz1 c1 hk=>?_,fun k c1 hk=>?_,fun k e1 sz1 c1 hk=>?_,fun a b _ _ _ _ _ _ h1 h2=>M.one a b _ _ _ _ _ _ (mpl' _ _ _ _ h1) (mpl' _ _ _ _ h2),fun k q hk=>?_,fun a b o o' h1 h2=>?_,fun a b e1 e2 s1 s2 c1 c2 h1 h2=>?_,M.wf,fun k e1 sz1 c1 hk=>?_,M.nv,M.con⟩
  · obtain ⟨ds,h0,h1,h2,h3⟩:=M.box k vs (old k _ hk fun e1=>by rw [hf',if_pos e1] at hk; cases hk)
    exact ⟨ds,h0,h1,h2,fun i v d hv hd=>V (h3 i v d hv hd)⟩
  · by_cases hkn : k = n
    · rw [hf',if_pos hkn] at hk; cases hk
      obtain ⟨es1,h1,h2,h3⟩:=M.lst k _ _ _ (hkn ▸ hf)
      rw [hc] at h1; cases h1
      exact ⟨es,hc',h2,h3⟩
    · exact M.lst k _ _ _ (old k _ hk hkn)
  · exact M.mpo k _ (old k _ hk fun e1=>by rw [hf',if_pos e1] at hk; cases hk)
  · obtain ⟨L1,h1,h2,h3,h4⟩:=M.own k _ _ _ (mpl' _ _ _ _ hk)
    exact ⟨L1,h1,h2,h3,fun q hq=>(h4.1 q hq).keep rfl (fun j o hj=>let ⟨o0,h0⟩:=some' j o hj; (h4.1 q hq).2.2.2.1 j o0 h0) (fun j e sz c hj=>let ⟨c0,h0⟩:=lst' j _ _ _ hj; (h4.1 q hq).2.2.2.2.1 j e sz c0 h0) fun _=>Nat.le_refl _,h4.2⟩
  · exact M.rwo k _ (old k _ hk fun e1=>by rw [hf',if_pos e1] at hk; cases hk)
  · obtain ⟨o0,h0⟩:=some' a o h1
    obtain ⟨o1,h3⟩:=some' b o' h2
    exact M.inj a b o0 o1 h0 h3
  · obtain ⟨c0,h0⟩:=lst' a _ _ _ h1
    obtain ⟨c3,h3⟩:=lst' b _ _ _ h2
    exact M.grp a b _ _ _ _ c0 c3 h0 h3
  · obtain ⟨c0,h0⟩:=lst' k _ _ _ hk
    exact M.old k _ _ c0 h0
theorem nfB_noTB {d : D} (h : d.nfB = true) : d.noTB = true:=by cases d <;> first | rfl | cases h
theorem nfC_noTC {d : D} (h : d.nfC = true) : d.noTC = true:=by
  cases d
  case clo f xs=>
    simp only [D.nfC,D.noTC,List.all_eq_true] at h ⊢
    exact fun x hx=>nfB_noTB (h x hx)
  all_goals first | rfl | cases h
theorem Mt.strike_other (M : Mt Ω G ρ ι γ Y σ) {n k' e sz lim : Nat} {c : X} {o' : SO} (hf : find Y.h n = some (.lst e sz c)) (hfk : find Y.h k' = some o') (hk' : k' ≠ n) (hik : ι k' ≠ []) (g3 : ι n ≠ []) : HO.struck (γ n) lim (σ.m (ι k')) = σ.m (ι k'):=by
  cases o' with
  | box vs=>obtain ⟨ds,_,h1,_⟩:=M.box k' vs hfk; rw [h1]; rfl
  | lst e' sz' c'=>
    obtain ⟨es1,_,_,h1⟩:=M.lst k' _ _ _ hfk
    rcases h1 with ⟨h1,_⟩ | ⟨_,h1⟩
    · exact absurd h1 hik
    · rw [h1]
      simp only [HO.struck]
      rw [if_neg fun hh=>hk' (M.grp k' n _ _ _ _ _ _ hfk hf hik g3 hh.1)]
  | map c=>obtain ⟨es,_,_,h1⟩:=M.mpo k' c hfk; rw [h1]; rfl
  | mpl e' sz' c=>obtain ⟨L,_,_,h1,_⟩:=M.own k' _ _ _ hfk; rw [h1]; rfl
  | raw q=>obtain ⟨_,_,h1,_⟩:=M.rwo k' q hfk; rw [h1]; rfl
theorem symEcall_sound (M : Mt Ω G ρ ι γ Y σ) {x k f n sz e : Nat} {args : List VArg} {c : X} {xs : List X} (hk : (args.map (valS Y))[k]? = some (.gl n sz)) (hf : find Y.h n = some (.lst e sz c)) (hx : SV.asXs ((args.map (valS Y)).set k (.x c)) = some xs)
    {d0 d1 : D} (h0 : X.ev G ρ (.mk (.pk (.ext 1)) [.mk (.ecall k f sz) xs]) = some d1) (h1 : X.ev G ρ (.mk (.pk (.ext 0)) [.mk (.ecall k f sz) xs]) = some d0) :
    ∃ σ',ecallV (env0 G) x k f (args.map (VArg.val σ.s)) σ = some σ'∧Mt Ω G ρ ι γ (Sy.set { Y with h:=setA n (.lst e sz (.mk (.pk (.ext 1)) [.mk (.ecall k f sz) xs])) Y.h } x (.x (.mk (.pk (.ext 0)) [.mk (.ecall k f sz) xs]))) σ':=by
  have hvs : VRs G ρ ι Y.h (args.map (valS Y)) (args.map (VArg.val σ.s)):=⟨by simp,fun i v d hv hd=>by
    rw [List.getElem?_map,Option.map_eq_some_iff] at hv hd
    obtain ⟨g,hg,rfl⟩:=hv
    obtain ⟨g',hg',rfl⟩:=hd
    rw [hg] at hg'; cases hg'
    exact valS_rep M g⟩
  generalize args.map (VArg.val σ.s) = ds at hvs
  generalize args.map (valS Y) = vs at hk hx hvs
  obtain ⟨es,k1,k2,k3⟩:=M.lst n e sz c hf
  have hkl:=(List.getElem?_eq_some_iff.1 hk).1
  have hkd : k < ds.length:=by rw [← hvs.1]; exact hkl
  have hdk:=List.getElem?_eq_getElem hkd
  have hgl:=hvs.2 k _ _ hk hdk
  have hvs2 : VRs G ρ ι Y.h (vs.set k (.x c)) (ds.set k (.list es)):=⟨by simp [hvs.1],fun i v d hv hd=>by
    by_cases hik : i = k
    · subst hik
      rw [List.getElem?_set_self hkl] at hv
      rw [List.getElem?_set_self hkd] at hd
      cases hv; cases hd
      exact .x k1 rfl
    · rw [List.getElem?_set_ne (Ne.symm hik)] at hv hd
      exact hvs.2 i v d hv hd⟩
  obtain ⟨ts,a1,a2⟩:=ev_mk h0
  obtain ⟨r,rfl,a3⟩:=evs1 a1
  obtain ⟨as,a4,a5⟩:=ev_mk a3
  obtain rfl:=asXs_sound hvs2 hx a4
  obtain ⟨ts',b1,b2⟩:=ev_mk h1
  obtain ⟨r',rfl,b3⟩:=evs1 b1
  rw [a3] at b3; cases b3
  simp only [XK.run,List.set_set] at a5
  split at a5
  rotate_left
  · cases a5
  rename_i hcond
  rw [List.getElem?_set_self hkd] at a5
  simp only [] at a5
  obtain ⟨q,hq,a5⟩:=Option.bind_eq_some_iff.1 a5
  split at a5
  rotate_left
  · cases a5
  rename_i d es'
  split at a5 <;> cases a5
  rename_i hok
  obtain ⟨o1,o2,o3⟩:=hok
  have e1 : d1 = .list es':=by
    simp only [XK.run,Option.bind_eq_some_iff] at a2
    obtain ⟨y,hy,a2⟩:=a2
    split at a2 <;> cases a2
    simpa [PK.run,extV] using hy.symm
  have e0 : d0 = d:=by
    simp only [XK.run,Option.bind_eq_some_iff] at b2
    obtain ⟨y,hy,b2⟩:=b2
    split at b2 <;> cases b2
    simpa [PK.run,extV] using hy.symm
  subst e1 e0
  have hq' : (env0 G).e k f (ds.set k (.list es)) = some (.tup [d0,.list es']):=hq
  have hall : es.all (fun c=>c.all D.noTC) = true:=List.all_eq_true.2 fun c hc=>List.all_eq_true.2 fun d hd=>nfC_noTC (by
    have:=List.all_eq_true.1 k2 c hc
    simp only [Bool.and_eq_true] at this
    exact List.all_eq_true.1 this.2 d hd)
  unfold ecallV
  rw [if_pos hcond,hdk]
  generalize ds[k] = dk at hgl hdk
  cases hgl with
  | gln g1 g2=>
    have hes : es = []:=by
      rcases k3 with ⟨_,h⟩ | ⟨h,_⟩
      · exact h
      · exact absurd g2 h
    subst hes
    have hes' : es' = []:=List.length_eq_zero_iff.1 (by simpa using o2)
    subst hes'
    simp only [hq',Option.bind_some,if_pos o1]
    exact ⟨_,rfl,(M.relst hf k1 h0).set (.x h1 o1)⟩
  | gl g1 g2 g3=>
    rw [hf] at g1; cases g1
    rw [k1] at g2; cases g2
    rcases k3 with ⟨k3,_⟩ | ⟨_,k3⟩
    · exact absurd k3 g3
    simp only [k3,hall,and_self,if_true,hq',Option.bind_some,if_pos o1]
    refine ⟨_,rfl,Mt.set (M.write (o:=.lst e sz c) (o':=.lst e sz (.mk (.pk (.ext 1)) [.mk (.ecall k f sz) xs])) (q:=.row (γ n) e es') (σ':=(σ.strike (γ n) 0).put (ι n) (some (.row (γ n) e es'))) hf g3 ?_ rfl rfl (by simp [St.put]) (fun k' o' hk' hfk hik=>?_) (fun t q h hne=>?_) (fun q h=>by rw [k3] at h; cases h) ⟨rfl,rfl,fun es1 h=>⟨es',h0,by rw [k1] at h; cases h; exact o2⟩⟩ (fun q hq=>?_) ⟨es',h0,o3,rfl⟩) (.x h1 o1)⟩
    · intro y k r hk
      simp only [St.put]
      split
      · rename_i e
        rw [← e,M.wf y k r hk] at k3
        cases k3
      · exact M.wf.strike _ _ y k r hk
    · have hne : ι k' ≠ ι n:=fun e=>hk' (M.inj k' n _ _ hfk hf e hik)
      simp only [St.put,if_neg hne]
      show HO.struck (γ n) 0 (σ.m (ι k')) = σ.m (ι k')
      cases o' with
      | box vs=>obtain ⟨ds,_,h1,_⟩:=M.box k' vs hfk; rw [h1]; rfl
      | lst e' sz' c'=>
        obtain ⟨es1,_,_,h1⟩:=M.lst k' _ _ _ hfk
        rcases h1 with ⟨h1,_⟩ | ⟨_,h1⟩
        · exact absurd h1 hik
        · rw [h1]
          simp only [HO.struck]
          rw [if_neg fun hh=>hk' (M.grp k' n _ _ _ _ _ _ hfk hf hik g3 hh.1)]
      | map c=>obtain ⟨es,_,_,h1⟩:=M.mpo k' c hfk; rw [h1]; rfl
      | mpl e' sz' c=>obtain ⟨L,_,_,h1,_⟩:=M.own k' _ _ _ hfk; rw [h1]; rfl
      | raw q=>obtain ⟨_,_,h1,_⟩:=M.rwo k' q hfk; rw [h1]; rfl
    · simp only [St.put,if_neg hne]
      show HO.struck (γ n) 0 (σ.m t) = some (.raw q)
      rw [h]; rfl
    · simp only [St.put,if_neg (M.own_ne hf hq)]
      obtain ⟨e0,m1,_,_,m4,_⟩:=hq.mem
      exact own_struck m1 (Ne.symm (m4 n _ _ _ hf g3))
theorem symEff_sound (M : Mt Ω G ρ ι γ Y σ) {e : Eff} {Y' : Sy} {O : List X} (hs : symEff e Y = some (Y',O)) (hO : ∀ e ∈ O,∃ d,X.ev G ρ e = some d) :
    ∃ σ' ι' γ',e.run (env0 G) σ = some σ'∧Mt Ω G ρ ι' γ' Y' σ':=by
  unfold symEff at hs
  split at hs
  · rename_i n g x a
    obtain ⟨M1,F⟩:=M.nw x
    obtain ⟨⟨vs,O'⟩,hc,he⟩:=Option.map_eq_some_iff.1 hs
    cases he
    obtain ⟨h1,h2,h3⟩:=cellsS_sound (valS_rep M1 a) hc hO
    refine ⟨_,_,_,?_,M1.box_new F h3 (cellsS_free hc (valS_free F a))⟩
    simp only [Eff.run,boxV]
    rw [if_pos h2]
  · rename_i n g a v
    obtain ⟨σ',h1,h2⟩:=symStore_sound M (valS_rep M a) (valS_rep M v) hs hO
    exact ⟨σ',ι,γ,h1,h2⟩
  · rename_i x t size a b
    obtain ⟨M1,F⟩:=M.nw x
    exact symApp_sound M1 F (valS_rep M1 a) (valS_rep M1 b) hs hO
  · rename_i x t size zero a b
    obtain ⟨M1,F⟩:=M.nw x
    have ha:=valS_rep M1 a
    have hb:=valS_rep M1 b
    split at hs
    · rename_i ea eb hva hvb
      cases hs
      rw [hva] at ha
      rw [hvb] at hb
      obtain ⟨h1,_⟩:=ha.x_inv
      obtain ⟨h2,_⟩:=hb.x_inv
      obtain ⟨d',hd'⟩:=hO _ (List.mem_singleton.2 rfl)
      obtain ⟨ds,a1,a2⟩:=ev_mk hd'
      obtain ⟨p,q,rfl,a3,a4⟩:=evs2 a1
      rw [h1] at a3; cases a3
      rw [h2] at a4; cases a4
      simp only [XK.run] at a2
      split at a2 <;> try (cases a2; done)
      rename_i k1 l k2 c heq
      simp only [List.cons.injEq,and_true] at heq
      split at a2 <;> cases a2
      rename_i hc
      simp only [Eff.run,mksV,heq.1,heq.2]
      rw [if_pos ⟨hc.1,hc.2.1,hc.2.2.1,hc.2.2.2.1⟩]
      have hlen : l.toNat = (List.replicate l.toNat zero).length:=by simp
      have hok : rowsOK size (List.replicate l.toNat zero) = true:=List.all_eq_true.2 fun q hq=>by
        obtain ⟨_,rfl⟩:=List.mem_replicate.1 hq
        simp [hc.2.2.2.2.1,hc.2.2.2.2.2]
      refine ⟨_,_,_,rfl,M1.lst_new F hd' hok (M1.wf.new x _ _) ?_ (fun n o' h hi=>by rw [new_m,if_neg (M1.ne_tok x h)]) (by rw [new_m,if_pos rfl]) (raw_new (by first | exact M1.wf | exact M2.wf) x _ _) (fun y=>new_c ..) (fun q hq=>⟨(M1.own_tok x hq).2,by rw [new_m,if_neg (Ne.symm (M1.own_tok x hq).1)]⟩) (.inl rfl)⟩
      rw [← hlen]
    · cases hs
  · rename_i x t size len zero places args
    obtain ⟨M1,F⟩:=M.nw x
    obtain ⟨xs,hx,he⟩:=Option.map_eq_some_iff.1 hs
    cases he
    obtain ⟨d',hd'⟩:=hO _ (List.mem_singleton.2 rfl)
    obtain ⟨ds,a1,a2⟩:=ev_mk hd'
    have hvs : VRs G ρ ι (Y.nw x).h (args.map (valS (Y.nw x))) (args.map (VArg.val σ.s)):=⟨by simp,fun i v d hv hd=>by
      rw [List.getElem?_map,Option.map_eq_some_iff] at hv hd
      obtain ⟨g,hg,rfl⟩:=hv
      obtain ⟨g',hg',rfl⟩:=hd
      rw [hg] at hg'; cases hg'
      exact valS_rep M1 g⟩
    obtain rfl:=asXs_sound hvs hx a1
    simp only [XK.run] at a2
    split at a2
    · rename_i hall
      rw [Option.bind_eq_some_iff] at a2
      obtain ⟨cs,c1,c2⟩:=a2
      split at c2 <;> cases c2
      rename_i hc
      simp only [Eff.run,litV]
      rw [if_pos hall,c1]
      simp only [Option.bind_some]
      rw [if_pos hc.1]
      have hlen : (chop size len (cs.map D.nz)).length = len:=chop_length size len (cs.map D.nz)
      refine ⟨_,_,_,rfl,M1.lst_new F hd' hc.2 (M1.wf.new x _ _) ?_ (fun n o' h hi=>by rw [new_m,if_neg (M1.ne_tok x h)]) (by rw [new_m,if_pos rfl]) (raw_new (by first | exact M1.wf | exact M2.wf) x _ _) (fun y=>new_c ..) (fun q hq=>⟨(M1.own_tok x hq).2,by rw [new_m,if_neg (Ne.symm (M1.own_tok x hq).1)]⟩) (.inl rfl)⟩
      rw [hlen]
    · cases a2
  · rename_i x
    obtain ⟨M1,F⟩:=M.nw x
    cases hs
    exact ⟨_,_,_,rfl,M1.map_new F⟩
  · rename_i x e sz
    obtain ⟨M1,F⟩:=M.nw x
    split at hs <;> cases hs
    rename_i hall
    refine ⟨_,_,_,rfl,M1.mpl_new e sz F fun k e' sz' c' hk=>?_⟩
    obtain ⟨_,o,ho,h⟩:=kill_find' hk
    cases o <;> simp only [killO,reduceCtorEq] at h
    have:=List.all_eq_true.1 hall _ (find_mem ho)
    simp [SO.isMpl] at this
  · rename_i x a b
    have ha:=valS_rep M a
    have hb:=valS_rep M b
    split at hs
    · rename_i n o l m p l' hva hvb
      rw [hva] at ha
      rw [hvb] at hb
      split at hs
      · rename_i us vs hf hf'
        split at hs <;> cases hs
        rename_i hc
        obtain ⟨c1,c2,c3,c4⟩:=hc
        obtain ⟨xs,k1,k2,k3⟩:=M.box n us hf
        obtain ⟨ys,j1,j2,j3⟩:=M.box m vs hf'
        generalize hda : a.val σ.s = da at ha
        generalize hdb : b.val σ.s = db at hb
        cases ha with
        | sb _ _=>
          cases hb with
          | sb _ _=>
            have hvl : ((vs.drop p).take (min l' l)).length = min l' l:=by simp; omega
            have M2:=M.wbox (o:=o) hf k1 k2 k3 ((j3.drop p).take (min l' l)) (by rw [hvl]; omega)
            rw [hvl] at M2
            have hrun : ∀ (x : Option Nat) (lm lm' : Option Nat),copyV x (.sl (ι n) 1 o l lm) (.sl (ι m) 1 p l' lm') σ = some (match x with
                | some i=>(σ.put (ι n) (some (.box (putAt xs o ((ys.drop p).take (min l' l)))))).set i (iv ((min l' l : Nat) : Int))
                | none=>σ.put (ι n) (some (.box (putAt xs o ((ys.drop p).take (min l' l)))))):=fun x lm lm'=>by
              simp only [copyV,k2,j2]
              rw [if_pos ⟨c1,c2,by rw [← k3.1]; exact c3,by rw [← j3.1]; exact c4⟩]
              cases x <;> rfl
            cases x with
            | none=>exact ⟨_,ι,γ,by simp only [Eff.run,hda,hdb]; exact hrun none _ _,M2⟩
            | some i=>exact ⟨_,ι,γ,by simp only [Eff.run,hda,hdb]; exact hrun (some i) _ _,M2.set (.x rfl rfl)⟩
      · cases hs
    · cases hs
  · rename_i ks a k v
    have ha:=valS_rep M a
    split at hs
    · rename_i n hva
      rw [hva] at ha
      split at hs
      · rename_i c hf
        simp only [Option.bind_eq_some_iff,Option.map_eq_some_iff] at hs
        obtain ⟨kx,hkx,vx,hvx,he⟩:=hs
        cases he
        obtain ⟨d',hd'⟩:=hO _ (List.mem_singleton.2 rfl)
        obtain ⟨ds0,a1,a2⟩:=ev_mk hd'
        simp only [X.evs,Option.bind_eq_some_iff,Option.map_eq_some_iff] at a1
        obtain ⟨dc,b1,r1,⟨dk,b2,r2,⟨dv,b3,r3,b4,rfl⟩,rfl⟩,rfl⟩:=a1
        cases b4
        obtain ⟨es,k1,k2,k3⟩:=M.mpo n c hf
        rw [k1] at b1; cases b1
        have hk:=asX_sound (valS_rep M k) hkx b2
        have hv:=asX_sound (valS_rep M v) hvx b3
        simp only [XK.run,unpair_pair,Option.bind_some,Option.map_eq_some_iff] at a2
        obtain ⟨es',g1,g2⟩:=a2
        cases g2
        generalize hda : a.val σ.s = da at ha
        cases ha with
        | mp _ _=>
          refine ⟨σ.put (ι n) (some (.map es')),ι,γ,?_,M.write (o:=.map c) (q:=.map es') hf k2 (M.wf.put (by rw [k3]; simp)) rfl rfl (by simp [St.put]) (fun k o' hk hfk hik=>?_) (fun t q h hne=>by simp only [St.put,if_neg hne]; exact h) (fun q h=>by rw [k3] at h; cases h) trivial (fun q hq=>by simp only [St.put,if_neg (M.own_ne hf hq)]) ⟨es',hd',rfl⟩⟩
          · simp only [Eff.run,hda,mupdV,k3,← hk,← hv]
            unfold msetV at g1
            split at g1
            · rename_i hok
              rw [if_pos hok]
              obtain ⟨r,hr,g1⟩:=Option.bind_eq_some_iff.1 g1
              rw [hr]
              simp only [Option.bind_some]
              cases r with
              | some i=>obtain ⟨p,hp,rfl⟩:=Option.map_eq_some_iff.1 g1; simp only [hp,Option.map_some]
              | none=>
                simp only [] at g1 ⊢
                split at g1 <;> cases g1
                rename_i hlt
                rw [if_pos hlt]
            · cases g1
          · have : ι k ≠ ι n:=fun e=>hk (M.inj k n _ _ hfk hf e hik)
            simp [St.put,this]
      · cases hs
    · cases hs
  · rename_i size zero a
    have ha:=valS_rep M a
    split at hs
    · rename_i n sz k hva
      rw [hva] at ha
      split at hs
      · rename_i e sz' c hf
        split at hs <;> cases hs
        rename_i hcond
        obtain ⟨⟨rfl,rfl⟩,hz⟩:=hcond
        obtain ⟨d',hd'⟩:=hO _ (List.mem_singleton.2 rfl)
        obtain ⟨es,k1,k2,k3⟩:=M.lst n _ _ c hf
        obtain ⟨ts,a1,a2⟩:=ev_mk hd'
        obtain ⟨q1,q2,rfl,c3,c4⟩:=evs2 a1
        rw [k1] at c3; cases c3
        simp only [XK.run] at a2
        split at a2
        rotate_left
        · cases a2
        rename_i es0 kd z heq
        simp only [List.cons.injEq,D.list.injEq,and_true] at heq
        obtain ⟨rfl,rfl⟩:=heq
        split at a2 <;> cases a2
        rename_i hr
        have hrows : rowsOK size (es.take z.toNat ++ List.replicate (es.length - z.toNat) zero) = true:=by
          refine rowsOK_append (List.all_eq_true.2 fun c hc=>List.all_eq_true.1 k2 c (List.mem_of_mem_take hc)) (List.all_eq_true.2 fun c hc=>?_)
          rw [List.eq_of_mem_replicate hc]; exact hz
        have hln : (es.take z.toNat ++ List.replicate (es.length - z.toNat) zero).length = es.length:=by simp; omega
        generalize hda : a.val σ.s = da at ha
        have same : es.length - z.toNat = 0→es.take z.toNat ++ List.replicate (es.length - z.toNat) zero = es:=fun h=>by
          rw [h,List.replicate_zero,List.append_nil,List.take_of_length_le (by omega)]
        cases ha with
        | gtn g1 g2 g3=>
          have hes : es = []:=by
            rcases k3 with ⟨_,h⟩ | ⟨h,_⟩
            · exact h
            · exact absurd g2 h
          subst hes
          refine ⟨σ,ι,γ,by simp only [Eff.run,hda,clrV],M.relst hf k1 ?_⟩
          rw [hd',same (by simp)]
        | gt g1 g2 g3 g4 g5 g6=>
          rw [hf] at g1; cases g1
          rw [k1] at g2; cases g2
          rw [c4] at g4; cases g4
          by_cases h0 : es.length - z.toNat = 0
          · refine ⟨σ,ι,γ,by simp only [Eff.run,hda,clrV,if_pos h0],M.relst hf k1 ?_⟩
            rw [hd',same h0]
          rcases k3 with ⟨k3,_⟩ | ⟨_,k3⟩
          · exact absurd k3 g3
          have hzl : zero.length = size:=by simp only [Bool.and_eq_true,beq_iff_eq] at hz; exact hz.1
          have hdr : es.drop (z.toNat + (es.length - z.toNat)) = []:=List.drop_eq_nil_of_le (by omega)
          refine ⟨(σ.strike (γ n) z.toNat).put (ι n) (some (.row (γ n) e (es.take z.toNat ++ List.replicate (es.length - z.toNat) zero))),ι,γ,?_,?_⟩
          · simp only [Eff.run,hda,clrV,if_neg h0,k3]
            rw [if_pos ⟨⟨trivial,hzl⟩,by omega,rowsOK_len k2⟩,hdr,List.append_nil]
          · refine M.write (o:=.lst e size c) (o':=.lst e size (.mk (.clr zero) [c,k])) (q:=.row (γ n) e (es.take z.toNat ++ List.replicate (es.length - z.toNat) zero)) hf g3 ?_ rfl rfl (by simp [St.put]) (fun k' o' hk' hfk hik=>?_) (fun t q h hne=>?_) (fun q h=>by rw [k3] at h; cases h) ⟨rfl,rfl,fun es1 h=>⟨_,hd',by rw [k1] at h; cases h; exact hln⟩⟩ (fun q hq=>?_) ⟨_,hd',hrows,rfl⟩
            · intro y k r hk
              simp only [St.put]
              split
              · rename_i e
                rw [← e,M.wf y k r hk] at k3
                cases k3
              · exact M.wf.strike _ _ y k r hk
            · have hne : ι k' ≠ ι n:=fun e=>hk' (M.inj k' n _ _ hfk hf e hik)
              simp only [St.put,if_neg hne]
              exact M.strike_other hf hfk hk' hik g3
            · simp only [St.put,if_neg hne]
              show HO.struck (γ n) z.toNat (σ.m t) = some (.raw q)
              rw [h]; rfl
            · simp only [St.put,if_neg (M.own_ne hf hq)]
              obtain ⟨e0,m1,_,_,m4,_⟩:=hq.mem
              exact own_struck m1 (Ne.symm (m4 n _ _ _ hf g3))
      · cases hs
    · cases hs
  · rename_i x k f args
    split at hs
    · rename_i n sz hk
      split at hs
      · rename_i e sz' c hf
        split at hs
        · rename_i hss
          subst hss
          obtain ⟨xs,hx,he⟩:=Option.map_eq_some_iff.1 hs
          cases he
          obtain ⟨d1,h1⟩:=hO _ (List.mem_cons_self ..)
          obtain ⟨d0,h0⟩:=hO _ (List.mem_cons_of_mem _ (List.mem_singleton.2 rfl))
          obtain ⟨σ',g1,g2⟩:=symEcall_sound (x:=x) M hk hf hx h1 h0
          exact ⟨σ',ι,γ,g1,g2⟩
        · cases hs
      · cases hs
    · cases hs
end
end Go.Proofs.YtkcfpgaepmllhaaGreatDoor
namespace Go.Proofs.YtkcfpgaepmllhaaGreatDoor
open Go.RowKit
abbrev unitX : X:=.q (.tup [])
def stripC (gx e : X) : SV:=match gx with
  | .mk (.gv w) [g]=>if beqX e g then .x (.q (.v (.bool w))) else .x e
  | _=>.x e
def strip (gx : X) : SV→SV
  | .gd g v=>if beqX g gx then v else .gd g v
  | .x (.ite g e u)=>if beqX g gx then .x e else stripC gx (.ite g e u)
  | .x e=>stripC gx e
  | v=>v
def guardS (gx : X) : SV→SV
  | .x e=>.x (.ite gx e unitX)
  | v=>.gd gx v
def symStm (st : VStm) (Y : Sy) : Option (Sy × List X):=
  match st with
  | .op x k args none=>(symOp Y.h k (args.map (valS Y))).map fun q=>(Y.set x q.1,q.2)
  | .op x k args (some (j,w))=>match find Y.s j with
    | some (.x (.q (.v (.bool b))))=>if b = w then (symOp Y.h k (args.map (valS Y))).map fun q=>(Y.set x q.1,q.2) else some (Y.set x (.x unitX),[])
    | some (.x g)=>(symOp Y.h k (args.map fun a=>strip (.mk (.gv w) [g]) (valS Y a))).map fun q=>(Y.set x (guardS (.mk (.gv w) [g]) q.1),.mk (.gv w) [g] :: q.2.map fun e=>.ite (.mk (.gv w) [g]) e unitX)
    | _=>none
  | .eff e none=>symEff e Y
  | .eff e (some (j,w))=>match find Y.s j with
    | some (.x (.q (.v (.bool b))))=>if b = w then symEff e Y else some (match e.dst with | some x=>(Y.set x (.x unitX),[]) | none=>(Y,[]))
    | _=>none
  | _=>none
def symRuns0 : List VStm→Sy→Option (Sy × List X)
  | [],Y=>some (Y,[])
  | st :: r,Y=>(symStm st Y).bind fun q=>(symRuns0 r q.1).map fun p=>(p.1,q.2 ++ p.2)
structure Apm where
  x : Nat
  ks : List Nat
  i : Nat
  k : VArg
  B : List VStm
  y : Nat
  e : Nat
  sz : Nat
  b : VArg
  C : List VStm
  ks' : List Nat
  i' : Nat
  k' : VArg
def VStm.fine : VStm→Bool
  | .op ..=>true
  | st=>st.news
def VStm.isOp : VStm→Bool
  | .op ..=>true
  | _=>false
def findUpd (f : List VStm→List Nat→Nat→VArg→Apm) (y : Nat) : List VStm→List VStm→Option (Apm × List VStm)
  | C,.eff (.mupd ks' (.t i') k' (.t y')) none :: R=>if y' = y then some (f C.reverse ks' i' k',R) else none
  | C,st :: r=>if st.isOp then findUpd f y (st :: C) r else none
  | _,[]=>none
def findApp (x : Nat) (ks : List Nat) (i : Nat) (k : VArg) : List VStm→List VStm→Option (Apm × List VStm)
  | B,.eff (.app y e sz (.t x') b) none :: R=>if x' = x then findUpd (fun C ks' i' k'=>⟨x,ks,i,k,B.reverse,y,e,sz,b,C,ks',i',k'⟩) y [] R else none
  | B,st :: r=>if st.fine then findApp x ks i k (st :: B) r else none
  | _,[]=>none
def isNilD : D→Bool
  | .nil=>true
  | _=>false
def splitApm : List VStm→Option (List VStm × Apm × List VStm)
  | []=>none
  | .op x (.lkp ks z ok) [.t i,k] none :: r=>match (if isNilD z && !ok then findApp x ks i k [] r else none) with
    | some q=>some ([],q)
    | none=>(splitApm r).map fun p=>(.op x (.lkp ks z ok) [.t i,k] none :: p.1,p.2)
  | st :: r=>(splitApm r).map fun p=>(st :: p.1,p.2)
def Apm.S1 (q : Apm) : VStm:=.op q.x (.lkp q.ks .nil false) [.t q.i,q.k] none
def Apm.S2 (q : Apm) : VStm:=.eff (.app q.y q.e q.sz (.t q.x) q.b) none
def Apm.S3 (q : Apm) : VStm:=.eff (.mupd q.ks' (.t q.i') q.k' (.t q.y)) none
def Apm.all (q : Apm) : List VStm:=q.S1 :: (q.B ++ (q.S2 :: (q.C ++ [q.S3])))
def Apm.ok (q : Apm) : Bool:=
  q.B.all (fun st=>st.fine && match st.dst with | some d=>!([q.x,q.i] ++ q.k.reads).contains d | none=>true) && !([q.i] ++ q.k.reads).contains q.x && !([q.i'] ++ q.k'.reads).contains q.y && q.C.all (fun st=>st.isOp && match st.dst with | some d=>d != q.y | none=>true) && (q.ks == q.ks')
def Sy.unset (Y : Sy) (x : Nat) : Sy:=Y.set x .un
def mplAt (Y : Sy) (i : Nat) : Bool:=match find Y.s i with
  | some (.mp n)=>match find Y.h n with
    | some (.mpl ..)=>true
    | _=>false
  | _=>false
def symApm (q : Apm) (Y0 : Sy) : Option (Sy × List X):=
  if q.ok && mplAt Y0 q.i then (symRuns0 q.B (Y0.unset q.x)).bind fun p=>(symRuns0 q.C (p.1.unset q.y)).bind fun p3=>match find p.1.s q.i,find p3.1.s q.i' with
    | some (.mp n),some (.mp n')=>match find p.1.h n with
      | some (.mpl e sz c)=>(valS p.1 q.k).asX.bind fun kx=>(valS p3.1 q.k').asX.bind fun kx'=>(contOf p.1.h (valS p.1 q.b)).bind fun cb=>
        if (e = q.e∧sz = q.sz)∧n' = n∧beqX kx kx' = true then
          some ({ p3.1 with s:=setA q.y .un p3.1.s,h:=setA n (.mpl e sz (.mk (.mapp q.ks sz) [c,kx,cb])) p3.1.h },.mk (.mapp q.ks sz) [c,kx,cb] :: (p.2 ++ p3.2)) else none
      | _=>none
    | _,_=>none
  else none
def symRuns (sts : List VStm) (Y : Sy) : Option (Sy × List X):=
  match splitApm sts with
  | some (A,q,R)=>(symRuns0 A Y).bind fun p=>(symApm q p.1).bind fun p2=>(symRuns0 R p2.1).map fun p3=>(p3.1,p.2 ++ (p2.2 ++ p3.2))
  | none=>symRuns0 sts Y
mutual
def beqSV : SV→SV→Bool
  | .un,.un=>true
  | .x e,.x e'=>beqX e e'
  | .agg vs,.agg us=>beqSVs vs us
  | .tup vs,.tup us=>beqSVs vs us
  | .clo f vs,.clo g us=>f == g && beqSVs vs us
  | .ptr a b,.ptr a' b'=>a == a' && b == b'
  | .gl a b,.gl a' b'=>a == a' && b == b'
  | .ep a b i c,.ep a' b' i' c'=>a == a' && b == b' && beqX i i' && c == c'
  | .dp a b c e i j,.dp a' b' c' e' i' j'=>(a == a' && b == b' && c == c' && e == e' && j == j') && beqX i i'
  | .gs a b k,.gs a' b' k'=>(a == a' && b == b') && beqX k k'
  | .gt a b k,.gt a' b' k'=>(a == a' && b == b') && beqX k k'
  | .sb a b c,.sb a' b' c'=>a == a' && b == b' && c == c'
  | .rb a b,.rb a' b'=>a == a' && b == b'
  | .mp a,.mp a'=>a == a'
  | .yl a,.yl a'=>a == a'
  | .gd g v,.gd g' v'=>beqX g g' && beqSV v v'
  | _,_=>false
def beqSVs : List SV→List SV→Bool
  | [],[]=>true
  | x :: r,y :: s=>beqSV x y && beqSVs r s
  | _,_=>false
end
mutual
theorem beqSV_eq : ∀ (a b : SV),beqSV a b = true→a = b
  | .un,b,h=>by cases b <;> simp [beqSV] at h; rfl
  | .x e,b,h=>by cases b <;> simp [beqSV] at h; rw [beqX_eq _ _ h]
  | .agg vs,b,h=>by cases b <;> simp [beqSV] at h; rw [beqSVs_eq _ _ h]
  | .tup vs,b,h=>by cases b <;> simp [beqSV] at h; rw [beqSVs_eq _ _ h]
  | .dp a c e s i j,b,h=>by cases b <;> simp [beqSV] at h; rw [h.1.1.1.1.1,h.1.1.1.1.2,h.1.1.1.2,h.1.1.2,h.1.2,beqX_eq _ _ h.2]
  | .gs a c k,b,h=>by cases b <;> simp [beqSV] at h; rw [h.1.1,h.1.2,beqX_eq _ _ h.2]
  | .gt a c k,b,h=>by cases b <;> simp [beqSV] at h; rw [h.1.1,h.1.2,beqX_eq _ _ h.2]
  | .sb a c k,b,h=>by cases b <;> simp [beqSV] at h; rw [h.1.1,h.1.2,h.2]
  | .rb a c,b,h=>by cases b <;> simp [beqSV] at h; rw [h.1,h.2]
  | .mp a,b,h=>by cases b <;> simp [beqSV] at h; rw [h]
  | .yl a,b,h=>by cases b <;> simp [beqSV] at h; rw [h]
  | .clo f vs,b,h=>by cases b <;> simp [beqSV] at h; rw [h.1,beqSVs_eq _ _ h.2]
  | .ptr a o,b,h=>by cases b <;> simp [beqSV] at h; rw [h.1,h.2]
  | .gl a o,b,h=>by cases b <;> simp [beqSV] at h; rw [h.1,h.2]
  | .ep a o i c,b,h=>by cases b <;> simp [beqSV] at h; rw [h.1.1.1,h.1.1.2,beqX_eq _ _ h.1.2,h.2]
  | .gd g v,b,h=>by cases b <;> simp [beqSV] at h; rw [beqX_eq _ _ h.1,beqSV_eq _ _ h.2]
theorem beqSVs_eq : ∀ (a b : List SV),beqSVs a b = true→a = b
  | [],b,h=>by cases b <;> simp [beqSVs] at h; rfl
  | x :: r,b,h=>by
    cases b <;> simp [beqSVs] at h
    rw [beqSV_eq x _ h.1,beqSVs_eq r _ h.2]
end
def beqSO : SO→SO→Bool
  | .box vs,.box us=>beqSVs vs us
  | .lst a b c,.lst a' b' c'=>a == a' && b == b' && beqX c c'
  | .map c,.map c'=>beqX c c'
  | .mpl a b c,.mpl a' b' c'=>a == a' && b == b' && beqX c c'
  | .raw k,.raw k'=>decide (k = k')
  | _,_=>false
theorem beqSO_eq {a b : SO} (h : beqSO a b = true) : a = b:=by
  cases a <;> cases b <;> simp [beqSO] at h
  · rw [beqSVs_eq _ _ h]
  · rw [h.1.1,h.1.2,beqX_eq _ _ h.2]
  · rw [beqX_eq _ _ h]
  · rw [h.1.1,h.1.2,beqX_eq _ _ h.2]
  · rw [h]
def leA {α : Type} (eq : α→α→Bool) (a b : List (Nat × α)) : Bool:=a.all fun p=>match find b p.1 with
  | some v=>match find a p.1 with
    | some u=>eq u v
    | none=>false
  | none=>false
theorem leA_find {α : Type} {eq : α→α→Bool} (he : ∀ x y,eq x y = true→x = y) {a b : List (Nat × α)} (h : leA eq a b = true) {n : Nat} {v : α} (hf : find a n = some v) : find b n = some v:=by
  have:=List.all_eq_true.1 h _ (find_mem hf)
  simp only [hf] at this
  cases hb : find b n with
  | none=>rw [hb] at this; cases this
  | some u=>rw [hb] at this; rw [he _ _ this]
def subset (a b : List X) : Bool:=a.all fun e=>b.any fun e'=>beqX e e'
def sameSy (q p : Sy × List X) : Bool:=leA beqSV q.1.s p.1.s && leA beqSO q.1.h p.1.h && leA beqSO p.1.h q.1.h && subset p.2 q.2 && q.1.nv == p.1.nv
def symRegion (P : Program) (fr : Cfg) (n : Nat) (ops : Array Oper) (draw : Bool) (Y : Sy) : Option (Sy × List X):=
  if draw then match orders P fr n ops with
    | some (s :: ss)=>(symRuns s Y).bind fun q=>if ss.all (fun s'=>match symRuns s' Y with
      | some p=>sameSy q p
      | none=>false) then some q else none
    | _=>none
  else symRuns (dReg P fr n ops) Y
section
variable {Ω : Raws} {G : FP} {ρ : List D} {ι γ : Nat→Tok} {Y : Sy} {σ : St}
theorem stripC_rep {h : List (Nat × SO)} {gx e : X} {d : D} (H : VR G ρ ι h (.x e) d) (hg : X.ev G ρ gx = some (bv true)) : VR G ρ ι h (stripC gx e) d:=by
  unfold stripC
  split
  · rename_i w g
    split
    · rename_i he
      obtain ⟨h1,_⟩:=H.x_inv
      rw [beqX_eq _ _ he] at h1
      obtain ⟨ds,a1,a2⟩:=ev_mk hg
      obtain ⟨dj,rfl,a3⟩:=evs1 a1
      rw [h1] at a3; cases a3
      simp only [XK.run] at a2
      split at a2
      · rename_i b heq
        simp only [List.cons.injEq,and_true] at heq
        subst heq
        have : b = w:=by cases b <;> cases w <;> simp_all [bv]
        subst this
        exact .x rfl rfl
      · cases a2
      · cases a2
    · exact H
  · exact H
theorem strip_rep {h : List (Nat × SO)} {gx : X} {v : SV} {d : D} (H : VR G ρ ι h v d) (hg : X.ev G ρ gx = some (bv true)) : VR G ρ ι h (strip gx v) d:=by
  unfold strip
  split
  · split
    · rename_i he
      cases H with
      | gd h1 h2 h3=>
        rw [beqX_eq _ _ he,hg] at h1
        cases h1
        exact h2 rfl
    · exact H
  · split
    · rename_i he
      obtain ⟨h1,h2⟩:=H.x_inv
      simp only [X.ev,beqX_eq _ _ he,hg,Option.bind_some,bv,D.asBool,cond_true] at h1
      exact .x h1 h2
    · exact stripC_rep H hg
  · exact stripC_rep H hg
  · exact H
theorem symStm_soundI (M : Mt Ω G ρ ι γ Y σ) {st : VStm} {Y' : Sy} {O : List X} (hs : symStm st Y = some (Y',O)) (hO : ∀ e ∈ O,∃ d,X.ev G ρ e = some d) :
    ∃ σ' ι' γ',st.run (env0 G) σ = some σ'∧Mt Ω G ρ ι' γ' Y' σ'∧(st.isOp = true→ι' = ι∧γ' = γ∧Y'.h = Y.h):=by
  have vals : ∀ (f : VArg→SV) (args : List VArg),(∀ a,VR G ρ ι Y.h (f a) (a.val σ.s))→VRs G ρ ι Y.h (args.map f) (args.map (VArg.val σ.s)):=fun f args hf=>
    ⟨by simp,fun i v d hv hd=>by
      rw [List.getElem?_map,Option.map_eq_some_iff] at hv hd
      obtain ⟨g,hg,rfl⟩:=hv
      obtain ⟨g',hg',rfl⟩:=hd
      rw [hg] at hg'; cases hg'
      exact hf g⟩
  unfold symStm at hs
  split at hs
  · rename_i x k args
    obtain ⟨⟨v,O'⟩,h1,h2⟩:=Option.map_eq_some_iff.1 hs
    cases h2
    obtain ⟨d,h3,h4⟩:=symOp_sound M (vals _ args (valS_rep M)) h1 hO
    exact ⟨σ.set x d,ι,γ,by simp [VStm.run,guardV,opV,h3],M.set h4,fun _=>⟨rfl,rfl,rfl⟩⟩
  · rename_i x k args j w
    split at hs
    · rename_i b hg
      obtain ⟨k1,_⟩:=(M.slot j _ hg).x_inv
      have hgd : guardV σ (some (j,w)) = some (b == w):=by
        have : σ.s j = .v (.bool b):=(Option.some.inj (show some (D.v (.bool b)) = some (σ.s j) from k1)).symm
        simp [guardV,this]
      split at hs
      · rename_i hbw
        subst hbw
        obtain ⟨⟨v,O'⟩,h1,h2⟩:=Option.map_eq_some_iff.1 hs
        cases h2
        obtain ⟨d,h3,h4⟩:=symOp_sound M (vals _ args (valS_rep M)) h1 hO
        exact ⟨σ.set x d,ι,γ,by simp [VStm.run,hgd,opV,h3],M.set h4,fun _=>⟨rfl,rfl,rfl⟩⟩
      · rename_i hbw
        cases hs
        exact ⟨σ.set x (.tup []),ι,γ,by simp only [VStm.run,hgd,Option.bind_some]; rw [show (b == w) = false by simpa using hbw]; rfl,M.set (.x rfl rfl),fun _=>⟨rfl,rfl,rfl⟩⟩
    · rename_i g hg
      obtain ⟨⟨v,O'⟩,h1,h2⟩:=Option.map_eq_some_iff.1 hs
      cases h2
      obtain ⟨db,hdb⟩:=hO _ (List.mem_cons_self ..)
      obtain ⟨ds,a1,a2⟩:=ev_mk hdb
      obtain ⟨dj,rfl,a3⟩:=evs1 a1
      obtain ⟨k1,k2⟩:=(M.slot j _ hg).x_inv
      rw [k1] at a3; cases a3
      have hgd : ∃ b,guardV σ (some (j,w)) = some b∧db = bv b:=by
        simp only [XK.run] at a2
        split at a2
        · rename_i b heq
          simp only [List.cons.injEq,and_true] at heq
          cases a2
          exact ⟨_,by simp [guardV,heq],rfl⟩
        · rename_i heq
          simp only [List.cons.injEq,and_true] at heq
          cases a2
          exact ⟨_,by simp [guardV,heq],rfl⟩
        · cases a2
      obtain ⟨b,hb,rfl⟩:=hgd
      cases b
      · refine ⟨σ.set x (.tup []),ι,γ,by simp [VStm.run,hb],M.set ?_,fun _=>⟨rfl,rfl,rfl⟩⟩
        cases v with
        | x e=>exact .x (by simp only [X.ev] at hdb ⊢; rw [hdb]; rfl) rfl
        | _=>exact .gd hdb (fun h=>by cases h) fun _=>rfl
      · have hO' : ∀ e ∈ O',∃ d,X.ev G ρ e = some d:=fun e he=>by
          obtain ⟨d,hd⟩:=hO _ (List.mem_cons_of_mem _ (List.mem_map.2 ⟨e,he,rfl⟩))
          simp only [X.ev] at hd hdb
          rw [hdb] at hd
          exact ⟨d,hd⟩
        obtain ⟨d,h3,h4⟩:=symOp_sound M (vals _ args fun a=>strip_rep (valS_rep M a) hdb) h1 hO'
        refine ⟨σ.set x d,ι,γ,by simp [VStm.run,hb,opV,h3],M.set ?_,fun _=>⟨rfl,rfl,rfl⟩⟩
        cases v with
        | x e=>
          obtain ⟨h5,h6⟩:=h4.x_inv
          exact .x (by simp only [X.ev] at hdb ⊢; rw [hdb]; exact h5) h6
        | _=>exact .gd hdb (fun _=>h4) fun h=>by cases h
    · cases hs
  · obtain ⟨σ',ι',γ',h1,h2⟩:=symEff_sound M hs hO
    exact ⟨σ',ι',γ',by simp [VStm.run,guardV,h1],h2,fun h=>by cases h⟩
  · rename_i e j w
    split at hs
    · rename_i b hg
      obtain ⟨k1,_⟩:=(M.slot j _ hg).x_inv
      have hgd : guardV σ (some (j,w)) = some (b == w):=by
        have : σ.s j = .v (.bool b):=(Option.some.inj (show some (D.v (.bool b)) = some (σ.s j) from k1)).symm
        simp [guardV,this]
      split at hs
      · rename_i hbw
        subst hbw
        obtain ⟨σ',ι',γ',h1,h2⟩:=symEff_sound M hs hO
        exact ⟨σ',ι',γ',by simp [VStm.run,hgd,h1],h2,fun h=>by cases h⟩
      · rename_i hbw
        refine ⟨σ.void e.dst,ι,γ,by simp only [VStm.run,hgd,Option.bind_some]; rw [show (b == w) = false by simpa using hbw]; rfl,?_,fun h=>by cases h⟩
        cases hd : e.dst with
        | none=>rw [hd] at hs; cases hs; exact M
        | some x=>rw [hd] at hs; cases hs; exact M.set (.x rfl rfl)
    · cases hs
  · cases hs
theorem symStm_sound (M : Mt Ω G ρ ι γ Y σ) {st : VStm} {Y' : Sy} {O : List X} (hs : symStm st Y = some (Y',O)) (hO : ∀ e ∈ O,∃ d,X.ev G ρ e = some d) :
    ∃ σ' ι' γ',st.run (env0 G) σ = some σ'∧Mt Ω G ρ ι' γ' Y' σ':=let ⟨σ',ι',γ',h1,h2,_⟩:=symStm_soundI M hs hO; ⟨σ',ι',γ',h1,h2⟩
theorem symRuns0_sound : ∀ {sts : List VStm} {Y : Sy} {σ : St} {ι γ : Nat→Tok} {Y' : Sy} {O : List X},Mt Ω G ρ ι γ Y σ→symRuns0 sts Y = some (Y',O)→(∀ e ∈ O,∃ d,X.ev G ρ e = some d)→
    ∃ σ' ι' γ',runs (env0 G) sts σ = some σ'∧Mt Ω G ρ ι' γ' Y' σ'
  | [],Y,σ,ι,γ,Y',O,M,hs,_=>by cases hs; exact ⟨σ,ι,γ,rfl,M⟩
  | st :: r,Y,σ,ι,γ,Y',O,M,hs,hO=>by
    simp only [symRuns0,Option.bind_eq_some_iff,Option.map_eq_some_iff] at hs
    obtain ⟨⟨Y1,O1⟩,h1,⟨Y2,O2⟩,h2,h3⟩:=hs
    cases h3
    obtain ⟨σ1,ι1,γ1,g1,M1⟩:=symStm_sound M h1 fun e he=>hO e (by simp [he])
    obtain ⟨σ2,ι2,γ2,g2,M2⟩:=symRuns0_sound M1 h2 fun e he=>hO e (by simp [he])
    exact ⟨σ2,ι2,γ2,by simp [runs,g1,g2],M2⟩
theorem Mt.sub (M : Mt Ω G ρ ι γ Y σ) {Z : Sy} (hs : ∀ i v,find Z.s i = some v→find Y.s i = some v) (hh : ∀ n,find Z.h n = find Y.h n) (hnv : Z.nv = Y.nv) : Mt Ω G ρ ι γ Z σ:=by
  have vr : ∀ {v : SV} {d : D},VR G ρ ι Y.h v d→VR G ρ ι Z.h v d:=fun H=>H.mono (fun _ _ h=>h) fun n _=>⟨rfl,Lk.same (fun _ _ h=>h) (hh n)⟩
  refine ⟨fun i v hv=>vr (M.slot i v (hs i v hv)),fun n vs hn=>?_,fun n e sz c hn=>M.lst n e sz c (by rw [← hh]; exact hn),fun n c hn=>M.mpo n c (by rw [← hh]; exact hn),fun n e sz c hn=>?_,fun n n' _ _ _ _ _ _ h1 h2=>M.one n n' _ _ _ _ _ _ (by rw [← hh]; exact h1) (by rw [← hh]; exact h2),fun n k hn=>M.rwo n k (by rw [← hh]; exact hn),
    fun a b o o' h1 h2=>M.inj a b o o' (by rw [← hh]; exact h1) (by rw [← hh]; exact h2),
    fun a b e e' sz sz' c c' h1 h2=>M.grp a b e e' sz sz' c c' (by rw [← hh]; exact h1) (by rw [← hh]; exact h2),M.wf,fun n e sz c hn=>M.old n e sz c (by rw [← hh]; exact hn),by rw [hnv]; exact M.nv,M.con⟩
  · obtain ⟨ds,h1,h2,h3⟩:=M.box n vs (by rw [← hh]; exact hn)
    exact ⟨ds,h1,h2,h3.1,fun i v d hv hd=>vr (h3.2 i v d hv hd)⟩
  · obtain ⟨L,h1,h2,h3,h4⟩:=M.own n e sz c (by rw [← hh]; exact hn)
    exact ⟨L,h1,h2,h3,fun q hq=>(h4.1 q hq).keep rfl (fun k o hk=>(h4.1 q hq).2.2.2.1 k o (by rw [← hh]; exact hk)) (fun k e sz c hk=>(h4.1 q hq).2.2.2.2.1 k e sz c (by rw [← hh]; exact hk)) fun _=>Nat.le_refl _,h4.2⟩
theorem findV_keys {ks : List Nat} {k : D} : ∀ {l l' : List (D × D)} {i : Nat},l.map Prod.fst = l'.map Prod.fst→findV ks k l i = findV ks k l' i
  | [],[],_,_=>rfl
  | p :: r,p' :: r',i,h=>by
    simp only [List.map_cons,List.cons.injEq] at h
    simp only [findV,h.1,findV_keys h.2]
  | [],_ :: _,_,h=>by simp at h
  | _ :: _,[],_,h=>by simp at h
theorem run_frame {Γ : Env} {st : VStm} {σ σ' : St} (h : st.run Γ σ = some σ') (hb : st.fine = true) {j : Nat} (hj : st.dst ≠ some j) : σ'.s j = σ.s j:=by
  cases st with
  | op x k args g=>
    obtain ⟨d,rfl,_⟩:=op_run_congr h
    exact St.set_ne _ _ fun e=>hj (by simp [VStm.dst,e])
  | eff e g=>
    simp only [VStm.run] at h
    rw [Option.bind_eq_some_iff] at h
    obtain ⟨c,hc,h⟩:=h
    cases c
    · simp only [cond_false,Option.some.injEq] at h
      subst h
      cases hd : e.dst with
      | none=>rfl
      | some y=>exact St.set_ne _ _ fun e2=>hj (by simp [VStm.dst,hd,e2])
    · simp only [cond_true] at h
      have fin : ∀ {x o d},σ.new x o d = σ'→e.dst = some x→σ'.s j = σ.s j:=fun {x o d} h1 h2=>by
        subst h1
        exact St.new_s fun e3=>hj (by simp [VStm.dst,h2,e3])
      cases e with
      | box _ _ x a=>
        simp only [Eff.run,boxV] at h
        split at h
        · exact fin (Option.some.inj h) rfl
        · cases h
      | mks x e size zero a b=>
        simp only [Eff.run,mksV] at h
        split at h
        · split at h
          · exact fin (Option.some.inj h) rfl
          · cases h
        · cases h
      | lit x e size len zero places args=>
        simp only [Eff.run,litV] at h
        split at h
        · rw [Option.bind_eq_some_iff] at h
          obtain ⟨cs,_,h⟩:=h
          split at h
          · exact fin (Option.some.inj h) rfl
          · cases h
        · cases h
      | mkm x=>exact fin (Option.some.inj h) rfl
      | mkml x=>exact fin (Option.some.inj h) rfl
      | _=>simp [VStm.fine,VStm.news,Eff.news] at hb
  | bad=>cases h
theorem runs_append {Γ : Env} : ∀ {a b : List VStm} {σ : St},runs Γ (a ++ b) σ = (runs Γ a σ).bind (runs Γ b)
  | [],b,σ=>rfl
  | st :: r,b,σ=>by
    simp only [List.cons_append,runs]
    cases st.run Γ σ with
    | none=>rfl
    | some σ1=>simp only [Option.bind_some]; exact runs_append
theorem runs_frame {Γ : Env} : ∀ {sts : List VStm} {σ σ' : St},WF σ→runs Γ sts σ = some σ'→(∀ st ∈ sts,st.fine = true)→MSub σ.m σ'.m∧∀ j,(∀ st ∈ sts,st.dst ≠ some j)→σ'.s j = σ.s j
  | [],σ,σ',_,h,_=>by cases h; exact ⟨fun _ _ h=>h,fun _ _=>rfl⟩
  | st :: r,σ,σ',W,h,hf=>by
    simp only [runs,Option.bind_eq_some_iff] at h
    obtain ⟨σ1,h1,h2⟩:=h
    have hm:=run_mem W h1
    have hfs:=hf st (List.mem_cons_self ..)
    obtain ⟨k1,k2⟩:=runs_frame hm.1 h2 fun s hs=>hf s (List.mem_cons_of_mem _ hs)
    refine ⟨fun t o ht=>k1 t o ?_,fun j hj=>?_⟩
    · cases st with
      | op=>rw [hm.2.2 trivial]; exact ht
      | eff e g=>exact hm.2.1 hfs t o ht
      | bad=>cases h1
    · rw [k2 j fun s hs=>hj s (List.mem_cons_of_mem _ hs)]
      exact run_frame h1 hfs (hj st (List.mem_cons_self ..))
theorem Mt.apm (M : Mt Ω G ρ ι γ Y σ) {n e sz y : Nat} {c c' : X} {L' : List OE} {σ' : St} (hf : find Y.h n = some (.mpl e sz c)) (hs : ∀ j,j ≠ y→σ'.s j = σ.s j) (W : WF σ') (hc : ∀ y,σ.c y≤σ'.c y)
    (hm : ∀ k o,k ≠ n→find Y.h k = some o→ι k ≠ []→σ'.m (ι k) = σ.m (ι k)) (hraw : ∀ t q,σ.m t = some (.raw q)→σ'.m t = some (.raw q)) (hi : ι n ≠ []) (he : X.ev G ρ c' = some (.list (pairR (L'.map OE.pr))))
    (hmp : σ'.m (ι n) = some (.map (L'.map (OE.en sz)))) (hL : OwnA Y.h ι γ σ' e sz L') : Mt Ω G ρ ι γ { Y with s:=setA y .un Y.s,h:=setA n (.mpl e sz c') Y.h } σ':=by
  have hf' : ∀ k,find (setA n (.mpl e sz c') Y.h) k = if k = n then some (.mpl e sz c') else find Y.h k:=fun k=>find_set n k _ Y.h
  have vr : ∀ {v : SV} {d : D},VR G ρ ι Y.h v d→VR G ρ ι (setA n (.mpl e sz c') Y.h) v d:=fun H=>H.write hf trivial
  have back : ∀ {k : Nat} {o : SO},(∀ a b d,o ≠ .mpl a b d)→find (setA n (.mpl e sz c') Y.h) k = some o→k ≠ n∧find Y.h k = some o:=fun {k o} hq h=>by
    rw [hf'] at h
    by_cases hk : k = n
    · rw [if_pos hk] at h; cases h; exact absurd rfl (hq _ _ _)
    · rw [if_neg hk] at h; exact ⟨hk,h⟩
  have anyO : ∀ {k : Nat} {o : SO},find (setA n (.mpl e sz c') Y.h) k = some o→∃ o',find Y.h k = some o':=fun {k o} h=>by
    rw [hf'] at h
    by_cases hk : k = n
    · rw [hk]; exact ⟨_,hf⟩
    · rw [if_neg hk] at h; exact ⟨_,h⟩
  have only : ∀ {k a b : Nat} {d : X},find (setA n (.mpl e sz c') Y.h) k = some (.mpl a b d)→k = n:=fun {k a b d} h=>by
    rw [hf'] at h
    by_cases hk : k = n
    · exact hk
    · rw [if_neg hk] at h; exact M.one k n _ _ _ _ _ _ h hf
  refine ⟨fun i v hv=>?_,fun k vs hk=>?_,fun k e sz c hk=>?_,fun k c hk=>?_,fun k a b d hk=>?_,fun a b _ _ _ _ _ _ h1 h2=>(only h1).trans (only h2).symm,fun k kk hk=>?_,fun a b o o' h1 h2=>?_,fun a b e e' sz sz' c c' h1 h2=>?_,W,fun k e sz c hk hne z j r hg=>?_,M.nv,fun t ht=>hraw t _ (M.con t ht)⟩
  · simp only [find_set] at hv
    by_cases hiy : i = y
    · rw [if_pos hiy] at hv; cases hv; exact .un
    · rw [if_neg hiy] at hv; rw [hs i hiy]; exact vr (M.slot i v hv)
  · obtain ⟨hne,hk⟩:=back (by simp) hk
    obtain ⟨ds,h1,h2,h3⟩:=M.box k vs hk
    exact ⟨ds,h1,by rw [hm k _ hne hk h1]; exact h2,h3.1,fun i v d hv hd=>vr (h3.2 i v d hv hd)⟩
  · obtain ⟨hne,hk⟩:=back (by simp) hk
    obtain ⟨es,h1,h2,h3⟩:=M.lst k _ _ _ hk
    refine ⟨es,h1,h2,?_⟩
    rcases h3 with h3 | ⟨h3,h4⟩
    · exact .inl h3
    · exact .inr ⟨h3,by rw [hm k _ hne hk h3]; exact h4⟩
  · obtain ⟨hne,hk⟩:=back (by simp) hk
    obtain ⟨es,h1,h2,h3⟩:=M.mpo k c hk
    exact ⟨es,h1,h2,by rw [hm k _ hne hk h2]; exact h3⟩
  · obtain rfl:=only hk
    rw [hf',if_pos rfl] at hk
    cases hk
    refine ⟨L',he,hi,hmp,fun q hq=>(hL.1 q hq).keep rfl (fun k o ho=>?_) (fun k e sz c ho=>?_) fun _=>Nat.le_refl _,hL.2⟩
    · obtain ⟨o',ho'⟩:=anyO ho
      exact (hL.1 q hq).2.2.2.1 k o' ho'
    · exact (hL.1 q hq).2.2.2.2.1 k _ _ _ (back (by simp) ho).2
  · obtain ⟨hne,hk⟩:=back (by simp) hk
    obtain ⟨h1,h2,h3,h4⟩:=M.rwo k kk hk
    exact ⟨h1,h2,by rw [hm k _ hne hk h2]; exact h3,h4⟩
  · obtain ⟨_,g1⟩:=anyO h1
    obtain ⟨_,g2⟩:=anyO h2
    exact M.inj a b _ _ g1 g2
  · exact M.grp a b _ _ _ _ _ _ (back (by simp) h1).2 (back (by simp) h2).2
  · exact Nat.lt_of_lt_of_le (M.old k _ _ _ (back (by simp) hk).2 hne z j r hg) (hc z)
theorem nodup_get {α : Type} : ∀ {l : List α} {i j : Nat} {a : α},l.Nodup→l[i]? = some a→l[j]? = some a→i = j
  | [],i,j,a,_,h,_=>by simp at h
  | b :: r,i,j,a,hd,hi,hj=>by
    have hd:=List.nodup_cons.1 hd
    cases i with
    | zero=>
      cases j with
      | zero=>rfl
      | succ j=>simp at hi hj; subst hi; exact absurd (List.mem_of_getElem? hj) hd.1
    | succ i=>
      cases j with
      | zero=>simp at hi hj; subst hj; exact absurd (List.mem_of_getElem? hi) hd.1
      | succ j=>exact congrArg (· + 1) (nodup_get hd.2 (a:=a) (by simpa using hi) (by simpa using hj))
theorem val_t (s : Nat→D) (j : Nat) : (VArg.t j).val s = s j:=rfl
theorem keys_eq (L : List OE) (sz : Nat) : (L.map (OE.en sz)).map Prod.fst = (L.map OE.pr).map Prod.fst:=by
  simp only [List.map_map]; rfl
theorem apm_sound (M : Mt Ω G ρ ι γ Y σ) {x y i i' n e sz : Nat} {k k' b : VArg} {ks : List Nat} {c cb kx : X} (ha : find Y.s i = some (.mp n)) (hf : find Y.h n = some (.mpl e sz c))
    (hk : (valS Y k).asX = some kx) (hcb : contOf Y.h (valS Y b) = some cb) (hO : ∃ d,X.ev G ρ (.mk (.mapp ks sz) [c,kx,cb]) = some d)
    (hlk : lkpV σ.m ks .nil false [σ.s i,k.val σ.s] = some (σ.s x)) :
    ∃ σ2,(VStm.eff (.app y e sz (.t x) b) none).run (env0 G) σ = some σ2∧Mt Ω G ρ ι γ (Y.unset y) σ2∧(∀ j,j ≠ y→σ2.s j = σ.s j)∧
      ∀ (Y3 : Sy) (σ3 : St),Mt Ω G ρ ι γ Y3 σ3→σ3.m = σ2.m→σ3.c = σ2.c→σ3.s y = σ2.s y→(∀ k,find Y3.h k = find Y.h k)→find Y3.s i' = some (.mp n)→(valS Y3 k').asX = some kx→
        ∃ σ4,(VStm.eff (.mupd ks (.t i') k' (.t y)) none).run (env0 G) σ3 = some σ4∧Mt Ω G ρ ι γ { Y3 with s:=setA y .un Y3.s,h:=setA n (.mpl e sz (.mk (.mapp ks sz) [c,kx,cb])) Y3.h } σ4:=by
  obtain ⟨L,o1,o2,o3,o4,o5⟩:=M.own n e sz c hf
  have hsi : σ.s i = .mp (ι n):=by have:=M.slot i _ ha; generalize σ.s i = d at this; cases this; rfl
  obtain ⟨d',hd'⟩:=hO
  obtain ⟨ds0,a1,a2⟩:=ev_mk hd'
  simp only [X.evs,Option.bind_eq_some_iff,Option.map_eq_some_iff] at a1
  obtain ⟨dc,b1,r1,⟨dk,b2,r2,⟨db,b3,r3,b4,rfl⟩,rfl⟩,rfl⟩:=a1
  cases b4
  rw [o1] at b1; cases b1
  have e1:=asX_sound (valS_rep M k) hk b2
  simp only [XK.run,unpair_pair,Option.bind_some,Option.bind_eq_some_iff,Option.map_eq_some_iff] at a2
  obtain ⟨es2,g1,es',g2,rfl⟩:=a2
  have hel:=contOf_sound M (valS_rep M b) hcb b3 g1
  unfold mappV at g2
  split at g2
  rotate_left
  · cases g2
  rename_i hcond
  obtain ⟨hkey,hrow,hne⟩:=hcond
  have hrow : rowsOK sz es2 = true:=hrow
  have hall : ¬ (es2.all (fun c=>c.length == sz) = false):=by rw [rowsOK_len hrow]; simp
  obtain ⟨r,hr,g2⟩:=Option.bind_eq_some_iff.1 g2
  simp only [lkpV,hsi,o3,← e1] at hlk
  rw [if_pos hkey,findV_keys (keys_eq L sz),hr,Option.bind_some] at hlk
  have ownn : ∀ q,q ∈ L→Owned Y.h ι γ σ q:=fun q hq=>⟨n,e,sz,c,L,hf,o3,⟨o4,o5⟩,hq⟩
  have hnt : ι n ≠ σ.tok y:=M.ne_tok y hf
  have hsame : ∀ k,find (setA n (.mpl e sz c) Y.h) k = find Y.h k:=fun k=>by
    rw [find_set]
    by_cases hkn : k = n
    · rw [if_pos hkn,hkn,hf]
    · rw [if_neg hkn]
  cases r with
  | none=>
    simp only [Bool.false_eq_true,if_false,Option.some.injEq] at hlk
    simp only [] at g2
    split at g2 <;> cases g2
    rename_i hlen
    let v:=D.sl (σ.tok y) sz 0 es2.length none
    let σ2:=σ.new y (.row (σ.tok y) e es2) v
    have h2s : ∀ j,j ≠ y→σ2.s j = σ.s j:=fun j hj=>St.new_s hj
    have h2y : σ2.s y = v:=by simp [σ2,St.new,St.set]
    have h2m : ∀ t,σ2.m t = if t = σ.tok y then some (.row (σ.tok y) e es2) else σ.m t:=fun t=>new_m ..
    have h2n : σ2.m (ι n) = some (.map (L.map (OE.en sz))):=by rw [h2m,if_neg hnt]; exact o3
    have hc2 : ∀ z,σ2.c z = if z = y then σ.c z + 1 else σ.c z:=fun z=>rfl
    have r2 : (VStm.eff (.app y e sz (.t x) b) none).run (env0 G) σ = some σ2:=by
      simp only [VStm.run,guardV,Option.bind_some,cond_true,Eff.run,val_t,← hlk,appV,hel]
      rw [if_neg hall,if_neg (by simpa using hne),if_pos hlen.2]
    have keepm : ∀ q,q ∈ L→σ2.m q.u = σ.m q.u:=fun q hq=>by rw [h2m,if_neg (Ne.symm (M.own_tok y (ownn q hq)).1)]
    have M2:=M.apm (y:=y) (c':=c) (L':=L) (σ':=σ2) hf h2s (M.wf.new y _ _) (fun z=>by rw [hc2]; split <;> omega) (fun j o hj ho hi=>by rw [h2m,if_neg (M.ne_tok y ho)]) (fun t q hq=>by rw [h2m,if_neg (fun e=>by rw [e,M.wf.tok y] at hq; cases hq)]; exact hq) o2 o1 h2n
      ⟨fun q hq=>(o4 q hq).keep (keepm q hq) (o4 q hq).2.2.2.1 (o4 q hq).2.2.2.2.1 (fun z=>by rw [hc2]; split <;> omega),o5⟩
    refine ⟨σ2,r2,M2.sub (fun i v h=>h) (fun k=>(hsame k).symm) rfl,h2s,fun Y3 σ3 M3 k1 k2 k3 k4 k5 k6=>?_⟩
    have hsi' : σ3.s i' = .mp (ι n):=by have:=M3.slot i' _ k5; generalize σ3.s i' = d at this; cases this; rfl
    have e2:=asX_sound (valS_rep M3 k') k6 b2
    have r3 : (VStm.eff (.mupd ks (.t i') k' (.t y)) none).run (env0 G) σ3 = some (σ3.put (ι n) (some (.map (L.map (OE.en sz) ++ [(dk,v)])))):=by
      simp only [VStm.run,guardV,Option.bind_some,cond_true,Eff.run,val_t,hsi',← e2,k3,h2y,mupdV,k1,h2n]
      rw [if_pos ⟨rfl,hkey⟩,findV_keys (keys_eq L sz),hr]
      simp only [Option.bind_some,List.length_map]
      rw [if_pos (by simpa using hlen.1)]
    refine ⟨_,r3,?_⟩
    have hm3 : ∀ t,(σ3.put (ι n) (some (.map (L.map (OE.en sz) ++ [(dk,v)])))).m t = if t = ι n then some (.map (L.map (OE.en sz) ++ [(dk,v)])) else σ3.m t:=fun t=>rfl
    have hf3 : find Y3.h n = some (.mpl e sz c):=by rw [k4]; exact hf
    refine M3.apm (L':=L ++ [⟨dk,σ.tok y,σ.tok y,es2⟩]) hf3 (fun j hj=>rfl) (M3.wf.put (by rw [k1,h2n]; simp)) (fun z=>Nat.le_refl _) (fun j o hj ho hi=>?_) (fun t q hq=>?_) o2 ?_ ?_ ⟨fun q hq=>?_,?_⟩
    · rw [hm3,if_neg (fun e=>hj (M3.inj j n _ _ ho hf3 e hi))]
    · rw [hm3,if_neg (fun e=>by rw [e,k1,h2n] at hq; cases hq)]; exact hq
    · rw [List.map_append]; exact hd'
    · rw [hm3,if_pos rfl,List.map_append]; rfl
    · rcases List.mem_append.1 hq with hq | hq
      · refine (o4 q hq).keep ?_ (fun k o ho=>(o4 q hq).2.2.2.1 k o (by rw [← k4]; exact ho)) (fun k e sz c ho=>(o4 q hq).2.2.2.2.1 k e sz c (by rw [← k4]; exact ho)) (fun z=>?_)
        · rw [hm3,if_neg (M.own_ne hf (ownn q hq)),k1]; exact keepm q hq
        · show σ.c z≤σ3.c z
          rw [k2,hc2]; split <;> omega
      · rw [List.mem_singleton] at hq
        subst hq
        refine ⟨tok_ne σ y,hrow,?_,fun j o ho=>M.ne_tok y (by rw [← k4]; exact ho),fun j e sz c ho hi=>M.grp_tok y (by rw [← k4]; exact ho) hi,fun z j rr hz=>?_⟩
        · rw [hm3,if_neg (Ne.symm hnt),k1,h2m,if_pos rfl]
        · simp only [St.tok,List.cons.injEq] at hz
          obtain ⟨z1,z2,_⟩:=hz
          have : z = y:=by omega
          subst this
          show j < σ3.c z
          rw [k2,hc2,if_pos rfl]; omega
    · rw [List.map_append,List.nodup_append]
      refine ⟨o5,by simp,fun a ha' b hb'=>?_⟩
      obtain ⟨q,hq,rfl⟩:=List.mem_map.1 ha'
      simp only [List.map_cons,List.map_nil,List.mem_singleton] at hb'
      subst hb'
      exact Ne.symm (M.own_tok y (ownn q hq)).2
  | some j=>
    obtain ⟨p,hp,hpx⟩:=Option.map_eq_some_iff.1 hlk
    simp only [Bool.false_eq_true,if_false] at hpx
    rw [List.getElem?_map,Option.map_eq_some_iff] at hp
    obtain ⟨q,hq,rfl⟩:=hp
    simp only [OE.en] at hpx
    simp only [List.getElem?_map,hq,Option.map_some,OE.pr] at g2
    split at g2 <;> cases g2
    rename_i hlen
    have hqm:=List.mem_of_getElem? hq
    obtain ⟨q1,q2,q3,q4,q5,q6⟩:=o4 q hqm
    have hjl:=(List.getElem?_eq_some_iff.1 hq).1
    let v:=D.sl (σ.tok y) sz 0 (q.es.length + es2.length) none
    let σ2:=(σ.strike q.g q.es.length).new y (.row q.g e (q.es.take q.es.length ++ es2)) v
    have h2s : ∀ j,j ≠ y→σ2.s j = σ.s j:=fun j hj=>by simp only [σ2]; rw [St.new_s hj]; rfl
    have h2y : σ2.s y = v:=by simp [σ2,St.new,St.set]
    have htk : (σ.strike q.g q.es.length).tok y = σ.tok y:=rfl
    have h2m : ∀ t,σ2.m t = if t = σ.tok y then some (.row q.g e (q.es ++ es2)) else HO.struck q.g q.es.length (σ.m t):=fun t=>by
      simp only [σ2,new_m,htk,List.take_length]; rfl
    have h2n : σ2.m (ι n) = some (.map (L.map (OE.en sz))):=by rw [h2m,if_neg hnt,o3]; rfl
    have hc2 : ∀ z,σ2.c z = if z = y then σ.c z + 1 else σ.c z:=fun z=>rfl
    have r2 : (VStm.eff (.app y e sz (.t x) b) none).run (env0 G) σ = some σ2:=by
      simp only [VStm.run,guardV,Option.bind_some,cond_true,Eff.run,val_t,← hpx,appV,hel]
      rw [if_neg hall]
      rw [if_neg (by simpa using hne)]
      simp only [q3]
      rw [if_pos ⟨trivial,trivial,hlen,by omega⟩]
      simp only [if_true]
      rfl
    have keepm : ∀ p,p ∈ L→σ2.m p.u = σ.m p.u:=fun p hp=>by
      rw [h2m,if_neg (Ne.symm (M.own_tok y (ownn p hp)).1),(o4 p hp).2.2.1]
      simp only [HO.struck]
      by_cases hpg : p.g = q.g
      · obtain ⟨m,hm⟩:=List.getElem?_of_mem hp
        have hmj : m = j:=nodup_get o5 (a:=p.g) (by rw [List.getElem?_map,hm]; rfl) (by rw [List.getElem?_map,hq,hpg]; rfl)
        subst hmj
        rw [hm] at hq; cases hq
        rw [if_neg (by omega)]
      · rw [if_neg fun hh=>hpg hh.1]
    have noneq : ∀ o : HO,(∀ e es,o ≠ .row q.g e es)→HO.struck q.g q.es.length (some o) = some o:=fun o ho=>by
      cases o with
      | row g' e' es'=>simp only [HO.struck]; rw [if_neg fun hh=>ho e' es' (by rw [hh.1])]
      | _=>rfl
    have keepo : ∀ j o,find Y.h j = some o→ι j ≠ []→σ2.m (ι j) = σ.m (ι j):=fun j o ho hi=>by
      rw [h2m,if_neg (M.ne_tok y ho)]
      cases o with
      | box vs=>obtain ⟨_,_,h,_⟩:=M.box j vs ho; rw [h]; rfl
      | map c=>obtain ⟨_,_,_,h⟩:=M.mpo j c ho; rw [h]; rfl
      | mpl e' sz' c=>obtain ⟨_,_,_,h,_⟩:=M.own j e' sz' c ho; rw [h]; rfl
      | raw kk=>obtain ⟨_,_,h,_⟩:=M.rwo j kk ho; rw [h]; rfl
      | lst e' sz' c'=>
        obtain ⟨es3,_,_,h⟩:=M.lst j _ _ _ ho
        rcases h with ⟨h,_⟩ | ⟨_,h⟩
        · exact absurd h hi
        · rw [h]
          exact noneq _ fun e2 es4 h2=>q5 j _ _ _ ho hi (by injection h2)
    have M2:=M.apm (y:=y) (c':=c) (L':=L) (σ':=σ2) hf h2s ((M.wf.strike _ _).new y _ _) (fun z=>by rw [hc2]; split <;> omega) (fun j o hj ho hi=>keepo j o ho hi) (fun t o ho=>by rw [h2m,if_neg (fun e=>by rw [e,M.wf.tok y] at ho; cases ho),ho]; rfl) o2 o1 h2n
      ⟨fun q hq=>(o4 q hq).keep (keepm q hq) (o4 q hq).2.2.2.1 (o4 q hq).2.2.2.2.1 (fun z=>by rw [hc2]; split <;> omega),o5⟩
    refine ⟨σ2,r2,M2.sub (fun i v h=>h) (fun k=>(hsame k).symm) rfl,h2s,fun Y3 σ3 M3 k1 k2 k3 k4 k5 k6=>?_⟩
    have hsi' : σ3.s i' = .mp (ι n):=by have:=M3.slot i' _ k5; generalize σ3.s i' = d at this; cases this; rfl
    have e2:=asX_sound (valS_rep M3 k') k6 b2
    let o4' : HO:=.map ((L.map (OE.en sz)).set j (q.k,v))
    have r3 : (VStm.eff (.mupd ks (.t i') k' (.t y)) none).run (env0 G) σ3 = some (σ3.put (ι n) (some o4')):=by
      simp only [VStm.run,guardV,Option.bind_some,cond_true,Eff.run,val_t,hsi',← e2,k3,h2y,mupdV,k1,h2n]
      rw [if_pos ⟨rfl,hkey⟩,findV_keys (keys_eq L sz),hr]
      simp only [Option.bind_some,List.getElem?_map,hq,Option.map_some,OE.en]
      rfl
    refine ⟨_,r3,?_⟩
    have hm3 : ∀ t,(σ3.put (ι n) (some o4')).m t = if t = ι n then some o4' else σ3.m t:=fun t=>rfl
    have hf3 : find Y3.h n = some (.mpl e sz c):=by rw [k4]; exact hf
    have hset : (L.set j ⟨q.k,σ.tok y,q.g,q.es ++ es2⟩).map (OE.en sz) = (L.map (OE.en sz)).set j (q.k,v):=by
      rw [List.map_set]; simp only [OE.en,v,List.length_append]
    have hset2 : (L.set j ⟨q.k,σ.tok y,q.g,q.es ++ es2⟩).map OE.pr = (L.map OE.pr).set j (q.k,.list (q.es ++ es2)):=by
      rw [List.map_set]; rfl
    have hsetg : (L.set j ⟨q.k,σ.tok y,q.g,q.es ++ es2⟩).map OE.g = L.map OE.g:=by
      rw [List.map_set]
      refine List.ext_getElem? fun m=>?_
      rw [List.getElem?_set]
      by_cases hmj : j = m
      · subst hmj
        rw [if_pos rfl,if_pos (by simpa using hjl),List.getElem?_map,hq]; rfl
      · rw [if_neg hmj]
    refine M3.apm (L':=L.set j ⟨q.k,σ.tok y,q.g,q.es ++ es2⟩) hf3 (fun j hj=>rfl) (M3.wf.put (by rw [k1,h2n]; simp)) (fun z=>Nat.le_refl _) (fun j o hj ho hi=>?_) (fun t o ho=>?_) o2 ?_ ?_ ⟨fun p hp=>?_,by rw [hsetg]; exact o5⟩
    · rw [hm3,if_neg (fun e=>hj (M3.inj j n _ _ ho hf3 e hi))]
    · rw [hm3,if_neg (fun e=>by rw [e,k1,h2n] at ho; cases ho)]; exact ho
    · rw [hset2]; exact hd'
    · rw [hm3,if_pos rfl,hset]
    · have hcz : ∀ z,σ.c z≤σ3.c z:=fun z=>by rw [k2,hc2]; split <;> omega
      obtain ⟨m,hm⟩:=List.getElem?_of_mem hp
      rw [List.getElem?_set] at hm
      by_cases hmj : j = m
      · rw [if_pos hmj,if_pos hjl] at hm
        cases hm
        refine ⟨tok_ne σ y,rowsOK_append q2 hrow,?_,fun j o ho=>M.ne_tok y (by rw [← k4]; exact ho),fun j e sz c ho=>q5 j e sz c (by rw [← k4]; exact ho),fun z j rr hz=>Nat.lt_of_lt_of_le (q6 z j rr hz) (hcz z)⟩
        rw [hm3,if_neg (Ne.symm hnt),k1,h2m,if_pos rfl]
      · rw [if_neg hmj] at hm
        have hpm:=List.mem_of_getElem? hm
        refine (o4 p hpm).keep ?_ (fun k o ho=>(o4 p hpm).2.2.2.1 k o (by rw [← k4]; exact ho)) (fun k e sz c ho=>(o4 p hpm).2.2.2.2.1 k e sz c (by rw [← k4]; exact ho)) hcz
        rw [hm3,if_neg (M.own_ne hf (ownn p hpm)),k1]; exact keepm p hpm
theorem apm_lkp (M : Mt Ω G ρ ι γ Y σ) {i n e sz : Nat} {k : VArg} {ks : List Nat} {c cb kx : X} (ha : find Y.s i = some (.mp n)) (hf : find Y.h n = some (.mpl e sz c))
    (hk : (valS Y k).asX = some kx) (hO : ∃ d,X.ev G ρ (.mk (.mapp ks sz) [c,kx,cb]) = some d) : ∃ d,lkpV σ.m ks .nil false [σ.s i,k.val σ.s] = some d:=by
  obtain ⟨L,o1,o2,o3,o4,o5⟩:=M.own n e sz c hf
  have hsi : σ.s i = .mp (ι n):=by have:=M.slot i _ ha; generalize σ.s i = d at this; cases this; rfl
  obtain ⟨d',hd'⟩:=hO
  obtain ⟨ds0,a1,a2⟩:=ev_mk hd'
  simp only [X.evs,Option.bind_eq_some_iff,Option.map_eq_some_iff] at a1
  obtain ⟨dc,b1,r1,⟨dk,b2,r2,⟨db,b3,r3,b4,rfl⟩,rfl⟩,rfl⟩:=a1
  cases b4
  rw [o1] at b1; cases b1
  have e1:=asX_sound (valS_rep M k) hk b2
  simp only [XK.run,unpair_pair,Option.bind_some,Option.bind_eq_some_iff,Option.map_eq_some_iff] at a2
  obtain ⟨es2,g1,es',g2,rfl⟩:=a2
  unfold mappV at g2
  split at g2
  rotate_left
  · cases g2
  rename_i hcond
  obtain ⟨r,hr,g2⟩:=Option.bind_eq_some_iff.1 g2
  simp only [lkpV,hsi,o3,← e1]
  rw [if_pos hcond.1,findV_keys (keys_eq L sz),hr,Option.bind_some]
  cases r with
  | none=>exact ⟨_,rfl⟩
  | some j=>
    simp only [List.getElem?_map] at g2 ⊢
    cases hj : L[j]? with
    | none=>rw [hj] at g2; cases g2
    | some q=>exact ⟨_,rfl⟩
theorem mplAt_sound (M : Mt Ω G ρ ι γ Y σ) {i : Nat} (h : mplAt Y i = true) : ∃ t es,σ.s i = .mp t∧σ.m t = some (.map es):=by
  unfold mplAt at h
  split at h
  · rename_i n hs
    split at h
    · rename_i e sz c hf
      obtain ⟨L,_,_,o3,_⟩:=M.own n _ _ _ hf
      have:=M.slot i _ hs
      generalize σ.s i = d at this
      cases this
      exact ⟨_,_,rfl,o3⟩
    · cases h
  · cases h
theorem findUpd_spec {f : List VStm→List Nat→Nat→VArg→Apm} {y : Nat} (hf : ∀ C ks' i' k',(f C ks' i' k').C = C∧(f C ks' i' k').S3 = .eff (.mupd ks' (.t i') k' (.t y)) none) : ∀ {r C : List VStm} {q : Apm} {R : List VStm},findUpd f y C r = some (q,R)→
    (∃ C' ks' i' k',q = f C' ks' i' k')∧C.reverse ++ r = q.C ++ [q.S3] ++ R
  | [],C,q,R,h=>by cases C <;> simp [findUpd] at h
  | st :: r,C,q,R,h=>by
    unfold findUpd at h
    split at h
    · rename_i heq
      cases heq
      split at h
      · rename_i hc
        cases h
        subst hc
        refine ⟨⟨_,_,_,_,rfl⟩,?_⟩
        rw [(hf _ _ _ _).1,(hf _ _ _ _).2]; simp
      · cases h
    · rename_i heq
      cases heq
      split at h
      · obtain ⟨h1,h2⟩:=findUpd_spec hf h
        exact ⟨h1,by rw [← h2]; simp⟩
      · cases h
    · rename_i heq; cases heq
theorem findApp_spec {x : Nat} {ks : List Nat} {i : Nat} {k : VArg} : ∀ {r B : List VStm} {q : Apm} {R : List VStm},findApp x ks i k B r = some (q,R)→q.x = x∧q.ks = ks∧q.i = i∧q.k = k∧B.reverse ++ r = q.B ++ (q.S2 :: (q.C ++ [q.S3])) ++ R
  | [],B,q,R,h=>by cases B <;> simp [findApp] at h
  | st :: r,B,q,R,h=>by
    unfold findApp at h
    split at h
    · rename_i heq
      cases heq
      split at h
      · rename_i hc
        subst hc
        obtain ⟨⟨C',ks',i',k',rfl⟩,h2⟩:=findUpd_spec (fun _ _ _ _=>⟨rfl,rfl⟩) h
        refine ⟨rfl,rfl,rfl,rfl,?_⟩
        simp only [List.reverse_nil,List.nil_append] at h2
        rw [h2]
        simp [Apm.S2]
      · cases h
    · rename_i heq
      cases heq
      split at h
      · obtain ⟨h1,h2,h3,h4,h5⟩:=findApp_spec h
        exact ⟨h1,h2,h3,h4,by rw [← h5]; simp⟩
      · cases h
    · rename_i heq; cases heq
theorem symOps_sound : ∀ {sts : List VStm} {Y : Sy} {σ : St} {Y' : Sy} {O : List X},Mt Ω G ρ ι γ Y σ→sts.all VStm.isOp = true→symRuns0 sts Y = some (Y',O)→(∀ e ∈ O,∃ d,X.ev G ρ e = some d)→
    ∃ σ',runs (env0 G) sts σ = some σ'∧Mt Ω G ρ ι γ Y' σ'∧σ'.m = σ.m∧σ'.c = σ.c∧Y'.h = Y.h
  | [],Y,σ,Y',O,M,_,hs,_=>by cases hs; exact ⟨σ,rfl,M,rfl,rfl,rfl⟩
  | st :: r,Y,σ,Y',O,M,ho,hs,hO=>by
    simp only [List.all_cons,Bool.and_eq_true] at ho
    simp only [symRuns0,Option.bind_eq_some_iff,Option.map_eq_some_iff] at hs
    obtain ⟨⟨Y1,O1⟩,h1,⟨Y2,O2⟩,h2,h3⟩:=hs
    cases h3
    have one : ∃ σ1,st.run (env0 G) σ = some σ1∧Mt Ω G ρ ι γ Y1 σ1∧σ1.m = σ.m∧σ1.c = σ.c∧Y1.h = Y.h:=by
      obtain ⟨σ1,ι1,γ1,g1,g2,g3⟩:=symStm_soundI M h1 fun e he=>hO e (by simp [he])
      cases st with
      | op x k args g=>
        obtain ⟨rfl,rfl,hh⟩:=g3 rfl
        obtain ⟨d,rfl,_⟩:=op_run_congr g1
        exact ⟨_,g1,g2,rfl,rfl,hh⟩
      | _=>simp [VStm.isOp] at ho
    obtain ⟨σ1,g1,M1,k1,k2,k3⟩:=one
    obtain ⟨σ2,g2,M2,k4,k5,k6⟩:=symOps_sound M1 ho.2 h2 fun e he=>hO e (by simp [he])
    exact ⟨σ2,by simp [runs,g1,g2],M2,k4.trans k1,k5.trans k2,k6.trans k3⟩
theorem splitApm_spec : ∀ {sts A : List VStm} {q : Apm} {R : List VStm},splitApm sts = some (A,q,R)→sts = A ++ (q.all ++ R)
  | [],A,q,R,h=>by cases h
  | st :: r,A,q,R,h=>by
    unfold splitApm at h
    split at h
    · cases ‹_ = []›
    · rename_i heq
      cases heq
      rename_i x ks z ok i k
      split at h
      · rename_i q' hq
        cases h
        split at hq
        · rename_i hz
          obtain ⟨h1,h2,h3,h4,h5⟩:=findApp_spec hq
          simp only [Bool.and_eq_true,Bool.not_eq_true'] at hz
          have hz1 : z = .nil:=by cases z <;> simp [isNilD] at hz; rfl
          obtain rfl:=hz.2
          subst hz1
          simp only [List.reverse_nil,List.nil_append] at h5
          rw [h5]
          simp [Apm.all,Apm.S1,h1,h2,h3,h4]
        · cases hq
      · obtain ⟨p,hp,h2⟩:=Option.map_eq_some_iff.1 h
        obtain ⟨A',q',R'⟩:=p
        cases h2
        have:=splitApm_spec hp
        simp [this]
    · rename_i heq
      cases heq
      obtain ⟨p,hp,h2⟩:=Option.map_eq_some_iff.1 h
      obtain ⟨A',q',R'⟩:=p
      cases h2
      have:=splitApm_spec hp
      simp [this]
theorem symApm_sound (M : Mt Ω G ρ ι γ Y σ) {q : Apm} {Y' : Sy} {O : List X} (hs : symApm q Y = some (Y',O)) (hO : ∀ e ∈ O,∃ d,X.ev G ρ e = some d) :
    ∃ σ' ι' γ',runs (env0 G) q.all σ = some σ'∧Mt Ω G ρ ι' γ' Y' σ':=by
  unfold symApm at hs
  by_cases hok : (q.ok && mplAt Y q.i) = true
  rotate_left
  · rw [if_neg hok] at hs; cases hs
  rw [if_pos hok] at hs
  rw [Option.bind_eq_some_iff] at hs
  obtain ⟨⟨Y1,O1⟩,h1,hs⟩:=hs
  rw [Option.bind_eq_some_iff] at hs
  obtain ⟨⟨Y3,O3⟩,h3,hs⟩:=hs
  simp only [] at hs h3
  split at hs
  rotate_left
  · cases hs
  rename_i n n' hi hi'
  split at hs
  rotate_left
  · cases hs
  rename_i e sz c hf
  simp only [Option.bind_eq_some_iff] at hs
  obtain ⟨kx,hk,kx',hk',cb,hcb,hs⟩:=hs
  split at hs <;> cases hs
  rename_i hc
  obtain ⟨⟨rfl,rfl⟩,rfl,hbe⟩:=hc
  obtain rfl:=beqX_eq _ _ hbe
  simp only [Bool.and_eq_true,Apm.ok,beq_iff_eq] at hok
  obtain ⟨⟨⟨⟨⟨ok1,ok2⟩,ok3⟩,ok5⟩,ok4⟩,hat⟩:=hok
  have ok2' : q.x ≠ q.i∧q.x ∉ q.k.reads:=by
    simpa [List.contains_eq_mem,not_or] using ok2
  have fineB : ∀ st ∈ q.B,st.fine = true:=fun st hst=>by
    have:=List.all_eq_true.1 ok1 st hst
    simp only [Bool.and_eq_true] at this; exact this.1
  have dstB : ∀ j,(j = q.x ∨ j = q.i ∨ j ∈ q.k.reads)→∀ st ∈ q.B,st.dst ≠ some j:=fun j hj st hst hd=>by
    have:=List.all_eq_true.1 ok1 st hst
    simp only [Bool.and_eq_true,hd] at this
    have h2:=this.2
    simp [List.contains_eq_mem] at h2
    rcases hj with rfl | rfl | hj
    · exact h2.1 rfl
    · exact h2.2.1 rfl
    · exact h2.2.2 hj
  have opC : q.C.all VStm.isOp = true:=List.all_eq_true.2 fun st hst=>by
    have:=List.all_eq_true.1 ok5 st hst
    simp only [Bool.and_eq_true] at this; exact this.1
  have fineC : ∀ st ∈ q.C,st.fine = true:=fun st hst=>by
    have:=List.all_eq_true.1 opC st hst
    cases st <;> first | rfl | (simp [VStm.isOp] at this; done)
  have dstC : ∀ st ∈ q.C,st.dst ≠ some q.y:=fun st hst hd=>by
    have:=List.all_eq_true.1 ok5 st hst
    simp [hd] at this
  have hOm : ∃ d,X.ev G ρ (.mk (.mapp q.ks q.sz) [c,kx,cb]) = some d:=hO _ (by simp)
  obtain ⟨t,es0,t1,t2⟩:=mplAt_sound M hat
  let d1:=(lkpV σ.m q.ks .nil false [σ.s q.i,q.k.val σ.s]).getD .undef
  let σ1:=σ.set q.x d1
  have M1 : Mt Ω G ρ ι γ (Y.unset q.x) σ1:=M.set .un
  obtain ⟨σ2,ι2,γ2,g2,M2⟩:=symRuns0_sound M1 h1 fun e he=>hO e (by simp [he])
  obtain ⟨fm,fs⟩:=runs_frame M1.wf g2 fineB
  have si : σ2.s q.i = σ.s q.i:=by rw [fs _ (dstB _ (.inr (.inl rfl)))]; exact St.set_ne _ _ (Ne.symm ok2'.1)
  have sk : q.k.val σ2.s = q.k.val σ.s:=val_congr fun j hj=>by
    rw [fs _ (dstB _ (.inr (.inr hj)))]; exact St.set_ne _ _ fun e=>ok2'.2 (e ▸ hj)
  have sx : σ2.s q.x = d1:=by rw [fs _ (dstB _ (.inl rfl))]; exact St.set_same _ _ _
  obtain ⟨d,hd⟩:=apm_lkp M2 hi hf hk hOm
  have hl : lkpV σ.m q.ks .nil false [σ.s q.i,q.k.val σ.s] = some d:=by
    rw [si,sk] at hd
    have m2 : σ2.m t = some (.map es0):=fm t _ t2
    rw [t1] at hd ⊢
    simp only [lkpV,m2] at hd
    simp only [lkpV,t2]
    exact hd
  have hd1 : d1 = d:=by simp only [d1,hl,Option.getD_some]
  obtain ⟨σ3,r3,M3,fs3,fin⟩:=apm_sound M2 (x:=q.x) (y:=q.y) (i':=q.i') (k':=q.k') hi hf hk hcb hOm (by rw [hd,sx,hd1])
  obtain ⟨σ4,r4,M4,m4,c4,hh4⟩:=symOps_sound M3 opC h3 fun e he=>hO e (by simp [he])
  obtain ⟨_,fs4⟩:=runs_frame M3.wf r4 fineC
  obtain ⟨σ5,r5,M5⟩:=fin Y3 σ4 M4 m4 c4 (fs4 _ dstC) (fun k=>by rw [hh4]; rfl) hi' hk'
  refine ⟨σ5,ι2,γ2,?_,M5⟩
  have r1 : q.S1.run (env0 G) σ = some σ1:=by
    simp only [Apm.S1,VStm.run,guardV,Option.bind_some,cond_true,opV,List.map_cons,List.map_nil,val_t,PK.run,hl,Option.map_some]
    simp only [σ1,hd1]
  have e4 : q.S3 = .eff (.mupd q.ks (.t q.i') q.k' (.t q.y)) none:=by simp only [Apm.S3,← ok4]
  have r2 : q.S2.run (env0 G) σ2 = some σ3:=r3
  simp only [Apm.all,runs,r1,Option.bind_some,runs_append,g2,r2,r4]
  rw [e4,r5]; rfl
theorem symRuns_sound {sts : List VStm} {Y : Sy} {σ : St} {ι γ : Nat→Tok} {Y' : Sy} {O : List X} (M : Mt Ω G ρ ι γ Y σ) (hs : symRuns sts Y = some (Y',O)) (hO : ∀ e ∈ O,∃ d,X.ev G ρ e = some d) :
    ∃ σ' ι' γ',runs (env0 G) sts σ = some σ'∧Mt Ω G ρ ι' γ' Y' σ':=by
  unfold symRuns at hs
  split at hs
  · rename_i A q R hsp
    simp only [Option.bind_eq_some_iff,Option.map_eq_some_iff] at hs
    obtain ⟨⟨Y1,O1⟩,h1,⟨Y2,O2⟩,h2,⟨Y3,O3⟩,h3,h4⟩:=hs
    cases h4
    obtain ⟨σ1,ι1,γ1,g1,M1⟩:=symRuns0_sound M h1 fun e he=>hO e (by simp [he])
    obtain ⟨σ2,ι2,γ2,g2,M2⟩:=symApm_sound M1 h2 fun e he=>hO e (by simp [he])
    obtain ⟨σ3,ι3,γ3,g3,M3⟩:=symRuns0_sound M2 h3 fun e he=>hO e (by simp [he])
    exact ⟨σ3,ι3,γ3,by rw [splitApm_spec hsp,runs_append,g1,Option.bind_some,runs_append,g2,Option.bind_some,g3],M3⟩
  · exact symRuns0_sound M hs hO
end
section
variable {P : Program} {fr : Cfg} {B : Base} {n : Nat} {r : Option Nat} {Ω : Raws} {G : FP} {ρ : List D}
theorem symRegion_sound (hG : Sound P (env0 G)) (hm : P.follows .mixedOrders = true) {id : Nat} {ops : Array Oper} {draw : Bool} {Y Y' : Sy} {O : List X} {σ : St} {ι γ : Nat→Tok} {a : Act} {w : World} {Q : Exit→Act→World→Prop}
    (hs : symRegion P fr n ops draw Y = some (Y',O)) (hO : ∀ e ∈ O,∃ d,X.ev G ρ e = some d) (M : Mt Ω G ρ ι γ Y σ) (R : RelE P B n w a.tmps σ)
    (hQ : ∀ a' w' σ' ι' γ',a'.defers = a.defers→RelE P B n w' a'.tmps σ'→Mt Ω G ρ ι' γ' Y' σ'→Q .normal a' w') : Code.wpR r P (Code.region id ops draw) Q a w:=by
  unfold symRegion at hs
  cases draw
  · simp only [Bool.false_eq_true,if_false] at hs
    obtain ⟨σ',ι',γ',h1,h2⟩:=symRuns_sound M hs hO
    exact region_sound hG R h1 fun a' w' hd R'=>hQ a' w' σ' ι' γ' hd R' h2
  · simp only [if_true] at hs
    split at hs
    · rename_i s ss ho
      rw [Option.bind_eq_some_iff] at hs
      obtain ⟨q,h1,hs⟩:=hs
      split at hs
      · rename_i hall
        cases hs
        refine drawn_sound (K:=fun σ'=>∃ ι' γ',Mt Ω G ρ ι' γ' Y' σ') hG hm R ho (fun s' hs'=>?_) fun a' w' σ' hd R' ⟨ι',γ',M'⟩=>hQ a' w' σ' ι' γ' hd R' M'
        rcases List.mem_cons.1 hs' with rfl | hs'
        · obtain ⟨σ',ι',γ',g1,g2⟩:=symRuns_sound M h1 hO
          exact ⟨σ',g1,ι',γ',g2⟩
        · have:=List.all_eq_true.1 hall s' hs'
          split at this
          · rename_i p hp
            simp only [sameSy,Bool.and_eq_true,beq_iff_eq] at this
            obtain ⟨⟨⟨⟨k1,k2⟩,k3⟩,k4⟩,k5⟩:=this
            obtain ⟨σ',ι',γ',g1,g2⟩:=symRuns_sound M hp fun e he=>by
              obtain ⟨e',he',hee⟩:=List.any_eq_true.1 (List.all_eq_true.1 k4 e he)
              rw [beqX_eq _ _ hee]; exact hO e' he'
            refine ⟨σ',g1,ι',γ',g2.sub (fun i v hv=>leA_find beqSV_eq k1 hv) (fun m=>?_) k5⟩
            cases hz : find Y'.h m with
            | some o=>exact (leA_find (fun _ _=>beqSO_eq) k2 hz).symm
            | none=>
              cases hy : find p.1.h m with
              | none=>rfl
              | some o=>have:=leA_find (fun _ _=>beqSO_eq) k3 hy; rw [hz] at this; cases this
          · cases this
      · cases hs
    · cases hs
end
end Go.Proofs.YtkcfpgaepmllhaaGreatDoor
namespace Go.Proofs.YtkcfpgaepmllhaaGreatDoor
open Go.RowKit
def keepA {α : Type} (p : Nat→Bool) : List (Nat × α)→List (Nat × α)
  | []=>[]
  | (i,a) :: r=>bif p i then (i,a) :: keepA p r else keepA p r
theorem find_keep {α : Type} (p : Nat→Bool) : ∀ (l : List (Nat × α)) {k : Nat} {v : α},find (keepA p l) k = some v→find l k = some v
  | [],_,_,h=>h
  | (i,a) :: r,k,v,h=>by
    simp only [keepA] at h
    simp only [find]
    cases hi : i == k with
    | true=>
      have : i = k:=by simpa using hi
      subst this
      cases hc : p i with
      | true=>rw [hc] at h; simp only [cond_true,find,beq_self_eq_true] at h; exact h
      | false=>
        exfalso
        have none : ∀ l : List (Nat × α),find (keepA p l) i = none:=by
          intro l
          induction l with
          | nil=>rfl
          | cons q l ih=>
            obtain ⟨j,b⟩:=q
            simp only [keepA]
            cases hj : p j with
            | false=>simpa using ih
            | true=>
              simp only [cond_true,find]
              have : (j == i) = false:=by
                cases hh : j == i with
                | false=>rfl
                | true => have : j = i := by simpa using hh
                          subst this; rw [hc] at hj; cases hj
              rw [this]; exact ih
        rw [hc] at h
        simp only [cond_false] at h
        rw [none r] at h; cases h
    | false=>
      simp only [cond_false]
      cases hc : p i with
      | true=>rw [hc] at h; simp only [cond_true,find,hi,cond_false] at h; exact find_keep p r h
      | false=>rw [hc] at h; exact find_keep p r h
def memN : List Nat→Nat→Bool
  | [],_=>false
  | a :: r,n=>bif Nat.beq a n then true else memN r n
def Sy.trim (n : Nat) (ks : List Nat) (Y : Sy) : Sy:={ Y with s:=keepA (fun i=>Nat.ble n i || memN ks i) Y.s }
theorem Mt.trim {Ω : Raws} {G : FP} {ρ : List D} {ι γ : Nat→Tok} {Y : Sy} {σ : St} (M : Mt Ω G ρ ι γ Y σ) (n : Nat) (ks : List Nat) : Mt Ω G ρ ι γ (Y.trim n ks) σ:=M.sub (fun _ _ h=>find_keep _ _ h) (fun _=>rfl) rfl
def isAtom : X→Bool
  | .t _ | .q _=>true
  | .mk (.cell _ _) [.t _]=>true
  | _=>false
def idxX : List X→X→Nat→Option Nat
  | [],_,_=>none
  | a :: r,e,i=>if beqX a e then some i else idxX r e (i + 1)
def bindX (k : Nat) (acc : List X) (e : X) : X × List X:=
  match e with
  | .t i=>(.t i,acc)
  | e=>match idxX acc e 0 with
    | some i=>(.t (k + i),acc)
    | none=>(.t (k + acc.length),acc ++ [e])
def atomX (k : Nat) (acc : List X) (e : X) : X × List X:=
  if isAtom e then (e,acc) else match e with
  | .mk (.cell j n) [e']=>(.mk (.cell j n) [(bindX k acc e').1],(bindX k acc e').2)
  | e=>bindX k acc e
mutual
def atomV (k : Nat) (acc : List X) : SV→SV × List X
  | .x e=>(.x (atomX k acc e).1,(atomX k acc e).2)
  | .agg vs=>(.agg (atomVs k acc vs).1,(atomVs k acc vs).2)
  | .tup vs=>(.tup (atomVs k acc vs).1,(atomVs k acc vs).2)
  | .clo f vs=>(.clo f (atomVs k acc vs).1,(atomVs k acc vs).2)
  | v=>(v,acc)
def atomVs (k : Nat) (acc : List X) : List SV→List SV × List X
  | []=>([],acc)
  | v :: r=>((atomV k acc v).1 :: (atomVs k (atomV k acc v).2 r).1,(atomVs k (atomV k acc v).2 r).2)
end
def atomS (k : Nat) : List X→List (Nat × SV)→List (Nat × SV) × List X
  | acc,[]=>([],acc)
  | acc,(i,v) :: r=>((i,(atomV k acc v).1) :: (atomS k (atomV k acc v).2 r).1,(atomS k (atomV k acc v).2 r).2)
def atomO (k : Nat) (acc : List X) : SO→SO × List X
  | .box vs=>(.box (atomVs k acc vs).1,(atomVs k acc vs).2)
  | .lst e sz c=>(.lst e sz (atomX k acc c).1,(atomX k acc c).2)
  | .map c=>(.map (atomX k acc c).1,(atomX k acc c).2)
  | .mpl e sz c=>(.mpl e sz (atomX k acc c).1,(atomX k acc c).2)
  | .raw q=>(.raw q,acc)
def atomH (k : Nat) : List X→List (Nat × SO)→List (Nat × SO) × List X
  | acc,[]=>([],acc)
  | acc,(i,o) :: r=>((i,(atomO k acc o).1) :: (atomH k (atomO k acc o).2 r).1,(atomH k (atomO k acc o).2 r).2)
def Sy.atom (Y : Sy) : Sy × List X:=
  ({ Y with s:=(atomS Y.nv [] Y.s).1,h:=(atomH Y.nv (atomS Y.nv [] Y.s).2 Y.h).1,nv:=Y.nv + (atomH Y.nv (atomS Y.nv [] Y.s).2 Y.h).2.length },(atomH Y.nv (atomS Y.nv [] Y.s).2 Y.h).2)
def Pre (a b : List X) : Prop:=∃ s,b = a ++ s
theorem Pre.refl (a : List X) : Pre a a:=⟨[],by simp⟩
theorem Pre.trans {a b c : List X} (h : Pre a b) (k : Pre b c) : Pre a c:=by
  obtain ⟨s,rfl⟩:=h
  obtain ⟨t,rfl⟩:=k
  exact ⟨s ++ t,by simp⟩
theorem idxX_some : ∀ {l : List X} {e : X} {i k : Nat},idxX l e i = some k→i≤k∧l[k - i]? = some e
  | [],_,_,_,h=>by cases h
  | a :: r,e,i,k,h=>by
    simp only [idxX] at h
    split at h
    · rename_i he
      cases h
      rw [← beqX_eq _ _ he]
      exact ⟨Nat.le_refl _,by simp⟩
    · obtain ⟨h1,h2⟩:=idxX_some h
      refine ⟨by omega,?_⟩
      rw [show k - i = (k - (i + 1)) + 1 by omega]
      simpa using h2
section
variable {G : FP} {ρ ds : List D} {ι γ : Nat→Tok}
theorem bind_sound {k : Nat} {acc : List X} {e : X} : Pre acc (bindX k acc e).2∧∀ {fin : List X} {d : D},Pre (bindX k acc e).2 fin→X.evs G ρ fin = some ds→ρ.length = k→X.ev G ρ e = some d→X.ev G (ρ ++ ds) (bindX k acc e).1 = some d:=by
  have look : ∀ {fin : List X} {d : D} {i : Nat} {e : X},fin[i]? = some e→X.evs G ρ fin = some ds→ρ.length = k→X.ev G ρ e = some d→X.ev G (ρ ++ ds) (.t (k + i)) = some d:=fun {fin d i e} hf he hk hd=>by
    have hl:=evs_len he
    have hi:=(List.getElem?_eq_some_iff.1 hf).1
    have h1:=List.getElem?_eq_getElem (show i < ds.length by omega)
    have h2:=evs_get he i _ _ hf h1
    rw [hd] at h2; cases h2
    simp only [X.ev]
    rw [List.getElem?_append_right (by omega),show k + i - ρ.length = i by omega]
    exact h1
  unfold bindX
  split
  · exact ⟨Pre.refl _,fun _ _ _ hd=>ev_more _ _ hd⟩
  · split
    · rename_i i hi
      refine ⟨Pre.refl _,fun {fin d} hp he hk hd=>?_⟩
      obtain ⟨s,rfl⟩:=hp
      have:=(idxX_some hi).2
      simp only [Nat.sub_zero] at this
      exact look (by rw [List.getElem?_append_left (List.getElem?_eq_some_iff.1 this).1]; exact this) he hk hd
    · refine ⟨⟨_,rfl⟩,fun {fin d} hp he hk hd=>?_⟩
      obtain ⟨s,rfl⟩:=hp
      exact look (e:=e) (by simp) he hk hd
theorem atomX_sound {k : Nat} {acc : List X} {e : X} : Pre acc (atomX k acc e).2∧∀ {fin : List X} {d : D},Pre (atomX k acc e).2 fin→X.evs G ρ fin = some ds→ρ.length = k→X.ev G ρ e = some d→X.ev G (ρ ++ ds) (atomX k acc e).1 = some d:=by
  unfold atomX
  split
  · exact ⟨Pre.refl _,fun _ _ _ hd=>ev_more _ _ hd⟩
  · split
    · rename_i j n e'
      refine ⟨bind_sound (G:=G) (ρ:=ρ) (ds:=ds).1,fun {fin d} hp he hk hd=>?_⟩
      obtain ⟨xs,h1,h2⟩:=ev_mk hd
      obtain ⟨d0,rfl,h3⟩:=evs1 h1
      have:=bind_sound (G:=G) (ρ:=ρ) (ds:=ds).2 hp he hk h3
      simp only [X.ev,X.evs,this,Option.bind_some,Option.map_some,h2]
    · exact bind_sound
theorem VR.hp {ρ' : List D} {h h' : List (Nat × SO)} {v : SV} {d : D} (H : VR G ρ ι h v d) (hρ : ∀ e d,X.ev G ρ e = some d→X.ev G ρ' e = some d) (hh : ∀ n,Lk G ρ ρ' h h' n) : VR G ρ' ι h' v d:=
  H.mono hρ fun n _=>⟨rfl,hh n⟩
theorem atomVs_len {k : Nat} : ∀ {acc : List X} {vs : List SV},(atomVs k acc vs).1.length = vs.length
  | _,[]=>rfl
  | acc,v :: r=>by simp only [atomVs,List.length_cons,atomVs_len]
mutual
theorem atomV_pre {k : Nat} : ∀ (acc : List X) (v : SV),Pre acc (atomV k acc v).2
  | acc,.x e=>by simp only [atomV]; exact (atomX_sound (G:=fun _ _=>none) (ρ:=[]) (ds:=[])).1
  | acc,.agg vs=>by simp only [atomV]; exact atomVs_pre acc vs
  | acc,.tup vs=>by simp only [atomV]; exact atomVs_pre acc vs
  | acc,.clo f vs=>by simp only [atomV]; exact atomVs_pre acc vs
  | acc,.un | acc,.ptr .. | acc,.gl .. | acc,.ep .. | acc,.gd .. | acc,.dp .. | acc,.gs .. | acc,.gt .. | acc,.sb .. | acc,.rb .. | acc,.mp .. | acc,.yl ..=>by simp only [atomV]; exact Pre.refl _
theorem atomVs_pre {k : Nat} : ∀ (acc : List X) (vs : List SV),Pre acc (atomVs k acc vs).2
  | acc,[]=>by simp only [atomVs]; exact Pre.refl _
  | acc,v :: r=>by simp only [atomVs]; exact (atomV_pre acc v).trans (atomVs_pre _ r)
end
mutual
theorem atomV_sound {k : Nat} {h h' : List (Nat × SO)} {fin : List X} (he : X.evs G ρ fin = some ds) (hk : ρ.length = k) (hh : ∀ n,Lk G ρ (ρ ++ ds) h h' n) : ∀ (acc : List X) (v : SV),Pre (atomV k acc v).2 fin→∀ {d : D},VR G ρ ι h v d→VR G (ρ ++ ds) ι h' (atomV k acc v).1 d
  | acc,.x e,hp,d,H=>by
    simp only [atomV] at hp ⊢
    obtain ⟨h1,h2⟩:=H.x_inv
    exact .x (atomX_sound.2 hp he hk h1) h2
  | acc,.agg vs,hp,d,H=>by
    simp only [atomV] at hp ⊢
    cases H with
    | agg hl h2=>obtain ⟨k1,k2⟩:=atomVs_sound he hk hh acc vs hp ⟨hl,h2⟩; exact .agg k1 k2
  | acc,.clo f vs,hp,d,H=>by
    simp only [atomV] at hp ⊢
    cases H with
    | clo hl h2=>obtain ⟨k1,k2⟩:=atomVs_sound he hk hh acc vs hp ⟨hl,h2⟩; exact .clo k1 k2
  | acc,.tup vs,hp,d,H=>by
    simp only [atomV] at hp ⊢
    cases H with
    | tup hl h2=>obtain ⟨k1,k2⟩:=atomVs_sound he hk hh acc vs hp ⟨hl,h2⟩; exact .tup k1 k2
  | acc,.un,hp,d,H=>by simp only [atomV]; exact .un
  | acc,.ptr ..,hp,d,H=>by simp only [atomV]; exact H.hp (fun _ _ h=>ev_more _ _ h) hh
  | acc,.dp ..,hp,d,H=>by simp only [atomV]; exact H.hp (fun _ _ h=>ev_more _ _ h) hh
  | acc,.gt ..,hp,d,H=>by simp only [atomV]; exact H.hp (fun _ _ h=>ev_more _ _ h) hh
  | acc,.gs ..,hp,d,H=>by simp only [atomV]; exact H.hp (fun _ _ h=>ev_more _ _ h) hh
  | acc,.sb ..,hp,d,H=>by simp only [atomV]; exact H.hp (fun _ _ h=>ev_more _ _ h) hh
  | acc,.rb ..,hp,d,H=>by simp only [atomV]; exact H.hp (fun _ _ h=>ev_more _ _ h) hh
  | acc,.mp ..,hp,d,H=>by simp only [atomV]; exact H.hp (fun _ _ h=>ev_more _ _ h) hh
  | acc,.yl ..,hp,d,H=>by simp only [atomV]; exact H.hp (fun _ _ h=>ev_more _ _ h) hh
  | acc,.gl ..,hp,d,H=>by simp only [atomV]; exact H.hp (fun _ _ h=>ev_more _ _ h) hh
  | acc,.ep ..,hp,d,H=>by simp only [atomV]; exact H.hp (fun _ _ h=>ev_more _ _ h) hh
  | acc,.gd ..,hp,d,H=>by simp only [atomV]; exact H.hp (fun _ _ h=>ev_more _ _ h) hh
theorem atomVs_sound {k : Nat} {h h' : List (Nat × SO)} {fin : List X} (he : X.evs G ρ fin = some ds) (hk : ρ.length = k) (hh : ∀ n,Lk G ρ (ρ ++ ds) h h' n) : ∀ (acc : List X) (vs : List SV),Pre (atomVs k acc vs).2 fin→∀ {xs : List D},VRs G ρ ι h vs xs→VRs G (ρ ++ ds) ι h' (atomVs k acc vs).1 xs
  | acc,[],hp,xs,H=>by
    simp only [atomVs]
    have h0 : xs = []:=List.eq_nil_of_length_eq_zero H.1.symm
    subst h0; exact VRs.nil
  | acc,v :: r,hp,xs,H=>by
    simp only [atomVs] at hp ⊢
    obtain ⟨d,xs',rfl,h1,h2⟩:=H.cons
    exact VRs.mk (atomV_sound he hk hh acc v ((atomVs_pre _ r).trans hp) h1) (atomVs_sound he hk hh _ r hp h2)
end
theorem atomS_find {k : Nat} {n : Nat} : ∀ {acc : List X} {l : List (Nat × SV)} {v : SV},find (atomS k acc l).1 n = some v→∃ acc' v0,find l n = some v0∧v = (atomV k acc' v0).1∧Pre (atomV k acc' v0).2 (atomS k acc l).2
  | acc,[],v,h=>by simp [atomS,find] at h
  | acc,(i,u) :: r,v,h=>by
    have tail : ∀ {acc : List X} {l : List (Nat × SV)},Pre acc (atomS k acc l).2:=fun {acc l}=>by
      induction l generalizing acc with
      | nil=>exact Pre.refl _
      | cons p l ih=>exact (atomV_pre _ _).trans ih
    simp only [atomS,find] at h ⊢
    cases hi : i == n with
    | true=>rw [hi] at h; simp only [cond_true,Option.some.injEq] at h; exact ⟨acc,u,rfl,h.symm,tail⟩
    | false=>rw [hi] at h; exact atomS_find h
theorem atomO_pre {k : Nat} {acc : List X} {o : SO} : Pre acc (atomO k acc o).2:=by
  cases o with
  | box vs=>exact atomVs_pre acc vs
  | lst e sz c=>exact (atomX_sound (G:=fun _ _=>none) (ρ:=[]) (ds:=[])).1
  | map c=>exact (atomX_sound (G:=fun _ _=>none) (ρ:=[]) (ds:=[])).1
  | mpl e sz c=>exact (atomX_sound (G:=fun _ _=>none) (ρ:=[]) (ds:=[])).1
  | raw=>exact Pre.refl _
theorem atomH_pre {k : Nat} : ∀ {acc : List X} {l : List (Nat × SO)},Pre acc (atomH k acc l).2
  | acc,[]=>Pre.refl _
  | acc,(i,o) :: r=>atomO_pre.trans atomH_pre
theorem atomH_find {k : Nat} {n : Nat} : ∀ {acc : List X} {l : List (Nat × SO)},(find (atomH k acc l).1 n = none∧find l n = none) ∨ ∃ acc' o0,find l n = some o0∧find (atomH k acc l).1 n = some (atomO k acc' o0).1∧Pre (atomO k acc' o0).2 (atomH k acc l).2
  | acc,[]=>.inl ⟨rfl,rfl⟩
  | acc,(i,o) :: r=>by
    simp only [atomH,find]
    cases hi : i == n with
    | true=>exact .inr ⟨acc,o,rfl,rfl,atomH_pre⟩
    | false=>exact atomH_find
theorem atomS_pre {k : Nat} : ∀ {acc : List X} {l : List (Nat × SV)},Pre acc (atomS k acc l).2
  | acc,[]=>Pre.refl _
  | acc,(i,o) :: r=>(atomV_pre _ _).trans atomS_pre
theorem Mt.atom {Ω : Raws} {Y : Sy} {σ : St} (M : Mt Ω G ρ ι γ Y σ) (he : X.evs G ρ Y.atom.2 = some ds) : Mt Ω G (ρ ++ ds) ι γ Y.atom.1 σ:=by
  have hk:=M.nv
  have find0 : ∀ n,(find Y.atom.1.h n = none∧find Y.h n = none) ∨ ∃ acc' o0,find Y.h n = some o0∧find Y.atom.1.h n = some (atomO Y.nv acc' o0).1∧Pre (atomO Y.nv acc' o0).2 Y.atom.2:=fun n=>
    atomH_find (k:=Y.nv) (n:=n) (acc:=(atomS Y.nv [] Y.s).2) (l:=Y.h)
  have exprs : ∀ {acc' : List X} {c : X},Pre (atomX Y.nv acc' c).2 Y.atom.2→∀ d,X.ev G ρ c = some d→X.ev G (ρ ++ ds) (atomX Y.nv acc' c).1 = some d:=fun h3 d hd=>atomX_sound.2 h3 he hk hd
  have hh : ∀ n,Lk G ρ (ρ ++ ds) Y.h Y.atom.1.h n:=fun n o ho=>by
    rcases find0 n with ⟨_,h2⟩ | ⟨acc',o0,h1,h2,h3⟩
    · rw [ho] at h2; cases h2
    · rw [ho] at h1; cases h1
      refine ⟨_,h2,?_⟩
      cases o with
      | box vs=>simp only [atomO,SO.like,atomVs_len]
      | lst e sz c=>exact ⟨rfl,rfl,fun es hes=>⟨es,exprs h3 _ hes,rfl⟩⟩
      | map c=>trivial
      | mpl=>trivial
      | raw=>trivial
  have back : ∀ n o,find Y.atom.1.h n = some o→∃ acc' o0,find Y.h n = some o0∧o = (atomO Y.nv acc' o0).1∧Pre (atomO Y.nv acc' o0).2 Y.atom.2:=fun n o ho=>by
    rcases find0 n with ⟨h1,_⟩ | ⟨acc',o0,h1,h2,h3⟩
    · rw [ho] at h1; cases h1
    · rw [ho] at h2; exact ⟨acc',o0,h1,Option.some.inj h2,h3⟩
  have hl : ∀ n e sz c,find Y.atom.1.h n = some (.lst e sz c)→∃ c0,find Y.h n = some (.lst e sz c0)∧∀ d,X.ev G ρ c0 = some d→X.ev G (ρ ++ ds) c = some d:=fun n e sz c hf=>by
    obtain ⟨acc',o0,h1,h2,h3⟩:=back n _ hf
    cases o0 <;> simp only [atomO,reduceCtorEq,SO.lst.injEq] at h2
    obtain ⟨rfl,rfl,rfl⟩:=h2
    exact ⟨_,h1,exprs h3⟩
  refine ⟨fun i v hv=>?_,fun n vs hn=>?_,fun n e sz c hn=>?_,fun n c hn=>?_,fun n e sz c hn=>?_,fun a b _ _ _ _ _ _ h1 h2=>?_,fun n kk hn=>?_,fun a b o o' h1 h2=>?_,fun a b e e' sz sz' c c' h1 h2=>?_,M.wf,fun n e sz c hn=>?_,?_,M.con⟩
  · obtain ⟨acc',v0,h1,rfl,h3⟩:=atomS_find hv
    exact atomV_sound he hk hh acc' v0 (h3.trans atomH_pre) (M.slot i v0 h1)
  · obtain ⟨acc',o0,h1,h2,h3⟩:=back n _ hn
    cases o0 <;> simp only [atomO,reduceCtorEq,SO.box.injEq] at h2
    subst h2
    obtain ⟨xs,k1,k2,k3⟩:=M.box n _ h1
    exact ⟨xs,k1,k2,atomVs_sound he hk hh acc' _ h3 k3⟩
  · obtain ⟨c0,h1,h2⟩:=hl n e sz c hn
    obtain ⟨es,k1,k2⟩:=M.lst n e sz c0 h1
    exact ⟨es,h2 _ k1,k2⟩
  · obtain ⟨acc',o0,h1,h2,h3⟩:=back n _ hn
    cases o0 <;> simp only [atomO,reduceCtorEq,SO.map.injEq] at h2
    subst h2
    obtain ⟨es,k1,k2,k3⟩:=M.mpo n _ h1
    exact ⟨es,exprs h3 _ k1,k2,k3⟩
  · obtain ⟨acc',o0,h1,h2,h3⟩:=back n _ hn
    cases o0 <;> simp only [atomO,reduceCtorEq,SO.mpl.injEq] at h2
    obtain ⟨rfl,rfl,rfl⟩:=h2
    obtain ⟨L,k1,k2,k3,k4⟩:=M.own n _ _ _ h1
    refine ⟨L,exprs h3 _ k1,k2,k3,fun q hq=>(k4.1 q hq).keep rfl (fun k o hk=>?_) (fun k e sz c hk=>?_) fun _=>Nat.le_refl _,k4.2⟩
    · obtain ⟨_,o1,g1,_⟩:=back k o hk
      exact (k4.1 q hq).2.2.2.1 k o1 g1
    · obtain ⟨c0,g1,_⟩:=hl k e sz c hk
      exact (k4.1 q hq).2.2.2.2.1 k e sz c0 g1
  · have mp : ∀ {n e sz c},find Y.atom.1.h n = some (.mpl e sz c)→∃ c0,find Y.h n = some (.mpl e sz c0):=fun {n e sz c} h=>by
      obtain ⟨acc',o0,h1,h2,h3⟩:=back n _ h
      cases o0 <;> simp only [atomO,reduceCtorEq,SO.mpl.injEq] at h2
      obtain ⟨rfl,rfl,rfl⟩:=h2
      exact ⟨_,h1⟩
    obtain ⟨_,g1⟩:=mp h1
    obtain ⟨_,g2⟩:=mp h2
    exact M.one a b _ _ _ _ _ _ g1 g2
  · obtain ⟨acc',o0,h1,h2,h3⟩:=back n _ hn
    cases o0 <;> simp only [atomO,reduceCtorEq,SO.raw.injEq] at h2
    subst h2
    exact M.rwo n _ h1
  · obtain ⟨_,o1,g1,_⟩:=back a o h1
    obtain ⟨_,o2,g2,_⟩:=back b o' h2
    exact M.inj a b o1 o2 g1 g2
  · obtain ⟨c0,g1,_⟩:=hl a e sz c h1
    obtain ⟨c1,g2,_⟩:=hl b e' sz' c' h2
    exact M.grp a b e e' sz sz' c0 c1 g1 g2
  · obtain ⟨c0,g1,_⟩:=hl n e sz c hn
    exact M.old n e sz c0 g1
  · rw [List.length_append,evs_len he,hk]; rfl
end
mutual
def subX (e : X) : X→Bool
  | .mk k xs=>beqX e (.mk k xs) || subXs e xs
  | .ite c a b=>beqX e (.ite c a b) || subX e c
  | x=>beqX e x
def subXs (e : X) : List X→Bool
  | []=>false
  | x :: r=>subX e x || subXs e r
end
def subG (e x : X) : Bool:=subX e x || match e,x with
  | .ite (.mk (.gv w) [c']) e' (.q _),.ite c a b=>beqX c' c && subX e' (bif w then a else b)
  | .mk (.gv _) [c'],.ite c _ _=>beqX c' c
  | _,_=>false
def prune (es : List X) : List X→List X
  | []=>[]
  | e :: r=>if (es ++ prune es r).any (subG e) then prune es r else e :: prune es r
section
variable {G : FP} {ρ : List D}
mutual
theorem subX_sound {e : X} : ∀ (x : X),subX e x = true→(∃ d,X.ev G ρ x = some d)→∃ d,X.ev G ρ e = some d
  | .t i,h,k=>by simp only [subX] at h; rw [beqX_eq _ _ h]; exact k
  | .q i,h,k=>by simp only [subX] at h; rw [beqX_eq _ _ h]; exact k
  | .mk kk xs,h,k=>by
    simp only [subX,Bool.or_eq_true] at h
    rcases h with h | h
    · rw [beqX_eq _ _ h]; exact k
    · obtain ⟨d,hd⟩:=k
      obtain ⟨ds,h1,_⟩:=ev_mk hd
      exact subXs_sound xs h ⟨ds,h1⟩
  | .ite c a b,h,k=>by
    simp only [subX,Bool.or_eq_true] at h
    rcases h with h | h
    · rw [beqX_eq _ _ h]; exact k
    · obtain ⟨d,hd⟩:=k
      simp only [X.ev,Option.bind_eq_some_iff] at hd
      obtain ⟨v,h1,_⟩:=hd
      exact subX_sound c h ⟨v,h1⟩
theorem subXs_sound {e : X} : ∀ (xs : List X),subXs e xs = true→(∃ ds,X.evs G ρ xs = some ds)→∃ d,X.ev G ρ e = some d
  | [],h,_=>by simp [subXs] at h
  | x :: r,h,k=>by
    simp only [subXs,Bool.or_eq_true] at h
    obtain ⟨ds,hd⟩:=k
    simp only [X.evs,Option.bind_eq_some_iff,Option.map_eq_some_iff] at hd
    obtain ⟨d,h1,ds',h2,_⟩:=hd
    rcases h with h | h
    · exact subX_sound x h ⟨d,h1⟩
    · exact subXs_sound r h ⟨ds',h2⟩
end
theorem subG_sound {e x : X} (h : subG e x = true) (k : ∃ d,X.ev G ρ x = some d) : ∃ d,X.ev G ρ e = some d:=by
  unfold subG at h
  rw [Bool.or_eq_true] at h
  rcases h with h | h
  · exact subX_sound x h k
  · split at h
    · rename_i w c' e' q c a b
      rw [Bool.and_eq_true] at h
      obtain ⟨h1,h2⟩:=h
      obtain rfl:=beqX_eq _ _ h1
      obtain ⟨d,hd⟩:=k
      simp only [X.ev,Option.bind_eq_some_iff] at hd
      obtain ⟨v,g1,y,g2,g3⟩:=hd
      have hv : v = .v (.bool y):=by
        cases v <;> simp only [D.asBool] at g2 <;> try (cases g2; done)
        rename_i x
        cases x <;> simp only [] at g2 <;> first | (cases g2; rfl) | cases g2
      subst hv
      simp only [X.ev,X.evs,g1,Option.bind_some,Option.map_some,XK.run,bv,D.asBool]
      cases w <;> cases y <;> simp only [show (false == false) = true from rfl,show (false == true) = false from rfl,show (true == false) = false from rfl,show (true == true) = true from rfl,cond_true,cond_false] at h2 g3 ⊢
      · exact subX_sound _ h2 ⟨d,g3⟩
      · exact ⟨_,rfl⟩
      · exact ⟨_,rfl⟩
      · exact subX_sound _ h2 ⟨d,g3⟩
    · rename_i w c' c a b
      obtain rfl:=beqX_eq _ _ h
      obtain ⟨d,hd⟩:=k
      simp only [X.ev,Option.bind_eq_some_iff] at hd
      obtain ⟨v,g1,y,g2,g3⟩:=hd
      have hv : v = .v (.bool y):=by
        cases v <;> simp only [D.asBool] at g2 <;> try (cases g2; done)
        rename_i x
        cases x <;> simp only [] at g2 <;> first | (cases g2; rfl) | cases g2
      subst hv
      exact ⟨_,by simp only [X.ev,X.evs,g1,Option.bind_some,Option.map_some,XK.run]; rfl⟩
    · cases h
theorem prune_sound {es : List X} (he : ∀ e ∈ es,∃ d,X.ev G ρ e = some d) : ∀ {O : List X},(∀ e ∈ prune es O,∃ d,X.ev G ρ e = some d)→∀ e ∈ O,∃ d,X.ev G ρ e = some d
  | [],_,e,h=>by cases h
  | a :: r,hO,e,h=>by
    simp only [prune] at hO
    split at hO
    · rename_i hs
      have ih:=prune_sound he hO
      rcases List.mem_cons.1 h with rfl | h
      · obtain ⟨x,hx,hsx⟩:=List.any_eq_true.1 hs
        refine subG_sound hsx ?_
        rcases List.mem_append.1 hx with hx | hx
        · exact he x hx
        · exact hO x hx
      · exact ih e h
    · have ih:=prune_sound he (O:=r) fun x hx=>hO x (List.mem_cons_of_mem _ hx)
      rcases List.mem_cons.1 h with rfl | h
      · exact hO _ (List.mem_cons_self ..)
      · exact ih e h
theorem evs_all {xs : List X} {ds : List D} (h : X.evs G ρ xs = some ds) : ∀ e ∈ xs,∃ d,X.ev G ρ e = some d:=fun e he=>by
  obtain ⟨i,hi⟩:=List.getElem?_of_mem he
  have hl:=evs_len h
  have:=(List.getElem?_eq_some_iff.1 hi).1
  have hd:=List.getElem?_eq_getElem (show i < ds.length by omega)
  exact ⟨_,evs_get h i e _ hi hd⟩
theorem evs_defd : ∀ {xs : List X},(∀ e ∈ xs,∃ d,X.ev G ρ e = some d)→∃ ds,X.evs G ρ xs = some ds
  | [],_=>⟨[],rfl⟩
  | x :: r,h=>by
    obtain ⟨d,hd⟩:=h x (List.mem_cons_self ..)
    obtain ⟨ds,hds⟩:=evs_defd (xs:=r) fun e he=>h e (List.mem_cons_of_mem _ he)
    exact ⟨d :: ds,by simp only [X.evs,hd,hds,Option.bind_some,Option.map_some]⟩
end
end Go.Proofs.YtkcfpgaepmllhaaGreatDoor
namespace Go.Proofs.YtkcfpgaepmllhaaGreatDoor
open Go.RowKit
inductive Pat where
  | drop
  | same (v : SV)
  | var
  | lst (e sz : Nat)
  deriving Inhabited
abbrev Row:=List (Nat × Pat)
def mkRow : Nat→Row→List SV
  | _,[]=>[]
  | k,(_,.drop) :: r=>.un :: mkRow k r
  | k,(_,.same v) :: r=>v :: mkRow k r
  | k,(_,.var) :: r=>.x (.t k) :: mkRow (k + 1) r
  | k,(nm,.lst _ sz) :: r=>.gl nm sz :: mkRow (k + 1) r
def mkRowL : Nat→Row→List (Nat × SO)
  | _,[]=>[]
  | k,(_,.drop) :: r=>mkRowL k r
  | k,(_,.same _) :: r=>mkRowL k r
  | k,(_,.var) :: r=>mkRowL (k + 1) r
  | k,(nm,.lst e sz) :: r=>(nm,.lst e sz (.t k)) :: mkRowL (k + 1) r
abbrev Ren:=List (Nat × Option Nat)
def mtV (h : List (Nat × SO)) (nm : Nat) : Pat→SV→Option (List X × Ren)
  | .drop,_=>some ([],[])
  | .same v',v=>if beqSV v' v then some ([],[]) else none
  | .var,v=>v.asX.map fun x=>([x],[])
  | .lst e sz,.gl n sz'=>match find h n with
    | some (.lst e' sz'' c)=>if e' = e∧sz' = sz∧sz'' = sz then some ([c],[(nm,some n)]) else none
    | _=>none
  | .lst _ _,.x (.q .nil)=>some ([.q (.list [])],[(nm,none)])
  | .lst _ _,_=>none
def mtRow (h : List (Nat × SO)) : Row→List SV→Option (List X × Ren)
  | [],[]=>some ([],[])
  | (nm,p) :: r,v :: vs=>(mtV h nm p v).bind fun a=>(mtRow h r vs).map fun b=>(a.1 ++ b.1,a.2 ++ b.2)
  | _,_=>none
inductive Sk where
  | box (l : Nat)
  | lst (e sz : Nat)
  | map
  | mpl (e sz : Nat)
  | raw (k : RS)
  deriving DecidableEq,Inhabited
def Sk.len : Sk→Nat
  | .box l=>l
  | .lst .. | .map | .mpl ..=>1
  | .raw _=>0
def SO.sk : SO→Sk
  | .box vs=>.box vs.length
  | .lst e sz _=>.lst e sz
  | .map _=>.map
  | .mpl e sz _=>.mpl e sz
  | .raw k=>.raw k
def SO.cells : SO→List SV
  | .box vs=>vs
  | .lst _ _ c | .map c | .mpl _ _ c=>[.x c]
  | .raw _=>[]
def Sk.mkO : Sk→List SV→Option SO
  | .box l,vs=>if vs.length = l then some (.box vs) else none
  | .lst e sz,[.x c]=>some (.lst e sz c)
  | .map,[.x c]=>some (.map c)
  | .mpl e sz,[.x c]=>some (.mpl e sz c)
  | .raw k,[]=>some (.raw k)
  | _,_=>none
structure Hd where
  ids : List Nat
  ts : List (Nat × Nat)
  os : List (Nat × Sk)
  row : Row
def Hd.ns (hd : Hd) : List Nat:=hd.os.map (·.1)
def gatherS (Y : Sy) : List Nat→List SV
  | []=>[]
  | i :: r=>(find Y.s i).getD .un :: gatherS Y r
def gatherT (Y : Sy) : List (Nat × Nat)→Option (List SV)
  | []=>some []
  | (i,l) :: r=>match find Y.s i with
    | some (.tup vs)=>if vs.length = l then (gatherT Y r).map fun b=>vs ++ b else none
    | _=>none
def gatherO (Y : Sy) : List (Nat × Sk)→Option (List SV)
  | []=>some []
  | (n,k) :: r=>(find Y.h n).bind fun o=>if o.sk = k then (gatherO Y r).map fun b=>o.cells ++ b else none
def zipS : List Nat→List SV→List (Nat × SV)
  | i :: r,v :: s=>(i,v) :: zipS r s
  | _,_=>[]
def zipT : List (Nat × Nat)→List SV→List (Nat × SV)
  | [],_=>[]
  | (i,l) :: r,s=>(i,.tup (s.take l)) :: zipT r (s.drop l)
def zipO : List (Nat × Sk)→List SV→Option (List (Nat × SO))
  | [],_=>some []
  | (n,k) :: r,s=>(k.mkO (s.take k.len)).bind fun o=>(zipO r (s.drop k.len)).map fun l=>(n,o) :: l
def noDup : List Nat→Bool
  | []=>true
  | a :: r=>!r.contains a && noDup r
mutual
def okSame (k : Nat) (ns : List Nat) : SV→Bool
  | .un=>true
  | .x e=>e.lt k
  | .ptr n _ | .gl n _ | .sb n _ _ | .rb n _ | .mp n | .yl n=>ns.contains n
  | .dp n _ _ _ i _=>ns.contains n && i.lt k
  | .gs n _ q=>ns.contains n && q.lt k
  | .gt n _ q=>ns.contains n && q.lt k
  | .ep n _ i _=>ns.contains n && i.lt k
  | .agg vs | .tup vs=>okSames k ns vs
  | .clo _ vs=>okSames k ns vs
  | .gd g v=>g.lt k && okSame k ns v
def okSames (k : Nat) (ns : List Nat) : List SV→Bool
  | []=>true
  | v :: r=>okSame k ns v && okSames k ns r
end
theorem okSames_mem {k : Nat} {bs : List Nat} : ∀ {vs : List SV} {i : Nat} {v : SV},okSames k bs vs = true→vs[i]? = some v→okSame k bs v = true
  | u :: r,0,v,h,hv=>by simp only [okSames,Bool.and_eq_true] at h; simp at hv; subst hv; exact h.1
  | u :: r,i + 1,v,h,hv=>by simp only [okSames,Bool.and_eq_true] at h; exact okSames_mem h.2 (by simpa using hv)
def lenT : List (Nat × Nat)→Nat
  | []=>0
  | (_,l) :: r=>l + lenT r
def lenO : List (Nat × Sk)→Nat
  | []=>0
  | (_,k) :: r=>k.len + lenO r
def Hd.cT (hd : Hd) (k : Nat) : List SV:=(mkRow k hd.row).drop hd.ids.length
def Hd.cO (hd : Hd) (k : Nat) : List SV:=(hd.cT k).drop (lenT hd.ts)
def Hd.ok (hd : Hd) (k : Nat) : Bool:=
  hd.row.all (fun p=>match p.2 with
    | .same v=>okSame k hd.ns v
    | _=>true) && noDup (hd.row.map (·.1)) && hd.row.all (fun p=>!hd.ns.contains p.1) && hd.row.length == hd.ids.length + (lenT hd.ts + lenO hd.os) && noDup hd.ns && (zipO hd.os (hd.cO k)).isSome
def Hd.mt (hd : Hd) (Y : Sy) : Option (List X × Ren):=if Y.pd.isNone then (gatherT Y hd.ts).bind fun t=>(gatherO Y hd.os).bind fun b=>(mtRow Y.h hd.row (gatherS Y hd.ids ++ (t ++ b))).bind fun q=>if noDup (q.2.filterMap (·.2) ++ hd.ns) then some q else none else none
def Hd.mk' (hd : Hd) (k m d nx : Nat) : Sy:=
  { s:=zipS hd.ids ((mkRow k hd.row).take hd.ids.length) ++ zipT hd.ts (hd.cT k),h:=(zipO hd.os (hd.cO k)).getD [] ++ mkRowL k hd.row,nv:=k + m,d:=d,nx:=nx,pd:=none }
theorem find_append {α : Type} : ∀ (a b : List (Nat × α)) (n : Nat),find (a ++ b) n = (find a n).or (find b n)
  | [],_,_=>rfl
  | (i,v) :: r,b,n=>by
    simp only [List.cons_append,find,find_append r b n]
    cases i == n <;> rfl
theorem noDup_iff : ∀ {l : List Nat},noDup l = true→∀ {i j : Nat} {a : Nat},l[i]? = some a→l[j]? = some a→i = j
  | [],_,i,j,a,h,_=>by simp at h
  | b :: r,h,i,j,a,hi,hj=>by
    simp only [noDup,Bool.and_eq_true,Bool.not_eq_true',List.contains_eq_mem,decide_eq_false_iff_not] at h
    cases i with
    | zero=>
      cases j with
      | zero=>rfl
      | succ j=>simp at hi hj; subst hi; exact absurd (List.mem_of_getElem? hj) h.1
    | succ i=>
      cases j with
      | zero=>simp at hi hj; subst hj; exact absurd (List.mem_of_getElem? hi) h.1
      | succ j=>exact congrArg (· + 1) (noDup_iff h.2 (a:=a) (by simpa using hi) (by simpa using hj))
theorem mkRow_len : ∀ {k : Nat} {r : Row},(mkRow k r).length = r.length
  | _,[]=>rfl
  | _,(_,.drop) :: r=>by simp [mkRow,mkRow_len]
  | _,(_,.same _) :: r=>by simp [mkRow,mkRow_len]
  | _,(_,.var) :: r=>by simp [mkRow,mkRow_len]
  | _,(_,.lst ..) :: r=>by simp [mkRow,mkRow_len]
section
variable {Ω : Raws} {G : FP} {ρ ρ2 : List D} {ι ι2 γ γ2 : Nat→Tok} {Y : Sy} {σ : St} {h2 : List (Nat × SO)}
def Kp (G : FP) (ρ ρ2 : List D) (ι ι2 : Nat→Tok) (h h2 : List (Nat × SO)) (ns : List Nat) : Prop:=∀ n,ns.contains n = true→ι2 n = ι n∧Lk G ρ ρ2 h h2 n
theorem okSame_sound {k : Nat} {ns : List Nat} {v : SV} {d : D} (H : VR G ρ ι Y.h v d) (ho : okSame k ns v = true) (hρ : ∀ i,i < k→ρ[i]? = ρ2[i]?) (hb : Kp G ρ ρ2 ι ι2 Y.h h2 ns) : VR G ρ2 ι2 h2 v d:=by
  have ex : ∀ {e : X} {d : D},e.lt k = true→X.ev G ρ e = some d→X.ev G ρ2 e = some d:=fun he h=>by rw [← ev_lt hρ _ he]; exact h
  induction H with
  | un=>exact .un
  | x h1 h2=>simp only [okSame] at ho; exact .x (ex ho h1) h2
  | agg hl hh ih=>
    simp only [okSame] at ho
    exact .agg hl fun i v d hv hd=>ih i v d hv hd (okSames_mem ho hv)
  | tup hl hh ih=>
    simp only [okSame] at ho
    exact .tup hl fun i v d hv hd=>ih i v d hv hd (okSames_mem ho hv)
  | clo hl hh ih=>
    simp only [okSame] at ho
    exact .clo hl fun i v d hv hd=>ih i v d hv hd (okSames_mem ho hv)
  | @ptr n o vs hf=>
    simp only [okSame] at ho
    obtain ⟨h1,L⟩:=hb n ho
    obtain ⟨vs',h3,_⟩:=L.box hf
    rw [← h1]; exact .ptr h3
  | @dp n o cnt s j i vs k z hf hv h0 hz hl=>
    simp only [okSame,Bool.and_eq_true] at ho
    obtain ⟨h1,L⟩:=hb n ho.1
    obtain ⟨vs',h3,h4⟩:=L.box hf
    rw [← h1]; exact .dp h3 (ex ho.2 hv) h0 hz (by rw [h4]; exact hl)
  | @gln n sz e c hf hi=>
    simp only [okSame] at ho
    obtain ⟨h1,L⟩:=hb n ho
    obtain ⟨c',h3,_⟩:=L.lst hf
    exact .gln h3 (h1.trans hi)
  | @gl n sz e c es hf hc hi=>
    simp only [okSame] at ho
    obtain ⟨h1,L⟩:=hb n ho
    obtain ⟨c',h3,h4⟩:=L.lst hf
    obtain ⟨es',h5,h6⟩:=h4 _ hc
    rw [← h1,← h6]
    exact .gl h3 h5 (by rw [h1]; exact hi)
  | @gsn n sz e c k q hf hi hk=>
    simp only [okSame,Bool.and_eq_true] at ho
    obtain ⟨h1,L⟩:=hb n ho.1
    obtain ⟨c',h3,_⟩:=L.lst hf
    exact .gsn h3 (h1.trans hi) (ex ho.2 hk)
  | @gs n sz e c k es q z hf hc hi hk h0 hz=>
    simp only [okSame,Bool.and_eq_true] at ho
    obtain ⟨h1,L⟩:=hb n ho.1
    obtain ⟨c',h3,h4⟩:=L.lst hf
    obtain ⟨es',h5,h6⟩:=h4 _ hc
    rw [← h1]
    exact .gs h3 h5 (by rw [h1]; exact hi) (ex ho.2 hk) h0 (by rw [h6]; exact hz)
  | @gtn n sz e c k q hf hi hk=>
    simp only [okSame,Bool.and_eq_true] at ho
    obtain ⟨h1,L⟩:=hb n ho.1
    obtain ⟨c',h3,_⟩:=L.lst hf
    exact .gtn h3 (h1.trans hi) (ex ho.2 hk)
  | @gt n sz e c k es q z hf hc hi hk h0 hz=>
    simp only [okSame,Bool.and_eq_true] at ho
    obtain ⟨h1,L⟩:=hb n ho.1
    obtain ⟨c',h3,h4⟩:=L.lst hf
    obtain ⟨es',h5,h6⟩:=h4 _ hc
    rw [← h1,← h6]
    exact .gt h3 h5 (by rw [h1]; exact hi) (ex ho.2 hk) h0 (by rw [h6]; exact hz)
  | @ep n sz e j c i k z es hf hc hi hv h0 hz=>
    simp only [okSame,Bool.and_eq_true] at ho
    obtain ⟨h1,L⟩:=hb n ho.1
    obtain ⟨c',h3,h4⟩:=L.lst hf
    obtain ⟨es',h5,h6⟩:=h4 _ hc
    rw [← h1]
    exact .ep h3 h5 (by rw [h1]; exact hi) (ex ho.2 hv) h0 (by rw [h6]; exact hz)
  | @sb n o len lim vs hf hl=>
    simp only [okSame] at ho
    obtain ⟨h1,L⟩:=hb n ho
    obtain ⟨vs',h3,h4⟩:=L.box hf
    rw [← h1]; exact .sb h3 (by rw [h4]; exact hl)
  | @rb n o vs hf hl=>
    simp only [okSame] at ho
    obtain ⟨h1,L⟩:=hb n ho
    obtain ⟨vs',h3,h4⟩:=L.box hf
    rw [← h1]; exact .rb h3 (by rw [h4]; exact hl)
  | @mp n o hf hmp=>
    simp only [okSame] at ho
    obtain ⟨h1,L⟩:=hb n ho
    obtain ⟨o',h3,h4⟩:=L.map hf hmp
    rw [← h1]; exact .mp h3 h4
  | @yl n k hf=>
    simp only [okSame] at ho
    obtain ⟨h1,L⟩:=hb n ho
    obtain ⟨k',h3⟩:=L.raw hf
    rw [← h1]; exact .yl h3
  | gd hg h1 h2 ih=>
    simp only [okSame,Bool.and_eq_true] at ho
    exact .gd (ex ho.1 hg) (fun e=>ih e ho.2) h2
def Ren.at (ι : Nat→Tok) : Option Nat→Tok
  | some n=>ι n
  | none=>[]
theorem row_sound (M : Mt Ω G ρ ι γ Y σ) {k0 : Nat} {bs : List Nat} (hρ : ∀ i,i < k0→ρ[i]? = ρ2[i]?) (hb : Kp G ρ ρ2 ι ι2 Y.h h2 bs) :
    ∀ {r : Row} {q : Nat} {vs : List SV} {dt ds : List D} {xs : List X} {rn : Ren},VRs G ρ ι Y.h vs dt→mtRow Y.h r vs = some (xs,rn)→X.evs G ρ xs = some ds→(∀ j,j < ds.length→ρ2[q + j]? = ds[j]?)→
      (∀ p ∈ r,(match p.2 with | .same v=>okSame k0 bs v | _=>true) = true)→(∀ p ∈ mkRowL q r,find h2 p.1 = some p.2)→(∀ p ∈ rn,ι2 p.1 = Ren.at ι p.2)→
      VRs G ρ2 ι2 h2 (mkRow q r) dt∧
      ∀ p ∈ mkRowL q r,∃ nm e sz i,p = (nm,SO.lst e sz (.t i))∧(((nm,none) ∈ rn∧ρ2[i]? = some (.list [])) ∨ ∃ n c d,(nm,some n) ∈ rn∧find Y.h n = some (.lst e sz c)∧ρ2[i]? = some d∧X.ev G ρ c = some d)
  | [],q,vs,dt,ds,xs,rn,hv,hm,_,_,_,_,_=>by
    cases vs with
    | cons=>simp [mtRow] at hm
    | nil=>
      have h0 : dt = []:=List.eq_nil_of_length_eq_zero hv.1.symm
      subst h0
      exact ⟨VRs.nil,fun p hp=>by simp [mkRowL] at hp⟩
  | (nm,p) :: r,q,vs,dt,ds,xs,rn,hv,hm,he,hq,hok,hL,hI=>by
    cases vs with
    | nil=>simp [mtRow] at hm
    | cons v vs=>
      simp only [mtRow,Option.bind_eq_some_iff,Option.map_eq_some_iff] at hm
      obtain ⟨⟨xs1,rn1⟩,h1,⟨xs2,rn2⟩,h3,h4⟩:=hm
      cases h4
      simp only [] at he hI
      obtain ⟨d,dt',rfl,H,K⟩:=hv.cons
      have hsplit : ∃ ds1 ds2,ds = ds1 ++ ds2∧X.evs G ρ xs1 = some ds1∧X.evs G ρ xs2 = some ds2:=by
        have hl:=evs_len he
        refine ⟨ds.take xs1.length,ds.drop xs1.length,(List.take_append_drop ..).symm,?_,?_⟩
        · refine evs_of (by simp at hl ⊢; omega) fun i x dd hx hd=>?_
          have hi:=(List.getElem?_eq_some_iff.1 hx).1
          rw [List.getElem?_take_of_lt hi] at hd
          exact evs_get he i x dd (by rw [List.getElem?_append_left hi]; exact hx) hd
        · refine evs_of (by simp at hl ⊢; omega) fun i x dd hx hd=>?_
          rw [List.getElem?_drop] at hd
          exact evs_get he (xs1.length + i) x dd (by rw [List.getElem?_append_right (by omega)]; simpa using hx) hd
      obtain ⟨ds1,ds2,rfl,e1,e2⟩:=hsplit
      have hI1:=fun p hp=>hI p (List.mem_append_left _ hp)
      have hI2:=fun p hp=>hI p (List.mem_append_right _ hp)
      have hok2 : ∀ p ∈ r,(match p.2 with | .same v=>okSame k0 bs v | _=>true) = true:=fun p hp=>hok p (List.mem_cons_of_mem _ hp)
      have rest : ∀ {q' : Nat},(∀ j,j < ds2.length→ρ2[q' + j]? = ds2[j]?)→(∀ p ∈ mkRowL q' r,find h2 p.1 = some p.2)→_:=fun {q'} g1 g2=>row_sound M hρ hb K h3 e2 g1 hok2 g2 hI2
      have widen : ∀ {q' : Nat},(∀ p ∈ mkRowL q' r,∃ nm e sz i,p = (nm,SO.lst e sz (.t i))∧(((nm,none) ∈ rn2∧ρ2[i]? = some (.list [])) ∨ ∃ n c d,(nm,some n) ∈ rn2∧find Y.h n = some (.lst e sz c)∧ρ2[i]? = some d∧X.ev G ρ c = some d))→
          ∀ p ∈ mkRowL q' r,∃ nm e sz i,p = (nm,SO.lst e sz (.t i))∧(((nm,none) ∈ rn1 ++ rn2∧ρ2[i]? = some (.list [])) ∨ ∃ n c d,(nm,some n) ∈ rn1 ++ rn2∧find Y.h n = some (.lst e sz c)∧ρ2[i]? = some d∧X.ev G ρ c = some d):=fun {q'} hh p hp=>by
        obtain ⟨nm',e',sz',i',rfl,hc⟩:=hh p hp
        refine ⟨nm',e',sz',i',rfl,?_⟩
        rcases hc with ⟨a1,a2⟩ | ⟨n,c,d,a1,a2⟩
        · exact .inl ⟨List.mem_append_right _ a1,a2⟩
        · exact .inr ⟨n,c,d,List.mem_append_right _ a1,a2⟩
      cases p with
      | drop=>
        simp only [mtV] at h1
        cases h1
        cases e1
        obtain ⟨g1,g2⟩:=rest (q':=q) (fun j hj=>by simpa using hq j (by simpa using hj)) (by simpa only [mkRowL] using hL)
        exact ⟨VRs.mk .un g1,by simpa only [mkRowL] using widen g2⟩
      | same v'=>
        simp only [mtV] at h1
        split at h1 <;> cases h1
        rename_i hbe
        obtain rfl:=beqSV_eq _ _ hbe
        cases e1
        obtain ⟨g1,g2⟩:=rest (q':=q) (fun j hj=>by simpa using hq j (by simpa using hj)) (by simpa only [mkRowL] using hL)
        exact ⟨VRs.mk (okSame_sound H (hok _ (List.mem_cons_self ..)) hρ hb) g1,by simpa only [mkRowL] using widen g2⟩
      | var=>
        simp only [mtV] at h1
        obtain ⟨x,hx,h5⟩:=Option.map_eq_some_iff.1 h1
        cases h5
        obtain ⟨dx,rfl,hdx⟩:=evs1 e1
        obtain rfl:=asX_sound H hx hdx
        obtain ⟨g1,g2⟩:=rest (q':=q + 1) (fun j hj=>by have:=hq (j + 1) (by simpa using hj); simpa [Nat.add_assoc,Nat.add_comm 1 j] using this) (by simpa only [mkRowL] using hL)
        refine ⟨VRs.mk (.x ?_ (asX_noT H hx hdx)) g1,by simpa only [mkRowL] using widen g2⟩
        have:=hq 0 (by simp)
        simpa [X.ev] using this
      | lst e sz=>
        have hLs:=hL (nm,.lst e sz (.t q)) (by simp [mkRowL])
        have hLr:=fun p hp=>hL p (by simp only [mkRowL]; exact List.mem_cons_of_mem _ hp)
        cases v
        case gl n sz'=>
          simp only [mtV] at h1
          split at h1
          · rename_i e' sz'' c hf
            split at h1 <;> cases h1
            rename_i hc
            obtain ⟨rfl,rfl,rfl⟩:=hc
            obtain ⟨dx,rfl,hdx⟩:=evs1 e1
            have hq0 : ρ2[q]? = some dx:=by have:=hq 0 (by simp); simpa using this
            have hi:=hI1 (nm,some n) (by simp)
            obtain ⟨es,k1,k2,k3⟩:=M.lst _ _ _ _ hf
            rw [hdx] at k1; cases k1
            obtain ⟨g1,g2⟩:=rest (q':=q + 1) (fun j hj=>by have:=hq (j + 1) (by simpa using hj); simpa [Nat.add_assoc,Nat.add_comm 1 j] using this) hLr
            refine ⟨VRs.mk ?_ g1,fun p hp=>?_⟩
            · cases H with
              | gln a1 a2=>exact .gln hLs (hi.trans a2)
              | gl a1 a2 a3=>
                rw [hf] at a1; cases a1
                rw [hdx] at a2; cases a2
                have:=VR.gl (G:=G) (ρ:=ρ2) (ι:=ι2) hLs (es:=es) (by simpa [X.ev] using hq0) (by rw [hi]; exact a3)
                rw [hi] at this; exact this
            · simp only [mkRowL,List.mem_cons] at hp
              rcases hp with rfl | hp
              · exact ⟨nm,_,_,q,rfl,.inr ⟨n,c,_,by simp,hf,hq0,hdx⟩⟩
              · exact widen g2 p hp
          · cases h1
        case x ex=>
          cases ex
          case q dq=>
            cases dq
            case nil=>
              simp only [mtV] at h1
              cases h1
              obtain ⟨dx,rfl,hdx⟩:=evs1 e1
              cases hdx
              have hq0 : ρ2[q]? = some (.list []):=by have:=hq 0 (by simp); simpa using this
              have hi:=hI1 (nm,none) (by simp)
              obtain ⟨g1,g2⟩:=rest (q':=q + 1) (fun j hj=>by have:=hq (j + 1) (by simpa using hj); simpa [Nat.add_assoc,Nat.add_comm 1 j] using this) hLr
              refine ⟨VRs.mk ?_ g1,fun p hp=>?_⟩
              · obtain ⟨a1,_⟩:=H.x_inv
                cases a1
                exact .gln hLs hi
              · simp only [mkRowL,List.mem_cons] at hp
                rcases hp with rfl | hp
                · exact ⟨nm,_,_,q,rfl,.inl ⟨by simp,hq0⟩⟩
                · exact widen g2 p hp
            all_goals (simp [mtV] at h1; done)
          all_goals (simp [mtV] at h1; done)
        all_goals (simp [mtV] at h1; done)
end
end Go.Proofs.YtkcfpgaepmllhaaGreatDoor
namespace Go.Proofs.YtkcfpgaepmllhaaGreatDoor
open Go.RowKit
theorem noDup_nodup : ∀ {l : List Nat},noDup l = true→l.Nodup
  | [],_=>List.nodup_nil
  | a :: r,h=>by
    simp only [noDup,Bool.and_eq_true,Bool.not_eq_true',List.contains_eq_mem,decide_eq_false_iff_not] at h
    exact List.nodup_cons.2 ⟨h.1,noDup_nodup h.2⟩
theorem mem_find {α : Type} : ∀ {l : List (Nat × α)} {n : Nat} {v : α},(l.map (·.1)).Nodup→(n,v) ∈ l→find l n = some v
  | [],_,_,_,h=>by simp at h
  | (i,a) :: r,n,v,hd,h=>by
    simp only [List.map_cons,List.nodup_cons] at hd
    rcases List.mem_cons.1 h with h | h
    · cases h; simp [find]
    · have : (i == n) = false:=by
        cases hh : i == n with
        | false=>rfl
        | true=>
          have : i = n:=by simpa using hh
          subst this
          exact absurd (List.mem_map.2 ⟨_,h,rfl⟩) hd.1
      simp only [find,this,cond_false]
      exact mem_find hd.2 h
theorem mtRow_keys {h : List (Nat × SO)} : ∀ {r : Row} {vs : List SV} {xs : List X} {rn : Ren},mtRow h r vs = some (xs,rn)→(rn.map (·.1)).Sublist (r.map (·.1))
  | [],[],xs,rn,hm=>by simp [mtRow] at hm; obtain ⟨rfl,rfl⟩:=hm; exact List.Sublist.refl _
  | [],_ :: _,_,_,hm=>by simp [mtRow] at hm
  | _ :: _,[],_,_,hm=>by simp [mtRow] at hm
  | (nm,p) :: r,v :: vs,xs,rn,hm=>by
    simp only [mtRow,Option.bind_eq_some_iff,Option.map_eq_some_iff] at hm
    obtain ⟨⟨xs1,rn1⟩,h1,⟨xs2,rn2⟩,h3,h4⟩:=hm
    cases h4
    have ih:=mtRow_keys h3
    have h1' : rn1 = [] ∨ ∃ o,rn1 = [(nm,o)]:=by
      cases p with
      | drop=>simp only [mtV] at h1; cases h1; exact .inl rfl
      | same v'=>simp only [mtV] at h1; split at h1 <;> cases h1; exact .inl rfl
      | var=>simp only [mtV] at h1; obtain ⟨x,_,hx⟩:=Option.map_eq_some_iff.1 h1; cases hx; exact .inl rfl
      | lst e sz=>
        cases v
        case gl n sz'=>
          simp only [mtV] at h1
          split at h1
          · split at h1 <;> cases h1
            exact .inr ⟨_,rfl⟩
          · cases h1
        case x ex=>
          cases ex
          case q dq=>
            cases dq
            case nil=>simp only [mtV] at h1; cases h1; exact .inr ⟨_,rfl⟩
            all_goals (simp [mtV] at h1; done)
          all_goals (simp [mtV] at h1; done)
        all_goals (simp [mtV] at h1; done)
    rcases h1' with rfl | ⟨o,rfl⟩
    · exact ih.cons nm
    · exact ih.cons_cons nm
theorem mkRowL_keys : ∀ {k : Nat} {r : Row},((mkRowL k r).map (·.1)).Sublist (r.map (·.1))
  | _,[]=>List.Sublist.refl _
  | _,(nm,.drop) :: r=>by simp only [mkRowL,List.map_cons]; exact mkRowL_keys.cons nm
  | _,(nm,.same _) :: r=>by simp only [mkRowL,List.map_cons]; exact mkRowL_keys.cons nm
  | _,(nm,.var) :: r=>by simp only [mkRowL,List.map_cons]; exact mkRowL_keys.cons nm
  | _,(nm,.lst ..) :: r=>by simp only [mkRowL,List.map_cons]; exact mkRowL_keys.cons_cons nm
theorem find_key {α : Type} : ∀ {l : List (Nat × α)} {n : Nat},¬ n ∈ l.map (·.1)→find l n = none
  | [],_,_=>rfl
  | (i,a) :: r,n,h=>by
    simp only [List.map_cons,List.mem_cons,not_or] at h
    have : (i == n) = false:=by simpa using fun e=>h.1 e.symm
    simp only [find,this,cond_false]
    exact find_key h.2
section
variable {Ω : Raws} {G : FP} {ρ ρ2 : List D} {ι γ : Nat→Tok} {Y : Sy} {σ : St}
theorem gatherS_sound (M : Mt Ω G ρ ι γ Y σ) : ∀ (ids : List Nat),VRs G ρ ι Y.h (gatherS Y ids) (ids.map σ.s)
  | []=>VRs.nil
  | i :: r=>VRs.mk (by
      cases hf : find Y.s i with
      | none=>exact .un
      | some v=>exact M.slot i v hf) (gatherS_sound M r)
theorem gatherS_len : ∀ {ids : List Nat},(gatherS Y ids).length = ids.length
  | []=>rfl
  | i :: r=>by simp [gatherS,gatherS_len]
theorem zipS_sound {ι2 : Nat→Tok} {h2 : List (Nat × SO)} : ∀ {ids : List Nat} {s : List SV},VRs G ρ2 ι2 h2 s (ids.map σ.s)→∀ {i : Nat} {v : SV},find (zipS ids s) i = some v→VR G ρ2 ι2 h2 v (σ.s i)
  | [],s,_,i,v,h=>by cases s <;> cases h
  | j :: r,[],H,_,_,_=>absurd (show 0 = (List.map σ.s (j :: r)).length from H.1) (by rw [List.length_map,List.length_cons]; omega)
  | j :: r,u :: s,H,i,v,h=>by
    obtain ⟨d,ds,he,h1,h3⟩:=H.cons
    simp only [List.map_cons,List.cons.injEq] at he
    obtain ⟨rfl,rfl⟩:=he
    simp only [zipS,find] at h
    cases hi : j == i with
    | true => rw [hi] at h; cases h; have : j = i := by simpa using hi
              subst this; exact h1
    | false=>rw [hi] at h; exact zipS_sound h3 h
theorem gatherT_sound (M : Mt Ω G ρ ι γ Y σ) : ∀ {ts : List (Nat × Nat)} {t : List SV},gatherT Y ts = some t→∃ dt,VRs G ρ ι Y.h t dt∧t.length = lenT ts∧
    ∀ {ρ2 : List D} {ι2 : Nat→Tok} {h2 : List (Nat × SO)} {s : List SV},VRs G ρ2 ι2 h2 s dt→∀ {i : Nat} {v : SV},find (zipT ts s) i = some v→VR G ρ2 ι2 h2 v (σ.s i)
  | [],t,h=>by
    simp [gatherT] at h
    subst h
    exact ⟨[],VRs.nil,rfl,fun {ρ2 ι2 h2 s} _ {i v} hf=>by cases hf⟩
  | (j,l) :: r,t,h=>by
    simp only [gatherT] at h
    split at h
    · rename_i vs hf
      split at h
      · rename_i hl
        obtain ⟨t',ht,rfl⟩:=Option.map_eq_some_iff.1 h
        obtain ⟨dt,h1,h2,h3⟩:=gatherT_sound M ht
        have hs:=M.slot j _ hf
        generalize hd : σ.s j = d at hs
        cases hs with
        | tup hl2 hh=>
          rename_i ds
          have k3 : VRs G ρ ι Y.h vs ds:=⟨hl2,hh⟩
          have hdl : ds.length = l:=by omega
          refine ⟨ds ++ dt,k3.append h1,by simp [lenT,h2,hl],fun {ρ2 ι2 h2' s} H {i v} hfo=>?_⟩
          have ht:=H.take l
          have hdr:=H.drop l
          rw [← hdl,List.take_left,hdl] at ht
          rw [← hdl,List.drop_left,hdl] at hdr
          simp only [zipT,find] at hfo
          cases hi : j == i with
          | true=>
            rw [hi] at hfo
            cases hfo
            have : j = i:=by simpa using hi
            subst this
            rw [hd]; exact .tup ht.1 ht.2
          | false=>rw [hi] at hfo; exact h3 hdr hfo
      · cases h
    · cases h
theorem mkO_lst {e sz : Nat} {s : List SV} {o : SO} (h : Sk.mkO (.lst e sz) s = some o) : ∃ c,s = [.x c]∧o = .lst e sz c:=by
  rcases s with _ | ⟨v,_ | ⟨u,r⟩⟩
  · cases h
  · cases v <;> first | (cases h; done) | (cases h; exact ⟨_,rfl,rfl⟩)
  · cases v <;> cases h
theorem mkO_map {s : List SV} {o : SO} (h : Sk.mkO .map s = some o) : ∃ c,s = [.x c]∧o = .map c:=by
  rcases s with _ | ⟨v,_ | ⟨u,r⟩⟩
  · cases h
  · cases v <;> first | (cases h; done) | (cases h; exact ⟨_,rfl,rfl⟩)
  · cases v <;> cases h
theorem mkO_mpl {e sz : Nat} {s : List SV} {o : SO} (h : Sk.mkO (.mpl e sz) s = some o) : ∃ c,s = [.x c]∧o = .mpl e sz c:=by
  rcases s with _ | ⟨v,_ | ⟨u,r⟩⟩
  · cases h
  · cases v <;> first | (cases h; done) | (cases h; exact ⟨_,rfl,rfl⟩)
  · cases v <;> cases h
theorem mkO_raw {s : List SV} {o : SO} {k : RS} (h : Sk.mkO (.raw k) s = some o) : o = .raw k:=by
  cases s with
  | nil=>cases h; rfl
  | cons v r=>cases h
def Ob (Ω : Raws) (G : FP) (ρ2 : List D) (ι γ ι2 : Nat→Tok) (h2 : List (Nat × SO)) (Yh : List (Nat × SO)) (σ : St) (m : Mem) (n : Nat) : SO→Prop
  | .box vs=>∃ ds,ι n ≠ []∧m (ι n) = some (.box ds)∧VRs G ρ2 ι2 h2 vs ds
  | .lst e sz c=>∃ es,X.ev G ρ2 c = some (.list es)∧rowsOK sz es = true∧(ι n = []∧es = [] ∨ ι n ≠ []∧m (ι n) = some (.row (γ n) e es))
  | .map c=>∃ es,X.ev G ρ2 c = some (.list (pairR es))∧ι n ≠ []∧m (ι n) = some (.map es)
  | .mpl e sz c=>∃ L : List OE,X.ev G ρ2 c = some (.list (pairR (L.map OE.pr)))∧ι n ≠ []∧m (ι n) = some (.map (L.map (OE.en sz)))∧OwnA Yh ι γ σ e sz L
  | .raw k=>ι n = Ω.t n∧ι n ≠ []∧m (ι n) = some (.raw (Ω.f n k))∧¬ Ω.c (ι n)
theorem gatherO_sound (M : Mt Ω G ρ ι γ Y σ) : ∀ {os : List (Nat × Sk)} {b : List SV},gatherO Y os = some b→∃ db,VRs G ρ ι Y.h b db∧b.length = lenO os∧
    ∀ {ρ2 : List D} {s : List SV} {objs : List (Nat × SO)},s.length = db.length→(∀ (i : Nat) (e : X) (d : D),s[i]? = some (.x e)→db[i]? = some d→X.ev G ρ2 e = some d)→zipO os s = some objs→
      objs.map (·.1) = os.map (·.1)∧∀ {n : Nat} {o : SO},find objs n = some o→(∃ o0,find Y.h n = some o0∧SO.like G ρ ρ2 o0 o)∧∀ {ι2 : Nat→Tok} {h2 : List (Nat × SO)},VRs G ρ2 ι2 h2 s db→Ob Ω G ρ2 ι γ ι2 h2 Y.h σ σ.m n o
  | [],b,h=>by
    simp [gatherO] at h
    subst h
    exact ⟨[],VRs.nil,rfl,fun _ _ hz=>by cases hz; exact ⟨rfl,fun {n o} hf=>by cases hf⟩⟩
  | (j,k) :: r,b,h=>by
    simp only [gatherO,Option.bind_eq_some_iff] at h
    obtain ⟨o0,hf,h⟩:=h
    split at h
    · rename_i hsk
      obtain ⟨b',hb,rfl⟩:=Option.map_eq_some_iff.1 h
      obtain ⟨db,h1,h2,h3⟩:=gatherO_sound M hb
      have one : ∃ dc,VRs G ρ ι Y.h o0.cells dc∧o0.cells.length = k.len∧∀ {ρ2 : List D} {s : List SV} {o : SO},s.length = dc.length→(∀ (i : Nat) (e : X) (d : D),s[i]? = some (.x e)→dc[i]? = some d→X.ev G ρ2 e = some d)→k.mkO s = some o→
          SO.like G ρ ρ2 o0 o∧∀ {ι2 : Nat→Tok} {h2 : List (Nat × SO)},VRs G ρ2 ι2 h2 s dc→Ob Ω G ρ2 ι γ ι2 h2 Y.h σ σ.m j o:=by
        cases o0 with
        | box us=>
          simp only [SO.sk] at hsk
          subst hsk
          obtain ⟨ds,k1,k2,k3⟩:=M.box j us hf
          refine ⟨ds,k3,rfl,fun {ρ2 s o} hl _ hmk=>?_⟩
          simp only [Sk.mkO] at hmk
          split at hmk <;> cases hmk
          rename_i hlen
          exact ⟨hlen,fun H=>⟨ds,k1,k2,H⟩⟩
        | lst e sz c=>
          simp only [SO.sk] at hsk
          subst hsk
          obtain ⟨es,k1,k2,k3⟩:=M.lst j e sz c hf
          refine ⟨[.list es],VRs.mk (.x k1 rfl) VRs.nil,rfl,fun {ρ2 s o} hl hX hmk=>?_⟩
          obtain ⟨c',rfl,rfl⟩:=mkO_lst hmk
          have hc:=hX 0 c' _ rfl rfl
          exact ⟨⟨rfl,rfl,fun es' he'=>⟨es,hc,by rw [k1] at he'; cases he'; rfl⟩⟩,fun _=>⟨es,hc,k2,k3⟩⟩
        | map c=>
          simp only [SO.sk] at hsk
          subst hsk
          obtain ⟨es,k1,k2,k3⟩:=M.mpo j c hf
          refine ⟨[.list (pairR es)],VRs.mk (.x k1 rfl) VRs.nil,rfl,fun {ρ2 s o} hl hX hmk=>?_⟩
          obtain ⟨c',rfl,rfl⟩:=mkO_map hmk
          exact ⟨trivial,fun _=>⟨es,hX 0 c' _ rfl rfl,k2,k3⟩⟩
        | mpl e sz c=>
          simp only [SO.sk] at hsk
          subst hsk
          obtain ⟨L,k1,k2,k3,k4⟩:=M.own j e sz c hf
          refine ⟨[.list (pairR (L.map OE.pr))],VRs.mk (.x k1 rfl) VRs.nil,rfl,fun {ρ2 s o} hl hX hmk=>?_⟩
          obtain ⟨c',rfl,rfl⟩:=mkO_mpl hmk
          exact ⟨trivial,fun _=>⟨L,hX 0 c' _ rfl rfl,k2,k3,k4⟩⟩
        | raw kk=>
          simp only [SO.sk] at hsk
          subst hsk
          have k2:=M.rwo j kk hf
          refine ⟨[],VRs.nil,rfl,fun {ρ2 s o} hl hX hmk=>?_⟩
          obtain rfl:=mkO_raw hmk
          exact ⟨trivial,fun _=>k2⟩
      obtain ⟨dc,c1,c2,c3⟩:=one
      have hdl : dc.length = k.len:=by rw [← c1.1]; exact c2
      refine ⟨dc ++ db,c1.append h1,by simp [lenO,h2,c2],fun {ρ2 s objs} hl hX hz=>?_⟩
      simp only [zipO,Option.bind_eq_some_iff,Option.map_eq_some_iff] at hz
      obtain ⟨o,ho,objs',hz',rfl⟩:=hz
      simp only [List.length_append] at hl
      have hX1 : ∀ (i : Nat) (e : X) (d : D),(s.take k.len)[i]? = some (.x e)→dc[i]? = some d→X.ev G ρ2 e = some d:=fun i e d hi hd=>by
        have hil:=(List.getElem?_eq_some_iff.1 hd).1
        rw [List.getElem?_take_of_lt (by omega)] at hi
        exact hX i e d hi (by rw [List.getElem?_append_left hil]; exact hd)
      have hX2 : ∀ (i : Nat) (e : X) (d : D),(s.drop k.len)[i]? = some (.x e)→db[i]? = some d→X.ev G ρ2 e = some d:=fun i e d hi hd=>by
        rw [List.getElem?_drop] at hi
        exact hX _ e d hi (by rw [List.getElem?_append_right (by omega),hdl,Nat.add_sub_cancel_left]; exact hd)
      obtain ⟨g1,g2⟩:=c3 (by simp; omega) hX1 ho
      obtain ⟨g3,g4⟩:=h3 (by simp; omega) hX2 hz'
      refine ⟨by simp [g3],fun {n q} hfo=>?_⟩
      simp only [find] at hfo
      cases hi : j == n with
      | true=>
        rw [hi] at hfo
        cases hfo
        have : j = n:=by simpa using hi
        subst this
        refine ⟨⟨o0,hf,g1⟩,fun {ι2 h2'} H=>g2 ?_⟩
        have:=H.take k.len
        rw [← hdl,List.take_left,hdl] at this
        exact this
      | false=>
        rw [hi] at hfo
        obtain ⟨e1,e2⟩:=g4 hfo
        refine ⟨e1,fun {ι2 h2'} H=>e2 ?_⟩
        have:=H.drop k.len
        rw [← hdl,List.drop_left,hdl] at this
        exact this
    · cases h
theorem rowX_sound {k0 : Nat} {bs : List Nat} (hρ : ∀ i,i < k0→ρ[i]? = ρ2[i]?) :
    ∀ {r : Row} {q : Nat} {vs : List SV} {dt ds : List D} {xs : List X} {rn : Ren},VRs G ρ ι Y.h vs dt→mtRow Y.h r vs = some (xs,rn)→X.evs G ρ xs = some ds→(∀ j,j < ds.length→ρ2[q + j]? = ds[j]?)→
      (∀ p ∈ r,(match p.2 with | .same v=>okSame k0 bs v | _=>true) = true)→∀ (i : Nat) (e : X) (d : D),(mkRow q r)[i]? = some (.x e)→dt[i]? = some d→X.ev G ρ2 e = some d
  | [],q,vs,dt,ds,xs,rn,hv,hm,_,_,_,i,e,d,hi,_=>by simp [mkRow] at hi
  | (nm,p) :: r,q,vs,dt,ds,xs,rn,hv,hm,he,hq,hok,i,e,d,hi,hd=>by
    cases vs with
    | nil=>simp [mtRow] at hm
    | cons v vs=>
      simp only [mtRow,Option.bind_eq_some_iff,Option.map_eq_some_iff] at hm
      obtain ⟨⟨xs1,rn1⟩,h1,⟨xs2,rn2⟩,h3,h4⟩:=hm
      cases h4
      simp only [] at he
      obtain ⟨d0,dt',rfl,H,K⟩:=hv.cons
      have hsplit : ∃ ds1 ds2,ds = ds1 ++ ds2∧X.evs G ρ xs1 = some ds1∧X.evs G ρ xs2 = some ds2:=by
        have hl:=evs_len he
        refine ⟨ds.take xs1.length,ds.drop xs1.length,(List.take_append_drop ..).symm,?_,?_⟩
        · refine evs_of (by simp at hl ⊢; omega) fun i x dd hx hd=>?_
          have hi:=(List.getElem?_eq_some_iff.1 hx).1
          rw [List.getElem?_take_of_lt hi] at hd
          exact evs_get he i x dd (by rw [List.getElem?_append_left hi]; exact hx) hd
        · refine evs_of (by simp at hl ⊢; omega) fun i x dd hx hd=>?_
          rw [List.getElem?_drop] at hd
          exact evs_get he (xs1.length + i) x dd (by rw [List.getElem?_append_right (by omega)]; simpa using hx) hd
      obtain ⟨ds1,ds2,rfl,e1,e2⟩:=hsplit
      have hok2 : ∀ p ∈ r,(match p.2 with | .same v=>okSame k0 bs v | _=>true) = true:=fun p hp=>hok p (List.mem_cons_of_mem _ hp)
      have rest : ∀ {q' : Nat},(∀ j,j < ds2.length→ρ2[q' + j]? = ds2[j]?)→∀ (i : Nat) (e : X) (d : D),(mkRow q' r)[i]? = some (.x e)→dt'[i]? = some d→X.ev G ρ2 e = some d:=fun g1=>rowX_sound hρ K h3 e2 g1 hok2
      have zero : xs1 = []→∀ j,j < ds2.length→ρ2[q + j]? = ds2[j]?:=fun h0 j hj=>by
        subst h0
        cases e1
        simpa using hq j (by simpa using hj)
      have one : ∀ {x : X},xs1 = [x]→(∃ dx,X.ev G ρ x = some dx∧ρ2[q]? = some dx)∧∀ j,j < ds2.length→ρ2[q + 1 + j]? = ds2[j]?:=fun {x} h0=>by
        subst h0
        obtain ⟨dx,rfl,hdx⟩:=evs1 e1
        refine ⟨⟨dx,hdx,by have:=hq 0 (by simp); simpa using this⟩,fun j hj=>?_⟩
        have:=hq (j + 1) (by simpa using hj)
        simpa [Nat.add_assoc,Nat.add_comm 1 j] using this
      cases p with
      | drop=>
        simp only [mtV] at h1
        cases h1
        cases i with
        | zero=>simp [mkRow] at hi
        | succ i=>exact rest (zero rfl) i e d (by simpa [mkRow] using hi) (by simpa using hd)
      | same v'=>
        simp only [mtV] at h1
        split at h1 <;> cases h1
        rename_i hbe
        obtain rfl:=beqSV_eq _ _ hbe
        cases i with
        | zero=>
          simp only [mkRow,List.getElem?_cons_zero,Option.some.injEq] at hi hd
          subst hi; subst hd
          have:=hok _ (List.mem_cons_self ..)
          simp only [okSame] at this
          rw [← ev_lt hρ _ this]; exact H.x_inv.1
        | succ i=>exact rest (zero rfl) i e d (by simpa [mkRow] using hi) (by simpa using hd)
      | var=>
        simp only [mtV] at h1
        obtain ⟨x,hx,h5⟩:=Option.map_eq_some_iff.1 h1
        cases h5
        obtain ⟨⟨dx,hdx,hqx⟩,h6⟩:=one rfl
        cases i with
        | zero=>
          simp only [mkRow,List.getElem?_cons_zero,Option.some.injEq,SV.x.injEq] at hi hd
          subst hi; subst hd
          obtain rfl:=asX_sound H hx hdx
          simpa only [X.ev] using hqx
        | succ i=>exact rest h6 i e d (by simpa [mkRow] using hi) (by simpa using hd)
      | lst e0 sz0=>
        have h6 : ∃ x,xs1 = [x]:=by
          cases v
          case gl n sz'=>
            simp only [mtV] at h1
            split at h1
            · split at h1 <;> cases h1
              exact ⟨_,rfl⟩
            · cases h1
          case x ex=>
            cases ex
            case q dq=>
              cases dq
              case nil=>simp only [mtV] at h1; cases h1; exact ⟨_,rfl⟩
              all_goals (simp [mtV] at h1; done)
            all_goals (simp [mtV] at h1; done)
          all_goals (simp [mtV] at h1; done)
        obtain ⟨x,hx⟩:=h6
        cases i with
        | zero=>simp [mkRow] at hi
        | succ i=>exact rest (one hx).2 i e d (by simpa [mkRow] using hi) (by simpa using hd)
theorem find_of_key {α : Type} : ∀ {l : List (Nat × α)} {n : Nat},n ∈ l.map (·.1)→∃ o,find l n = some o
  | [],n,h=>by simp at h
  | (i,a) :: r,n,h=>by
    simp only [find]
    cases hi : i == n with
    | true=>exact ⟨_,rfl⟩
    | false=>
      simp only [List.map_cons,List.mem_cons] at h
      rcases h with rfl | h
      · simp at hi
      · exact find_of_key h
theorem Hd.sound (M : Mt Ω G ρ ι γ Y σ) {hd : Hd} {k : Nat} (ok : hd.ok k = true) {xs : List X} {rn : Ren} (hm : hd.mt Y = some (xs,rn)) {ds : List D} (he : X.evs G ρ xs = some ds) {ρ0 : List D} (hk : ρ0.length = k)
    (hρ : ∀ i,i < k→ρ[i]? = ρ0[i]?) (dd nn : Nat) : ∃ ι2 γ2,Mt Ω G (ρ0 ++ ds) ι2 γ2 (hd.mk' k ds.length dd nn) σ:=by
  simp only [Hd.ok,Bool.and_eq_true,beq_iff_eq] at ok
  obtain ⟨⟨⟨⟨⟨ok1,ok2⟩,ok3⟩,ok4⟩,ok5⟩,ok6⟩:=ok
  obtain ⟨objs,hobjs⟩:=Option.isSome_iff_exists.1 ok6
  simp only [Hd.mt] at hm
  split at hm
  rotate_left
  · cases hm
  simp only [Option.bind_eq_some_iff] at hm
  obtain ⟨t,ht,b,hb,q,hq,hm⟩:=hm
  split at hm
  · rename_i hnd
    cases hm
    obtain ⟨dt,hvt,htl,htup⟩:=gatherT_sound M ht
    obtain ⟨db,hvb,hbl,hbox⟩:=gatherO_sound M hb
    have hvs:=(gatherS_sound M hd.ids).append (hvt.append hvb)
    have ndr:=noDup_nodup ok2
    have ndn : (rn.map (·.1)).Nodup:=ndr.sublist (mtRow_keys hq)
    have ndl : ((mkRowL k hd.row).map (·.1)).Nodup:=ndr.sublist mkRowL_keys
    have notkey : ∀ nm,nm ∈ hd.row.map (·.1)→¬ nm ∈ hd.ns:=fun nm h=>by
      obtain ⟨p,hp,rfl⟩:=List.mem_map.1 h
      have:=List.all_eq_true.1 ok3 p hp
      simpa using this
    let ι2 : Nat→Tok:=fun m=>if m ∈ hd.ns then ι m else Ren.at ι ((find rn m).getD none)
    let γ2 : Nat→Tok:=fun m=>if m ∈ hd.ns then γ m else Ren.at γ ((find rn m).getD none)
    have hI : ∀ p ∈ rn,ι2 p.1 = Ren.at ι p.2:=fun p hp=>by
      have h1 : ¬ p.1 ∈ hd.ns:=notkey _ ((mtRow_keys hq).subset (List.mem_map.2 ⟨p,hp,rfl⟩))
      simp only [ι2,if_neg h1,mem_find ndn (show (p.1,p.2) ∈ rn from hp),Option.getD_some]
    have hGm : ∀ p ∈ rn,γ2 p.1 = Ren.at γ p.2:=fun p hp=>by
      have h1 : ¬ p.1 ∈ hd.ns:=notkey _ ((mtRow_keys hq).subset (List.mem_map.2 ⟨p,hp,rfl⟩))
      simp only [γ2,if_neg h1,mem_find ndn (show (p.1,p.2) ∈ rn from hp),Option.getD_some]
    have hk2 : ∀ m,m ∈ hd.ns→ι2 m = ι m:=fun m hm=>by simp only [ι2,if_pos hm]
    have hg2 : ∀ m,m ∈ hd.ns→γ2 m = γ m:=fun m hm=>by simp only [γ2,if_pos hm]
    have hρ2 : ∀ i,i < k→ρ[i]? = (ρ0 ++ ds)[i]?:=fun i hi=>by rw [List.getElem?_append_left (by omega)]; exact hρ i hi
    have hqd : ∀ j,j < ds.length→(ρ0 ++ ds)[k + j]? = ds[j]?:=fun j hj=>by rw [List.getElem?_append_right (by omega),hk,Nat.add_sub_cancel_left]
    have okr : ∀ p ∈ hd.row,(match p.2 with | .same v=>okSame k hd.ns v | _=>true) = true:=fun p hp=>List.all_eq_true.1 ok1 p hp
    have gx:=rowX_sound (ρ2:=ρ0 ++ ds) (bs:=hd.ns) hρ2 hvs hq he hqd okr
    have hrl : (mkRow k hd.row).length = hd.ids.length + (dt.length + db.length):=by
      rw [mkRow_len,ok4,← hvt.1,← hvb.1,htl,hbl]
    have hdtl : dt.length = lenT hd.ts:=by rw [← hvt.1,htl]
    have hcO : ∀ (i : Nat) (e : X) (d : D),(hd.cO k)[i]? = some (.x e)→db[i]? = some d→X.ev G (ρ0 ++ ds) e = some d:=fun i e d hi hd'=>by
      simp only [Hd.cO,Hd.cT,List.getElem?_drop] at hi
      refine gx _ e d hi ?_
      rw [List.getElem?_append_right (by simp),List.length_map,Nat.add_sub_cancel_left,List.getElem?_append_right (by omega),hdtl,Nat.add_sub_cancel_left]
      exact hd'
    obtain ⟨hnames,hkept⟩:=hbox (ρ2:=ρ0 ++ ds) (s:=hd.cO k) (by simp [Hd.cO,Hd.cT,hrl,hdtl]; omega) hcO hobjs
    have hnin : ∀ m,m ∈ hd.ns ↔ m ∈ objs.map (·.1):=fun m=>by rw [hnames]; exact Iff.rfl
    let h2:=objs ++ mkRowL k hd.row
    have hfO : ∀ {n : Nat} {o : SO},find objs n = some o→find h2 n = some o:=fun {n o} hf=>by simp only [h2,find_append,hf,Option.some_or]
    have hfL : ∀ p ∈ mkRowL k hd.row,find h2 p.1 = some p.2:=fun p hp=>by
      have h1 : ¬ p.1 ∈ hd.ns:=notkey _ (mkRowL_keys.subset (List.mem_map.2 ⟨p,hp,rfl⟩))
      simp only [h2,find_append,find_key (fun h=>h1 ((hnin _).2 h)),Option.none_or]
      exact mem_find ndl hp
    have hbk : Kp G ρ (ρ0 ++ ds) ι ι2 Y.h h2 hd.ns:=fun n hn=>by
      have hn' : n ∈ hd.ns:=by simpa using hn
      obtain ⟨o,ho⟩:=find_of_key ((hnin n).1 hn')
      obtain ⟨⟨o0,g1,g2⟩,_⟩:=hkept ho
      exact ⟨hk2 n hn',fun q hq=>⟨o,hfO ho,by rw [g1] at hq; cases hq; exact g2⟩⟩
    obtain ⟨g1,g2⟩:=row_sound (ρ2:=ρ0 ++ ds) (ι2:=ι2) (h2:=h2) M hρ2 hbk hvs hq he hqd okr hfL hI
    have gs:=g1.take hd.ids.length
    have gr:=g1.drop hd.ids.length
    rw [show hd.ids.length = (hd.ids.map σ.s).length by simp,List.take_left] at gs
    rw [show hd.ids.length = (hd.ids.map σ.s).length by simp,List.drop_left] at gr
    simp only [List.length_map] at gs gr
    have gb:=gr.drop dt.length
    rw [List.drop_left,hdtl] at gb
    have gt : VRs G (ρ0 ++ ds) ι2 h2 ((hd.cT k).take dt.length) dt:=by
      have:=gr.take dt.length
      rw [List.take_left] at this; exact this
    have zipT_take : ∀ {ts : List (Nat × Nat)} {s : List SV} {N : Nat},lenT ts≤N→∀ i,find (zipT ts (s.take N)) i = find (zipT ts s) i:=by
      intro ts
      induction ts with
      | nil=>intro s N _ i; rfl
      | cons p r ih=>
        intro s N hN i
        obtain ⟨j,l⟩:=p
        simp only [lenT] at hN
        simp only [zipT,find,List.take_take,show min l N = l by omega,List.drop_take]
        cases j == i with
        | true=>rfl
        | false=>exact ih (by omega) i
    have look : ∀ n o,find h2 n = some o→(n ∈ hd.ns∧∃ o0,find Y.h n = some o0∧SO.like G ρ (ρ0 ++ ds) o0 o∧Ob Ω G (ρ0 ++ ds) ι γ ι2 h2 Y.h σ σ.m n o) ∨
        (∃ e sz i,¬ n ∈ hd.ns∧o = .lst e sz (.t i)∧(((n,none) ∈ rn∧(ρ0 ++ ds)[i]? = some (.list [])) ∨ ∃ n0 c d,(n,some n0) ∈ rn∧find Y.h n0 = some (.lst e sz c)∧(ρ0 ++ ds)[i]? = some d∧X.ev G ρ c = some d)):=fun n o hf=>by
      by_cases hn : n ∈ hd.ns
      · left
        obtain ⟨o',ho'⟩:=find_of_key ((hnin n).1 hn)
        rw [hfO ho'] at hf; cases hf
        obtain ⟨⟨o0,e1,e2⟩,e3⟩:=hkept ho'
        exact ⟨hn,o0,e1,e2,e3 gb⟩
      · right
        simp only [h2,find_append,find_key (fun h=>hn ((hnin n).2 h)),Option.none_or] at hf
        obtain ⟨nm,e,sz,i,k1,k2⟩:=g2 _ (find_mem hf)
        cases k1
        exact ⟨e,sz,i,hn,rfl,k2⟩
    have nda:=noDup_nodup hnd
    have ndo : (rn.filterMap (·.2)).Nodup:=(List.nodup_append.1 nda).1
    have apart : ∀ n n0,(n,some n0) ∈ rn→¬ n0 ∈ hd.ns:=fun n n0 h1 h3=>by
      have:=(List.nodup_append.1 nda).2.2 n0 (List.mem_filterMap.2 ⟨(n,some n0),h1,rfl⟩) n0 h3
      exact this rfl
    have old : ∀ n n' n0,(n,some n0) ∈ rn→(n',some n0) ∈ rn→n = n':=fun n n' n0 h1 h3=>by
      have key : ∀ {l : Ren},(l.filterMap (·.2)).Nodup→(n,some n0) ∈ l→(n',some n0) ∈ l→n = n':=by
        intro l
        induction l with
        | nil=>intro _ h; simp at h
        | cons p l ih=>
          intro hnd a1 a2
          obtain ⟨m,o⟩:=p
          cases o with
          | none=>
            simp only [List.filterMap_cons] at hnd
            simp only [List.mem_cons,Prod.mk.injEq,reduceCtorEq,and_false,false_or] at a1 a2
            exact ih hnd a1 a2
          | some m0=>
            simp only [List.filterMap_cons,List.nodup_cons] at hnd
            simp only [List.mem_cons,Prod.mk.injEq,Option.some.injEq] at a1 a2
            rcases a1 with ⟨rfl,rfl⟩ | a1 <;> rcases a2 with ⟨rfl,h⟩ | a2
            · rfl
            · exact absurd (List.mem_filterMap.2 (⟨(n',some _),a2,rfl⟩ : ∃ a,a ∈ l∧a.2 = some _)) hnd.1
            · subst h; exact absurd (List.mem_filterMap.2 (⟨(n,some _),a1,rfl⟩ : ∃ a,a ∈ l∧a.2 = some _)) hnd.1
            · exact ih hnd.2 a1 a2
      exact key ndo h1 h3
    have hmk : (hd.mk' k ds.length dd nn).h = h2:=by simp only [Hd.mk',hobjs,Option.getD_some,h2]
    -- where an object was
    have src : ∀ n o,find h2 n = some o→ι2 n ≠ []→∃ m q,find Y.h m = some q∧ι2 n = ι m∧γ2 n = γ m∧((n ∈ hd.ns∧m = n) ∨ (¬ n ∈ hd.ns∧(n,some m) ∈ rn))∧∀ e sz c,o = .lst e sz c→∃ c0,q = .lst e sz c0:=fun n o hf hi=>by
      rcases look n o hf with ⟨hn,o0,e1,e2,_⟩ | ⟨e,sz,i,hn,rfl,k2⟩
      · refine ⟨n,o0,e1,hk2 n hn,hg2 n hn,.inl ⟨hn,rfl⟩,fun e sz c ho=>?_⟩
        subst ho
        cases o0 <;> simp only [SO.like] at e2
        obtain ⟨rfl,rfl,_⟩:=e2
        exact ⟨_,rfl⟩
      · rcases k2 with ⟨a1,_⟩ | ⟨n0,c0,d,a1,a2,_⟩
        · exact absurd (hI _ a1) hi
        · exact ⟨n0,_,a2,hI _ a1,hGm _ a1,.inr ⟨hn,a1⟩,fun e' sz' c' ho=>by cases ho; exact ⟨c0,rfl⟩⟩
    have uniq : ∀ {n n' m : Nat},((n ∈ hd.ns∧m = n) ∨ (¬ n ∈ hd.ns∧(n,some m) ∈ rn))→((n' ∈ hd.ns∧m = n') ∨ (¬ n' ∈ hd.ns∧(n',some m) ∈ rn))→n = n':=fun {n n' m} h1 h3=>by
      rcases h1 with ⟨a1,rfl⟩ | ⟨a1,a2⟩ <;> rcases h3 with ⟨b1,b2⟩ | ⟨b1,b2⟩
      · exact b2
      · exact absurd a1 (apart _ _ b2)
      · subst b2; exact absurd b1 (apart _ _ a2)
      · exact old _ _ _ a2 b2
    refine ⟨ι2,γ2,⟨fun i v hv=>?_,fun n vs hn=>?_,fun n e sz c hn=>?_,fun n c hn=>?_,fun n e sz c hn=>?_,fun n n' _ _ _ _ _ _ h1 h3=>?_,fun n kk hn=>?_,fun n n' o o' h1 h3 e1 e2=>?_,fun n n' e e' sz sz' c c' h1 h3 e1 e2 eg=>?_,M.wf,fun n e sz c hn hi y kk r hg=>?_,by simp [Hd.mk',hk],M.con⟩⟩
    · rw [hmk]
      simp only [Hd.mk',find_append,Option.or_eq_some_iff] at hv
      rcases hv with hv | ⟨_,hv⟩
      · exact zipS_sound gs hv
      · rw [← zipT_take (Nat.le_of_eq hdtl.symm)] at hv
        exact htup gt hv
    · rw [hmk] at hn ⊢
      rcases look n _ hn with ⟨hn',o0,_,_,e3⟩ | ⟨e,sz,i,_,k1,_⟩
      · obtain ⟨xs',k1,k2,k3⟩:=e3
        exact ⟨xs',by rw [hk2 n hn']; exact k1,by rw [hk2 n hn']; exact k2,k3⟩
      · cases k1
    · rw [hmk] at hn
      rcases look n _ hn with ⟨hn',o0,_,_,e3⟩ | ⟨e',sz',i,hnk,k1,k2⟩
      · obtain ⟨es,k1,k2,k3⟩:=e3
        exact ⟨es,k1,k2,by rw [hk2 n hn',hg2 n hn']; exact k3⟩
      · cases k1
        rcases k2 with ⟨a1,a2⟩ | ⟨n0,c0,d,a1,a2,a3,a4⟩
        · exact ⟨[],by simpa [X.ev] using a2,rfl,.inl ⟨by rw [hI _ a1]; rfl,rfl⟩⟩
        · obtain ⟨es,b1,b2,b3⟩:=M.lst n0 _ _ _ a2
          rw [a4] at b1; cases b1
          have e1 : ι2 n = ι n0:=hI _ a1
          have e2 : γ2 n = γ n0:=hGm _ a1
          refine ⟨es,by simpa [X.ev] using a3,b2,?_⟩
          rw [e1,e2]; exact b3
    · rw [hmk] at hn
      rcases look n _ hn with ⟨hn',o0,_,_,e3⟩ | ⟨e,sz,i,_,k1,_⟩
      · obtain ⟨es,k1,k2,k3⟩:=e3
        exact ⟨es,k1,by rw [hk2 n hn']; exact k2,by rw [hk2 n hn']; exact k3⟩
      · cases k1
    · rw [hmk] at hn
      rcases look n _ hn with ⟨hn',o0,_,_,e3⟩ | ⟨e,sz,i,_,k1,_⟩
      · obtain ⟨L,k1,k2,k3,k4⟩:=e3
        refine ⟨L,k1,by rw [hk2 n hn']; exact k2,by rw [hk2 n hn']; exact k3,fun q hq=>(k4.1 q hq).keep rfl (fun k o hk=>?_) (fun k e sz c hk hi=>?_) fun _=>Nat.le_refl _,k4.2⟩
        · rw [hmk] at hk
          by_cases hi : ι2 k = []
          · rw [hi]; exact Ne.symm (k4.1 q hq).1
          · obtain ⟨m,q1,a1,a2,_⟩:=src k o hk hi
            rw [a2]; exact (k4.1 q hq).2.2.2.1 m q1 a1
        · rw [hmk] at hk
          obtain ⟨m,q1,a1,a2,a3,a4,a5⟩:=src k _ hk hi
          obtain ⟨c0,rfl⟩:=a5 _ _ _ rfl
          rw [a3]; exact (k4.1 q hq).2.2.2.2.1 m _ _ _ a1 (by rw [← a2]; exact hi)
      · cases k1
    · rw [hmk] at h1 h3
      have mp : ∀ {n e sz c},find h2 n = some (.mpl e sz c)→n ∈ hd.ns∧∃ e' sz' c',find Y.h n = some (.mpl e' sz' c'):=fun {n e sz c} h=>by
        rcases look n _ h with ⟨hn',o0,g1,g2,_⟩ | ⟨_,_,_,_,k1,_⟩
        · cases o0 <;> simp only [SO.like] at g2
          exact ⟨hn',_,_,_,g1⟩
        · cases k1
      obtain ⟨_,_,_,_,g1⟩:=mp h1
      obtain ⟨_,_,_,_,g3⟩:=mp h3
      exact M.one n n' _ _ _ _ _ _ g1 g3
    · rw [hmk] at hn
      rcases look n _ hn with ⟨hn',o0,_,_,e3⟩ | ⟨e,sz,i,_,k1,_⟩
      · obtain ⟨k1,k2,k3⟩:=e3
        exact ⟨by rw [hk2 n hn']; exact k1,by rw [hk2 n hn']; exact k2,by rw [hk2 n hn']; exact k3⟩
      · cases k1
    · rw [hmk] at h1 h3
      obtain ⟨m,q1,a1,a2,_,a4,_⟩:=src n o h1 e2
      obtain ⟨m',q2,b1,b2,_,b4,_⟩:=src n' o' h3 (e1 ▸ e2)
      have : m = m':=M.inj m m' _ _ a1 b1 (by rw [← a2,← b2]; exact e1) (by rw [← a2]; exact e2)
      subst this
      exact uniq a4 b4
    · rw [hmk] at h1 h3
      obtain ⟨m,q1,a1,a2,a3,a4,a5⟩:=src n _ h1 e1
      obtain ⟨m',q2,b1,b2,b3,b4,b5⟩:=src n' _ h3 e2
      obtain ⟨c0,rfl⟩:=a5 _ _ _ rfl
      obtain ⟨c1,rfl⟩:=b5 _ _ _ rfl
      have : m = m':=M.grp m m' _ _ _ _ _ _ a1 b1 (by rw [← a2]; exact e1) (by rw [← b2]; exact e2) (by rw [← a3,← b3]; exact eg)
      subst this
      exact uniq a4 b4
    · rw [hmk] at hn
      obtain ⟨m,q1,a1,a2,a3,a4,a5⟩:=src n _ hn hi
      obtain ⟨c0,rfl⟩:=a5 _ _ _ rfl
      rw [a3] at hg
      exact M.old m _ _ _ a1 (by rw [← a2]; exact hi) y kk r hg
  · cases hm
end
end Go.Proofs.YtkcfpgaepmllhaaGreatDoor
namespace Go.Proofs.YtkcfpgaepmllhaaGreatDoor
open Go.RowKit
def swN (a b n : Nat) : Nat:=bif n == a then b else bif n == b then a else n
theorem swN_swN (a b n : Nat) : swN a b (swN a b n) = n:=by
  unfold swN
  by_cases h1 : n = a
  · subst h1
    by_cases h2 : b = n
    · subst h2; simp
    · have : (b == n) = false:=by simpa using h2
      simp [this]
  · have e1 : (n == a) = false:=by simpa using h1
    by_cases h2 : n = b
    · subst h2; simp [e1]
    · have e2 : (n == b) = false:=by simpa using h2
      simp [e1,e2]
mutual
def swV (a b : Nat) : SV→SV
  | .un=>.un
  | .x e=>.x e
  | .agg vs=>.agg (swVs a b vs)
  | .tup vs=>.tup (swVs a b vs)
  | .clo f vs=>.clo f (swVs a b vs)
  | .ptr n o=>.ptr (swN a b n) o
  | .dp n o c s i j=>.dp (swN a b n) o c s i j
  | .gl n s=>.gl (swN a b n) s
  | .gs n s k=>.gs (swN a b n) s k
  | .gt n s k=>.gt (swN a b n) s k
  | .ep n s i j=>.ep (swN a b n) s i j
  | .sb n o l=>.sb (swN a b n) o l
  | .rb n o=>.rb (swN a b n) o
  | .mp n=>.mp (swN a b n)
  | .yl n=>.yl (swN a b n)
  | .gd g v=>.gd g (swV a b v)
def swVs (a b : Nat) : List SV→List SV
  | []=>[]
  | v :: r=>swV a b v :: swVs a b r
end
theorem swVs_map (a b : Nat) : ∀ (vs : List SV),swVs a b vs = vs.map (swV a b)
  | []=>by simp [swVs]
  | v :: r=>by simp [swVs,swVs_map a b r]
def swO (a b : Nat) : SO→SO
  | .box vs=>.box (vs.map (swV a b))
  | o=>o
def swH (a b : Nat) : List (Nat × SO)→List (Nat × SO)
  | []=>[]
  | (i,o) :: r=>(swN a b i,swO a b o) :: swH a b r
theorem find_swH (a b n : Nat) : ∀ (h : List (Nat × SO)),find (swH a b h) n = (find h (swN a b n)).map (swO a b)
  | []=>rfl
  | (i,o) :: r=>by
    simp only [swH,find,find_swH a b n r]
    have : (swN a b i == n) = (i == swN a b n):=by
      by_cases h : swN a b i = n
      · subst h; rw [swN_swN]; simp
      · have h2 : i ≠ swN a b n:=fun e=>h (by rw [e,swN_swN])
        have e1 : (swN a b i == n) = false:=by simpa using h
        have e2 : (i == swN a b n) = false:=by simpa using h2
        rw [e1,e2]
    rw [this]
    cases i == swN a b n <;> rfl
def Sy.swap (Y : Sy) (a b : Nat) : Sy:={ Y with s:=mapA (swV a b) Y.s,h:=swH a b Y.h }
section
variable {Ω : Raws} {G : FP} {ρ : List D} {ι γ : Nat→Tok} {Y : Sy} {σ : St}
theorem VR.swap {h : List (Nat × SO)} {v : SV} {d : D} (H : VR G ρ ι h v d) (a b : Nat) : VR G ρ (fun n=>ι (swN a b n)) (swH a b h) (swV a b v) d:=by
  have fb : ∀ {n : Nat} {vs : List SV},find h n = some (.box vs)→find (swH a b h) (swN a b n) = some (.box (vs.map (swV a b))):=fun hf=>by rw [find_swH,swN_swN,hf]; rfl
  have fo : ∀ {n : Nat} {o : SO},(∀ vs,o ≠ .box vs)→find h n = some o→find (swH a b h) (swN a b n) = some o:=fun {n o} ho hf=>by
    rw [find_swH,swN_swN,hf]
    cases o <;> first | rfl | exact absurd rfl (ho _)
  have hi : ∀ n,ι (swN a b (swN a b n)) = ι n:=fun n=>by rw [swN_swN]
  induction H with
  | un=>exact .un
  | x h1 h2=>exact .x h1 h2
  | agg hl hh ih=>
    simp only [swV,swVs_map]
    exact .agg (by simpa using hl) fun i v d hv hd=>by
      rw [List.getElem?_map,Option.map_eq_some_iff] at hv
      obtain ⟨u,hu,rfl⟩:=hv
      exact ih i u d hu hd
  | tup hl hh ih=>
    simp only [swV,swVs_map]
    exact .tup (by simpa using hl) fun i v d hv hd=>by
      rw [List.getElem?_map,Option.map_eq_some_iff] at hv
      obtain ⟨u,hu,rfl⟩:=hv
      exact ih i u d hu hd
  | clo hl hh ih=>
    simp only [swV,swVs_map]
    exact .clo (by simpa using hl) fun i v d hv hd=>by
      rw [List.getElem?_map,Option.map_eq_some_iff] at hv
      obtain ⟨u,hu,rfl⟩:=hv
      exact ih i u d hu hd
  | @ptr n o vs hf=>
    have:=VR.ptr (G:=G) (ρ:=ρ) (ι:=fun n=>ι (swN a b n)) (o:=o) (fb hf)
    simp only [hi] at this; exact this
  | @dp n o cnt s j i vs k z hf hv h0 hz hl=>
    have:=VR.dp (G:=G) (ρ:=ρ) (ι:=fun n=>ι (swN a b n)) (o:=o) (j:=j) (fb hf) hv h0 hz (by simpa using hl)
    simp only [hi] at this; exact this
  | @gln n sz e c hf h1=>exact .gln (fo (by simp) hf) (by rw [hi]; exact h1)
  | @gl n sz e c es hf hc h1=>
    have:=VR.gl (G:=G) (ρ:=ρ) (ι:=fun n=>ι (swN a b n)) (fo (by simp) hf) hc (by rw [hi]; exact h1)
    simp only [hi] at this; exact this
  | @gsn n sz e c k q hf h1 hk=>exact .gsn (fo (by simp) hf) (by rw [hi]; exact h1) hk
  | @gs n sz e c k es q z hf hc h1 hk h0 hz=>
    have:=VR.gs (G:=G) (ρ:=ρ) (ι:=fun n=>ι (swN a b n)) (fo (by simp) hf) hc (by rw [hi]; exact h1) hk h0 hz
    simp only [hi] at this; exact this
  | @gtn n sz e c k q hf h1 hk=>exact .gtn (fo (by simp) hf) (by rw [hi]; exact h1) hk
  | @gt n sz e c k es q z hf hc h1 hk h0 hz=>
    have:=VR.gt (G:=G) (ρ:=ρ) (ι:=fun n=>ι (swN a b n)) (fo (by simp) hf) hc (by rw [hi]; exact h1) hk h0 hz
    simp only [hi] at this; exact this
  | @ep n sz e j c i k z es hf hc h1 hv h0 hz=>
    have:=VR.ep (G:=G) (ρ:=ρ) (ι:=fun n=>ι (swN a b n)) (j:=j) (fo (by simp) hf) hc (by rw [hi]; exact h1) hv h0 hz
    simp only [hi] at this; exact this
  | @sb n o len lim vs hf hl=>
    have:=VR.sb (G:=G) (ρ:=ρ) (ι:=fun n=>ι (swN a b n)) (lim:=lim) (fb hf) (by simpa using hl)
    simp only [hi] at this; exact this
  | @rb n o vs hf hl=>
    have:=VR.rb (G:=G) (ρ:=ρ) (ι:=fun n=>ι (swN a b n)) (fb hf) (by simpa using hl)
    simp only [hi] at this; exact this
  | @mp n o hf hmp=>
    have:=VR.mp (G:=G) (ρ:=ρ) (ι:=fun n=>ι (swN a b n)) (fo (fun vs e=>by subst e; cases hmp) hf) hmp
    simp only [hi] at this; exact this
  | @yl n k hf=>
    have:=VR.yl (G:=G) (ρ:=ρ) (ι:=fun n=>ι (swN a b n)) (fo (by simp) hf)
    simp only [hi] at this; exact this
  | gd hg h1 h2 ih=>exact .gd hg ih h2
def noRaw (Y : Sy) (n : Nat) : Bool:=match find Y.h n with
  | some (.raw _)=>false
  | _=>true
theorem Mt.swap (M : Mt Ω G ρ ι γ Y σ) {a b : Nat} (ha : noRaw Y a = true) (hb : noRaw Y b = true) : Mt Ω G ρ (fun n=>ι (swN a b n)) (fun n=>γ (swN a b n)) (Y.swap a b) σ:=by
  have back : ∀ {n : Nat} {o : SO},find (Y.swap a b).h n = some o→∃ o0,find Y.h (swN a b n) = some o0∧o = swO a b o0:=fun {n o} h=>by
    simp only [Sy.swap,find_swH] at h
    obtain ⟨o0,h1,h2⟩:=Option.map_eq_some_iff.1 h
    exact ⟨o0,h1,h2.symm⟩
  have bl : ∀ {n e sz : Nat} {c : X},find (Y.swap a b).h n = some (.lst e sz c)→find Y.h (swN a b n) = some (.lst e sz c):=fun {n e sz c} h=>by
    obtain ⟨o0,h1,h2⟩:=back h
    cases o0 <;> simp only [swO,reduceCtorEq] at h2
    rw [h1,h2]
  have bp : ∀ {n e sz : Nat} {c : X},find (Y.swap a b).h n = some (.mpl e sz c)→find Y.h (swN a b n) = some (.mpl e sz c):=fun {n e sz c} h=>by
    obtain ⟨o0,h1,h2⟩:=back h
    cases o0 <;> simp only [swO,reduceCtorEq] at h2
    rw [h1,h2]
  have inj : ∀ {n n' : Nat},swN a b n = swN a b n'→n = n':=fun {n n'} h=>by have:=congrArg (swN a b) h; rwa [swN_swN,swN_swN] at this
  refine ⟨fun i v hv=>?_,fun n vs hn=>?_,fun n e sz c hn=>M.lst _ e sz c (bl hn),fun n c hn=>?_,fun n e sz c hn=>?_,fun n n' _ _ _ _ _ _ h1 h2=>inj (M.one _ _ _ _ _ _ _ _ (bp h1) (bp h2)),fun n k hn=>?_,fun n n' o o' h1 h2 he hi=>?_,fun n n' e e' sz sz' c c' h1 h2 g1 g2 hg=>inj (M.grp _ _ e e' sz sz' c c' (bl h1) (bl h2) g1 g2 hg),M.wf,fun n e sz c hn hi=>M.old _ e sz c (bl hn) hi,M.nv,M.con⟩
  · simp only [Sy.swap,find_map] at hv
    obtain ⟨u,hu,rfl⟩:=Option.map_eq_some_iff.1 hv
    exact (M.slot i u hu).swap a b
  · obtain ⟨o0,h1,h2⟩:=back hn
    cases o0 <;> simp only [swO,reduceCtorEq,SO.box.injEq] at h2
    subst h2
    obtain ⟨ds,k1,k2,k3⟩:=M.box _ _ h1
    refine ⟨ds,k1,k2,by simpa using k3.1,fun i v d hv hd=>?_⟩
    rw [List.getElem?_map,Option.map_eq_some_iff] at hv
    obtain ⟨u,hu,rfl⟩:=hv
    exact (k3.2 i u d hu hd).swap a b
  · obtain ⟨o0,h1,h2⟩:=back hn
    cases o0 <;> simp only [swO,reduceCtorEq,SO.map.injEq] at h2
    subst h2
    exact M.mpo _ c h1
  · obtain ⟨L,k1,k2,k3,k4⟩:=M.own _ _ _ _ (bp hn)
    refine ⟨L,k1,k2,k3,fun q hq=>(k4.1 q hq).keep rfl (fun k o hk=>?_) (fun k e sz c hk=>?_) fun _=>Nat.le_refl _,k4.2⟩
    · obtain ⟨o0,g1,_⟩:=back hk
      exact (k4.1 q hq).2.2.2.1 _ o0 g1
    · exact (k4.1 q hq).2.2.2.2.1 _ e sz c (bl hk)
  · obtain ⟨o0,h1,h2⟩:=back hn
    cases o0 <;> simp only [swO,reduceCtorEq,SO.raw.injEq] at h2
    subst h2
    have hsame : swN a b n = n:=by
      unfold swN
      by_cases e1 : n = a
      · subst e1
        have : swN n b n = b:=by simp [swN]
        rw [this] at h1
        simp [noRaw,h1] at hb
      · by_cases e2 : n = b
        · subst e2
          have h0 : (n == a) = false:=by simpa using e1
          have : swN a n n = a:=by simp [swN,h0]
          rw [this] at h1
          simp [noRaw,h1] at ha
        · have h0 : (n == a) = false:=by simpa using e1
          have h3 : (n == b) = false:=by simpa using e2
          simp [h0,h3]
    rw [hsame] at h1
    simp only [hsame]
    exact M.rwo n k h1
  · obtain ⟨o1,g1,_⟩:=back h1
    obtain ⟨o2,g2,_⟩:=back h2
    exact inj (M.inj _ _ o1 o2 g1 g2 he hi)
end
def frzO : SO→SO
  | .mpl _ _ c=>.map c
  | o=>o
def Sy.freeze (Y : Sy) : Sy:={ Y with h:=mapA frzO Y.h }
def Sy.frz (Y : Sy) (k : Nat) : Sy:=if k = 1000000 then Y.freeze else Y
mutual
def frzV (h : List (Nat × SO)) : SV→SV
  | .gl n _=>match find h n with
    | some (.lst _ _ c)=>.x c
    | _=>.un
  | .gs n _ k=>match find h n with
    | some (.lst _ _ c)=>.x (.mk .take [c,k])
    | _=>.un
  | .gt n _ k=>match find h n with
    | some (.lst _ _ c)=>.x (.mk .drp [c,k])
    | _=>.un
  | .ep ..=>.un
  | .agg vs=>.agg (frzVs h vs)
  | .tup vs=>.tup (frzVs h vs)
  | .clo f vs=>.clo f (frzVs h vs)
  | .gd g v=>.gd g (frzV h v)
  | .un=>.un
  | .x e=>.x e
  | .ptr n o=>.ptr n o
  | .dp n o cnt s i j=>.dp n o cnt s i j
  | .sb n o l=>.sb n o l
  | .rb n o=>.rb n o
  | .mp n=>.mp n
  | .yl n=>.yl n
def frzVs (h : List (Nat × SO)) : List SV→List SV
  | []=>[]
  | v :: r=>frzV h v :: frzVs h r
end
def frzB (h : List (Nat × SO)) : SO→SO
  | .box vs=>.box (frzVs h vs)
  | o=>o
def noLst : List (Nat × SO)→List (Nat × SO)
  | []=>[]
  | (i,.lst ..) :: r=>drop1 i (noLst r)
  | (i,o) :: r=>(i,o) :: noLst r
def Sy.frzL (Y : Sy) : Sy:={ Y with s:=mapA (frzV Y.h) Y.s,h:=mapA (frzB Y.h) (noLst Y.h) }
def Sy.frzR (Y : Sy) (k : Nat) : Sy:=if k = 1 then Y.frzL else Y
def ptrsOf : List (Nat × SV)→List (Nat × Nat)
  | []=>[]
  | (i,.ptr n 0) :: r=>(i,n) :: ptrsOf r
  | _ :: r=>ptrsOf r
def Sy.align (Y : Sy) : List (Nat × Nat)→Sy
  | []=>Y
  | (i,a) :: r=>match find Y.s i with
    | some (.ptr n 0)=>if n ≠ a∧noRaw Y n = true∧noRaw Y a = true then (Y.swap n a).align r else Y.align r
    | _=>Y.align r
theorem Mt.align {Ω : Raws} {G : FP} {ρ : List D} : ∀ (l : List (Nat × Nat)) {ι γ : Nat→Tok} {Y : Sy} {σ : St},Mt Ω G ρ ι γ Y σ→∃ ι' γ',Mt Ω G ρ ι' γ' (Y.align l) σ
  | [],ι,γ,Y,σ,M=>⟨ι,γ,M⟩
  | (i,a) :: r,ι,γ,Y,σ,M=>by
    simp only [Sy.align]
    split
    · split
      · rename_i n _ hc
        exact Mt.align r (M.swap hc.2.1 hc.2.2)
      · exact Mt.align r M
    · exact Mt.align r M
theorem align_d : ∀ (l : List (Nat × Nat)) {Y : Sy},(Y.align l).d = Y.d
  | [],_=>rfl
  | (i,a) :: r,Y=>by
    simp only [Sy.align]
    split
    · split
      · exact (align_d r).trans rfl
      · exact align_d r
    · exact align_d r
end Go.Proofs.YtkcfpgaepmllhaaGreatDoor
namespace Go.Proofs.YtkcfpgaepmllhaaGreatDoor
open Go.RowKit
inductive FT where
  | ret (x : X)
  | chk (xs : List X) (k : FT)
  | lets (xs : List X) (k : FT)
  | ite (c : X) (a b : FT)
  | loop (init : List X) (body : FT)
  | next (j : Nat) (xs : List X)
  | jp (k body : FT)
  | st (Y : Sy)
  | bad (why : Nat) (Y : Option Sy:=none)
def newX : X→D→Bool
  | _,.list []=>true
  | .mk .own _,.list es=>es.all fun c=>c.all D.flatC
  | _,.agg xs=>xs.all D.flatC
  | _,d=>d.flatC
def newXs : List X→List D→Bool
  | x :: xs,d :: ds=>newX x d && newXs xs ds
  | [],[]=>true
  | _,_=>false
def newT : X→D→Bool
  | .mk .tup xs,.tup ds=>newXs xs ds
  | x,d=>newX x d
def tagN (x : X) (d : D) : D:=if d.flat then d else if newT x d then d.own else d
def evalFT (G : FP) (N : Nat) : FT→List (List D→Option D)→List D→Option D
  | .ret x,_,ρ=>(X.ev G ρ x).bind fun d=>if d.noT then some (tagN x d) else none
  | .chk xs k,L,ρ=>(X.evs G ρ xs).bind fun _=>evalFT G N k L ρ
  | .lets xs k,L,ρ=>(X.evs G ρ xs).bind fun ds=>evalFT G N k L (ρ ++ ds)
  | .ite c a b,L,ρ=>(X.ev G ρ c).bind fun v=>v.asBool.bind fun x=>bif x then evalFT G N a L ρ else evalFT G N b L ρ
  | .loop xs body,L,ρ=>(X.evs G ρ xs).bind fun ds=>iter (fun rec vs=>evalFT G N body (rec :: L) (ρ ++ vs)) N ds
  | .next j xs,L,ρ=>(X.evs G ρ xs).bind fun ds=>(L[j]?).bind fun f=>f ds
  | .jp k body,L,ρ=>evalFT G N body ((fun vs=>evalFT G N k L (ρ ++ vs)) :: L) ρ
  | .st _,_,_=>none
  | .bad _ _,_,_=>none
def mkChk (xs : List X) (k : FT) : FT:=match xs with
  | []=>k
  | xs=>.chk xs k
def mkLets (xs : List X) (k : FT) : FT:=match xs with
  | []=>k
  | xs=>.lets xs k
theorem eval_chk {G : FP} {N : Nat} {xs : List X} {k : FT} {L : List (List D→Option D)} {ρ : List D} : evalFT G N (mkChk xs k) L ρ = (X.evs G ρ xs).bind fun _=>evalFT G N k L ρ:=by cases xs <;> rfl
theorem eval_lets {G : FP} {N : Nat} {xs : List X} {k : FT} {L : List (List D→Option D)} {ρ : List D} : evalFT G N (mkLets xs k) L ρ = (X.evs G ρ xs).bind fun ds=>evalFT G N k L (ρ ++ ds):=by
  cases xs
  · simp [mkLets,X.evs]
  · rfl
def FT.leaves : FT→List Sy
  | .chk _ k | .lets _ k | .loop _ k=>k.leaves
  | .ite _ a b=>a.leaves ++ b.leaves
  | .jp k b=>b.leaves ++ k.leaves
  | .st Y=>[Y]
  | _=>[]
def asg : Code→List Nat
  | .region _ ops _=>ops.toList.filterMap (·.dst)
  | .seq a b | .cond _ a b=>asg a ++ asg b
  | .block _ c | .loop c=>asg c
  | _=>[]
structure Hs where
  s : List (Nat × Pat)
  t : List (Nat × List Pat)
  o : List (Nat × Sk × List Pat)
def rowOf (B : Nat) : Nat→List Pat→Row
  | _,[]=>[]
  | i,p :: r=>(B + i,p) :: rowOf B (i + 1) r
def Hs.hd (B : Nat) (h : Hs) : Hd:=
  { ids:=h.s.map (·.1),ts:=h.t.map fun p=>(p.1,p.2.length),os:=h.o.map fun p=>(p.1,p.2.1),row:=rowOf B 0 (h.s.map (·.2) ++ (h.t.flatMap (·.2) ++ h.o.flatMap (·.2.2))) }
def patCnt : Row→Nat
  | []=>0
  | (_,.var) :: r | (_,.lst ..) :: r=>patCnt r + 1
  | _ :: r=>patCnt r
def lstP (h : List (Nat × SO)) (n : Nat) : Pat:=match find h n with
  | some (.lst e sz _)=>.lst e sz
  | _=>.drop
def pat0 (k : Nat) (ns : List Nat) (h : List (Nat × SO)) (chg : Bool) (v : SV) : Pat:=
  match v with
  | .gl n _=>if chg then lstP h n else if ns.contains n then .same v else lstP h n
  | .x (.q d)=>if chg && !(match d with | .nil=>true | _=>false) then .var else .same (.x (.q d))
  | v=>if chg && v.asX.isSome then .var else if okSame k ns v then .same v else if v.asX.isSome then .var else .drop
def fixP (k : Nat) (ns : List Nat) (h : List (Nat × SO)) : Pat→Pat
  | .same v=>if okSame k ns v then .same v else match v with
    | .gl n _=>lstP h n
    | v=>if v.asX.isSome then .var else .drop
  | p=>p
def commonO (Y : Sy) (ls : List Sy) : List (Nat × SO):=Y.h.filter fun p=>ls.all fun (Z : Sy)=>match find Z.h p.1 with
  | some o=>decide (o.sk = p.2.sk)
  | none=>false
def dedup (l : List (Nat × SO)) : List (Nat × SO):=l.foldl (fun acc p=>if acc.any (·.1 == p.1) then acc else acc ++ [p]) []
def hsOf (k : Nat) (as : List Nat) (Y : Sy) (os : List (Nat × SO)) : Hs:=
  let ns:=os.map (·.1)
  { s:=(Y.s.filter fun p=>match p.2 with | .tup _=>false | _=>true).map fun p=>(p.1,pat0 k ns Y.h (as.contains p.1) p.2),
    t:=Y.s.filterMap fun p=>match p.2 with | .tup vs=>some (p.1,vs.map (pat0 k ns Y.h (as.contains p.1))) | _=>none,
    o:=os.map fun p=>(p.1,p.2.sk,p.2.cells.map (pat0 k ns Y.h false)) }
def refP (p : Pat) (ls : List (List (Nat × SO) × SV)) : Pat:=
  match p with
  | .drop=>.drop
  | .same v=>if ls.all (fun l=>beqSV v l.2) then .same v else
    match ls.findSome? (fun l=>match l.2 with | .gl n _=>(match find l.1 n with | some (.lst e sz _)=>some (e,sz) | _=>none) | _=>none) with
    | some (e,sz)=>if (match v with | .x (.q .nil)=>true | .gl ..=>true | _=>false) && ls.all (fun l=>match l.2 with | .gl ..=>true | .x (.q .nil)=>true | _=>false) then .lst e sz else .drop
    | none=>if v.asX.isSome && ls.all (fun l=>l.2.asX.isSome) then .var else .drop
  | .var=>if ls.all (fun l=>l.2.asX.isSome) then .var else .drop
  | .lst e sz=>if ls.all (fun l=>match l.2 with | .gl ..=>true | .x (.q .nil)=>true | _=>false) then .lst e sz else .drop
def atT (Y : Sy) (i j : Nat) : SV:=match find Y.s i with
  | some (.tup vs)=>vs.getD j .un
  | _=>.un
def atO (Y : Sy) (n j : Nat) : SV:=match find Y.h n with
  | some o=>o.cells.getD j .un
  | none=>.un
def refine (k : Nat) (h0 : List (Nat × SO)) (h : Hs) (ls : List Sy) : Hs:=
  let o:=h.o.filter fun p=>ls.all fun (Y : Sy)=>match find Y.h p.1 with | some o=>decide (o.sk = p.2.1) | none=>false
  let ns:=o.map (·.1)
  let f:=fixP k ns h0
  { s:=h.s.map fun p=>(p.1,f (refP p.2 (ls.map fun (Y : Sy)=>(Y.h,(find Y.s p.1).getD SV.un)))),
    t:=(h.t.filter fun p=>ls.all fun (Y : Sy)=>match find Y.s p.1 with | some (SV.tup vs)=>vs.length == p.2.length | _=>false).map fun p=>
      (p.1,p.2.zipIdx.map fun q=>f (refP q.1 (ls.map fun (Y : Sy)=>(Y.h,atT Y p.1 q.2)))),
    o:=o.map fun p=>(p.1,p.2.1,p.2.2.zipIdx.map fun q=>f (refP q.1 (ls.map fun (Y : Sy)=>(Y.h,atO Y p.1 q.2)))) }
def kT (e : VE) (Y : Sy) : FT:=match e with
  | .normal=>.st Y
  | _=>.bad 100020
def maxNx (B : Nat) (l : List Sy) : Nat:=l.foldl (fun a Y=>if a < Y.nx then Y.nx else a) B
def joinHd (k : Nat) : List Sy→Option (Hd × Nat)
  | Y :: Z :: r=>
    let ls:=Y :: Z :: r
    let B:=maxNx 0 ls
    let hd:=(refine k Y.h (hsOf k [] Y (dedup (commonO Y ls))) ls).hd B
    if hd.ok k && ls.all fun (W : Sy)=>(hd.mt W).isSome && W.h.all (fun p=>match p.2 with | .raw _=>hd.ns.contains p.1 | _=>true) then some (hd,B + hd.row.length) else none
  | _=>none
theorem joinHd_ok {k : Nat} {l : List Sy} {hd : Hd × Nat} (h : joinHd k l = some hd) : hd.1.ok k = true:=by
  unfold joinHd at h
  split at h
  · simp only [] at h
    split at h
    · rename_i hc
      cases h
      rw [Bool.and_eq_true] at hc
      exact hc.1
    · cases h
  · cases h
def optReads : Operand→List Nat
  | .tmp t=>[t]
  | _=>[]
def upward : List Nat→List Oper→List Nat
  | _,[]=>[]
  | dn,o :: r=>(o.op.operands.toList.flatMap optReads).filter (fun i=>!dn.contains i) ++ upward ((match o.dst with | some x=>[x] | none=>[]) ++ dn) r
def crossOf : Code→List Nat
  | .region _ ops _=>upward [] ops.toList
  | .seq a b=>crossOf a ++ crossOf b
  | .cond c a b=>optReads c ++ crossOf a ++ crossOf b
  | .block _ c | .loop c=>crossOf c
  | .rangeFunc g _ a b=>optReads g ++ crossOf a ++ crossOf b
  | _=>[]
def uniq : List Nat→List Nat→List Nat
  | acc,[]=>acc
  | acc,a :: r=>if acc.contains a then uniq acc r else uniq (a :: acc) r
mutual
def SV.nms : SV→List Nat
  | .un | .x _=>[]
  | .agg vs | .tup vs=>SV.nmsL vs
  | .clo _ vs=>SV.nmsL vs
  | .ptr k _ | .dp k _ _ _ _ _ | .gl k _ | .gs k _ _ | .gt k _ _ | .ep k _ _ _ | .sb k _ _ | .rb k _ | .mp k | .yl k=>[k]
  | .gd _ v=>SV.nms v
def SV.nmsL : List SV→List Nat
  | []=>[]
  | .x _ :: r=>SV.nmsL r
  | v :: r=>SV.nms v ++ SV.nmsL r
end
def namesS : List (Nat × SV)→List Nat
  | []=>[]
  | (_,.x _) :: r=>namesS r
  | (_,v) :: r=>v.nms ++ namesS r
def reachN (h : List (Nat × SO)) : Nat→List Nat→List Nat→List Nat
  | 0,_,acc=>acc
  | _ + 1,[],acc=>acc
  | f + 1,a :: r,acc=>bif memN acc a then reachN h f r acc else match find h a with
    | some (.box us)=>reachN h f (SV.nmsL us ++ r) (a :: acc)
    | _=>reachN h f r (a :: acc)
def SO.isRaw : SO→Bool
  | .raw _=>true
  | _=>false
def Sy.gc (Y : Sy) : Sy:=(((Y.h.filter fun p=>!p.2.isRaw).map (·.1)).filter fun n=>!memN (reachN Y.h 4000 (namesS Y.s) []) n).foldl Sy.kill Y
def shiftA {α : Type} (n : Nat) : List (Nat × α)→List (Nat × α)
  | []=>[]
  | (i,a) :: r=>(i + n,a) :: shiftA n r
def unshiftA {α : Type} (n : Nat) : List (Nat × α)→List (Nat × α)
  | []=>[]
  | (i,a) :: r=>bif decide (i < n) then unshiftA n r else (i - n,a) :: unshiftA n r
def argsA : Nat→List SV→List (Nat × SV)
  | _,[]=>[]
  | i,v :: r=>(i,v) :: argsA (i + 1) r
def Sy.enter (Y : Sy) (n' n : Nat) (vs : List SV) : Sy:={ Y with s:=argsA 0 vs ++ shiftA n' Y.s,nx:=Y.nx + n }
def Sy.leave (Y : Sy) (n' : Nat) : Sy:={ Y with s:=unshiftA n' Y.s }
def takeA {α : Type} (n : Nat) : List (Nat × α)→List (Nat × α)
  | []=>[]
  | (i,a) :: r=>bif decide (i < n) then (i,a) :: takeA n r else takeA n r
def putA : List Nat→List SV→List (Nat × SV)→List (Nat × SV)
  | p :: ps,v :: vs,l=>putA ps vs (setA p v l)
  | _,_,l=>l
def Sy.round (Z : Sy) (n off : Nat) (ps : List Nat) (vs : List SV) (n0 : Nat) : Sy:={ Z with s:=putA ps vs (takeA n (unshiftA off Z.s) ++ shiftA n Z.s),nx:=Z.nx + n0 }
def Sy.raw (Y : Sy) (nm : Nat) (k : RS) : Sy:={ Y with h:=setA nm (.raw k) Y.h }
def Sy.newRec (Y : Sy) (nm : Nat) : Sy:={ (Y.kill nm).raw nm .ready with nx:=Y.nx + 1 }
def rsOf : VE→RS
  | .normal=>.ready
  | e=>.done e
def Sy.setO (Y : Sy) (x : Option Nat) (v : SV) : Sy:=match x with
  | some x=>Y.set x v
  | none=>Y
def Sy.bump (Y : Sy) (n : Nat) : Sy:={ Y with nx:=Y.nx + n }
inductive VRes where
  | t (i : Nat)
  | cell (i n : Nat) (agg : Bool)
  deriving Inhabited
def dRes (P : Program) (n : Nat) : ResultVar→Option VRes
  | .tmp t=>if t < n then some (.t t) else none
  | .cell a t=>if a < n then (isAggT P t).bind fun g=>if (P.info? t).isSome∧(g = true ∨ P.cellsOf t = 1) then some (.cell a (P.cellsOf t) g) else none else none
def rawRes (Y : Sy) : VRes→Option SV
  | .t i=>some (valS Y (.t i))
  | .cell i n g=>(symOp Y.h (.load n g) [valS Y (.t i)]).bind fun q=>if q.2.isEmpty then some q.1 else none
def rawRs (rs : List VRes) (Y : Sy) : Option SV:=
  match rs with
  | [r]=>rawRes Y r
  | rs=>(rs.mapM (rawRes Y)).map .tup
def resOf : ResultVar→Nat
  | .tmp t=>t
  | .cell a _=>a
def keepOf (fn : Func) : List Nat:=uniq [] (fn.results.toList.map resOf)
structure Ya where
  S : List Nat
  run : List Nat→Nat→Nat→List SV→Option Nat→Nat→Sy→List Sy
def Ya.push (ya : Ya) (k : Nat) : Ya:=⟨ya.S,fun S nm off=>ya.run S nm (off + k)⟩
def Ya.under (ya : Ya) (S : List Nat) (k : Nat) : Ya:=⟨S,fun S' nm off=>if ya.S.contains nm then ya.run S' nm (off + k) else fun _ _ _ _=>[]⟩
abbrev InA:=Ya→Nat→List SV→Option Nat→Nat→Sy→List Sy
structure Cx where
  P : Program
  cfg : Nat→Cfg
  un : Nat→Nat→Nat
  it : Nat→Option (Nat × Nat)
  ia : InA
  /-- Functions in which ways meet behind loops. -/
  fj : Nat→Bool
  /-- The function that is asked for; heads that were found beforehand. -/
  rt : Nat:=0
  hint : Nat→Nat→Option (Option (Hd × Nat)):=fun _ _=>none
def cid : Code→Nat
  | .region id _ _=>2 * id + 1
  | .block id _=>2 * id + 2
  | .seq a _=>cid a
  | .cond _ a b=>match cid a with
    | 0=>cid b
    | k=>k
  | .loop c=>cid c
  | .rangeFunc _ _ _ b=>cid b
  | _=>0
def hkey (k cf a b : Nat) (Y : Sy) : List Nat:=[k,cf,a,b,Y.nv,Y.nx - 1000000,Y.d,Y.s.length,Y.h.length]
def hnum : Nat→List Nat→Nat
  | acc,[]=>acc
  | acc,a :: r=>hnum (acc * 10000000 + a) r
def Cx.joinS (C : Cx) (key : List Nat) (nv : Nat) (l : Unit→Option (Hd × Nat)) : Option (Hd × Nat):=match C.hint C.rt (hnum 1 key) with
  | some (some h)=>if h.1.ok nv then some h else none
  | some none=>none
  | none=>l ()
def Cx.headS (C : Cx) (key : List Nat) (l : Unit→Hd) : Hd:=match C.hint C.rt (hnum 1 key) with
  | some (some h)=>h.1
  | _=>l ()
theorem joinS_ok {C : Cx} {key : List Nat} {nv : Nat} {l : Unit→Option (Hd × Nat)} {h : Hd × Nat} (hl : ∀ h,l () = some h→h.1.ok nv = true) (hs : C.joinS key nv l = some h) : h.1.ok nv = true:=by
  unfold Cx.joinS at hs
  split at hs
  · split at hs
    · cases hs; assumption
    · cases hs
  · cases hs
  · exact hl h hs
structure Yh where
  S : List Nat
  run : List Nat→Nat→Nat→List SV→Option Nat→Nat→Sy→(Sy→FT)→FT
  a : Ya
def Yh.push (yl : Yh) (k : Nat) : Yh:=⟨yl.S,fun S nm off=>yl.run S nm (off + k),yl.a.push k⟩
def Yh.under (yl : Yh) (S : List Nat) (k : Nat) : Yh:=⟨S,fun S' nm off=>if yl.S.contains nm then yl.run S' nm (off + k) else fun _ _ _ _ _=>.bad 100048,yl.a.under S k⟩
abbrev Inl:=Yh→Nat→List SV→Option Nat→Nat→Sy→(Sy→FT)→FT
inductive Tg where
  | fn (f : Nat)
  | yld (nm : Nat)
def callOf (fr : Cfg) (n : Nat) (o : Oper) (Y : Sy) : Option (Tg × List SV):=
  match o.op with
  | .call c=>if o.dst.all (· < n) then (match c.callee with
    | .value (.func f)=>if fr.fr f = 1 then (c.args.toList.mapM (dArg n)).map fun gs=>(.fn f,gs.map (valS Y)) else none
    | .value (.tmp t)=>if t < n then (match find Y.s t with
      | some (.clo f caps)=>if f < 1000000 then (if fr.fr f = 1 then (c.args.toList.mapM (dArg n)).map fun gs=>(.fn f,gs.map (valS Y) ++ caps) else none) else if fr.fr (f - 1000000) = 1 then (c.args.toList.mapM (dArg n)).map fun gs=>(.fn (f - 1000000),caps ++ gs.map (valS Y)) else none
      | some (.yl nm)=>(c.args.toList.mapM (dArg n)).map fun gs=>(.yld nm,gs.map (valS Y))
      | _=>none) else none
    | _=>none) else none
  | _=>none
def goTo (yl : Yh) (inl : Inl) : Tg→List SV→Option Nat→Nat→Sy→(Sy→FT)→FT
  | .fn f=>inl yl f
  | .yld nm=>if yl.S.contains nm then yl.run yl.S nm 0 else fun _ _ _ _ _=>.bad 100047
def rngOf (it : Option (Nat × Nat)) (n : Nat) (g : Operand) (Y : Sy) : Option ((Nat × List SV) × List X):=
  match g with
  | .func f=>some ((f,[]),[])
  | .tmp t=>if t < n then (match find Y.s t with
    | some (.clo f caps)=>if f < 1000000 then some ((f,caps),[]) else none
    | some (.x e)=>it.bind fun q=>if q.1 < 1000000 then some ((q.1,(List.range q.2).map fun i=>.x (.mk (.capc q.1 i q.2) [e])),[.mk (.isc q.1 q.2) [e]]) else none
    | _=>none) else none
  | _=>none
def mayCall (fr : Cfg) : Op→Bool
  | .call c=>match c.callee with
    | .value (.func f)=>decide (fr.fr f = 1)
    | .value (.tmp _)=>true
    | _=>false
  | _=>false
def callsAt (fr : Cfg) (ops : Array Oper) : Bool:=ops.toList.any fun o=>mayCall fr o.op
def Sy.stripG (Y : Sy) (e : X) : Sy:={ Y with s:=mapA (strip e) Y.s }
def isCmp : BinOp→Bool
  | .eql | .neq | .lss | .leq | .gtr | .geq=>true
  | _=>false
def isBoolX : X→Bool
  | .q (.v (.bool _))=>true
  | .mk (.gv _) _=>true
  | .mk (.pk k) _=>match k with
    | .ibin op=>isCmp op
    | .inot=>true
    | .beq _ | .seq _ | .aeq .. | .snil _=>true
    | _=>false
  | .ite _ a b=>isBoolX a && isBoolX b
  | _=>false
def stripN (w : Bool) (g : X) : SV→SV
  | .x e=>if beqX e g then .x (.q (.v (.bool (!w)))) else .x e
  | v=>v
def Sy.stripN (Y : Sy) : X→Sy
  | .mk (.gv w) [g]=>if isBoolX g then { Y with s:=mapA (Go.Proofs.YtkcfpgaepmllhaaGreatDoor.stripN w g) Y.s } else Y
  | _=>Y
inductive GV where
  | go (b : Bool)
  | ask (e : X)
def guardOf (Y : Sy) : Option (Option (Nat × Bool))→Option GV
  | none=>none
  | some none=>some (.go true)
  | some (some (j,w))=>match find Y.s j with
    | some (.x (.q (.v (.bool b))))=>some (.go (b == w))
    | some (.x g)=>some (.ask (.mk (.gv w) [g]))
    | _=>none
def unroll (body : Sy→(VE→Sy→FT)→FT) : Nat→Sy→(VE→Sy→FT)→FT
  | 0,_,_=>.bad 100031
  | k + 1,Y,κ=>body Y fun e Y'=>match e with
    | .normal=>unroll body k Y' κ
    | e=>κ e Y'
def settle (ks : List Nat) (n : Nat) (Y : Sy) : Sy × List X:=((Y.trim n ks).gc.bump n).atom
def Pat.kind : Pat→Nat
  | .drop=>0
  | .same _=>1
  | .var=>2
  | .lst ..=>3
def Hs.kinds (h : Hs) : List Nat:=h.s.map (·.2.kind) ++ (h.t.flatMap fun p=>p.1 :: p.2.map Pat.kind) ++ h.o.flatMap fun p=>p.1 :: p.2.2.map Pat.kind
def eqNs : List Nat→List Nat→Bool
  | [],[]=>true
  | a :: r,b :: s=>a == b && eqNs r s
  | _,_=>false
def normals : List (VE × Sy)→List Sy
  | []=>[]
  | (.normal,Y) :: r=>Y :: normals r
  | _ :: r=>normals r
def others : List (VE × Sy)→List (VE × Sy)
  | []=>[]
  | (.normal,_) :: r=>others r
  | p :: r=>p :: others r
def mergeA (k : Nat) (l : List Sy) : List Sy:=match joinHd k l with
  | some hd=>[hd.1.mk' k (patCnt hd.1.row) 0 hd.2]
  | none=>l
def mergeR (b : Bool) (k : Nat) (l : List Sy) : List Sy:=bif b then l else mergeA k l
def headA (run : Hs→List (VE × Sy)) (Y : Sy) (c : Code) : Hs × List (VE × Sy):=
  let al:=ptrsOf Y.s
  let h0:=hsOf Y.nv (asg c) Y (dedup Y.h)
  let l0:=run h0
  let h1:=refine Y.nv Y.h h0 ((normals l0).map fun Z=>Z.align al)
  if eqNs h1.kinds h0.kinds then (h1,l0) else
  let l1:=run h1
  let h2:=refine Y.nv Y.h h1 ((normals l1).map fun Z=>Z.align al)
  if eqNs h2.kinds h1.kinds then (h2,l1) else (h2,run h2)
def unrollA (body : Sy→List (VE × Sy)) : Nat→Sy→List (VE × Sy)
  | 0,_=>[]
  | k + 1,Y=>others (body Y) ++ (normals (body Y)).flatMap (unrollA body k)
def Ya.rng (n : Nat) (fa fb : Ya→List Nat→Sy→List (VE × Sy)) (ya : Ya) (nm0 : Nat) (ps : Array Nat) (body : Code) : Ya:=
  ⟨nm0 :: ya.S,fun S nm off vs x n0 Z=>if nm = nm0 then (match find Z.h nm with
    | some (.raw .ready)=>if vs.length = ps.size then
        (fa (ya.under S (n + off)) (crossOf body) (Z.round n off ps.toList vs n0)).flatMap fun p=>match p.1,find p.2.h nm with
          | .normal,some (.raw .ready)=>(fb (ya.under S (n + off)) [] (p.2.raw nm .busy)).filterMap fun p2=>match find p2.2.h nm with
            | some (.raw .busy)=>some (((p2.2.raw nm (rsOf p2.1)).leave n).setO x (.x (.q (bv (decide (p2.1 = .normal))))))
            | _=>none
          | _,_=>[]
      else []
    | _=>[]) else ya.run S nm off vs x n0 Z⟩
def hasLoop : Code→Bool
  | .loop _ | .rangeFunc ..=>true
  | .seq a b | .cond _ a b=>hasLoop a || hasLoop b
  | .block _ c=>hasLoop c
  | _=>false
def loopF (P : Program) (f : Nat) : Bool:=match P.funcs[f]? with
  | some fn=>match fn.body with
    | some c=>hasLoop c
    | none=>false
  | none=>false
def plainA (fr : Cfg) (fj : Bool) : Code→Bool
  | .region _ ops _=>ops.toList.all fun o=>!(mayCall fr o.op && o.guard.isSome)
  | .skip | .exit _ | .ret=>true
  | c=>hasLoop c && !fj
section
variable (C : Cx) (ia : InA) (cf n : Nat)
def opsA (ya : Ya) (ops : Array Oper) : List Oper→Sy→List Sy
  | [],Y=>[Y]
  | o :: r,Y=>
    let go:=fun (Y0 : Sy)=>(callOf (C.cfg cf) n o Y0.gc.atom.1).map fun q=>match q.1 with
      | .fn f=>if loopF C.P f && !C.fj f then ia ya f q.2 o.dst n Y0.gc.atom.1 else mergeA Y0.gc.atom.1.nv (ia ya f q.2 o.dst n Y0.gc.atom.1)
      | .yld nm=>if ya.S.contains nm then ya.run ya.S nm 0 q.2 o.dst n Y0.gc.atom.1 else []
    match (if mayCall (C.cfg cf) o.op && o.dst.all (· < n) then (match guardOf Y (dGuard n ops o) with
      | some (.go true)=>(go Y).map fun l=>l.flatMap (opsA ya ops r)
      | some (.go false)=>some (opsA ya ops r (Y.setO o.dst (.x unitX)))
      | some (.ask e)=>(go (Y.stripG e)).map fun l=>l.flatMap (opsA ya ops r) ++ opsA ya ops r ((Y.stripN e).setO o.dst (.x unitX))
      | none=>none) else none) with
    | some l=>l
    | none=>match symStm (dStm C.P (C.cfg cf) n ops o) Y with
      | some q=>opsA ya ops r q.1
      | none=>[]
def anaC : Ya→Bool→Nat→List Nat→Code→Sy→List (VE × Sy)
  | _,_,_,_,.skip,Y=>[(.normal,Y)]
  | ya,_,_,ks,.region id ops draw,Y=>match (if draw = false∧callsAt (C.cfg cf) ops then none else symRegion C.P (C.cfg cf) n ops draw (Y.frzR (C.un cf (2000000 + id)))) with
    | some q=>[(.normal,(settle ks n q.1).1)]
    | none=>if draw then [] else (opsA C ia cf n ya ops ops.toList (Y.frzR (C.un cf (2000000 + id)))).map fun Y'=>(.normal,(settle ks n Y').1)
  | ya,rd,_,ks,.seq a b,Y=>
    let l:=anaC ya rd 0 (uniq ks (crossOf b)) a Y
    others l ++ (if hasLoop a && !C.fj cf then normals l else mergeA Y.nv (normals l)).flatMap fun Y'=>anaC ya rd 0 ks b Y'
  | ya,rd,_,ks,.cond c a b,Y=>match (dArg n c).map (valS Y) with
    | some (.x (.q (.v (.bool true))))=>anaC ya rd 0 ks a Y
    | some (.x (.q (.v (.bool false))))=>anaC ya rd 0 ks b Y
    | some (.x _)=>anaC ya rd 0 ks a Y ++ anaC ya rd 0 ks b Y
    | _=>[]
  | ya,rd,_,ks,.block id c,Y=>(anaC ya rd (id + 1) ks c (Y.frz (C.un cf (id + 1)))).map fun p=>match p.1 with
    | .exit i=>if i = id then (.normal,p.2) else (.exit i,p.2)
    | e=>(e,p.2)
  | ya,rd,bi,ks,.loop c,Y=>
    if 0 < C.un cf bi∧C.un cf bi < 1000000 then unrollA (fun Y=>anaC ya rd 0 (uniq ks (crossOf c)) c Y) (C.un cf bi) Y else
    others (headA (fun h=>anaC ya rd 0 (uniq ks (crossOf c)) c ((h.hd Y.nx).mk' Y.nv (patCnt (h.hd Y.nx).row) Y.d (Y.nx + (h.hd Y.nx).row.length))) Y c).2
  | ya,rd,_,_,.rangeFunc g ps assign body,Y=>
    if rd = false∧ya.S.contains Y.nx = false∧ps.all (· < n) = true then match rngOf (C.it cf) n g (Y.newRec Y.nx) with
      | some q=>(mergeR (loopF C.P q.1.1 && !C.fj q.1.1) Y.nv (ia (Ya.rng n (fun ya ks Y=>anaC ya true 0 ks assign Y) (fun ya ks Y=>anaC ya true 0 ks body Y) ya Y.nx ps body) q.1.1 (.yl Y.nx :: q.1.2) none n (Y.newRec Y.nx))).flatMap fun (Y2 : Sy)=>match find Y2.h Y.nx with
        | some (.raw .ready)=>[(.normal,Y2.kill Y.nx)]
        | some (.raw (.done e))=>[(e,Y2.kill Y.nx)]
        | _=>[]
      | none=>[]
    else []
  | _,_,_,_,.exit id,Y=>[(.exit id,Y)]
  | _,_,_,_,.ret,Y=>[(.ret,Y)]
  | _,_,_,_,_,_=>[]
end
def inlA (C : Cx) (ia : InA) : InA:=fun ya f vs x n Y=>match C.P.funcs[f]? with
  | some fn=>match fn.body,fn.results.toList.mapM (dRes C.P fn.ntmps) with
    | some c,some rs=>(anaC C ia f fn.ntmps (ya.push fn.ntmps) false 0 (keepOf fn) c (Y.enter fn.ntmps n vs)).filterMap fun p=>match p.1 with
      | .exit _=>none
      | _=>(rawRs rs p.2).map fun v=>(p.2.leave fn.ntmps).setO x v
    | _,_=>[]
  | none=>[]
def anaL (C : Cx) : Nat→InA
  | 0=>fun _ _ _ _ _ _=>[]
  | k + 1=>inlA C (anaL C k)
section
variable (C : Cx) (inl : Inl) (cf n : Nat)
def compOps (yl : Yh) (id : Nat) (ops : Array Oper) : List Oper→Sy→(Sy→FT)→FT
  | [],Y,κ=>κ Y
  | o :: r,Y,κ=>match (if mayCall (C.cfg cf) o.op && o.dst.all (· < n) then (match guardOf Y (dGuard n ops o) with
      | some (.go true)=>(callOf (C.cfg cf) n o Y.gc.atom.1).map fun q=>mkLets Y.gc.atom.2 (goTo yl inl q.1 q.2 o.dst n Y.gc.atom.1 fun Y'=>compOps yl id ops r Y' κ)
      | some (.go false)=>some (compOps yl id ops r (Y.setO o.dst (.x unitX)) κ)
      | some (.ask e)=>(callOf (C.cfg cf) n o (Y.stripG e).gc.atom.1).map fun q=>.ite e (mkLets (Y.stripG e).gc.atom.2 (goTo yl inl q.1 q.2 o.dst n (Y.stripG e).gc.atom.1 fun Y'=>compOps yl id ops r Y' κ)) (compOps yl id ops r ((Y.stripN e).setO o.dst (.x unitX)) κ)
      | none=>none) else none) with
    | some t=>t
    | none=>match symStm (dStm C.P (C.cfg cf) n ops o) Y with
      | some q=>mkChk q.2 (compOps yl id ops r q.1 κ)
      | none=>.bad id (some Y)
def compC : Yh→Bool→Nat→List Nat→Code→Sy→(VE→Sy→FT)→FT
  | _,_,_,_,.skip,Y,κ=>κ .normal Y
  | yl,_,_,ks,.region id ops draw,Y,κ=>match (if draw = false∧callsAt (C.cfg cf) ops then none else symRegion C.P (C.cfg cf) n ops draw (Y.frzR (C.un cf (2000000 + id)))) with
    | some q=>mkChk (prune (settle ks n q.1).2 q.2) (mkLets (settle ks n q.1).2 (κ .normal (settle ks n q.1).1))
    | none=>if draw then .bad id (some Y) else compOps C inl cf n yl id ops ops.toList (Y.frzR (C.un cf (2000000 + id))) fun Y'=>mkLets (settle ks n Y').2 (κ .normal (settle ks n Y').1)
  | yl,rd,_,ks,.seq a b,Y,κ=>match (if plainA (C.cfg cf) (C.fj cf) a then none else C.joinS (hkey 1 cf (cid a) (cid b) Y) Y.nv fun _=>joinHd Y.nv (normals (anaC C C.ia cf n yl.a rd 0 (uniq ks (crossOf b)) a Y))) with
    | some hd=>.jp (compC yl rd 0 ks b (hd.1.mk' Y.nv (patCnt hd.1.row) Y.d hd.2) κ) (compC yl rd 0 (uniq ks (crossOf b)) a { Y with d:=Y.d + 1 } fun e Y'=>match e with
      | .normal=>match hd.1.mt Y' with
        | some p=>.next (Y'.d - (Y.d + 1)) p.1
        | none=>.bad (100000 + 1)
      | e=>κ e Y')
    | none=>compC yl rd 0 (uniq ks (crossOf b)) a Y fun e Y'=>match e with
      | .normal=>compC yl rd 0 ks b Y' κ
      | e=>κ e Y'
  | yl,rd,_,ks,.cond c a b,Y,κ=>match (dArg n c).map (valS Y) with
    | some (.x (.q (.v (.bool true))))=>compC yl rd 0 ks a Y κ
    | some (.x (.q (.v (.bool false))))=>compC yl rd 0 ks b Y κ
    | some (.x e)=>.ite e (compC yl rd 0 ks a Y κ) (compC yl rd 0 ks b Y κ)
    | _=>.bad (100000 + 2)
  | yl,rd,_,ks,.block id c,Y,κ=>compC yl rd (id + 1) ks c (Y.frz (C.un cf (id + 1))) fun e Y'=>match e with
    | .exit i=>if i = id then κ .normal Y' else κ (.exit i) Y'
    | e=>κ e Y'
  | yl,rd,bi,ks,.loop c,Y,κ=>
    if 0 < C.un cf bi∧C.un cf bi < 1000000 then unroll (fun Y κ=>compC yl rd 0 (uniq ks (crossOf c)) c Y κ) (C.un cf bi) Y κ else
    let al:=ptrsOf Y.s
    let hd:=C.headS (hkey 2 cf bi (cid c) Y) fun _=>(headA (fun h=>anaC C C.ia cf n yl.a rd 0 (uniq ks (crossOf c)) c ((h.hd Y.nx).mk' Y.nv (patCnt (h.hd Y.nx).row) Y.d (Y.nx + (h.hd Y.nx).row.length))) Y c).1.hd Y.nx
    if hd.ok Y.nv then match hd.mt Y with
      | some q=>.loop q.1 (compC yl rd 0 (uniq ks (crossOf c)) c (hd.mk' Y.nv q.1.length (Y.d + 1) (Y.nx + hd.row.length)) fun e Y'=>match e with
        | .normal=>match hd.mt (Y'.align al) with
          | some p=>.next (Y'.d - (Y.d + 1)) p.1
          | none=>.bad (100000 + 3)
        | e=>κ e Y')
      | none=>.bad (100000 + 4)
    else .bad (100000 + 5)
  | yl,rd,_,_,.rangeFunc g ps assign body,Y,κ=>
    if rd = false∧yl.S.contains Y.nx = false∧ps.all (· < n) = true then match rngOf (C.it cf) n g (Y.newRec Y.nx) with
      | some q=>mkChk q.2 (inl ⟨Y.nx :: yl.S,fun S nm off vs x n0 Z κ'=>if nm = Y.nx then (match find Z.h nm with
          | some (.raw .ready)=>if vs.length = ps.size then
              compC (yl.under S (n + off)) true 0 (crossOf body) assign (Z.round n off ps.toList vs n0) fun e Z1=>match e,find Z1.h nm with
                | .normal,some (.raw .ready)=>compC (yl.under S (n + off)) true 0 [] body (Z1.raw nm .busy) fun e2 Z2=>match find Z2.h nm with
                  | some (.raw .busy)=>κ' (((Z2.raw nm (rsOf e2)).leave n).setO x (.x (.q (bv (decide (e2 = .normal))))))
                  | _=>.bad 100042
                | _,_=>.bad 100043
            else .bad 100044
          | _=>.bad 100045) else yl.run S nm off vs x n0 Z κ',Ya.rng n (fun ya ks Y=>anaC C C.ia cf n ya true 0 ks assign Y) (fun ya ks Y=>anaC C C.ia cf n ya true 0 ks body Y) yl.a Y.nx ps body⟩ q.1.1 (.yl Y.nx :: q.1.2) none n (Y.newRec Y.nx) fun Y2=>match find Y2.h Y.nx with
        | some (.raw .ready)=>κ .normal (Y2.kill Y.nx)
        | some (.raw (.done e))=>κ e (Y2.kill Y.nx)
        | _=>.bad 100046)
      | none=>.bad 100041
    else .bad 100040
  | _,_,_,_,.exit id,Y,κ=>κ (.exit id) Y
  | _,_,_,_,.ret,Y,κ=>κ .ret Y
  | _,_,_,_,_,_,_=>.bad (100000 + 6)
end
section
variable (C : Cx)
def inlF (inl : Inl) (yl : Yh) (f : Nat) (vs : List SV) (x : Option Nat) (n : Nat) (Y : Sy) (κ : Sy→FT) : FT:=
  match C.P.funcs[f]? with
  | some fn=>match fn.body,fn.results.toList.mapM (dRes C.P fn.ntmps) with
    | some c, some rs => if (fn.name == "runtime.NumGoroutine") = false ∧ vs.length ≤ fn.ntmps then
        let ks:=keepOf fn
        let fin : (Sy→FT)→VE→Sy→FT:=fun κ e Y2=>match e with
          | .exit _=>.bad 100032
          | _=>match rawRs rs Y2 with
            | some v=>κ ((Y2.leave fn.ntmps).setO x v)
            | none=>.bad 100033
        match (if hasLoop c && !C.fj f then none else C.joinS (hkey 3 f 0 0 Y) Y.nv fun _=>joinHd Y.nv (C.ia yl.a f vs x n Y)) with
        | some hd=>.jp (κ (hd.1.mk' Y.nv (patCnt hd.1.row) Y.d hd.2)) (compC C inl f fn.ntmps (yl.push fn.ntmps) false 0 ks c { Y.enter fn.ntmps n vs with d:=Y.d + 1 } (fin fun Y'=>match hd.1.mt Y' with
          | some p=>.next (Y'.d - (Y.d + 1)) p.1
          | none=>.bad 100034))
        | none=>compC C inl f fn.ntmps (yl.push fn.ntmps) false 0 ks c (Y.enter fn.ntmps n vs) (fin κ)
      else .bad 100035
    | _,_=>.bad 100036
  | none=>.bad 100037
def compL : Nat→Inl
  | 0=>fun _ _ _ _ _ _ _=>.bad 100030
  | k + 1=>inlF C (compL k)
end
def yl0 : Yh:=⟨[],fun _ _ _ _ _ _ _ _=>.bad 100048,⟨[],fun _ _ _ _ _ _ _=>[]⟩⟩
def isOwnX : X→Bool
  | .mk .own _=>true
  | _=>false
def isLst : SV→Bool
  | .gl .. | .gs .. | .gt ..=>true
  | _=>false
def ownX (v : SV) (e : X) : Option X:=if isLst v then some (.mk .own [e]) else if isOwnX e then none else some e
def symRes (Y : Sy) : VRes→Option X
  | .t i=>(viewSA Y.h (valS Y (.t i))).bind (ownX (valS Y (.t i)))
  | .cell i n g=>(symOp Y.h (.load n g) [valS Y (.t i)]).bind fun q=>if q.2.isEmpty then (viewSA Y.h q.1).bind (ownX q.1) else none
def resX (rs : List VRes) (Y : Sy) : Option X:=
  match rs with
  | [r]=>symRes Y r
  | rs=>(rs.mapM (symRes Y)).map (.mk .tup)
def kR (rs : List VRes) (e : VE) (Y : Sy) : FT:=
  match e with
  | .exit _=>.bad 100021
  | _=>match resX rs Y with
    | some x=>.ret x
    | none=>.bad 100022
def sy0 (k : Nat) : Sy:={ s:=(List.range k).map fun i=>(i,.x (.t i)),h:=[],nv:=k,d:=0,nx:=1000000,pd:=none }
def compF (C : Cx) (f : Nat) : Option (Nat × FT):=
  match C.P.funcs[f]? with
  | some fn=>match fn.body,fn.results.toList.mapM (dRes C.P fn.ntmps) with
    | some c, some rs => if (fn.name == "runtime.NumGoroutine") = false ∧ fn.params.size + fn.nfree ≤ fn.ntmps then some (fn.params.size + fn.nfree, compC { C with rt := f } (compL { C with rt := f } 8) f fn.ntmps yl0 false 0 (keepOf fn) c (sy0 (fn.params.size + fn.nfree)) (kR rs)) else none
    | _,_=>none
  | none=>none
end Go.Proofs.YtkcfpgaepmllhaaGreatDoor
namespace Go.Proofs.YtkcfpgaepmllhaaGreatDoor
open Go.RowKit
structure Cs where
  rs : List Nat
  av : List (X × Nat)
  n : Nat
  ar : List Nat
def isCallK : XK→Bool
  | .call .. | .ccall _ | .ecall ..=>true
  | _=>false
def failX : X:=.mk (.isc 0 0) []
def lookX : List (X × Nat)→X→Option Nat
  | [],_=>none
  | (e,j) :: r,x=>if beqX e x then some j else lookX r x
def isCallX : X→Bool
  | .mk k _=>isCallK k
  | _=>false
def seeX (s : Cs) (y : X) : X:=if isCallX y then (match lookX s.av y with
    | some j=>.t j
    | none=>y) else y
mutual
def absX (s : Cs) : X→X
  | .t i=>match s.rs[i]? with
    | some j=>.t j
    | none=>failX
  | .q d=>.q d
  | .mk k xs=>seeX s (.mk k (absXs s xs))
  | .ite c a b=>.ite (absX s c) (absX s a) (absX s b)
def absXs (s : Cs) : List X→List X
  | []=>[]
  | x :: r=>absX s x :: absXs s r
end
def Cs.name (s : Cs) (y : X) : Cs:={ s with av:=(y,s.n) :: s.av,n:=s.n + 1 }
mutual
def namX (s : Cs) : X→(List X × Cs) × X
  | .t i=>(([],s),absX s (.t i))
  | .q d=>(([],s),.q d)
  | .mk k xs=>match namXs s xs with
    | ((p,s1),ys)=>if isCallK k then (match lookX s1.av (.mk k ys) with
      | some j=>((p,s1),.t j)
      | none=>((p ++ [.mk k ys],s1.name (.mk k ys)),.t s1.n)) else ((p,s1),.mk k ys)
  | .ite c a b=>match namX s c with
    | ((p,s1),c')=>((p,s1),.ite c' (absX s1 a) (absX s1 b))
def namXs (s : Cs) : List X→(List X × Cs) × List X
  | []=>(([],s),[])
  | x :: r=>match namX s x with
    | ((p,s1),y)=>match namXs s1 r with
      | ((q,s2),ys)=>((p ++ q,s2),y :: ys)
end
def wrapL : List X→FT→FT
  | [],k=>k
  | x :: r,k=>.lets [x] (wrapL r k)
def notT : X→Bool
  | .t _ | .q _=>false
  | _=>true
def arOf (j : Nat) : FT→Option Nat
  | .chk _ k | .lets _ k=>arOf j k
  | .ite _ a b=>(arOf j a).or (arOf j b)
  | .loop _ b=>arOf (j + 1) b
  | .next i xs=>if i = j then some xs.length else none
  | .jp k b=>(arOf (j + 1) b).or (arOf j k)
  | _=>none
def Cs.vars (s : Cs) (m : Nat) : Cs:={ s with rs:=s.rs ++ List.range' s.n m,n:=s.n + m }
def cse : Cs→FT→FT
  | s,.ret x=>match namX s x with
    | ((p,_),y)=>wrapL p (.ret y)
  | s,.chk xs k=>match namXs s xs with
    | ((p,s1),ys)=>wrapL p (mkChk (ys.filter notT) (cse s1 k))
  | s,.lets xs k=>match namXs s xs with
    | ((p,s1),ys)=>wrapL p (letsY s1 ys fun s2=>cse s2 k)
  | s,.ite c a b=>match namX s c with
    | ((p,s1),c')=>wrapL p (.ite c' (cse s1 a) (cse s1 b))
  | s,.loop xs b=>match namXs s xs with
    | ((p,s1),ys)=>wrapL p (.loop ys (cse { s1.vars ys.length with ar:=ys.length :: s1.ar } b))
  | s,.next j xs=>match namXs s xs with
    | ((p,s1),ys)=>if s1.ar[j]? = some ys.length then wrapL p (.next j ys) else .bad 100060
  | s,.jp k b=>match arOf 0 b with
    | some m=>.jp (cse (s.vars m) k) (cse { s with ar:=m :: s.ar } b)
    | none=>.jp (.bad 100062) (cse { s with ar:=0 :: s.ar } b)
  | _,.st _=>.bad 100061
  | _,.bad w _=>.bad w
 where
  /-- The variables of a list: those that are there already are not named again. -/
  letsY (s : Cs) : List X→(Cs→FT)→FT
    | [],κ=>κ s
    | .t j :: r,κ=>letsY { s with rs:=s.rs ++ [j] } r κ
    | y :: r,κ=>.lets [y] (letsY { s with rs:=s.rs ++ [s.n],n:=s.n + 1 } r κ)
def cs0 (n : Nat) : Cs:=⟨List.range n,[],n,[]⟩
def cseF (q : Nat × FT) : Nat × FT:=(q.1,cse (cs0 q.1) q.2)
end Go.Proofs.YtkcfpgaepmllhaaGreatDoor
namespace Go.Proofs.YtkcfpgaepmllhaaGreatDoor
open Go.RowKit
abbrev Rd (α : Type):=List Nat→α × List Nat
def rN : Rd Nat
  | a :: r=>(a,r)
  | []=>(0,[])
def rB : Rd Bool:=fun l=>match rN l with | (a,r)=>(a == 1,r)
def rI : Rd Int:=fun l=>match rN l with
  | (0,r)=>(match rN r with | (m,r)=>(Int.ofNat m,r))
  | (_,r)=>(match rN r with | (m,r)=>(Int.negSucc m,r))
def rL {α : Type} (p : Rd α) : Nat→Rd (List α)
  | 0,l=>([],l)
  | k + 1,l=>match rN l with
    | (0,r)=>([],r)
    | (_,r)=>match p r with
      | (a,r)=>match rL p k r with
        | (as,r)=>(a :: as,r)
def ikOf (n : Nat) : IntKind:=match n with | 0=>.i8 | 1=>.i16 | 2=>.i32 | 3=>.i64 | 4=>.u8 | 5=>.u16 | 6=>.u32 | _=>.u64
def boOf (n : Nat) : BinOp:=match n with | 0=>.add | 1=>.sub | 2=>.mul | 3=>.quo | 4=>.rem | 5=>.and | 6=>.or | 7=>.xor | 8=>.shl | 9=>.shr | 10=>.andNot | 11=>.eql | 12=>.neq | 13=>.lss | 14=>.leq | 15=>.gtr | _=>.geq
def rV : Rd Value:=fun l=>match rN l with
  | (0,r)=>(match rN r with | (k,r)=>match rI r with | (z,r)=>(.int (ikOf k) z,r))
  | (1,r)=>(match rB r with | (b,r)=>(.bool b,r))
  | (3,r)=>(.nilFunc,r)
  | (4,r)=>(.nilIface,r)
  | (5,r)=>(.pointer none,r)
  | (_,r)=>(.bool false,r)
def rD : Nat→Rd D
  | 0,l=>(.undef,l)
  | n + 1,l=>match rN l with
    | (1,r)=>(match rV r with | (v,r)=>(.v v,r))
    | (2,r)=>(.nil,r)
    | (3,r)=>(.mt,r)
    | (4,r)=>(match rL (rL (rD n) 99) 99 r with | (es,r)=>(.list es,r))
    | (5,r)=>(match rL (rD n) 999 r with | (xs,r)=>(.agg xs,r))
    | (6,r)=>(match rL (rD n) 999 r with | (xs,r)=>(.tup xs,r))
    | (7,r)=>(match rL (rD n) 999 r with | (xs,r)=>(.lptr xs,r))
    | (8,r)=>(match rN r with | (f,r)=>match rL (rD n) 999 r with | (xs,r)=>(.clo f xs,r))
    | (9,r)=>(.nilmap,r)
    | (_,r)=>(.undef,r)
def rNP : Rd (Nat × Nat):=fun l=>match rN l with | (a,r)=>match rN r with | (b,r)=>((a,b),r)
def rPK : Rd PK:=fun l=>match rN l with
  | (0,r)=>(.mv,r)
  | (1,r)=>(.pick,r)
  | (2,r)=>(match (fun l=>match rN l with | (a,r)=>(boOf a,r)) r with | (a0,r)=>(.ibin a0,r))
  | (3,r)=>(match (fun l=>match rN l with | (a,r)=>(boOf a,r)) r with | (a0,r)=>(.ishift a0,r))
  | (4,r)=>(match rB r with | (a0,r)=>(.beq a0,r))
  | (5,r)=>(match rB r with | (a0,r)=>(.seq a0,r))
  | (6,r)=>(match rB r with | (a0,r)=>match rL rN 999 r with | (a1,r)=>(.aeq a0 a1,r))
  | (7,r)=>(match rB r with | (a0,r)=>(.snil a0,r))
  | (8,r)=>(match (fun l=>match rN l with | (a,r)=>(boOf a,r)) r with | (a0,r)=>(.sop a0,r))
  | (9,r)=>(.inot,r)
  | (10,r)=>(.ineg,r)
  | (11,r)=>(.llen,r)
  | (12,r)=>(.slen,r)
  | (13,r)=>(match rN r with | (a0,r)=>match rB r with | (a1,r)=>(.load a0 a1,r))
  | (14,r)=>(match rN r with | (a0,r)=>(.fld a0,r))
  | (15,r)=>(match rN r with | (a0,r)=>match rN r with | (a1,r)=>(.idx a0 a1,r))
  | (16,r)=>(match rN r with | (a0,r)=>match rN r with | (a1,r)=>(.aidx a0 a1,r))
  | (17,r)=>(match rN r with | (a0,r)=>(.ext a0,r))
  | (18,r)=>(match (fun l=>match rN l with | (a,r)=>(ikOf a,r)) r with | (a0,r)=>(.conv a0,r))
  | (19,r)=>(match rN r with | (a0,r)=>match rN r with | (a1,r)=>match rB r with | (a2,r)=>(.afld a0 a1 a2,r))
  | (20,r)=>(match rL (rD 9) 999 r with | (a0,r)=>match rL rNP 999 r with | (a1,r)=>(.build a0 a1,r))
  | (21,r)=>(match rN r with | (a0,r)=>(.clo a0,r))
  | (22,r)=>(match rB r with | (a0,r)=>(.mx2 a0,r))
  | (23,r)=>(match rB r with | (a0,r)=>(.mx3 a0,r))
  | (24,r)=>(match rN r with | (a0,r)=>match rN r with | (a1,r)=>match rB r with | (a2,r)=>(.aix a0 a1 a2,r))
  | (25,r)=>(.chk,r)
  | (26,r)=>(match rN r with | (a0,r)=>match rB r with | (a1,r)=>match rB r with | (a2,r)=>match rB r with | (a3,r)=>(.slc a0 a1 a2 a3,r))
  | (27,r)=>(match rN r with | (a0,r)=>match rN r with | (a1,r)=>match rB r with | (a2,r)=>match rB r with | (a3,r)=>(.sla a0 a1 a2 a3,r))
  | (28,r)=>(match rL rN 999 r with | (a0,r)=>match rD 9 r with | (a1,r)=>match rB r with | (a2,r)=>(.lkp a0 a1 a2,r))
  | (29,r)=>(.ent,r)
  | (30,r)=>(match rN r with | (a0,r)=>(.call a0,r))
  | (32,r)=>(match rN r with | (a0,r)=>(.fbox a0,r))
  | (_,r)=>(.mv,r)
def rXK : Rd XK:=fun l=>match rN l with
  | (0,r)=>(match rPK r with | (k,r)=>(.pk k,r))
  | (1,r)=>(match rB r with | (a0,r)=>match rN r with | (a1,r)=>(.call a0 a1,r))
  | (2,r)=>(match rB r with | (a0,r)=>(.ccall a0,r))
  | (3,r)=>(.agg,r)
  | (4,r)=>(.tup,r)
  | (5,r)=>(match rN r with | (a0,r)=>(.clo a0,r))
  | (6,r)=>(.lptr,r)
  | (7,r)=>(match rN r with | (a0,r)=>match rN r with | (a1,r)=>(.cell a0 a1,r))
  | (8,r)=>(.okc,r)
  | (9,r)=>(match rB r with | (a0,r)=>(.gv a0,r))
  | (10,r)=>(.nrm,r)
  | (11,r)=>(.nrmC,r)
  | (12,r)=>(match rN r with | (a0,r)=>(.app a0,r))
  | (13,r)=>(match rN r with | (a0,r)=>match rN r with | (a1,r)=>match rL (rD 9) 999 r with | (a2,r)=>match rL rNP 999 r with | (a3,r)=>(.lit a0 a1 a2 a3,r))
  | (14,r)=>(match rN r with | (a0,r)=>match rL (rD 9) 999 r with | (a1,r)=>(.mks a0 a1,r))
  | (15,r)=>(match rN r with | (a0,r)=>match rN r with | (a1,r)=>match rN r with | (a2,r)=>(.setl a0 a1 a2,r))
  | (16,r)=>(.take,r)
  | (17,r)=>(match rL rN 999 r with | (a0,r)=>match rD 9 r with | (a1,r)=>match rB r with | (a2,r)=>(.mget a0 a1 a2,r))
  | (18,r)=>(match rL rN 999 r with | (a0,r)=>(.mset a0,r))
  | (19,r)=>(match rN r with | (a0,r)=>(.rngi a0,r))
  | (20,r)=>(match rN r with | (a0,r)=>match rN r with | (a1,r)=>match rN r with | (a2,r)=>match rN r with | (a3,r)=>match rB r with | (a4,r)=>(.geta a0 a1 a2 a3 a4,r))
  | (21,r)=>(match rN r with | (a0,r)=>match rN r with | (a1,r)=>match rN r with | (a2,r)=>match rN r with | (a3,r)=>(.seta a0 a1 a2 a3,r))
  | (22,r)=>(match rN r with | (a0,r)=>match rN r with | (a1,r)=>match rN r with | (a2,r)=>(.ecall a0 a1 a2,r))
  | (23,r)=>(.mkl,r)
  | (24,r)=>(match rN r with | (a0,r)=>match rN r with | (a1,r)=>(.isc a0 a1,r))
  | (25,r)=>(match rN r with | (a0,r)=>match rN r with | (a1,r)=>match rN r with | (a2,r)=>(.capc a0 a1 a2,r))
  | (26,r)=>(match rL rN 999 r with | (a0,r)=>match rN r with | (a1,r)=>(.mapp a0 a1,r))
  | (27,r)=>(.fmk,r)
  | (28,r)=>(.drp,r)
  | (29,r)=>(match rL (rD 9) 999 r with | (a0,r)=>(.clr a0,r))
  | (30,r)=>(.adn,r)
  | (31,r)=>(.own,r)
  | (_,r)=>(.tup,r)
def rX : Nat→Rd X
  | 0,l=>(failX,l)
  | n + 1,l=>match rN l with
    | (0,r)=>(match rN r with | (k,r)=>(.t k,r))
    | (1,r)=>(match rD 9 r with | (d,r)=>(.q d,r))
    | (2,r)=>(match rXK r with | (k,r)=>match rL (rX n) 999 r with | (xs,r)=>(.mk k xs,r))
    | (_,r)=>(match rX n r with | (c,r)=>match rX n r with | (a,r)=>match rX n r with | (b,r)=>(.ite c a b,r))
def rSV : Nat→Rd SV
  | 0,l=>(.un,l)
  | n + 1,l=>match rN l with
    | (1,r)=>(match rX 99 r with | (x,r)=>(.x x,r))
    | (2,r)=>(match rL (rSV n) 999 r with | (vs,r)=>(.agg vs,r))
    | (3,r)=>(match rL (rSV n) 999 r with | (vs,r)=>(.tup vs,r))
    | (4,r)=>(match rN r with | (f,r)=>match rL (rSV n) 999 r with | (vs,r)=>(.clo f vs,r))
    | (5,r)=>(match rN r with | (a,r)=>match rN r with | (b,r)=>(.ptr a b,r))
    | (7,r)=>(match rN r with | (a,r)=>match rN r with | (b,r)=>(.gl a b,r))
    | (8,r)=>(match rN r with | (a,r)=>match rN r with | (b,r)=>match rX 99 r with | (k,r)=>(.gs a b k,r))
    | (9,r)=>(match rN r with | (a,r)=>match rN r with | (b,r)=>match rX 99 r with | (i,r)=>match rN r with | (j,r)=>(.ep a b i j,r))
    | (10,r)=>(match rN r with | (a,r)=>match rN r with | (b,r)=>match rN r with | (c,r)=>(.sb a b c,r))
    | (11,r)=>(match rN r with | (a,r)=>match rN r with | (b,r)=>(.rb a b,r))
    | (12,r)=>(match rN r with | (a,r)=>(.mp a,r))
    | (13,r)=>(match rN r with | (a,r)=>(.yl a,r))
    | (14,r)=>(match rX 99 r with | (g,r)=>match rSV n r with | (v,r)=>(.gd g v,r))
    | (15,r)=>(match rN r with | (a,r)=>match rN r with | (b,r)=>match rX 99 r with | (k,r)=>(.gt a b k,r))
    | (_,r)=>(.un,r)
def rRS : Rd RS:=fun l=>match rN l with
  | (0,r)=>(.ready,r)
  | (1,r)=>(.busy,r)
  | (2,r)=>(match rN r with
    | (0,r)=>(.done .normal,r)
    | (1,r)=>(match rN r with | (i,r)=>(.done (.exit i),r))
    | (_,r)=>(.done .ret,r))
  | (_,r)=>(.over,r)
def rSk : Rd Sk:=fun l=>match rN l with
  | (0,r)=>(match rN r with | (k,r)=>(.box k,r))
  | (1,r)=>(match rN r with | (e,r)=>match rN r with | (s,r)=>(.lst e s,r))
  | (2,r)=>(.map,r)
  | (3,r)=>(match rN r with | (e,r)=>match rN r with | (s,r)=>(.mpl e s,r))
  | (_,r)=>(match rRS r with | (k,r)=>(.raw k,r))
def rPat : Rd Pat:=fun l=>match rN l with
  | (0,r)=>(.drop,r)
  | (1,r)=>(match rSV 99 r with | (v,r)=>(.same v,r))
  | (2,r)=>(.var,r)
  | (_,r)=>(match rN r with | (e,r)=>match rN r with | (s,r)=>(.lst e s,r))
def rHd : Rd Hd:=fun l=>match rL rN 999 l with
  | (ids,r)=>match rL rNP 999 r with
    | (ts,r)=>match rL (fun l=>match rN l with | (n,r)=>match rSk r with | (k,r)=>((n,k),r)) 999 r with
      | (os,r)=>match rL (fun l=>match rN l with | (n,r)=>match rPat r with | (p,r)=>((n,p),r)) 9999 r with
        | (row,r)=>(⟨ids,ts,os,row⟩,r)
noncomputable def nthA {α : Type} (i : Nat) (l : List α) : Option α:=@Nat.rec (fun _=>List α→Option α) (fun l=>l.casesOn none fun a _=>some a) (fun _ ih l=>l.casesOn none fun _ r=>ih r) i l
noncomputable def nn {α : Type} (d : α) (T : List (List α)) (i : Nat) : α:=((nthA (i / 32) T).bind (nthA (i % 32))).getD d
noncomputable def ex (T : List (List (List Nat))) (k : Nat) : List Nat→List Nat:=@Nat.rec (fun _=>List Nat→List Nat) (fun l=>l) (fun _ ih l=>@List.rec Nat (fun _=>List Nat) [] (fun a _ r=>
  (nn [] T a).casesOn r fun v s=>s.casesOn (v :: r) fun b s=>List.append (ih (v :: b :: s)) r) l) k
noncomputable def dl (l : List Nat) : Nat→List Nat:=@List.rec Nat (fun _=>Nat→List Nat) (fun _=>[]) (fun a _ r p=>
  bif Nat.blt a 100 then a :: r p else (fun v=>v :: r v) (bif Nat.beq (a % 2) 0 then p + (a - 100) / 2 else p - (a - 99) / 2)) l
def hn (l : List Nat) : Nat:=l.foldl (fun a x=>a * 10000000 + x) 1
inductive Ent where
  | cst (d : D)
  | op (k : XK) (n : Nat)
  | ite
def rPar (p : Rd X) : Nat→Rd (List X)
  | 0,l=>([],l)
  | k + 1,l=>match p l with
    | (a,r)=>match rPar p k r with
      | (as,r)=>(a :: as,r)
def gX (O : Nat→Ent) : Nat→Rd X
  | 0,l=>(failX,l)
  | n + 1,l=>match l with
    | []=>(failX,[])
    | a :: r=>bif Nat.beq (a % 2) 0 then (.t (a / 2),r) else match O (a / 2) with
      | .cst d=>(.q d,r)
      | .op k m=>match rPar (gX O n) m r with
        | (xs,r)=>(.mk k xs,r)
      | .ite=>match gX O n r with
        | (c,r)=>match gX O n r with
          | (a,r)=>match gX O n r with
            | (b,r)=>(.ite c a b,r)
def gXs (O : Nat→Ent) : Rd (List X):=fun l=>match rN l with | (n,r)=>rPar (gX O 99) n r
def gFT (O : Nat→Ent) : Nat→Rd FT
  | 0,l=>(.bad 0,l)
  | n + 1,l=>match rN l with
    | (0,r)=>(match gX O 99 r with | (x,r)=>(.ret x,r))
    | (1,r)=>(match gXs O r with | (xs,r)=>match gFT O n r with | (k,r)=>(.chk xs k,r))
    | (2,r)=>(match gXs O r with | (xs,r)=>match gFT O n r with | (k,r)=>(.lets xs k,r))
    | (3,r)=>(match gX O 99 r with | (c,r)=>match gFT O n r with | (a,r)=>match gFT O n r with | (b,r)=>(.ite c a b,r))
    | (4,r)=>(match gXs O r with | (xs,r)=>match gFT O n r with | (k,r)=>(.loop xs k,r))
    | (5,r)=>(match rN r with | (j,r)=>match gXs O r with | (xs,r)=>(.next j xs,r))
    | (6,r)=>(match gFT O n r with | (b,r)=>match gFT O n r with | (k,r)=>(.jp k b,r))
    | (_,r)=>(match rN r with | (w,r)=>(.bad w,r))
def hintOf (T : List (Nat × List (Nat × List Nat))) (f key : Nat) : Option (Option (Hd × Nat)):=match find ((find T f).getD []) key with
  | some (n :: l)=>some (some ((rHd l).1,n))
  | _=>some none
def assocL (l : List (Nat × List Nat)) (f : Nat) : List Nat:=(find l f).getD []
def assocM (l : List (Nat × List (Nat × Nat))) (f i : Nat) : Nat:=(find ((find l f).getD []) i).getD 0
end Go.Proofs.YtkcfpgaepmllhaaGreatDoor
namespace Go.Proofs.YtkcfpgaepmllhaaGreatDoor
open Go.RowKit
def VRes.val (s : St) : VRes→Option D
  | .t i=>some (s.s i)
  | .cell i n g=>loadV s.m n g [s.s i]
def resV (rs : List VRes) (s : St) : Option D:=
  match rs with
  | [r]=>r.val s
  | rs=>(rs.mapM (VRes.val s)).map .tup
def initV (ds : List D) : St:=⟨fun i=>ds.getD i .undef,noMem,fun _=>0⟩
section
variable {P : Program} {w0 w : World} {pr : Prot} {A : Area} {n : Nat} {tk : Places} {cs : Array Value} {s : St}
def resSem (cs : Array Value) : ResultVar→Sem Value
  | .tmp t=>pure (cs.getD t undef)
  | .cell a t=>do loadVar t (← asAddr (cs.getD a undef))
theorem res_one (R : Rel P w0 pr A n w cs s tk) {rv : ResultVar} {r : VRes} {d : D} (hr : dRes P n rv = some r) (hd : r.val s = some d) :
    ∃ v,(resSem cs rv).run P w = .ok v w∧Rep w pr tk v d:=by
  cases rv with
  | tmp t=>
    simp only [dRes] at hr
    split at hr <;> cases hr
    have ht : t < n:=by assumption
    cases hd
    exact ⟨_,rfl,R.slot t ht⟩
  | cell a t=>
    simp only [dRes] at hr
    split at hr
    · have ha : a < n:=by assumption
      obtain ⟨g,hg,hr⟩:=Option.bind_eq_some_iff.1 hr
      split at hr <;> cases hr
      have hc : (P.info? t).isSome = true∧(g = true ∨ P.cellsOf t = 1):=by assumption
      have hs:=R.slot a ha
      obtain ⟨u,h1,h2⟩:=load_sound R.mem hg hc.1 hc.2 hs hd
      refine ⟨u,?_,h2⟩
      simp only [resSem]
      generalize cs.getD a undef = c at h1
      cases c <;> simp [Instr.loadAt,Instr.sureAddr] at h1
      rename_i p
      cases p <;> simp at h1
      simpa [asAddr] using h1
    · cases hr
theorem results_eq (fn : Func) (cs : Array Value) : results fn cs = (do let vs ← fn.results.toList.mapM (resSem cs); pure (match vs with | [v]=>v | vs=>.tuple vs.toArray) : Sem Value):=by
  unfold results
  rw [Array.mapM_eq_mapM_toList]
  simp only [map_eq_pure_bind,bind_assoc,pure_bind]
  congr 1
  funext vs
  congr 1
  match vs with
  | []=>simp
  | [v]=>simp
  | _ :: _ :: _=>simp
theorem results_sound (R : Rel P w0 pr A n w cs s tk) {fn : Func} {rs : List VRes} {d : D}
    (hr : fn.results.toList.mapM (dRes P n) = some rs) (hd : resV rs s = some d) : ∃ v,(results fn cs).run P w = .ok v w∧Rep w pr tk v d:=by
  have many : ∀ (l : List ResultVar) (rs : List VRes) (ds : List D),l.mapM (dRes P n) = some rs→rs.mapM (VRes.val s) = some ds→
      ∃ vs : List Value,(l.mapM (resSem cs)).run P w = .ok vs w∧Reps w pr tk vs ds:=by
    intro l
    induction l with
    | nil=>intro rs ds h1 h2; simp at h1; subst h1; simp at h2; subst h2; exact ⟨[],rfl,trivial⟩
    | cons rv l ih=>
      intro rs ds h1 h2
      simp only [List.mapM_cons,Option.bind_eq_bind,Option.bind_eq_some_iff,Option.pure_def,Option.some.injEq] at h1
      obtain ⟨r,hr,rs',hrs,rfl⟩:=h1
      simp only [List.mapM_cons,Option.bind_eq_bind,Option.bind_eq_some_iff,Option.pure_def,Option.some.injEq] at h2
      obtain ⟨d,hd,ds',hds,rfl⟩:=h2
      obtain ⟨v,g1,g2⟩:=res_one R hr hd
      obtain ⟨vs,g3,g4⟩:=ih rs' ds' hrs hds
      refine ⟨v :: vs,?_,g2,g4⟩
      rw [List.mapM_cons,Sem.run_bind,g1]
      simp only [Result.andThen_ok,Sem.run_bind,g3,Sem.run_pure]
  have tupled : ∀ (vs : List Value) (ds : List D),Reps w pr tk vs ds→Rep w pr tk (.tuple vs.toArray) (.tup ds):=fun vs ds h=>
    .tup (by simpa using h.length) fun i c x hc hx=>reps_get h i c x (by simpa using hc) hx
  rw [results_eq]
  have gen : (rs.mapM (VRes.val s)).map D.tup = some d→rs.length ≠ 1→∃ v,((do let vs ← fn.results.toList.mapM (resSem cs); pure (match vs with | [v]=>v | vs=>.tuple vs.toArray) : Sem Value)).run P w = .ok v w∧Rep w pr tk v d:=by
    intro hd hl
    obtain ⟨ds,h1,rfl⟩:=Option.map_eq_some_iff.1 hd
    obtain ⟨vs,g1,g2⟩:=many _ rs ds hr h1
    refine ⟨.tuple vs.toArray,?_,tupled vs ds g2⟩
    have hlen : vs.length ≠ 1:=by
      rw [g2.length]
      have : ∀ (rs : List VRes) (ds : List D),rs.mapM (VRes.val s) = some ds→ds.length = rs.length:=by
        intro rs
        induction rs with
        | nil=>intro ds h; simp at h; subst h; rfl
        | cons r rs ih=>
          intro ds h
          simp only [List.mapM_cons,Option.bind_eq_bind,Option.bind_eq_some_iff,Option.pure_def,Option.some.injEq] at h
          obtain ⟨d,_,ds',hds,rfl⟩:=h
          simp [ih ds' hds]
      rw [this rs ds h1]; exact hl
    rw [Sem.run_bind,g1]
    simp only [Result.andThen_ok,Sem.run_pure]
    match vs,hlen with
    | [],_=>rfl
    | [_],h=>exact absurd rfl h
    | _ :: _ :: _,_=>rfl
  match rs,hr,hd,gen with
  | [],hr,hd,gen=>exact gen hd (by simp)
  | _ :: _ :: _,hr,hd,gen=>exact gen hd (by simp)
  | [r],hr,hd,_=>
    simp only [resV] at hd
    obtain ⟨vs,g1,g2⟩:=many _ [r] [d] hr (by simp [hd])
    match vs,g2 with
    | [v],g2=>exact ⟨v,by rw [Sem.run_bind,g1]; rfl,g2.1⟩
variable {m : Mem}
theorem viewC_soundP (M : MemOK P w pr tk m) {pr' : Prot} (hpr : ∀ b o,pr b o→pr' b o) (hbl : ∀ b,blocksOf tk m b→∀ o,pr' b o) : ∀ (n : Nat) (v : Value) (d d' : D),viewC m n d = some d'→Rep w pr tk v d→Rep w pr' noTok v d'
  | 0,_,_,_,h,_=>by simp [viewC] at h
  | n + 1,v,d,d',h,hr=>by
    have K : Keeps w w pr pr' tk tk:=⟨fun b o h=>⟨rfl,hpr b o h⟩,fun _ _ h=>h⟩
    have step : ∀ {v : Value} {x x' : D},Rep w pr tk v x→(x.flatC = true∧x' = x ∨ viewC m n x = some x')→Rep w pr' noTok v x':=fun {v x x'} hv h=>by
      rcases h with ⟨h1,rfl⟩ | h1
      · exact rep_flatC hv h1
      · exact viewC_soundP M hpr hbl n v x x' h1 hv
    cases d <;> simp only [viewC] at h <;> try (cases h; done)
    case v x=>cases h; cases hr; exact .v ‹_›
    case nil=>cases h; cases hr; exact .nil'
    case mt=>cases h; exact rep_noTC ((mt_list hr).keeps K) rfl
    case list es=>cases h; exact rep_noTC (hr.keeps K) rfl
    case lptr xs=>cases h; exact rep_noTC (hr.keeps K) rfl
    case nilmap=>cases h; exact rep_noTC (hr.keeps K) rfl
    case fm es=>cases h; exact rep_noTC (hr.keeps K) rfl
    case mp t=>
      split at h
      · rename_i es hm
        split at h <;> cases h
        rename_i hall
        exact mp_fm M hm hall hr K fun b _ _ hbb=>hbl b hbb 0
      · cases h
    case sl t size off len lim=>
      rw [Option.bind_eq_some_iff] at h
      obtain ⟨es,he,h⟩:=h
      obtain ⟨es',hv,rfl⟩:=Option.map_eq_some_iff.1 h
      obtain ⟨hl,hg⟩:=viewRows_get hv
      have inv : ∀ {v : Value},Rep w pr tk v (.sl t size off len lim)→∃ b1 c1 o1 k1,tk t = some (b1,c1)∧v = .slice (some ⟨b1,o1,none⟩) len k1:=fun {v} h=>by cases h with | sl ht=>exact ⟨_,_,_,_,ht,rfl⟩
      have hm0 : ∃ q,m t = some q:=by
        simp only [D.elems] at he
        cases hmt : m t with
        | none=>rw [hmt] at he; cases he
        | some q=>exact ⟨q,rfl⟩
      rcases elems_cells M hr he with ⟨hv0,rfl⟩ | ⟨b,o,cap,sz,us,rfl,h1,h2,h3,h4⟩
      · have : es' = []:=List.eq_nil_of_length_eq_zero (by simpa using hl)
        subst this
        rcases hv0 with rfl | ⟨a,cap,rfl⟩
        · exact .nil'
        · exact .emp
      · have hcap : es'.length≤cap:=by omega
        have:=Rep.list (w:=w) (pr:=pr') (tk:=noTok) (b:=b) (off:=o) (cap:=cap) (es:=es') (size:=sz) us (fun c' hc'=>by
            obtain ⟨i,hi,rfl⟩:=List.getElem_of_mem hc'
            obtain ⟨c,hc,hlc,_⟩:=hg i _ (List.getElem?_eq_getElem hi)
            rw [hlc,h2 c (List.mem_of_getElem? hc)]) hcap (fun j hj=>by
              rw [hl] at hj
              exact ⟨(h3 j hj).1,(by
                obtain ⟨b1,c1,o1,k1,g1,g2⟩:=inv hr
                obtain ⟨q,hq⟩:=hm0
                have e1 : b = b1:=by injection g2 with g3; injection g3 with g4; injection g4
                rw [e1]; exact hbl _ ⟨t,q,_,hq,g1⟩ _),(h3 j hj).2⟩) (fun i c' hc' j x' hx'=>by
                obtain ⟨c,hc,_,hg2⟩:=hg i c' hc'
                obtain ⟨x,hx,hfx⟩:=hg2 j x' hx'
                exact step (h4 i c hc j x hx) hfx)
        rw [hl] at this
        exact this
    case ptr t off=>
      split at h
      · rename_i xs hm
        split at h
        · obtain ⟨c',hv,rfl⟩:=Option.map_eq_some_iff.1 h
          obtain ⟨hl,hg⟩:=viewRow_get hv
          cases hr with
          | ptr ht=>
            obtain ⟨us,h1,h2⟩:=cellsAt_box M hm ht off
            refine .lptr us (fun j hj=>?_) fun j x' hx'=>?_
            · rw [hl] at hj
              exact ⟨(h1 j hj).1,hbl _ ⟨t,_,_,hm,ht⟩ _,(h1 j hj).2⟩
            · obtain ⟨x,hx,hfx⟩:=hg j x' hx'
              exact step (h2 j x hx) hfx
        · cases h
      · cases h
    case rptr t size i j=>
      split at h
      · rename_i g e es hm
        rw [Option.bind_eq_some_iff] at h
        obtain ⟨c,hc,h⟩:=h
        split at h
        · rename_i hcond
          obtain ⟨rfl,_⟩:=hcond
          obtain ⟨c',hv,rfl⟩:=Option.map_eq_some_iff.1 h
          obtain ⟨hl,hg⟩:=viewRow_get hv
          cases hr with
          | rptr ht=>
            obtain ⟨us,h1,h2⟩:=cellsAt_row M hm ht hc j
            refine .lptr us (fun k hk=>?_) fun k x' hx'=>?_
            · rw [hl] at hk
              exact ⟨(h1 k hk).1,hbl _ ⟨t,_,_,hm,ht⟩ _,(h1 k hk).2⟩
            · obtain ⟨x,hx,hfx⟩:=hg k x' hx'
              exact step (h2 k x hx) hfx
        · cases h
      · cases h
    case clo f xs=>
      obtain ⟨c',hv,rfl⟩:=Option.map_eq_some_iff.1 h
      obtain ⟨hl,hg⟩:=viewRow_get hv
      cases hr with
      | clo hf h1 h3=>
        refine .clo hf (by rw [hl]; exact h1) fun i c x' hc hx'=>?_
        obtain ⟨x,hx,hfx⟩:=hg i x' hx'
        exact step (h3 i c x hc hx) hfx
      | bclo h1 h3=>
        refine .bclo (by rw [hl]; exact h1) fun i c x' hc hx'=>?_
        obtain ⟨x,hx,hfx⟩:=hg i x' hx'
        exact step (h3 i c x hc hx) hfx
theorem viewA_soundP (M : MemOK P w pr tk m) {pr' : Prot} (hpr : ∀ b o,pr b o→pr' b o) (hbl : ∀ b,blocksOf tk m b→∀ o,pr' b o) {v : Value} {d d' : D} (h : viewA m d = some d') (hr : Rep w pr tk v d) : Rep w pr' noTok v d':=by
  cases d
  case agg xs=>
    obtain ⟨c',hv,rfl⟩:=Option.map_eq_some_iff.1 h
    obtain ⟨hl,hg⟩:=viewRow_get hv
    cases hr with
    | agg h1 h2 h3=>
      refine .agg (by rw [hl]; exact h1) h2 fun i c x' hc hx'=>?_
      obtain ⟨x,hx,hfx⟩:=hg i x' hx'
      rcases hfx with ⟨hf,rfl⟩ | hf
      · exact rep_flatC (h3 i c _ hc hx) hf
      · exact viewC_soundP M hpr hbl 6 c x x' hf (h3 i c x hc hx)
  all_goals exact viewC_soundP M hpr hbl 6 v _ d' (by simpa only [viewA] using h) hr
end
section
variable {P : Program} {w : World} {pr : Prot} {tk : Places} {m : Mem}
theorem viewC_v {n : Nat} {x d : D} (h : viewC m n x = some d) (hd : d.flatC = true) : x = d:=by
  cases n with
  | zero=>cases h
  | succ n=>
    cases x <;> simp only [viewC] at h <;> first
      | (cases h; done)
      | (cases h; first | rfl | (cases hd; done))
      | (exfalso; revert h; repeat' split
         all_goals intro h
         all_goals first
           | (cases h; done)
           | (cases h; cases hd; done)
           | (obtain ⟨_,_,rfl⟩:=Option.map_eq_some_iff.1 h; cases hd; done)
           | (obtain ⟨_,_,h⟩:=Option.bind_eq_some_iff.1 h; first | (obtain ⟨_,_,rfl⟩:=Option.map_eq_some_iff.1 h; cases hd; done) | (split at h <;> first | (cases h; done) | (obtain ⟨_,_,rfl⟩:=Option.map_eq_some_iff.1 h; cases hd; done))))
theorem own_new (M : MemOK P w pr tk m) {v : Value} {d0 : D} {es : List (List D)} (ho : (∃ t size off len lim,d0 = .sl t size off len lim) ∨ d0 = .nil ∨ d0 = .list []) (h : viewA m d0 = some (.list es)) (hes : (es.all fun c=>c.all D.flatC) = true) (hr : Rep w pr tk v d0) :
    Rep w (fun b _=>blocksOf tk m b) noTok v (.list es):=by
  rcases ho with ⟨t,size,off,len,lim,rfl⟩ | rfl | rfl
  · replace h : ((D.sl t size off len lim).elems m).bind (fun es=>(viewRows (viewC m 5) es).map D.list) = some (.list es):=h
    rw [Option.bind_eq_some_iff] at h
    obtain ⟨es0,he,h⟩:=h
    obtain ⟨es',hv,h⟩:=Option.map_eq_some_iff.1 h
    cases h
    obtain ⟨hl,hg⟩:=viewRows_get hv
    have inv : ∀ {v : Value},Rep w pr tk v (.sl t size off len lim)→∃ b1 c1 o1 k1,tk t = some (b1,c1)∧v = .slice (some ⟨b1,o1,none⟩) len k1:=fun {v} h=>by cases h with | sl ht=>exact ⟨_,_,_,_,ht,rfl⟩
    have hm0 : ∃ q,m t = some q:=by
      simp only [D.elems] at he
      cases hmt : m t with
      | none=>rw [hmt] at he; cases he
      | some q=>exact ⟨q,rfl⟩
    rcases elems_cells M hr he with ⟨hv0,rfl⟩ | ⟨b,o,cap,sz,us,rfl,h1,h2,h3,h4⟩
    · have : es = []:=List.eq_nil_of_length_eq_zero (by simpa using hl)
      subst this
      rcases hv0 with rfl | ⟨a,cap,rfl⟩
      · exact .nil'
      · exact .emp
    · have hcap : es.length≤cap:=by omega
      have:=Rep.list (w:=w) (pr:=fun b _=>blocksOf tk m b) (tk:=noTok) (b:=b) (off:=o) (cap:=cap) (es:=es) (size:=sz) us (fun c' hc'=>by
          obtain ⟨i,hi,rfl⟩:=List.getElem_of_mem hc'
          obtain ⟨c,hc,hlc,_⟩:=hg i _ (List.getElem?_eq_getElem hi)
          rw [hlc,h2 c (List.mem_of_getElem? hc)]) hcap (fun j hj=>by
            rw [hl] at hj
            exact ⟨(h3 j hj).1,(by
              obtain ⟨b1,c1,o1,k1,g1,g2⟩:=inv hr
              obtain ⟨q,hq⟩:=hm0
              have e1 : b = b1:=by injection g2 with g3; injection g3 with g4; injection g4
              rw [e1]; exact ⟨t,q,_,hq,g1⟩),(h3 j hj).2⟩) (fun i c' hc' j x' hx'=>by
              obtain ⟨c,hc,_,hg2⟩:=hg i c' hc'
              obtain ⟨x,hx,hfx⟩:=hg2 j x' hx'
              have hf : x'.flatC = true:=List.all_eq_true.1 (List.all_eq_true.1 hes c' (List.mem_of_getElem? hc')) x' (List.mem_of_getElem? hx')
              rcases hfx with ⟨_,rfl⟩ | hfx
              · exact rep_flatC (h4 i c hc j _ hx) hf
              · obtain rfl:=viewC_v hfx hf
                exact rep_flatC (h4 i c hc j _ hx) hf)
      rw [hl] at this
      exact this
  · cases h; cases hr; exact .nil'
  · cases h
    cases hr with
    | nil'=>exact .nil'
    | emp=>exact .emp
    | list us _ hcap _ _=>exact .list (size:=0) us (by simp) hcap (fun j hj=>by simp at hj) (fun i e h=>by simp at h)
end
def viewT (m : Mem) : D→Option D
  | .tup xs=>(xs.mapM (viewA m)).map .tup
  | d=>viewA m d
section
variable {Ω : Raws} {G : FP} {ρ : List D} {ι γ : Nat→Tok} {Y : Sy} {σ : St}
def OwnD (d : D) : Prop:=(∃ t size off len lim,d = .sl t size off len lim) ∨ d = .nil ∨ d = .list []
theorem VR.ownD {h : List (Nat × SO)} {v : SV} {d : D} (H : VR G ρ ι h v d) (hv : isLst v = true) : OwnD d:=by
  cases H <;> first | (cases hv; done) | exact .inr (.inl rfl) | exact .inr (.inr rfl) | exact .inl ⟨_,_,_,_,_,rfl⟩
def ResOK (x : X) (d0 d : D) : Prop:=newX x d = true→(d.flat = true ∨ d = .list []) ∨ OwnD d0∧∃ es,d = .list es∧(es.all fun c=>c.all D.flatC) = true
theorem ownX_ok {v : SV} {e x : X} {d0 d : D} (H : VR G ρ ι Y.h v d0) (h : ownX v e = some x) : ResOK x d0 d:=by
  intro hn
  have flat : isOwnX x = false→newX x d = true→d.flat = true ∨ d = .list []:=fun h1 h2=>by
    unfold newX at h2
    split at h2
    · exact .inr rfl
    · cases h1
    · exact .inl h2
    · left
      cases d <;> first | exact h2 | (simp [D.flatC] at h2; done)
  unfold ownX at h
  split at h
  · rename_i hv
    cases h
    cases d with
    | list es=>
      cases es with
      | nil=>exact .inl (.inr rfl)
      | cons a r=>exact .inr ⟨H.ownD hv,_,rfl,hn⟩
    | agg xs=>exact .inl (.inl hn)
    | _=>first | exact .inl (.inl hn) | cases hn
  · split at h <;> cases h
    rename_i hv
    exact .inl (flat (by simpa using hv) hn)
theorem ownX_ev {v : SV} {e x : X} (h : ownX v e = some x) {d : D} (he : X.ev G ρ x = some d) : X.ev G ρ e = some d:=by
  unfold ownX at h
  split at h
  · cases h
    obtain ⟨ds,h1,h2⟩:=ev_mk he
    simp only [X.evs,Option.bind_eq_some_iff,Option.map_eq_some_iff] at h1
    obtain ⟨d1,g1,_,k1,rfl⟩:=h1
    cases k1
    cases h2
    exact g1
  · split at h <;> cases h
    exact he
theorem symRes_sound (M : Mt Ω G ρ ι γ Y σ) {r : VRes} {x : X} {d : D} (h : symRes Y r = some x) (he : X.ev G ρ x = some d) : ∃ d0,r.val σ = some d0∧viewA σ.m d0 = some d∧ResOK x d0 d:=by
  cases r with
  | t i=>
    simp only [symRes,Option.bind_eq_some_iff] at h
    obtain ⟨e,h1,h2⟩:=h
    exact ⟨_,rfl,viewSA_sound M (valS_rep M (.t i)) h1 (ownX_ev h2 he),ownX_ok (valS_rep M (.t i)) h2⟩
  | cell i n g=>
    simp only [symRes,Option.bind_eq_some_iff] at h
    obtain ⟨⟨v,O⟩,h1,h2⟩:=h
    split at h2
    · rename_i ho
      have hO : O = []:=List.isEmpty_iff.1 ho
      subst hO
      obtain ⟨d0,h3,h4⟩:=symOp_sound M (VRs.mk (valS_rep M (.t i)) VRs.nil) h1 (fun e he=>by cases he)
      obtain ⟨e,h5,h6⟩:=Option.bind_eq_some_iff.1 h2
      exact ⟨d0,h3,viewSA_sound M h4 h5 (ownX_ev h6 he),ownX_ok h4 h6⟩
    · cases h2
inductive RessOK : List X→List D→List D→Prop
  | nil : RessOK [] [] []
  | cons {x : X} {d0 d : D} {xs : List X} {ds0 ds : List D} (h : ResOK x d0 d) (r : RessOK xs ds0 ds) : RessOK (x :: xs) (d0 :: ds0) (d :: ds)
theorem resMany_sound (M : Mt Ω G ρ ι γ Y σ) : ∀ {rs : List VRes} {xs : List X} {ds' : List D},rs.mapM (symRes Y) = some xs→X.evs G ρ xs = some ds'→∃ ds,rs.mapM (VRes.val σ) = some ds∧ds.mapM (viewA σ.m) = some ds'∧RessOK xs ds ds'
  | [],xs,ds',h1,h2=>by simp at h1; subst h1; simp [X.evs] at h2; subst h2; exact ⟨[],rfl,rfl,.nil⟩
  | r :: rs,xs,ds',h1,h2=>by
    simp only [List.mapM_cons,Option.bind_eq_bind,Option.bind_eq_some_iff,Option.pure_def,Option.some.injEq] at h1
    obtain ⟨y,g1,ys,g2,rfl⟩:=h1
    simp only [X.evs,Option.bind_eq_some_iff,Option.map_eq_some_iff] at h2
    obtain ⟨dy,g3,dys,g4,rfl⟩:=h2
    obtain ⟨d0,k1,k2,k5⟩:=symRes_sound M g1 g3
    obtain ⟨ds,k3,k4,k6⟩:=resMany_sound M g2 g4
    exact ⟨d0 :: ds,by simp [List.mapM_cons,k1,k3],by simp [List.mapM_cons,k2,k4],.cons k5 k6⟩
def RestOK (m : Mem) (x : X) (d0 d : D) : Prop:=viewA m d0 = some d∧ResOK x d0 d ∨ ∃ xs ds0 ds,x = .mk .tup xs∧d0 = .tup ds0∧d = .tup ds∧RessOK xs ds0 ds
theorem resX_sound (M : Mt Ω G ρ ι γ Y σ) {rs : List VRes} {x : X} {d : D} (h : resX rs Y = some x) (he : X.ev G ρ x = some d) : ∃ d0,resV rs σ = some d0∧viewT σ.m d0 = some d∧RestOK σ.m x d0 d:=by
  have many : (rs.mapM (symRes Y)).map (X.mk .tup) = some x→∃ ds,(rs.mapM (VRes.val σ)) = some ds∧viewT σ.m (.tup ds) = some d∧RestOK σ.m x (.tup ds) d:=fun h=>by
    obtain ⟨xs,h1,rfl⟩:=Option.map_eq_some_iff.1 h
    obtain ⟨ds',h2,h3⟩:=ev_mk he
    cases h3
    obtain ⟨ds,k1,k2,k3⟩:=resMany_sound M h1 h2
    exact ⟨ds,k1,by simp [viewT,k2],.inr ⟨xs,ds,ds',rfl,rfl,rfl,k3⟩⟩
  unfold resX at h
  split at h
  · rename_i r
    obtain ⟨d0,h1,h2,h3⟩:=symRes_sound M h he
    refine ⟨d0,h1,?_,.inl ⟨h2,h3⟩⟩
    cases d0 <;> first | exact h2 | cases h2
  · rename_i hne
    obtain ⟨ds,h1,h2,h3⟩:=many h
    refine ⟨.tup ds,?_,h2,h3⟩
    unfold resV
    split
    · rename_i r; exact absurd rfl (hne r)
    · rw [h1]; rfl
theorem find_range {f : Nat→SV} : ∀ {k i : Nat} {v : SV} {b : Nat},find ((List.range' b k).map fun i=>(i,f i)) i = some v→i < b + k∧v = f i
  | 0,i,v,b,h=>by simp [find] at h
  | k + 1,i,v,b,h=>by
    rw [List.range'_succ] at h
    simp only [List.map_cons,find] at h
    cases hi : b == i with
    | true => rw [hi] at h; cases h; have : b = i := by simpa using hi
              subst this; exact ⟨by omega,rfl⟩
    | false=>
      rw [hi] at h
      obtain ⟨h1,h2⟩:=find_range (b:=b + 1) h
      exact ⟨by omega,h2⟩
def raws0 : Raws:=⟨fun _=>[],fun _ _=>default,fun _=>False⟩
theorem mt0 {ds : List D} (hn : ds.all D.noT = true) : Mt raws0 G ds (fun _=>[]) (fun _=>[]) (sy0 ds.length) ⟨fun i=>ds.getD i .undef,noMem,fun _=>0⟩:=by
  refine ⟨fun i v hv=>?_,fun n vs h=>by simp [sy0,find] at h,fun n e sz c h=>by simp [sy0,find] at h,fun n c h=>by simp [sy0,find] at h,fun n e sz c h=>by simp [sy0,find] at h,fun n n' e e' sz sz' c c' h=>by simp [sy0,find] at h,fun n k h=>by simp [sy0,find] at h,fun n n' o o' h=>by simp [sy0,find] at h,fun n n' e e' sz sz' c c' h=>by simp [sy0,find] at h,fun _ _ _ _=>rfl,fun n e sz c h=>by simp [sy0,find] at h,rfl,fun _ h=>h.elim⟩
  simp only [sy0,List.range_eq_range'] at hv
  obtain ⟨h1,rfl⟩:=find_range hv
  have hi : i < ds.length:=by omega
  have hd : ds[i]? = some ds[i]:=List.getElem?_eq_getElem hi
  refine .x (d:=ds.getD i .undef) ?_ ?_
  · simp [X.ev,List.getD,hi]
  · simp only [List.getD,hd,Option.getD_some]
    exact List.all_eq_true.1 hn _ (List.getElem_mem hi)
end
theorem initialE {P : Program} {w : World} {pr : Prot} {fn : Func} {cargs : Array Value} {ds : List D} (hpr : ∀ b o,pr b o→b < w.heap.size) (hg : GOK w pr) (hargs : Reps w pr noTok cargs.toList ds) (hlen : ds.length≤fn.ntmps) :
    RelE P ⟨w,pr,noArea⟩ fn.ntmps w (cargs ++ Array.replicate (fn.ntmps - cargs.size) undef) ⟨fun i=>ds.getD i .undef,noMem,fun _=>0⟩:=by
  have hsz : cargs.size = ds.length:=by simpa using hargs.length
  refine ⟨w,pr,noArea,noTok,⟨by simp; omega,Chg.refl _ _,hpr,fun _ _ _ h=>(show False from h).elim,hg,⟨fun t o h=>(by cases h),fun t t' o o' b c c' h=>(by cases h)⟩,fun t o b c h=>(by cases h),fun _ _ _ _=>rfl,fun _=>rfl,fun _ _ h=>(by cases h),fun i hi=>?_,fun i hi=>by
      have e : ds.getD i .undef = .undef:=by simp [List.getD,List.getElem?_eq_none (show ds.length≤i by omega)]
      show Rep w pr noTok _ (ds.getD i .undef)
      rw [e]; exact .undef⟩,
    ⟨Chg.refl _ _,fun _ _ h=>h,rfl,rfl,fun _ _ h=>h,fun _ _ h=>.inl h⟩⟩
  by_cases hlt : i < cargs.size
  · have e : (cargs ++ Array.replicate (fn.ntmps - cargs.size) undef).getD i undef = cargs[i]:=by
      simp [Array.getD_eq_getD_getElem?,Array.getElem?_append_left hlt,hlt]
    have hd : i < ds.length:=by omega
    show Rep w pr noTok _ (ds.getD i .undef)
    rw [e,show ds.getD i .undef = ds[i] by simp [List.getD,hd]]
    exact reps_get hargs i _ _ (by simp [hlt]) (by simp [hd])
  · have e : ds.getD i .undef = .undef:=by simp [List.getD,List.getElem?_eq_none (show ds.length≤i by omega)]
    show Rep w pr noTok _ (ds.getD i .undef)
    rw [e]; exact .undef
theorem viewT_sound {P : Program} {w : World} {pr pr' : Prot} {tk : Places} {m : Mem} (M : MemOK P w pr tk m) (hpr : ∀ b o,pr b o→pr' b o) (hbl : ∀ b,blocksOf tk m b→∀ o,pr' b o) {v : Value} {d d' : D} (h : viewT m d = some d') (hr : Rep w pr tk v d) : Rep w pr' noTok v d':=by
  cases d
  case tup xs=>
    obtain ⟨ys,hy,rfl⟩:=Option.map_eq_some_iff.1 h
    obtain ⟨hl,hg⟩:=mapM_get hy
    cases hr with
    | tup h1 h3=>
      refine .tup (by rw [hl]; exact h1) fun i c x' hc hx'=>?_
      obtain ⟨x,hx,hfx⟩:=hg i x' hx'
      exact viewA_soundP M hpr hbl hfx (h3 i c x hc hx)
  all_goals exact viewA_soundP M hpr hbl (by simpa only [viewT] using h) hr
theorem resOK_new {P : Program} {w : World} {pr : Prot} {tk : Places} {m : Mem} (M : MemOK P w pr tk m) {x : X} {d0 d : D} {v : Value} (hk : ResOK x d0 d) (hn : newX x d = true) (h : viewA m d0 = some d) (hr : Rep w pr tk v d0) (hr' : ∃ pr',Rep w pr' noTok v d) :
    Rep w (fun b _=>blocksOf tk m b) noTok v d:=by
  rcases hk hn with (hf | rfl) | ⟨ho,es,rfl,hes⟩
  · obtain ⟨_,hr'⟩:=hr'; exact rep_flat hr' hf
  · obtain ⟨_,hr'⟩:=hr'
    cases hr' with
    | nil'=>exact .nil'
    | emp=>exact .emp
    | list us _ hcap _ _=>exact .list (size:=0) us (by simp) hcap (fun j hj=>by simp at hj) (fun i e h=>by simp at h)
  · exact own_new M ho h hes hr
theorem ressOK_get : ∀ {xs : List X} {ds0 ds : List D},RessOK xs ds0 ds→newXs xs ds = true→∀ (i : Nat) (d0 d : D),ds0[i]? = some d0→ds[i]? = some d→∃ x,ResOK x d0 d∧newX x d = true
  | _,_,_,.nil,_,i,d0,d,h,_=>by simp at h
  | _,_,_,.cons hh r,hn,i,d0,d,h1,h2=>by
    simp only [newXs,Bool.and_eq_true] at hn
    cases i with
    | zero=>simp at h1 h2; subst h1; subst h2; exact ⟨_,hh,hn.1⟩
    | succ i=>exact ressOK_get r hn.2 i d0 d (by simpa using h1) (by simpa using h2)
theorem viewA_notup {m : Mem} {d0 : D} {xs : List D} (h : viewA m d0 = some (.tup xs)) : False:=by
  have hc : ∀ (n : Nat) (d0 : D),viewC m n d0 = some (.tup xs)→False:=fun n d0 h=>by
    cases n with
    | zero=>cases h
    | succ n=>
      cases d0 <;> simp only [viewC] at h <;> first
        | (cases h; done)
        | (revert h; repeat' split
           all_goals intro h
           all_goals first
             | (cases h; done)
             | (obtain ⟨_,_,h⟩:=Option.map_eq_some_iff.1 h; cases h; done)
             | (obtain ⟨_,_,h⟩:=Option.bind_eq_some_iff.1 h; first | (obtain ⟨_,_,h⟩:=Option.map_eq_some_iff.1 h; cases h; done) | (split at h <;> first | (cases h; done) | (obtain ⟨_,_,h⟩:=Option.map_eq_some_iff.1 h; cases h; done))))
  cases d0
  case agg ys=>obtain ⟨_,_,h⟩:=Option.map_eq_some_iff.1 h; cases h
  all_goals exact hc 6 _ (by simpa only [viewA] using h)
theorem viewT_new {P : Program} {w : World} {pr : Prot} {tk : Places} {m : Mem} (M : MemOK P w pr tk m) {x : X} {d0 d : D} {v : Value} (hk : RestOK m x d0 d) (hn : newT x d = true) (h : viewT m d0 = some d) (hr : Rep w pr tk v d0) :
    Rep w (fun b _=>blocksOf tk m b) noTok v d:=by
  have one : ∀ {x : X} {d0 d : D} {v : Value},ResOK x d0 d→newX x d = true→viewA m d0 = some d→Rep w pr tk v d0→Rep w (fun b _=>blocksOf tk m b) noTok v d:=fun hk hn h hr=>
    resOK_new M hk hn h hr ⟨_,viewA_soundP (pr':=fun b o=>pr b o ∨ blocksOf tk m b) M (fun _ _ h=>.inl h) (fun _ h _=>.inr h) h hr⟩
  rcases hk with ⟨hv,hk⟩ | ⟨xs,ds0,ds,rfl,rfl,rfl,hk⟩
  · refine one hk ?_ hv hr
    unfold newT at hn
    split at hn
    · exact (viewA_notup hv).elim
    · exact hn
  · obtain ⟨ys,hy,h⟩:=Option.map_eq_some_iff.1 h
    cases h
    obtain ⟨hl,hg⟩:=mapM_get hy
    cases hr with
    | tup h1 h3=>
      refine .tup (by rw [hl]; exact h1) fun i c x' hc hx'=>?_
      obtain ⟨x,hx,hfx⟩:=hg i x' hx'
      obtain ⟨y,k1,k2⟩:=ressOK_get hk hn i x x' hx hx'
      exact one k1 k2 hfx (h3 i c x hc hx)
end Go.Proofs.YtkcfpgaepmllhaaGreatDoor
namespace Go.Proofs.YtkcfpgaepmllhaaGreatDoor
open Go.RowKit
section
variable {P : Program} {w0 w : World} {pr : Prot} {A : Area} {n : Nat} {tk : Places} {σ : St} {a : Act}
def St.raw (σ : St) (b : Nat) (o : Obj) : St:=⟨σ.s,fun t=>if t = [b + 1] then some (.raw o) else σ.m t,σ.c⟩
theorem Rel.newRaw (R : Rel P w0 pr A n w a.tmps σ tk) (o : Obj) : σ.m [w.heap.size + 1] = none∧∃ tk',Rel P w0 pr A n (w.alloc o) a.tmps (σ.raw w.heap.size o) tk'∧(∀ t p,tk t = some p→tk' t = some p)∧tk' [w.heap.size + 1] = some (w.heap.size,0):=by
  have hc:=Chg.alloc (fun _=>False) w o
  let tk' : Places:=fun t=>if t = [w.heap.size + 1] then some (w.heap.size,0) else tk t
  have hself : tk' [w.heap.size + 1] = some (w.heap.size,0):=if_pos rfl
  have hext : ∀ t p,tk t = some p→tk' t = some p:=fun t p h=>by
    by_cases e : t = [w.heap.size + 1]
    · subst e; rw [hself,R.one _ _ h]
    · simp only [tk',if_neg e]; exact h
  have hnone : σ.m [w.heap.size + 1] = none:=by
    cases hm : σ.m [w.heap.size + 1] with
    | none=>rfl
    | some q=>
      obtain ⟨b,c,h1,h2⟩:=(R.mem.obj _ q hm).place
      have:=R.one _ _ h1
      cases this; omega
  have K:=R.keepsN hc hext
  have hm : ∀ t q,(σ.raw w.heap.size o).m t = some q→(t = [w.heap.size + 1]∧q = .raw o) ∨ (t ≠ [w.heap.size + 1]∧σ.m t = some q):=fun t q h=>by
    simp only [St.raw] at h
    split at h
    · cases h; exact .inl ⟨by assumption,rfl⟩
    · exact .inr ⟨by assumption,h⟩
  have hold : ∀ t q b c,t ≠ [w.heap.size + 1]→σ.m t = some q→tk' t = some (b,c)→tk t = some (b,c)∧b < w.heap.size:=fun t q b c hne h ht=>by
    simp only [tk',if_neg hne] at ht
    obtain ⟨b1,c1,h1,h2⟩:=(R.mem.obj t q h).place
    rw [ht] at h1; cases h1
    exact ⟨ht,h2⟩
  have hsz:=R.chg.size
  refine ⟨hnone,tk',⟨R.size,R.chg.trans hc (fun _ _ h=>h.elim),R.prlt,R.prA,R.glob.keeps K.cell,⟨fun t q h=>?_,fun t t' q q' b c c' h h' ht ht'=>?_⟩,fun t q b c h ht=>?_,fun y k r hk=>?_,fun t=>?_,fun l p h=>?_,fun i hi=>(R.slot i hi).keeps K,fun i hi=>(R.sav i hi).keeps K⟩,hext,hself⟩
  · rcases hm t q h with ⟨rfl,rfl⟩ | ⟨hne,h⟩
    · exact ⟨_,_,hself,(Go.MapKept.heap_alloc w o).1⟩
    · exact (R.mem.obj t q h).keeps K fun b c hb=>by
        obtain ⟨b1,c1,h1,h2⟩:=(R.mem.obj t q h).place
        rw [hb] at h1; cases h1
        exact hc.block b h2 id
  · rcases hm t q h with ⟨e1,e2⟩ | ⟨hne,k1⟩ <;> rcases hm t' q' h' with ⟨e3,e4⟩ | ⟨hne',k2⟩
    · exact .inl (e1.trans e3.symm)
    · rw [e1,hself] at ht; cases ht
      have:=hold t' q' _ c' hne' k2 ht'
      omega
    · rw [e3,hself] at ht'; cases ht'
      have:=hold t q _ c hne k1 ht
      omega
    · exact R.mem.inj t t' q q' b c c' k1 k2 (hold t q b c hne k1 ht).1 (hold t' q' b c' hne' k2 ht').1
  · rcases hm t q h with ⟨rfl,rfl⟩ | ⟨hne,h⟩
    · rw [hself] at ht; cases ht
      exact .inl hsz
    · exact R.live t q b c h (hold t q b c hne h ht).1
  · have hne : (y + 1) :: k :: r ≠ [w.heap.size + 1]:=by simp
    simp only [tk',if_neg hne]
    exact R.fresh y k r hk
  · have hne : (0 :: t : Tok) ≠ [w.heap.size + 1]:=by simp
    simp only [tk',if_neg hne]
    exact R.zero t
  · by_cases e : l = w.heap.size
    · subst e; rw [hself] at h; cases h; rfl
    · have hne : ([l + 1] : Tok) ≠ [w.heap.size + 1]:=by simp; exact e
      simp only [tk',if_neg hne] at h
      exact R.one l p h
theorem Rel.rawAt (R : Rel P w0 pr A n w a.tmps σ tk) {b : Nat} {o : Obj} (hm : σ.m [b + 1] = some (.raw o)) : tk [b + 1] = some (b,0)∧w.heap[b]? = some o:=by
  obtain ⟨b1,c1,h1,h2⟩:=R.mem.obj _ _ hm
  have:=R.one _ _ h1
  cases this
  exact ⟨h1,h2⟩
theorem Chg.putObj (w : World) (b : Nat) (o : Obj) : Chg (fun k=>k = b) w (w.putObj b o):=
  ⟨rfl,rfl,rfl,Nat.le_of_eq World.putObj_size.symm,fun k _ hk=>World.putObj_heap_other hk,Nat.le_refl _⟩
theorem Rel.putRaw (R : Rel P w0 pr A n w a.tmps σ tk) {b : Nat} {o : Obj} (hm : σ.m [b + 1] = some (.raw o)) (o' : Obj) : Rel P w0 pr A n (w.putObj b o') a.tmps (σ.raw b o') tk:=by
  obtain ⟨h1,h2⟩:=R.rawAt hm
  refine R.write (t:=[b + 1]) (o:=.raw o) (o':=.raw o') hm h1 (Chg.putObj w b o') rfl (m':=(σ.raw b o').m) (if_pos rfl) (fun t' q hne h=>by simpa only [St.raw,if_neg hne] using h) ⟨b,0,h1,World.putObj_heap_same (Array.getElem?_eq_some_iff.1 h2).1⟩ fun t' q c' hne h ht _=>?_
  simp only [St.raw,if_neg hne] at h
  rcases R.mem.inj _ _ _ _ _ _ _ hm h h1 ht with e | ⟨e,_⟩
  · exact absurd e.symm hne
  · cases e
theorem WF.raw {σ : St} (W : WF σ) (b : Nat) (o : Obj) : WF (σ.raw b o):=fun x k r hk=>by
  have hne : (x + 1) :: k :: r ≠ [b + 1]:=by simp
  simp only [St.raw,if_neg hne]
  exact W x k r hk
def putP : List Nat→List Value→Array Value→Array Value
  | p :: ps,v :: vs,cs=>putP ps vs (cs.setIfInBounds p v)
  | _,_,cs=>cs
theorem zip_fold : ∀ (ps : List Nat) (vs : List Value) (cs : Array Value),(ps.zip vs).foldl (fun tmps (t,a)=>tmps.setIfInBounds t a) cs = putP ps vs cs
  | [],_,cs=>by simp [putP]
  | _ :: _,[],cs=>by simp [putP]
  | p :: ps,v :: vs,cs=>by simp only [List.zip_cons_cons,List.foldl_cons,putP]; exact zip_fold ps vs _
def putS : List Nat→List D→(Nat→D)→Nat→D
  | p :: ps,d :: ds,s=>putS ps ds (fun i=>if i = p then d else s i)
  | _,_,s=>s
end
end Go.Proofs.YtkcfpgaepmllhaaGreatDoor
