/- Part of the proof: symbolic execution of the program, its soundness, and the closing lemmas. No condition. -/
import Derived.Test.YtkcfpgaepmllhaaGreatDoorVaa
import Derived.OrdersIn
import Derived.Orders
namespace Go.Proofs.YtkcfpgaepmllhaaGreatDoor
open Go.RowKit
set_option maxRecDepth 100000
section
inductive Eff where
 |box (n:Nat) (g:Bool) (x:Nat) (a:VArg)
 |store (n:Nat) (g:Bool) (a v:VArg)
 |app (x e size:Nat) (a b:VArg)
 |mks (x e size:Nat) (zero:List D) (a b:VArg)
 |lit (x e size len:Nat) (zero:List D) (places:List (Nat×Nat)) (args:List VArg)
 |mkm (x:Nat)
 |copy (x:Option Nat) (a b:VArg)
 |mkml (x e size:Nat)
 |ecall (x k f:Nat) (args:List VArg)
 |acall (x e size f:Nat) (args:List VArg)
 |clr (size:Nat) (zero:List D) (a:VArg)
 |mupd (ks:List Nat) (a k v:VArg)
 deriving Inhabited
inductive VStm where
 |op (x:Nat) (k:PK) (args:List VArg) (g:Option (Nat×Bool))
 |eff (e:Eff) (g:Option (Nat×Bool))
 |bad
 deriving Inhabited
def Eff.dst:Eff→Option Nat
 | .box _ _ x .. | .app x .. | .mks x .. | .lit x .. | .mkm x| .mkml x .. | .ecall x .. | .acall x .. =>some x
 | .store .. | .mupd .. | .clr .. =>none
 | .copy x _ _=>x
def St.void(J:St):Option Nat→St
 |some x=>J.set x (.tup [])
 |none=>J
def opV(Γ:Env)(x:Nat)(k:PK)(args:List VArg)(J:St):Option St:=(k.run Γ J.m (args.map (VArg.val J.s))).map (J.set x)
def guardV(J:St):Option (Nat×Bool)→Option Bool
 |none=>some true
 |some (j,want)=>match J.s j with
  | .v (.bool b)=>some (b==want)
  | .tup _=>some false
  |_=>none
def Eff.run(Γ:Env):Eff→St→Option St
 | .box _ _ x a,J=>boxV x (a.val J.s) J
 | .store n _ a v,J=>storeV n (a.val J.s) (v.val J.s) J
 | .app x e size a b,J=>appV x e size (a.val J.s) (b.val J.s) J
 | .mks x e size zero a b,J=>mksV x e size zero (a.val J.s) (b.val J.s) J
 | .lit x e size len zero places args,J=>litV x e size len zero places (args.map (VArg.val J.s)) J
 | .mkm x,J=>mkmV x J
 | .mkml x _ _,J=>mkmV x J
 | .clr size zero a,J=>clrV size zero (a.val J.s) J
 | .ecall x k f args,J=>ecallV Γ x k f (args.map (VArg.val J.s)) J
 | .acall x e size f args,J=>acallV Γ x e size f (args.map (VArg.val J.s)) J
 | .copy x a b,J=>copyV x (a.val J.s) (b.val J.s) J
 | .mupd ks a k v,J=>mupdV ks (a.val J.s) (k.val J.s) (v.val J.s) J
def VStm.run(Γ:Env):VStm→St→Option St
 | .op x k args g,J=>(guardV J g).bind fun b=>bif b then opV Γ x k args J else some (J.set x (.tup []))
 | .eff e g,J=>(guardV J g).bind fun b=>bif b then e.run Γ J else some (J.void e.dst)
 | .bad,_=>none
def runs(Γ:Env):List VStm→St→Option St
 | [],J=>some J
 |st::r,J=>(st.run Γ J).bind (runs Γ r)
def dGuard(n:Nat)(ops:Array Oper)(o:Oper):Option (Option (Nat×Bool)):=
 match o.guard with
 |none=>some none
 |some (j,want)=>((ops[j]?).bind (·.dst)).bind fun x=>if x<n then some (some (x,want))else none
def dElem(P:Program)(t:Nat):Option (Nat×Nat):=
 match P.underlying t with
 |some (.slice e)=>(P.info? e).bind fun i=>if i.bytes≤8192∧i.size≤40 then(match i.zero with
  |some z=>if z.cells.size=i.size then some (e,i.size)else none
  |none=>none)else none
 |_=>none
def dEff0(P:Program)(_:Cfg)(n:Nat)(o:Oper):Option Eff:=
 match o.op,o.dst with
  | .box t v,some x=>if x<n then(isAggT P t).bind fun g=>(dArg n v).map (.box (P.cellsOf t) g x)else none
  | .alloc t,some x=>if x<n then(dZero P t).map fun z=> .box z.length true x (.c (.agg z))else none
  | .store t a v,none=>(isAggT P t).bind fun g=>(dArg n a).bind fun a=>(dArg n v).bind fun v=>if(P.info? t).isSome then some (.store (P.cellsOf t) g a v)else none
  | .makeSlice t a b,some x=>if x<n then(dElem P t).bind fun q=>(dZero P q.1).bind fun z=>(dArg n a).bind fun a=>(dArg n b).map fun b=> .mks x q.1 q.2 z a b else none
  | .buildSlice t len parts,some x=>if x<n then(dBslice P t len (parts.toList.map (·.1))).bind fun q=>((parts.toList.map (·.2)).mapM (dArg n)).map fun gs=> .lit x q.1 q.2.1 len q.2.2.1 q.2.2.2 gs else none
  | .makeMap _ none,some x=>if x<n then some (.mkm x)else none
  | .mapUpdate t m k v,none=>(dKey P t).bind fun q=>(dArg n m).bind fun m=>(dArg n k).bind fun k=>(dArg n v).map fun v=> .mupd q.1 m k v
  | .call c,some x=>if x<n then match c.callee with
   | .builtin .append=>match c.args.toList,c.argTypes.toList with
    | [a,b],[t,t']=>if t=t' then(dElem P t).bind fun q=>(dArg n a).bind fun a=>(dArg n b).map fun b=> .app x q.1 q.2 a b else none
    |_,_=>none
   |_=>none
   else none
  |_,_=>none
def dCopy(P:Program)(n:Nat)(o:Oper):Option Eff:=
 match o.op with
 | .call c=>match c.callee,c.args.toList,c.argTypes.toList with
  | .builtin .copy,[a,b],[t,_]=>match P.underlying t with
   |some (.slice e)=>if o.dst.all (fun i=>decide (i<n))=true∧(P.info? e).map (·.size)=some 1 then(dArg n a).bind fun a=>(dArg n b).map fun b=> .copy o.dst a b else none
   |_=>none
  |_,_,_=>none
 |_=>none
def dMkl(P:Program)(n:Nat)(o:Oper):Option Eff:=
 match o.op,o.dst with
 | .makeMap t none,some x=>if x<n then(match P.underlying t with
  |some (.map _ s)=>(dElem P s).map fun q=> .mkml x q.1 q.2
  |_=>none)else none
 |_,_=>none
def dClr(P:Program)(n:Nat)(o:Oper):Option Eff:=
 match o.op,o.dst with
 | .call c,none=>match c.callee,c.args.toList,c.argTypes.toList with
  | .builtin .clear,[a],[t]=>(dElem P t).bind fun q=>(dZero P q.1).bind fun z=>(dArg n a).map fun a=> .clr q.2 z a
  |_,_,_=>none
 |_,_=>none
def dEff(P:Program)(fr:Cfg)(n:Nat)(o:Oper):Option Eff:=(dMkl P n o).or ((dEff0 P fr n o).or ((dCopy P n o).or (dClr P n o)))
def dFz(P:Program)(fr:Cfg)(o:Oper):Option (PK×List Operand):=
 match o.op,o.dst with
 | .box t v,some x=>if fr.fz x then(isAggT P t).map fun _=>(.fbox (P.cellsOf t),[v])else none
 |_,_=>none
def dOp(P:Program)(fr:Cfg)(n:Nat)(ops:Array Oper)(o:Oper):Option VStm:=
 ((dPure P fr o.op).or (dFz P fr o)).bind fun q=>o.dst.bind fun x=>if x<n then(q.2.mapM (dArg n)).bind fun gs=>(dGuard n ops o).map fun g=> .op x q.1 gs g else none
def dEffG(P:Program)(fr:Cfg)(n:Nat)(ops:Array Oper)(o:Oper):Option VStm:=
 (dEff P fr n o).bind fun e=>(dGuard n ops o).map fun g=> .eff e g
def dEc(_:Program)(fr:Cfg)(n:Nat)(ops:Array Oper)(o:Oper):Option VStm:=
 match o.op,o.dst with
 | .call c,some x=>match c.callee with
  | .value (.func f)=>if x<n∧2≤fr.fr f∧fr.fr f<1000000 then(c.args.toList.mapM (dArg n)).bind fun gs=>(dGuard n ops o).map fun g=> .eff (.ecall x (fr.fr f-2) f gs) g else none
  |_=>none
 |_,_=>none
def dAc(P:Program)(fr:Cfg)(n:Nat)(ops:Array Oper)(o:Oper):Option VStm:=
 match o.op,o.dst with
 | .call c,some x=>match c.callee with
  | .value (.func f)=>if x<n∧fr.fr f=1000000 then(dElem P o.type).bind fun q=>(c.args.toList.mapM (dArg n)).bind fun gs=>(dGuard n ops o).map fun g=> .eff (.acall x q.1 q.2 f gs) g else none
  |_=>none
 |_,_=>none
def dStm(P:Program)(fr:Cfg)(n:Nat)(ops:Array Oper)(o:Oper):VStm:=((dOp P fr n ops o).or ((dEffG P fr n ops o).or ((dEc P fr n ops o).or (dAc P fr n ops o)))).getD .bad
section
variable {P : Program} {fr : Cfg} {w0 w : World} {pr : Prot} {A : Area} {n : Nat} {tk : Places} {J : St} {a : Act}
def StmOK(r:Option Nat)(P:Program)(B:Base)(n:Nat)(ops:Array Oper)(o:Oper)(J':St)(a:Act)(w:World):Prop:=
 ∀(next:Act→World→Prop) (Q:Exit→Act→World→Prop),(∀a' w',a'.defers=a.defers→RelE P B n w' a'.tmps J'→next a' w')→
  if Region.wanted o (yielded ops a.tmps)then Oper.wpR r P o a w next Q else next (a.put o.dst undef) w
theorem getElem_slot(R:Rel P w0 pr A n w a.tmps J tk){x:Nat}(hx:x<n):a.tmps[x]?=some (a.tmps.getD x undef):=by
 have:x<a.tmps.size:=by rw[R.size];exact hx
 simp[Array.getD,this]
theorem guard_sound(R:Rel P w0 pr A n w a.tmps J tk){ops:Array Oper}{o:Oper}{g:Option (Nat×Bool)}{b:Bool}(hg:dGuard n ops o=some g)(hb:guardV J g=some b):
  Region.wanted o (yielded ops a.tmps)=b:=by
 unfold dGuard at hg
 cases ho:o.guard with
 |none=>
  simp only[ho]at hg
  cases hg
  simp only[guardV]at hb
  cases hb
  simp[Region.wanted,ho]
 |some q=>
  obtain⟨j,want⟩:=q
  simp only[ho]at hg
  obtain⟨x,hx,hg⟩:=Bz.1 hg
  split at hg<;>cases hg
  rename_i hxn
  have hy:yielded ops a.tmps j=match a.tmps.getD x undef with| .bool b=>some b|_=>none:=by
   unfold yielded
   rw[hx]
   simp only[Oz,getElem_slot R hxn]
   generalize a.tmps.getD x undef=c
   cases c<;>rfl
  have hr:=R.slot x hxn
  simp only[guardV]at hb
  cases hs:J.s x<;>simp only[hs]at hb<;>try (cases hb;done)
  ·rename_i xv
   cases xv<;>simp only[]at hb<;>try (cases hb;done)
   cases hb
   rw[hs]at hr
   obtain⟨hv,_⟩:=rep_v.1 hr
   simp only[Region.wanted,ho,hy,hv]
   rename_i bb
   cases bb<;>cases want<;>rfl
  ·cases hb
   rw[hs]at hr
   generalize a.tmps.getD x undef=cc at hr hy
   cases hr
   simp only[Region.wanted,ho,hy]
   rfl
theorem run_newVar(P:Program)(w:World)(t:Nat)(v:Value):(newVar t v).run P w= .ok ⟨w.heap.size,0,none⟩ (w.alloc (.cells v.cells t)):=by
 simp[newVar,newRow]
theorem step_fz{r:Option Nat}{B:Base}(U:Under B w0 pr A){Γ:Env}{o:Oper}{k:PK}{xs:List Operand}{gs:List VArg}{d:D}{x:Nat}{next:Act→World→Prop}{Q:Exit→Act→World→Prop}
  (R:Rel P w0 pr A n w a.tmps J tk) (hd:dFz P fr o=some (k,xs)) (hgs:xs.mapM (dArg n)=some gs) (hx:o.dst=some x) (hxn:x<n)
  (hrun:k.run Γ J.m (gs.map (VArg.val J.s))=some d) (h: ∀v w',RelE P B n w' (a.put (some x) v).tmps (J.set x d)→next (a.put (some x) v) w'):Oper.wpR r P o a w next Q:=by
 unfold dFz at hd
 split at hd
 ·rename_i t v y ho hdst
  split at hd
  ·obtain⟨g,_,hd⟩:=Mz.1 hd
   cases hd
   rw[hx]at hdst;cases hdst
   simp only[List.mapM_cons,List.mapM_nil,Option.bind_eq_bind,Bz,Option.pure_def,Jz]at hgs
   obtain⟨gv,hgv,_,rfl,rfl⟩:=hgs
   simp only[List.map_cons,List.map_nil,PK.run,fboxV]at hrun
   split at hrun<;>cases hrun
   rename_i hc
   obtain⟨_,hok,hno⟩:=hc
   have hcs:=cells_of_rep (dArg_rep R hgv) hok
   generalize gv.val J.s=dv at hcs hok hno h
   refine wpR_value (by rw[ho];rfl) (show(execOp a.eval o).run P w= .ok (.value (.pointer (some ⟨w.heap.size,0,none⟩))) (w.alloc (.cells (a.eval v).cells t)) by simp[execOp,ho,Instr.box,run_newVar]) ?_
   rw[hx]
   refine h _ _ (R.called U hxn (Chg.alloc _ w _) (pr':=fun b o=>pr b o∨b=w.heap.size) (fun b o h=> .inl h) (fun b o h=>h.imp id fun h=> ?_) ?_)
   ·rw[h];exact⟨Nat.le_refl _,by simp⟩
   ·have hnew:=(Go.MapKept.heap_alloc w (.cells (a.eval v).cells t)).1
    have K:Keeps w (w.alloc (.cells (a.eval v).cells t)) pr (fun b o=>pr b o∨b=w.heap.size) tk tk:=⟨fun b o h=>⟨(Chg.alloc (fun _=>False) w _).block b (R.prw b o h) id, .inl h⟩,fun _ _ h=>h⟩
    refine .lptr (fun j=>(a.eval v).cells.getD j undef) (fun j hj=> ?_) fun j dd hdd=> ?_
    ·have hjs:j<(a.eval v).cells.size:=by rw[hcs.1];exact hj
     rw[Nat.zero_add,cell_of_row _ _ _ _ _ (0,0) hnew]
     have e:(a.eval v).cells[j]?=some ((a.eval v).cells.getD j undef):=by simp[Array.getD,hjs]
     exact⟨e, .inr rfl,hcs.2.1 _ _ e⟩
    ·have hjs:j<(a.eval v).cells.size:=by rw[hcs.1];exact(Gz.1 hdd).1
     have e:(a.eval v).cells[j]?=some ((a.eval v).cells.getD j undef):=by simp[Array.getD,hjs]
     exact rep_noTC ((hcs.2.2 j _ dd e hdd).keeps K) (Tz.1 hno dd (Lz hdd))
  ·cases hd
 ·cases hd
theorem op_sound{r:Option Nat}{B:Base}(U:Under B w0 pr A){Γ:Env}(hΓ:Sound P Γ){ops:Array Oper}{o:Oper}{x:Nat}{k:PK}{args:List VArg}{g:Option (Nat×Bool)}{J':St}(R:Rel P w0 pr A n w a.tmps J tk)
  (hd:dOp P fr n ops o=some (.op x k args g)) (hrun:(VStm.op x k args g).run Γ J=some J'):StmOK r P B n ops o J' a w:=by
 intro next Q hn
 unfold dOp at hd
 rw[Bz]at hd
 obtain⟨⟨k',xs⟩,hp,hd⟩:=hd
 rw[Bz]at hd
 obtain⟨x',hx',hd⟩:=hd
 split at hd
 ·rename_i hxn
  rw[Bz]at hd
  obtain⟨gs,hgs,hd⟩:=hd
  obtain⟨g',hg',hd⟩:=Mz.1 hd
  cases hd
  simp only[VStm.run]at hrun
  rw[Bz]at hrun
  obtain⟨b,hb,hrun⟩:=hrun
  rw[guard_sound R hg' hb]
  cases b
  ·simp only[cond_false,Jz]at hrun
   subst hrun
   simp only[Bool.false_eq_true,if_false]
   rw[hx']
   exact hn _ _ rfl ⟨_,_,_,_,R.drop hxn,U⟩
  ·simp only[cond_true,opV]at hrun
   obtain⟨d,hd,rfl⟩:=Mz.1 hrun
   simp only[if_true]
   rcases Option.or_eq_some_iff.1 hp with hp|⟨_,hp⟩
   ·cases hk:k'.simple
    ·exact step_call hΓ R U hp hk hgs hx' hxn hd fun v w' R'=>hn _ _ rfl R'
    ·exact step_pure R hp hk hgs hx' hxn hd fun v w' R'=>hn _ _ rfl ⟨_,_,_,_,R',U⟩
   ·exact step_fz U R hp hgs hx' hxn hd fun v w' R'=>hn _ _ rfl R'
 ·cases hd
theorem dElem_spec{t:Nat}{q:Nat×Nat}(h:dElem P t=some q): ∃i z,P.underlying t=some (.slice q.1)∧P.info? q.1=some i∧i.zero=some z∧z.cells.size=i.size∧i.bytes≤8192∧i.size≤40∧q.2=i.size:=by
 unfold dElem at h
 split at h
 ·rename_i e hu
  rw[Bz]at h
  obtain⟨i,hi,h⟩:=h
  split at h
  ·rename_i hc
   split at h
   ·rename_i z hz
    split at h<;>cases h
    exact⟨i,z,hu,hi,hz,by assumption,hc.1,hc.2,rfl⟩
   ·cases h
  ·cases h
 ·cases h
theorem eff_sound0{r:Option Nat}{Γ:Env}{o:Oper}{st:Eff}{J':St}(R:Rel P w0 pr A n w a.tmps J tk)
  (hd:dEff0 P fr n o=some st) (hrun:st.run Γ J=some J') (next:Act→World→Prop) (Q:Exit→Act→World→Prop) (hn: ∀a' w' tk',a'.defers=a.defers→Rel P w0 pr A n w' a'.tmps J' tk'→next a' w'):Oper.wpR r P o a w next Q:=by
 unfold dEff0 at hd
 split at hd
 ·rename_i t v x ho hdst
  split at hd
  ·rename_i hxn
   rw[Bz]at hd
   obtain⟨_,_,hd⟩:=hd
   obtain⟨av,hav,rfl⟩:=Mz.1 hd
   obtain⟨tk',R'⟩:=rel_box (t:=t) R (dArg_rep R hav) hxn hrun
   refine wpR_value (by rw[ho];rfl) (show(execOp a.eval o).run P w= .ok (.value (.pointer (some ⟨w.heap.size,0,none⟩))) (w.alloc (.cells (a.eval v).cells t)) by simp[execOp,ho,Instr.box,run_newVar]) ?_
   rw[hdst]
   exact hn _ _ _ rfl R'
  ·cases hd
 ·rename_i t x ho hdst
  split at hd
  ·rename_i hxn
   obtain⟨z,hz,rfl⟩:=Mz.1 hd
   obtain⟨i,zv,hi,hzi,hrep⟩:=dZero_spec (w:=w) (pr:=pr) (tk:=tk) hz
   have hrep':Rep w pr tk (.agg zv.cells) (.agg z):=rep_agg.2 ⟨_,rfl,hrep⟩
   obtain⟨tk',R'⟩:=rel_box (t:=t) R hrep' hxn hrun
   refine wpR_value (by rw[ho];rfl) (show(execOp a.eval o).run P w= .ok (.value (.pointer (some ⟨w.heap.size,0,none⟩))) (w.alloc (.cells zv.cells t)) by simp[execOp,ho,Instr.alloc,zeroValue,typeInfo,hi,hzi,run_newVar]) ?_
   rw[hdst]
   exact hn _ _ _ rfl R'
  ·cases hd
 ·rename_i t av v ho hdst
  rw[Bz]at hd
  obtain⟨_,_,hd⟩:=hd
  rw[Bz]at hd
  obtain⟨ga,hga,hd⟩:=hd
  rw[Bz]at hd
  obtain⟨gv,hgv,hd⟩:=hd
  split at hd<;>cases hd
  have hi:(P.info? t).isSome=true:=by assumption
  obtain⟨w',h1,R'⟩:=rel_store R (dArg_rep R hga) (dArg_rep R hgv) hi hrun
  refine wpR_skip (by rw[ho];rfl) (show(execOp a.eval o).run P w= .ok .skip w' by simp[execOp,ho,h1]) ?_
  rw[hdst]
  exact hn _ _ _ rfl R'
 ·rename_i t av bv x ho hdst
  split at hd
  ·rename_i hxn
   rw[Bz]at hd
   obtain⟨q,hq,hd⟩:=hd
   rw[Bz]at hd
   obtain⟨z,hz,hd⟩:=hd
   rw[Bz]at hd
   obtain⟨ga,hga,hd⟩:=hd
   obtain⟨gb,hgb,rfl⟩:=Mz.1 hd
   obtain⟨i,zv,hu,hi,hzi,hzs,hby,hsz,hq2⟩:=dElem_spec hq
   obtain⟨i',zv',hi',hzi',hrep⟩:=dZero_spec (w:=w) (pr:=pr) (tk:=tk) hz
   obtain rfl:i=i':=by rw[hi]at hi';exact Option.some.inj hi'
   obtain rfl:zv=zv':=by rw[hzi]at hzi';exact Option.some.inj hzi'
   simp only[Eff.run,hq2]at hrun
   obtain⟨v',w',tk',h1,R'⟩:=rel_mks R hu hi hzi hzs hrep hsz hby hxn (dArg_rep R hga) (dArg_rep R hgb) hrun
   refine wpR_value (by rw[ho];rfl) (show(execOp a.eval o).run P w= .ok (.value v') w' by simp[execOp,ho,h1]) ?_
   rw[hdst]
   exact hn _ _ _ rfl R'
  ·cases hd
 ·rename_i t len parts x ho hdst
  split at hd
  ·rename_i hxn
   rw[Bz]at hd
   obtain⟨⟨e,size,zero,places⟩,hq,hd⟩:=hd
   obtain⟨gs,hgs,rfl⟩:=Mz.1 hd
   obtain⟨v',w',tk',h1,R'⟩:=rel_lit R hq hxn (args_rep R hgs) hrun
   refine wpR_value (by rw[ho];rfl) (show(execOp a.eval o).run P w= .ok (.value v') w' by simp[execOp,ho,h1]) ?_
   rw[hdst]
   exact hn _ _ _ rfl R'
  ·cases hd
 ·rename_i t x ho hdst
  split at hd<;>cases hd
  rename_i hxn
  obtain⟨v',w',tk',h1,R'⟩:=rel_mkm (t:=t) R hxn hrun
  refine wpR_value (by rw[ho];rfl) (show(execOp a.eval o).run P w= .ok (.value v') w' by simp[execOp,ho,h1]) ?_
  rw[hdst]
  exact hn _ _ _ rfl R'
 ·rename_i t mv kv vv ho hdst
  rw[Bz]at hd
  obtain⟨⟨ks,e⟩,hq,hd⟩:=hd
  rw[Bz]at hd
  obtain⟨gm,hgm,hd⟩:=hd
  rw[Bz]at hd
  obtain⟨gk,hgk,hd⟩:=hd
  obtain⟨gv,hgv,rfl⟩:=Mz.1 hd
  obtain⟨w',h1,R'⟩:=rel_mupd R hq (dArg_rep R hgm) (dArg_rep R hgk) (dArg_rep R hgv) hrun
  refine wpR_skip (by rw[ho];rfl) (show(execOp a.eval o).run P w= .ok .skip w' by simp[execOp,ho,h1]) ?_
  rw[hdst]
  exact hn _ _ _ rfl R'
 ·rename_i c x ho hdst
  split at hd
  ·rename_i hxn
   split at hd
   ·rename_i hc
    split at hd
    ·rename_i a0 b0 t t' hargs hts
     split at hd
     ·rename_i htt
      subst htt
      rw[Bz]at hd
      obtain⟨q,hq,hd⟩:=hd
      rw[Bz]at hd
      obtain⟨ga,hga,hd⟩:=hd
      obtain⟨gb,hgb,rfl⟩:=Mz.1 hd
      obtain⟨i,zv,hu,hi,hzi,hzs,hby,hsz,hq2⟩:=dElem_spec hq
      simp only[Eff.run,hq2]at hrun
      obtain⟨v',w',tk',h1,R'⟩:=rel_app (ty:=o.type) R hu hi hzi hzs hby hxn (dArg_rep R hga) (dArg_rep R hgb) hrun
      obtain⟨callee,⟨args⟩,⟨ts⟩⟩:=c
      simp only[]at hargs hts hc
      subst hargs hts hc
      refine wpR_value (by rw[ho];rfl) (show(execOp a.eval o).run P w= .ok (.value v') w' by simp[execOp,ho,resolve,invoke,builtin,h1]) ?_
      rw[hdst]
      exact hn _ _ _ rfl R'
     ·cases hd
    ·cases hd
   ·cases hd
  ·cases hd
 ·cases hd
theorem eff_sound{r:Option Nat}{Γ:Env}{o:Oper}{st:Eff}{J':St}(R:Rel P w0 pr A n w a.tmps J tk)
  (hd:dEff P fr n o=some st) (hrun:st.run Γ J=some J') (next:Act→World→Prop) (Q:Exit→Act→World→Prop) (hn: ∀a' w' tk',a'.defers=a.defers→Rel P w0 pr A n w' a'.tmps J' tk'→next a' w'):Oper.wpR r P o a w next Q:=by
 rcases Option.or_eq_some_iff.1 hd with hd|⟨_,hd⟩
 ·unfold dMkl at hd
  split at hd
  ·rename_i t x ho hdst
   split at hd
   ·rename_i hxn
    (split at hd<;>try (cases hd;done))
    obtain⟨q,_,rfl⟩:=Mz.1 hd
    obtain⟨v',w',tk',h1,R'⟩:=rel_mkm (t:=t) R hxn hrun
    refine wpR_value (by rw[ho];rfl) (show(execOp a.eval o).run P w= .ok (.value v') w' by simp[execOp,ho,h1]) ?_
    rw[hdst]
    exact hn _ _ _ rfl R'
   ·cases hd
  ·cases hd
 rcases Option.or_eq_some_iff.1 hd with hd|⟨_,hd⟩
 ·exact eff_sound0 R hd hrun next Q hn
 rcases Option.or_eq_some_iff.1 hd with hd|⟨_,hd⟩
 rotate_left
 ·unfold dClr at hd
  split at hd
  ·rename_i c ho hdst
   split at hd
   ·rename_i a0 t hc hargs hts
    obtain⟨q,hq,hd⟩:=Bz.1 hd
    obtain⟨z,hz,hd⟩:=Bz.1 hd
    obtain⟨ga,hga,rfl⟩:=Mz.1 hd
    obtain⟨i,zv,hu,hi,hzi,hzs,hby,hsz,hq2⟩:=dElem_spec hq
    obtain⟨i',zv',hi',hzi',hzd⟩:=dZero_spec (w:=w) (pr:=pr) (tk:=tk) hz
    rw[hi]at hi';cases hi'
    rw[hzi]at hzi';cases hzi'
    simp only[Eff.run,hq2]at hrun
    obtain⟨w',h1,R'⟩:=rel_clr (ty:=o.type) R hu hi hzi hzs hzd (dArg_rep R hga) hrun
    obtain⟨callee,⟨args⟩,⟨ts⟩⟩:=c
    simp only[]at hargs hts hc
    subst hargs hts hc
    refine wpR_value (by rw[ho];rfl) (show(execOp a.eval o).run P w= .ok (.value (.tuple #[])) w' by simp[execOp,ho,resolve,invoke,builtin,h1]) ?_
    rw[hdst]
    exact hn _ _ _ rfl R'
   ·cases hd
  ·cases hd
 ·unfold dCopy at hd
  split at hd
  ·rename_i c ho
   split at hd
   ·rename_i a0 b0 t t' hc hargs hts
    split at hd
    ·rename_i e hu
     split at hd
     ·rename_i hcond
      rw[Bz]at hd
      obtain⟨ga,hga,hd⟩:=hd
      obtain⟨gb,hgb,rfl⟩:=Mz.1 hd
      simp only[Eff.run]at hrun
      obtain⟨v',w',h1,R'⟩:=rel_copy (ty:=o.type) (sT:=t') R hu hcond.2 (dArg_rep R hga) (dArg_rep R hgb) (fun i hi=>by have:=hcond.1;rw[hi]at this;simpa using this) hrun
      obtain⟨callee,⟨args⟩,⟨ts⟩⟩:=c
      simp only[]at hargs hts hc
      subst hargs hts hc
      refine wpR_value (by rw[ho];rfl) (show(execOp a.eval o).run P w= .ok (.value v') w' by simp[execOp,ho,resolve,invoke,builtin,h1]) ?_
      exact hn _ _ _ (by cases o.dst<;>rfl) R'
     ·cases hd
    ·cases hd
   ·cases hd
  ·cases hd
theorem dEff_dst0{o:Oper}{e:Eff}(h:dEff0 P fr n o=some e):e.dst=o.dst∧ ∀x,o.dst=some x→x<n:=by
 have fin: ∀{x:Nat} {e:Eff},e.dst=some x→x<n→o.dst=some x→e.dst=o.dst∧ ∀x,o.dst=some x→x<n:=fun{x e} h1 h2 h3=>⟨h1.trans h3.symm,fun y hy=>by rw[h3]at hy;cases hy;exact h2⟩
 unfold dEff0 at h
 split at h
 ·rename_i hdst
  split at h
  ·rw[Bz]at h
   obtain⟨_,_,h⟩:=h
   obtain⟨_,_,rfl⟩:=Mz.1 h;exact fin rfl (by assumption) hdst
  ·cases h
 ·rename_i hdst
  split at h
  ·obtain⟨_,_,rfl⟩:=Mz.1 h;exact fin rfl (by assumption) hdst
  ·cases h
 ·rename_i hdst
  rw[Bz]at h
  obtain⟨_,_,h⟩:=h
  rw[Bz]at h
  obtain⟨_,_,h⟩:=h
  rw[Bz]at h
  obtain⟨_,_,h⟩:=h
  split at h<;>cases h
  exact⟨hdst.symm,fun x hx=>by rw[hdst]at hx;cases hx⟩
 ·rename_i hdst
  split at h
  ·rw[Bz]at h
   obtain⟨_,_,h⟩:=h
   rw[Bz]at h
   obtain⟨_,_,h⟩:=h
   rw[Bz]at h
   obtain⟨_,_,h⟩:=h
   obtain⟨_,_,rfl⟩:=Mz.1 h;exact fin rfl (by assumption) hdst
  ·cases h
 ·rename_i hdst
  split at h
  ·rw[Bz]at h
   obtain⟨_,_,h⟩:=h
   obtain⟨_,_,rfl⟩:=Mz.1 h;exact fin rfl (by assumption) hdst
  ·cases h
 ·rename_i hdst
  split at h<;>cases h
  exact fin rfl (by assumption) hdst
 ·rename_i hdst
  rw[Bz]at h
  obtain⟨_,_,h⟩:=h
  rw[Bz]at h
  obtain⟨_,_,h⟩:=h
  rw[Bz]at h
  obtain⟨_,_,h⟩:=h
  obtain⟨_,_,rfl⟩:=Mz.1 h
  exact⟨hdst.symm,fun x hx=>by rw[hdst]at hx;cases hx⟩
 ·rename_i hdst
  split at h
  ·split at h
   ·split at h
    ·split at h
     ·rw[Bz]at h
      obtain⟨_,_,h⟩:=h
      rw[Bz]at h
      obtain⟨_,_,h⟩:=h
      obtain⟨_,_,rfl⟩:=Mz.1 h;exact fin rfl (by assumption) hdst
     ·cases h
    ·cases h
   ·cases h
  ·cases h
 ·cases h
theorem dEff_dst{o:Oper}{e:Eff}(h:dEff P fr n o=some e):e.dst=o.dst∧ ∀x,o.dst=some x→x<n:=by
 rcases Option.or_eq_some_iff.1 h with h|⟨_,h⟩
 ·unfold dMkl at h
  split at h
  ·rename_i t x ho hdst
   split at h
   ·(split at h<;>try (cases h;done))
    obtain⟨q,_,rfl⟩:=Mz.1 h
    exact⟨hdst.symm,fun y hy=>by rw[hdst]at hy;cases hy;assumption⟩
   ·cases h
  ·cases h
 rcases Option.or_eq_some_iff.1 h with h|⟨_,h⟩
 ·exact dEff_dst0 h
 rcases Option.or_eq_some_iff.1 h with h|⟨_,h⟩
 rotate_left
 ·unfold dClr at h
  split at h
  ·rename_i hdst
   split at h
   ·obtain⟨q,_,h⟩:=Bz.1 h
    obtain⟨z,_,h⟩:=Bz.1 h
    obtain⟨_,_,rfl⟩:=Mz.1 h
    exact⟨hdst.symm,fun x hx=>by rw[hdst]at hx;cases hx⟩
   ·cases h
  ·cases h
 ·unfold dCopy at h
  split at h
  ·split at h
   ·split at h
    ·split at h
     ·rename_i hc
      rw[Bz]at h
      obtain⟨_,_,h⟩:=h
      obtain⟨_,_,rfl⟩:=Mz.1 h
      exact⟨rfl,fun x hx=>by have:=hc.1;rw[hx]at this;simpa using this⟩
     ·cases h
    ·cases h
   ·cases h
  ·cases h
theorem Rel.void(R:Rel P w0 pr A n w a.tmps J tk){dst:Option Nat}(h: ∀x,dst=some x→x<n):Rel P w0 pr A n w (a.put dst undef).tmps (J.void dst) tk:=by
 cases dst with
 |none=>exact R
 |some x=>exact R.drop (h x rfl)
theorem stm_sound{r:Option Nat}{B:Base}{Γ:Env}(hΓ:Sound P Γ){ops:Array Oper}{o:Oper}{J':St}(RE:RelE P B n w a.tmps J)(hrun:(dStm P fr n ops o).run Γ J=some J'):StmOK r P B n ops o J' a w:=by
 obtain⟨w1,pr,A,tk,R,U⟩:=RE
 unfold dStm at hrun
 cases h:dOp P fr n ops o with
 |none=>
  cases h2:dEffG P fr n ops o with
  |none=>
   cases h3:dEc P fr n ops o with
   |none=>
    cases h4:dAc P fr n ops o with
    |none=>rw[h,h2,h3,h4]at hrun;cases hrun
    |some st=>
     rw[h,h2,h3,h4]at hrun
     unfold dAc at h4
     split at h4
     ·rename_i c x ho hdst
      split at h4
      ·rename_i f hcal
       split at h4
       ·rename_i hc
        obtain⟨q,hq,h4⟩:=Bz.1 h4
        obtain⟨gs,hgs,h4⟩:=Bz.1 h4
        obtain⟨g,hg,rfl⟩:=Mz.1 h4
        simp only[Option.none_or,Option.getD_some,VStm.run]at hrun
        rw[Bz]at hrun
        obtain⟨b,hb,hrun⟩:=hrun
        intro next Q hn
        rw[guard_sound R hg hb]
        cases b
        ·simp only[cond_false,Jz]at hrun
         subst hrun
         simp only[Bool.false_eq_true,if_false]
         rw[hdst]
         exact hn _ _ rfl ⟨_,_,_,_,R.void (dst:=some x) (fun y hy=>by cases hy;exact hc.1),U⟩
        ·simp only[cond_true]at hrun
         simp only[if_true]
         exact step_acall hΓ R U ho hcal hgs hdst hc.1 hrun fun v w' R'=>hn _ _ rfl R'
       ·cases h4
      ·cases h4
     ·cases h4
   |some st=>
    rw[h,h2,h3]at hrun
    unfold dEc at h3
    split at h3
    ·rename_i c x ho hdst
     split at h3
     ·rename_i f hcal
      split at h3
      ·rename_i hc
       obtain⟨gs,hgs,h3⟩:=Bz.1 h3
       obtain⟨g,hg,rfl⟩:=Mz.1 h3
       simp only[Option.none_or,Option.some_or,Option.getD_some,VStm.run]at hrun
       rw[Bz]at hrun
       obtain⟨b,hb,hrun⟩:=hrun
       intro next Q hn
       rw[guard_sound R hg hb]
       cases b
       ·simp only[cond_false,Jz]at hrun
        subst hrun
        simp only[Bool.false_eq_true,if_false]
        rw[hdst]
        exact hn _ _ rfl ⟨_,_,_,_,R.void (dst:=some x) (fun y hy=>by cases hy;exact hc.1),U⟩
       ·simp only[cond_true]at hrun
        simp only[if_true]
        exact step_ecall hΓ R U ho hcal hgs hdst hc.1 (by have:=hc.2.2;omega) hrun fun v w' R'=>hn _ _ rfl R'
      ·cases h3
     ·cases h3
    ·cases h3
  |some st=>
   rw[h,h2]at hrun
   unfold dEffG at h2
   rw[Bz]at h2
   obtain⟨e,he,h2⟩:=h2
   obtain⟨g,hg,rfl⟩:=Mz.1 h2
   simp only[Option.none_or,Option.some_or,Option.getD_some,VStm.run]at hrun
   rw[Bz]at hrun
   obtain⟨b,hb,hrun⟩:=hrun
   obtain⟨hds,hlt⟩:=dEff_dst he
   intro next Q hn
   rw[guard_sound R hg hb]
   cases b
   ·simp only[cond_false,Jz]at hrun
    subst hrun
    simp only[Bool.false_eq_true,if_false]
    rw[hds]at*
    exact hn _ _ (by cases o.dst<;>rfl) ⟨_,_,_,_,R.void hlt,U⟩
   ·simp only[cond_true]at hrun
    simp only[if_true]
    exact eff_sound R he hrun next Q fun a' w' tk' hd R'=>hn a' w' hd ⟨_,_,_,_,R',U⟩
 |some st=>
  rw[h]at hrun
  have hst: ∃x k args g,st= .op x k args g:=by
   unfold dOp at h
   rw[Bz]at h
   obtain⟨q,_,h⟩:=h
   rw[Bz]at h
   obtain⟨x,_,h⟩:=h
   split at h
   ·rw[Bz]at h
    obtain⟨gs,_,h⟩:=h
    obtain⟨g,_,h⟩:=Mz.1 h
    exact⟨_,_,_,_,h.symm⟩
   ·cases h
  obtain⟨x,k,args,g,rfl⟩:=hst
  exact op_sound U hΓ R h hrun
def dReg(P:Program)(fr:Cfg)(n:Nat)(ops:Array Oper):List VStm:=ops.toList.map (dStm P fr n ops)
abbrev wpOpsR(r:Option Nat)(P:Program)(ops:Array Oper)(Q:Exit→Act→World→Prop):=wpOpsIn (wF r) 0 P ops Q
theorem wpOps_cons{r:Option Nat}{ops:Array Oper}{Q:Exit→Act→World→Prop}{k:Nat}{o:Oper}{tail:List Nat}{w:World}{a:Act}(ho:ops[k]?=some o)
  (h:if Region.wanted o (yielded ops a.tmps)then Oper.wpR r P o a w (wpOpsR r P ops Q tail) Q else wpOpsR r P ops Q tail (a.put o.dst undef) w):wpOpsR r P ops Q (k::tail) a w:=by
 simp only[wpOpsR,wpOpsIn,ho]
 split
 ·rename_i hw
  rw[if_pos hw]at h
  exact h
 ·rename_i hw
  rw[if_neg hw]at h
  exact⟨fun _ _=>trivial,h⟩
theorem range_sound{r:Option Nat}{B:Base}{Γ:Env}(hΓ:Sound P Γ){ops:Array Oper}{Q:Exit→Act→World→Prop}{tail:List Nat}: ∀(l:List Oper) (k:Nat),(∀j,j<l.length→l[j]?=ops[k+j]?)→
  ∀{w:World} {a:Act} {J J':St},RelE P B n w a.tmps J→runs Γ (l.map (dStm P fr n ops)) J=some J'→
  (∀a' w',a'.defers=a.defers→RelE P B n w' a'.tmps J'→wpOpsR r P ops Q tail a' w')→wpOpsR r P ops Q (List.range' k l.length++tail) a w
 | [],k,_,w,a,J,J',R,hr,hQ=>by
  cases hr
  exact hQ a w rfl R
 |o::l,k,hl,w,a,J,J',R,hr,hQ=>by
  simp only[List.map_cons,runs]at hr
  rw[Bz]at hr
  obtain⟨J1,h1,h2⟩:=hr
  have ho:ops[k]?=some o:=by have:=hl 0 (by simp);simpa using this.symm
  have:=stm_sound (r:=r) hΓ R h1 (wpOpsR r P ops Q (List.range' (k+1) l.length++tail)) Q fun a' w' hdf R'=>
   range_sound hΓ l (k+1) (fun j hj=>by have:=hl (j+1) (by simpa using hj);simpa[Nat.add_assoc,Nat.add_comm 1 j]using this) R' h2 fun a2 w2 hdf2 R2=>hQ a2 w2 (hdf2.trans hdf) R2
  exact wpOps_cons ho this
abbrev Code.wpR(r:Option Nat)(P:Program)(c:Code)(Q:Exit→Act→World→Prop)(a:Act)(w:World):Prop:=c.wpIn (wF r) 0 P Q a w
theorem region_sound{r:Option Nat}{B:Base}{Γ:Env}(hΓ:Sound P Γ){ops:Array Oper}{id:Nat}{Q:Exit→Act→World→Prop}{J':St}(R:RelE P B n w a.tmps J)
  (hr:runs Γ (dReg P fr n ops) J=some J') (hQ: ∀a' w',a'.defers=a.defers→RelE P B n w' a'.tmps J'→Q .normal a' w'):
  Code.wpR r P (Code.region id ops false) Q a w:=by
 apply wpIn_region
 have:=range_sound (r:=r) (Q:=Q) (tail:= []) hΓ ops.toList 0 (by simp) R hr hQ
 rw[List.range_eq_range']
 simpa using this
end
end
section
def VArg.reads:VArg→List Nat
 | .t i=> [i]
 | .c _=> []
def guardReads:Option (Nat×Bool)→List Nat
 |some (j,_)=> [j]
 |none=> []
def Eff.reads:Eff→List Nat
 | .box _ _ _ a=>a.reads
 | .store _ _ a v=>a.reads++v.reads
 | .app _ _ _ a b=>a.reads++b.reads
 | .mks _ _ _ _ a b=>a.reads++b.reads
 | .lit _ _ _ _ _ _ args=>args.flatMap VArg.reads
 | .mkm _| .mkml .. => []
 | .ecall _ _ _ args=>args.flatMap VArg.reads
 | .acall _ _ _ _ args=>args.flatMap VArg.reads
 | .clr _ _ a=>a.reads
 | .copy _ a b=>a.reads++b.reads
 | .mupd _ a k v=>a.reads++k.reads++v.reads
def VStm.reads:VStm→List Nat
 | .op _ _ args g=>args.flatMap VArg.reads++guardReads g
 | .eff e g=>e.reads++guardReads g
 | .bad=> []
def VStm.dst:VStm→Option Nat
 | .op x .. =>some x
 | .eff e _=>e.dst
 | .bad=>none
def PK.readsMem:PK→Bool
 | .load .. | .call _| .ccall| .slc .. | .lkp .. | .ent=>true
 |_=>false
def Eff.news:Eff→Bool
 | .box .. | .mks .. | .lit .. | .mkm _| .mkml .. | .acall .. =>true
 |_=>false
def VStm.news:VStm→Bool
 | .eff e _=>e.news
 |_=>false
def apart(a b:VStm):Bool:=
 (match a.dst with|some x=> !b.reads.contains x|none=>true)&&(match b.dst with|some y=> !a.reads.contains y|none=>true)&&(match a.dst,b.dst with|some x,some y=>x !=y|_,_=>true)
def indep(a b:VStm):Bool:=
 apart a b&&match a with
 | .op _ k _ _=>(match b with| .op .. =>true|_=>false)||b.news|| !k.readsMem
 |_=>false
def WF(J:St):Prop:= ∀x k r,J.c x≤k→J.m ((x+1)::k::r)=none
def MSub(m m':Mem):Prop:= ∀t o,m t=some o→m' t=some o
section
variable {Γ : Env}
theorem val_congr{s s':Nat→D}{g:VArg}(h: ∀j∈g.reads,s' j=s j):g.val s'=g.val s:=by
 cases g with
 |t i=>exact h i (by simp[VArg.reads])
 |c d=>rfl
theorem vals_congr{s s':Nat→D}{gs:List VArg}(h: ∀j∈gs.flatMap VArg.reads,s' j=s j):gs.map (VArg.val s')=gs.map (VArg.val s):=
 List.map_congr_left fun g hg=>val_congr fun j hj=>h j (List.mem_flatMap.2 ⟨g,hg,hj⟩)
theorem elems_mono{m m':Mem}(h:MSub m m'){d:D}{es:List (List D)}(he:d.elems m=some es):d.elems m'=some es:=by
 cases d<;>simp only[D.elems]at he⊢ <;>try exact he
 rename_i t size off len lim
 split at he
 ·rename_i g e es0 hm
  rw[h _ _ hm]
  exact he
 ·rename_i xs hm
  rw[h _ _ hm]
  exact he
 ·cases he
theorem mapM_mono{f g:D→Option D}(h: ∀d d',f d=some d'→g d=some d'): ∀{l l':List D},l.mapM f=some l'→l.mapM g=some l'
 | [],l',e=>by simpa using e
 |a::l,l',e=>by
  simp only[List.mapM_cons,Option.bind_eq_bind,Bz,Option.pure_def,Jz]at e⊢
  obtain⟨b,hb,r,hr,rfl⟩:=e
  exact⟨b,h _ _ hb,r,mapM_mono h hr,rfl⟩
theorem viewRow_mono{f g:D→Option D}(h: ∀d d',f d=some d'→g d=some d'){c c':List D}(e:viewRow f c=some c'):viewRow g c=some c':=by
 unfold viewRow at e⊢
 split at e
 ·rename_i hc;rw[if_pos hc];exact e
 ·rename_i hc;rw[if_neg hc];exact mapM_mono h e
theorem viewRows_mono{f g:D→Option D}(h: ∀d d',f d=some d'→g d=some d'){c c':List (List D)}(e:viewRows f c=some c'):viewRows g c=some c':=by
 unfold viewRows at e⊢
 split at e
 ·rename_i hc;rw[if_pos hc];exact e
 ·rename_i hc
  rw[if_neg hc]
  have: ∀{l l':List (List D)},l.mapM (viewRow f)=some l'→l.mapM (viewRow g)=some l':=by
   intro l
   induction l with
   |nil=>intro l' e;simpa using e
   |cons a l ih=>
    intro l' e
    simp only[List.mapM_cons,Option.bind_eq_bind,Bz,Option.pure_def,Jz]at e⊢
    obtain⟨b,hb,r,hr,rfl⟩:=e
    exact⟨b,viewRow_mono h hb,r,ih hr,rfl⟩
  exact this e
theorem viewC_mono{m m':Mem}(h:MSub m m'): ∀(n:Nat) (d d':D),viewC m n d=some d'→viewC m' n d=some d'
 |0,_,_,e=>by simp[viewC]at e
 |n+1,d,d',e=>by
  have ih:=viewC_mono h n
  cases d<;>simp only[viewC]at e⊢ <;>try exact e
  case sl t size off len lim=>
   rw[Bz]at e⊢
   obtain⟨es,he,e⟩:=e
   obtain⟨es',hv,rfl⟩:=Mz.1 e
   exact⟨es,elems_mono h he,by rw[viewRows_mono ih hv];rfl⟩
  case ptr t off=>
   split at e
   ·rename_i xs hm
    rw[h _ _ hm]
    split at e
    ·rename_i hc
     obtain⟨c',hv,rfl⟩:=Mz.1 e
     simp only[if_pos hc,viewRow_mono ih hv,Pz]
    ·cases e
   ·cases e
  case mp t=>
   split at e
   ·rename_i es hm
    rw[h _ _ hm]
    exact e
   ·cases e
  case rptr t size i j=>
   split at e
   ·rename_i g e0 es hm
    rw[h _ _ hm]
    rw[Bz]at e
    obtain⟨c,hc,e⟩:=e
    split at e
    ·rename_i hcond
     obtain⟨c',hv,rfl⟩:=Mz.1 e
     simp only[hc,Oz,if_pos hcond,viewRow_mono ih hv,Pz]
    ·cases e
   ·cases e
  case clo f xs=>
   obtain⟨c',hv,rfl⟩:=Mz.1 e
   rw[viewRow_mono ih hv];rfl
theorem viewA_mono{m m':Mem}(h:MSub m m'){d d':D}(e:viewA m d=some d'):viewA m' d=some d':=by
 cases d
 case agg xs=>
  obtain⟨c',hv,rfl⟩:=Mz.1 e
  simp only[viewA,viewRow_mono (viewC_mono h 6) hv,Pz]
 all_goals (simp only[viewA]at e⊢;exact viewC_mono h 6 _ d' e)
theorem callV_mono{m m':Mem}(h:MSub m m'){f:Nat}{ds:List D}{d:D}(e:callV Γ m f ds=some d):callV Γ m' f ds=some d:=by
 unfold callV at e⊢
 rw[Bz]at e⊢
 obtain⟨as,ha,e⟩:=e
 exact⟨as,mapM_mono (fun _ _=>viewA_mono h) ha,e⟩
theorem run_mono_mem{m m':Mem}(h:MSub m m'){k:PK}{ds:List D}{d:D}(e:k.run Γ m ds=some d):k.run Γ m' ds=some d:=by
 cases k<;>try exact e
 case load n agg=>
  simp only[PK.run]at e⊢
  unfold loadV at e⊢
  split at e
  ·exact e
  ·split at e
   ·rename_i xs hm
    simp only[h _ _ hm]
    exact e
   ·cases e
  ·split at e
   ·rename_i g e0 es hm
    simp only[h _ _ hm]
    exact e
   ·rename_i xs hm
    simp only[h _ _ hm]
    exact e
   ·cases e
  ·cases e
 case slc size lo hi mx=>
  simp only[PK.run]at e⊢
  unfold slcV at e⊢
  split at e
  ·rename_i t size' off len lim r
   rw[Bz]at e⊢
   obtain⟨l,hl,e⟩:=e
   refine⟨l,hl, ?_⟩
   rw[Bz]at e⊢
   obtain⟨q,hq,e⟩:=e
   refine⟨q,hq, ?_⟩
   split at e
   ·rename_i hc
    obtain⟨h1,h2,h3,h4⟩:=hc
    rw[if_pos ⟨h1,h2,h3.imp id (fun hr=>by
     unfold roomV at hr⊢
     split at hr
     ·rename_i hm;rw[h _ _ hm];exact hr
     ·cases hr),h4⟩]
    exact e
   ·cases e
  ·exact e
  ·cases e
 case lkp ks z ok=>
  simp only[PK.run]at e⊢
  unfold lkpV at e⊢
  split at e
  ·split at e
   ·rename_i hm
    simp only[h _ _ hm]
    exact e
   ·cases e
  ·exact e
  ·cases e
 case ent=>
  simp only[PK.run]at e⊢
  unfold entV at e⊢
  split at e
  ·split at e
   ·rename_i hm
    split at e
    ·rename_i hm2
     simp only[h _ _ hm,h _ _ hm2]
     exact e
    ·cases e
   ·cases e
  ·cases e
 case call f=>exact callV_mono h e
 case ccall=>
  simp only[PK.run,ccallV]at e⊢
  split at e
  ·split at e
   ·rename_i hc
    rw[if_pos hc]
    exact callV_mono h e
   ·cases e
  ·cases e
theorem run_mem_any{m m':Mem}{k:PK}(hk:k.readsMem=false)(ds:List D):k.run Γ m ds=k.run Γ m' ds:=by
 cases k<;>first|rfl|(simp[PK.readsMem]at hk;done)
theorem St.ext'{J τ:St}(h1:J.s=τ.s)(h2:J.m=τ.m)(h3:J.c=τ.c):J=τ:=by
 cases J;cases τ;simp only at h1 h2 h3;subst h1;subst h2;subst h3;rfl
theorem set_set{J:St}{x y:Nat}{d e:D}(h:x≠y):(J.set x d).set y e=(J.set y e).set x d:=by
 refine St.ext' ?_ rfl rfl
 funext j
 simp only[St.set]
 by_cases hj:j=y
 ·subst hj;simp[Ne.symm h]
 ·simp[hj]
theorem St.set_val{J:St}{x:Nat}{d:D}{g:VArg}(h:x∉g.reads):g.val (J.set x d).s=g.val J.s:=
 val_congr fun _ hj=>St.set_ne _ _ fun e=>h (e▸hj)
theorem St.set_vals{J:St}{x:Nat}{d:D}{gs:List VArg}(h:x∉gs.flatMap VArg.reads):gs.map (VArg.val (J.set x d).s)=gs.map (VArg.val J.s):=
 vals_congr fun _ hj=>St.set_ne _ _ fun e=>h (e▸hj)
theorem guard_congr{J τ:St}{g:Option (Nat×Bool)}(h: ∀j want,g=some (j,want)→τ.s j=J.s j):guardV τ g=guardV J g:=by
 cases g with
 |none=>rfl
 |some q=>obtain⟨j,want⟩:=q;simp only[guardV,h j want rfl]
theorem St.new_set{J:St}{x y:Nat}{o:HO}{d e:D}(h:x≠y):(J.set x d).new y o e=(J.new y o e).set x d:=by
 refine St.ext' ?_ rfl rfl
 funext j
 simp only[St.new,St.inc_s,St.set,St.put_s]
 by_cases hj:j=y
 ·subst hj;simp[Ne.symm h]
 ·simp[hj]
theorem St.new_s{J:St}{y j:Nat}{o:HO}{e:D}(h:j≠y):(J.new y o e).s j=J.s j:=by simp[St.new,St.set,h]
@[simp] theorem St.tok_set{J:St}{x y:Nat}{d:D}:(J.set x d).tok y=J.tok y:=rfl
theorem ecall_set{x y k f:Nat}{ds:List D}{J J2:St}{d:D}(hy:x≠y)(h:ecallV Γ y k f ds (J.set x d)=some J2): ∃J3,ecallV Γ y k f ds J=some J3∧J2=J3.set x d∧ ∀j,j≠y→J3.s j=J.s j:=by
 unfold ecallV at h⊢
 split at h
 ·rename_i hc
  rw[if_pos hc]
  split at h
  ·obtain⟨q,hq,h⟩:=Bz.1 h
   simp only[hq,Oz]
   split at h
   ·split at h<;>cases h
    rename_i hd
    exact⟨_,if_pos hd,set_set hy,fun j hj=>St.set_ne _ _ hj⟩
   ·cases h
  ·simp only[St.set_m]at h
   split at h
   ·split at h
    ·rename_i hcc
     obtain⟨q,hq,h⟩:=Bz.1 h
     simp only[hcc,and_self,if_true,hq,Oz]
     split at h
     ·split at h<;>cases h
      rename_i hd
      refine⟨_,if_pos hd, ?_,fun j hj=>St.set_ne _ _ hj⟩
      exact set_set (J:=(J.strike _ 0).put _ _) hy
     ·cases h
    ·cases h
   ·cases h
  ·cases h
 ·cases h
theorem frame_eff{b:Eff}{J J2:St}{x:Nat}{d:D}(h:b.run Γ (J.set x d)=some J2)(h1:x∉b.reads)(h2:b.dst≠some x):
  ∃J3,b.run Γ J=some J3∧J2=J3.set x d∧ ∀j,b.dst≠some j→J3.s j=J.s j:=by
 cases b with
 |box _ _ y a=>
  have hy:x≠y:=fun e=>h2 (by simp[Eff.dst,e])
  simp only[Eff.run,St.set_val (show x∉a.reads from h1)]at h⊢
  unfold boxV at h⊢
  simp only[St.tok_set]at h
  split at h<;>cases h
  rename_i hc
  exact⟨_,by rw[if_pos hc],St.new_set hy,fun j hj=>St.new_s fun e=>hj (by simp[Eff.dst,e])⟩
 |store k _ a v=>
  simp only[Eff.reads,List.mem_append,not_or]at h1
  simp only[Eff.run,St.set_val h1.1,St.set_val h1.2]at h⊢
  generalize a.val J.s=av at h⊢
  generalize v.val J.s=vv at h⊢
  unfold storeV at h⊢
  split at h
  ·simp only[St.set_m]at h
   split at h
   ·split at h<;>cases h
    rename_i hc
    exact⟨_,if_pos hc,rfl,fun _ _=>rfl⟩
   ·cases h
  ·simp only[St.set_m]at h
   split at h
   ·rw[Bz]at h
    obtain⟨c,hc,h⟩:=h
    split at h<;>cases h
    rename_i hcc
    rw[hc]
    exact⟨_,if_pos hcc,rfl,fun _ _=>rfl⟩
   ·split at h<;>cases h
    rename_i hc
    exact⟨_,if_pos hc,rfl,fun _ _=>rfl⟩
   ·cases h
  ·cases h
 |app y e size a b=>
  simp only[Eff.reads,List.mem_append,not_or]at h1
  have hy:x≠y:=fun e=>h2 (by simp[Eff.dst,e])
  simp only[Eff.run,St.set_val h1.1,St.set_val h1.2]at h⊢
  generalize a.val J.s=av at h⊢
  generalize b.val J.s=bv at h⊢
  unfold appV at h⊢
  simp only[St.set_m,St.tok_set]at h
  rw[Bz]at h
  obtain⟨es,hes,h⟩:=h
  simp only[hes,Oz]
  split at h
  ·cases h
  rename_i hall
  rw[if_neg hall]
  have fin: ∀{J3:St},J2=J3.set x d→(∀j,j≠y→J3.s j=J.s j)→ ∃J4,some J3=some J4∧J2=J4.set x d∧ ∀j,(Eff.app y e size a b).dst≠some j→J4.s j=J.s j:=fun{J3} e1 e2=>⟨J3,rfl,e1,fun j hj=>e2 j fun e=>hj (by simp[Eff.dst,e])⟩
  split at h
  ·split at h
   ·rename_i h0
    cases h
    simp only[h0,if_true]
    exact fin (set_set hy) fun j hj=>St.set_ne _ _ hj
   ·rename_i h0
    split at h<;>cases h
    rename_i hc
    simp only[h0,hc,if_true,Bool.false_eq_true,if_false]
    exact fin (St.new_set hy) fun j hj=>St.new_s hj
  ·split at h
   ·rename_i h0
    cases h
    simp only[h0,if_true]
    exact fin (set_set hy) fun j hj=>St.set_ne _ _ hj
   ·rename_i h0
    split at h
    ·simp only[h0,Bool.false_eq_true,if_false]
     split at h
     ·rename_i hcond
      rw[if_pos hcond]
      split at h
      ·split at h<;>cases h
       rename_i hoff
       simp only[hoff,if_true]
       exact fin (by rw[show(J.set x d).strike _ _=(J.strike _ _).set x d from rfl];exact St.new_set hy) fun j hj=>by rw[St.new_s hj];rfl
      ·split at h<;>cases h
       rename_i hlt
       simp only[hlt,if_true]
       exact fin (St.new_set hy) fun j hj=>St.new_s hj
     ·cases h
    ·cases h
  ·cases h
 |mks y e size zero a b=>
  simp only[Eff.reads,List.mem_append,not_or]at h1
  have hy:x≠y:=fun e=>h2 (by simp[Eff.dst,e])
  simp only[Eff.run,St.set_val h1.1,St.set_val h1.2]at h⊢
  generalize a.val J.s=av at h⊢
  generalize b.val J.s=bv at h⊢
  unfold mksV at h⊢
  simp only[St.tok_set]at h
  split at h
  ·split at h<;>cases h
   rename_i hc
   exact⟨_,by rw[if_pos hc],St.new_set hy,fun j hj=>St.new_s fun e=>hj (by simp[Eff.dst,e])⟩
  ·cases h
 |lit y e size len zero places args=>
  have hy:x≠y:=fun e=>h2 (by simp[Eff.dst,e])
  simp only[Eff.run,St.set_vals (show x∉args.flatMap VArg.reads from h1)]at h⊢
  unfold litV at h⊢
  simp only[St.tok_set]at h
  split at h
  ·rename_i hall
   rw[if_pos hall]
   rw[Bz]at h
   obtain⟨cs,hcs,h⟩:=h
   simp only[hcs,Oz]
   split at h<;>cases h
   rename_i hc
   exact⟨_,by rw[if_pos hc],St.new_set hy,fun j hj=>St.new_s fun e=>hj (by simp[Eff.dst,e])⟩
  ·cases h
 |mkm y=>
  have hy:x≠y:=fun e=>h2 (by simp[Eff.dst,e])
  cases h
  exact⟨_,rfl,St.new_set hy,fun j hj=>St.new_s fun e=>hj (by simp[Eff.dst,e])⟩
 |mkml y e s=>
  have hy:x≠y:=fun e=>h2 (by simp[Eff.dst,e])
  cases h
  exact⟨_,rfl,St.new_set hy,fun j hj=>St.new_s fun e=>hj (by simp[Eff.dst,e])⟩
 |clr s z a=>
  simp only[Eff.reads]at h1
  simp only[Eff.run,St.set_val h1]at h⊢
  generalize a.val J.s=av at h⊢
  unfold clrV at h⊢
  split at h
  ·cases h;exact⟨_,rfl,rfl,fun _ _=>rfl⟩
  ·cases h;exact⟨_,rfl,rfl,fun _ _=>rfl⟩
  ·cases h;exact⟨_,rfl,rfl,fun _ _=>rfl⟩
  ·split at h
   ·rename_i h0
    cases h;exact⟨_,if_pos h0,rfl,fun _ _=>rfl⟩
   ·rename_i h0
    simp only[St.set_m]at h
    split at h
    ·split at h<;>cases h
     rename_i hm hc
     simp only[if_neg h0]
     exact⟨_,if_pos hc,rfl,fun _ _=>rfl⟩
    ·cases h
  ·cases h
 |ecall y k f args=>
  have hy:x≠y:=fun e=>h2 (by simp[Eff.dst,e])
  simp only[Eff.run,St.set_vals (show x∉args.flatMap VArg.reads from h1)]at h⊢
  obtain⟨J3,g1,g2,g3⟩:=ecall_set hy h
  exact⟨J3,g1,g2,fun j hj=>g3 j fun e=>hj (by simp[Eff.dst,e])⟩
 |acall y e sz f args=>
  have hy:x≠y:=fun e=>h2 (by simp[Eff.dst,e])
  simp only[Eff.run,St.set_vals (show x∉args.flatMap VArg.reads from h1)]at h⊢
  generalize args.map (VArg.val J.s)=as at h⊢
  unfold acallV at h⊢
  split at h
  ·rename_i hc0
   rw[if_pos hc0]
   obtain⟨q,hq,h⟩:=Bz.1 h
   rw[hq,Oz]
   split at h
   ·rename_i hq1
    split at h<;>cases h
    rename_i hc
    first
     |exact⟨_,if_pos hc,St.new_set hy,fun j hj=>St.new_s fun e=>hj (by simp[Eff.dst,e])⟩
     |(simp only[hq1];exact⟨_,if_pos hc,St.new_set hy,fun j hj=>St.new_s fun e=>hj (by simp[Eff.dst,e])⟩)
   ·cases h
  ·cases h
 |copy y a b=>
  simp only[Eff.reads,List.mem_append,not_or]at h1
  simp only[Eff.run,St.set_val h1.1,St.set_val h1.2]at h⊢
  generalize a.val J.s=av at h⊢
  generalize b.val J.s=bv at h⊢
  unfold copyV at h⊢
  split at h
  ·simp only[St.set_m]at h
   split at h
   ·split at h
    ·rename_i hc
     rw[if_pos hc]
     cases y with
     |none=>cases h;exact⟨_,rfl,rfl,fun _ _=>rfl⟩
     |some y=>
      cases h
      have hy:x≠y:=fun e=>h2 (by simp[Eff.dst,e])
      exact⟨_,rfl,(show((J.put _ _).set x d).set y _=((J.put _ _).set y _).set x d from set_set hy),fun j hj=>St.set_ne _ _ fun e=>hj (by simp[Eff.dst,e])⟩
    ·cases h
   ·cases h
  ·cases h
 |mupd ks a k v=>
  simp only[Eff.reads,List.mem_append,not_or]at h1
  simp only[Eff.run,St.set_val h1.1.1,St.set_val h1.1.2,St.set_val h1.2]at h⊢
  generalize a.val J.s=av at h⊢
  generalize k.val J.s=kv at h⊢
  generalize v.val J.s=vv at h⊢
  unfold mupdV at h⊢
  split at h
  ·simp only[St.set_m]at h
   split at h
   ·split at h
    ·rename_i hm hok
     rw[if_pos hok]
     rw[Bz]at h
     obtain⟨r,hr,h⟩:=h
     simp only[hr,Oz]
     split at h
     ·obtain⟨p,hp,rfl⟩:=Mz.1 h
      simp only[hp,Pz]
      exact⟨_,rfl,rfl,fun _ _=>rfl⟩
     ·split at h<;>cases h
      rename_i hlt
      exact⟨_,if_pos hlt,rfl,fun _ _=>rfl⟩
    ·cases h
   ·cases h
  ·cases h
theorem frame_set{b:VStm}{J J2:St}{x:Nat}{d:D}(h:b.run Γ (J.set x d)=some J2)(h1:x∉b.reads)(h2:b.dst≠some x):
  ∃J3,b.run Γ J=some J3∧J2=J3.set x d∧ ∀j,b.dst≠some j→J3.s j=J.s j:=by
 cases b with
 |op y k args g=>
  simp only[VStm.reads,List.mem_append,not_or]at h1
  have hy:x≠y:=fun e=>h2 (by simp[VStm.dst,e])
  have hg:guardV (J.set x d) g=guardV J g:=guard_congr fun j want e=>St.set_ne _ _ fun e2=>h1.2 (by simp[guardReads,e,e2])
  simp only[VStm.run,hg,opV,St.set_m,St.set_vals h1.1]at h⊢
  rw[Bz]at h
  obtain⟨c,hc,h⟩:=h
  rw[hc]
  cases c
  ·simp only[cond_false,Jz]at h
   exact⟨J.set y (.tup []),by simp,by rw[←h];exact set_set hy,fun j hj=>St.set_ne _ _ fun e=>hj (by simp[VStm.dst,e])⟩
  ·simp only[cond_true]at h
   obtain⟨v,hv,rfl⟩:=Mz.1 h
   exact⟨_,by simp[hv],set_set hy,fun j hj=>St.set_ne _ _ fun e=>hj (by simp[VStm.dst,e])⟩
 |eff e g=>
  simp only[VStm.reads,List.mem_append,not_or]at h1
  have hg:guardV (J.set x d) g=guardV J g:=guard_congr fun j want e=>St.set_ne _ _ fun e2=>h1.2 (by simp[guardReads,e,e2])
  simp only[VStm.run,hg]at h⊢
  rw[Bz]at h
  obtain⟨c,hc,h⟩:=h
  rw[hc]
  cases c
  ·simp only[cond_false,Jz]at h
   subst h
   refine⟨J.void e.dst,rfl, ?_,fun j hj=> ?_⟩
   ·cases hd:e.dst with
    |none=>rfl
    |some y=>exact set_set fun e2=>h2 (by simp[VStm.dst,hd,e2])
   ·cases hd:e.dst with
    |none=>rfl
    |some y=>exact St.set_ne _ _ fun e2=>hj (by simp[VStm.dst,hd,e2])
  ·exact frame_eff (Γ:=Γ) h h1.1 h2
 |bad=>cases h
theorem op_run_congr{x:Nat}{k:PK}{args:List VArg}{g:Option (Nat×Bool)}{J J':St}(h:(VStm.op x k args g).run Γ J=some J'):
  ∃d,J'=J.set x d∧ ∀τ:St,(∀j∈(VStm.op x k args g).reads,τ.s j=J.s j)→(MSub J.m τ.m∨k.readsMem=false)→(VStm.op x k args g).run Γ τ=some (τ.set x d):=by
 have key: ∀τ:St,(∀j∈(VStm.op x k args g).reads,τ.s j=J.s j)→args.map (VArg.val τ.s)=args.map (VArg.val J.s)∧guardV τ g=guardV J g:=fun τ heq=>
  ⟨vals_congr fun j hj=>heq j (by simp only[VStm.reads,List.mem_append];exact .inl hj),guard_congr fun j want e=>heq j (by simp[VStm.reads,guardReads,e])⟩
 simp only[VStm.run]at h
 rw[Bz]at h
 obtain⟨b,hb,h⟩:=h
 cases b
 ·simp only[cond_false,Jz]at h
  refine⟨_,h.symm,fun τ heq _=> ?_⟩
  simp only[VStm.run,(key τ heq).2,hb,Oz,cond_false]
 ·simp only[cond_true,opV]at h
  obtain⟨d,hd,rfl⟩:=Mz.1 h
  refine⟨d,rfl,fun τ heq hm=> ?_⟩
  have hrun:k.run Γ τ.m (args.map (VArg.val J.s))=some d:=by
   rcases hm with hm|hm
   ·exact run_mono_mem hm hd
   ·rw[run_mem_any hm (m':=J.m)];exact hd
  simp only[VStm.run,(key τ heq).2,hb,Oz,cond_true,opV,(key τ heq).1,hrun,Pz]
theorem WF.tok{J:St}(W:WF J)(x:Nat):J.m (J.tok x)=none:=W x (J.c x) [] (Nat.le_refl _)
theorem WF.sub{J:St}(W:WF J){m:Mem}(h:MSub m J.m):WF ⟨J.s,m,J.c⟩:=fun x k r hk=>by
 show m ((x+1)::k::r)=none
 cases hm:m ((x+1)::k::r)with
 |none=>rfl
 |some o=>have:=h _ _ hm;rw[W x k r hk]at this;cases this
theorem WF.put{J:St}(W:WF J){t:Tok}{o:Option HO}(h:J.m t≠none):WF (J.put t o):=fun x k r hk=>by
 simp only[St.put]
 split
 ·rename_i e
  rw[←e,W x k r hk]at h
  exact absurd rfl h
 ·exact W x k r hk
theorem WF.new{J:St}(W:WF J)(x:Nat)(o:HO)(d:D):WF (J.new x o d):=fun y k r hk=>by
 simp only[St.new,St.inc,St.set,St.put]at hk⊢
 have hne:(y+1)::k::r≠J.tok x:=fun e=>by
  simp only[St.tok,List.cons.injEq]at e
  obtain⟨e1,e2,_⟩:=e
  have:y=x:=by omega
  subst this
  rw[if_pos rfl]at hk
  omega
 rw[if_neg hne]
 refine W y k r ?_
 split at hk<;>omega
theorem WF.strike{J:St}(W:WF J)(g:Tok)(k:Nat):WF (J.strike g k):=W.sub fun _ _ h=>(struck_some h).1
theorem MSub.strike(J:St)(g:Tok)(k:Nat):MSub (J.strike g k).m J.m:=fun _ _ h=>(struck_some h).1
theorem MSub.new{J:St}(W:WF J)(x:Nat)(o:HO)(d:D):MSub J.m (J.new x o d).m:=fun t q h=>by
 have:t≠J.tok x:=fun e=>by rw[e,W.tok]at h;cases h
 simp[St.new,St.put,this,h]
theorem eff_mem{st:Eff}{J J':St}(W:WF J)(h:st.run Γ J=some J'):WF J'∧(st.news=true→MSub J.m J'.m):=by
 have fresh: ∀x o d,J.new x o d=J'→WF J'∧MSub J.m J'.m:=fun x o d e=>by subst e;exact⟨W.new x o d,MSub.new W x o d⟩
 cases st with
 |box _ _ x a=>
  simp only[Eff.run,boxV]at h
  split at h
  ·have:=fresh _ _ _ (Option.some.inj h)
   exact⟨this.1,fun _=>this.2⟩
  ·cases h
 |store k _ a v=>
  refine⟨?_,fun e=>by simp[Eff.news]at e⟩
  simp only[Eff.run,storeV]at h
  split at h
  ·split at h
   ·rename_i hm
    split at h<;>cases h
    exact W.put (by rw[hm];simp)
   ·cases h
  ·split at h
   ·rename_i hm
    rw[Bz]at h
    obtain⟨c,_,h⟩:=h
    split at h<;>cases h
    rename_i g0 e0 es0 _ _
    intro x k r hk
    simp only[St.put]
    split
    ·rename_i e
     rw[←e,W x k r hk]at hm
     cases hm
    ·exact W.strike _ _ x k r hk
   ·rename_i hm
    split at h<;>cases h
    exact W.put (by rw[hm];simp)
   ·cases h
  ·cases h
 |app x e size a b=>
  refine⟨?_,fun e=>by simp[Eff.news]at e⟩
  simp only[Eff.run,appV]at h
  rw[Bz]at h
  obtain⟨es,_,h⟩:=h
  split at h
  ·cases h
  split at h
  ·split at h
   ·cases h;exact W
   ·split at h<;>cases h
    exact W.new _ _ _
  ·split at h
   ·cases h;exact W
   ·split at h
    ·split at h
     ·split at h
      ·split at h<;>cases h
       exact(W.strike _ _).new _ _ _
      ·split at h<;>cases h
       exact W.new _ _ _
     ·cases h
    ·cases h
  ·cases h
 |mks x e size zero a b=>
  simp only[Eff.run,mksV]at h
  split at h
  ·split at h
   ·have:=fresh _ _ _ (Option.some.inj h)
    exact⟨this.1,fun _=>this.2⟩
   ·cases h
  ·cases h
 |lit x e size len zero places args=>
  simp only[Eff.run,litV]at h
  split at h
  ·rw[Bz]at h
   obtain⟨cs,_,h⟩:=h
   split at h
   ·have:=fresh _ _ _ (Option.some.inj h)
    exact⟨this.1,fun _=>this.2⟩
   ·cases h
  ·cases h
 |mkm x=>exact⟨(fresh _ _ _ (Option.some.inj h)).1,fun _=>(fresh _ _ _ (Option.some.inj h)).2⟩
 |mkml x e s=>exact⟨(fresh _ _ _ (Option.some.inj h)).1,fun _=>(fresh _ _ _ (Option.some.inj h)).2⟩
 |clr s z a=>
  refine⟨?_,fun e=>by simp[Eff.news]at e⟩
  simp only[Eff.run,clrV]at h
  split at h
  ·cases h;exact W
  ·cases h;exact W
  ·cases h;exact W
  ·split at h
   ·cases h;exact W
   ·split at h
    ·rename_i hm
     split at h<;>cases h
     intro x k r hk
     simp only[St.put]
     split
     ·rename_i e
      rw[←e,W x k r hk]at hm
      cases hm
     ·exact W.strike _ _ x k r hk
    ·cases h
  ·cases h
 |ecall x k f args=>
  refine⟨?_,fun e=>by simp[Eff.news]at e⟩
  simp only[Eff.run,ecallV]at h
  split at h
  ·split at h
   ·obtain⟨q,_,h⟩:=Bz.1 h
    split at h
    ·split at h<;>cases h
     exact W
    ·cases h
   ·split at h
    ·rename_i hm
     split at h
     ·obtain⟨q,_,h⟩:=Bz.1 h
      split at h
      ·split at h<;>cases h
       intro x k r hk
       simp only[St.set_m,St.put]
       split
       ·rename_i e
        rw[←e,W x k r hk]at hm
        cases hm
       ·exact W.strike _ _ x k r hk
      ·cases h
     ·cases h
    ·cases h
   ·cases h
  ·cases h
 |acall x e sz f args=>
  simp only[Eff.run,acallV]at h
  split at h
  ·obtain⟨q,_,h⟩:=Bz.1 h
   split at h
   ·split at h<;>cases h
    have:=fresh _ _ _ rfl
    exact⟨this.1,fun _=>this.2⟩
   ·cases h
  ·cases h
 |copy x a b=>
  refine⟨?_,fun e=>by simp[Eff.news]at e⟩
  simp only[Eff.run,copyV]at h
  split at h
  ·split at h
   ·rename_i hm _
    split at h
    ·cases x with
     |none=>cases h;exact W.put (by rw[hm];simp)
     |some x=>cases h;exact WF.put W (by rw[hm];simp)
    ·cases h
   ·cases h
  ·cases h
 |mupd ks a k v=>
  refine⟨?_,fun e=>by simp[Eff.news]at e⟩
  simp only[Eff.run,mupdV]at h
  split at h
  ·split at h
   ·rename_i hm
    split at h
    ·rw[Bz]at h
     obtain⟨r,_,h⟩:=h
     split at h
     ·obtain⟨p,_,rfl⟩:=Mz.1 h
      exact W.put (by rw[hm];simp)
     ·split at h<;>cases h
      exact W.put (by rw[hm];simp)
    ·cases h
   ·cases h
  ·cases h
theorem run_mem{st:VStm}{J J':St}(W:WF J)(h:st.run Γ J=some J'):WF J'∧(st.news=true→MSub J.m J'.m)∧((match st with| .op .. =>True|_=>False)→J'.m=J.m):=by
 cases st with
 |op x k args g=>
  obtain⟨d,rfl,_⟩:=op_run_congr h
  exact⟨W,fun e=>by simp[VStm.news]at e,fun _=>rfl⟩
 |eff e g=>
  simp only[VStm.run]at h
  rw[Bz]at h
  obtain⟨c,hc,h⟩:=h
  cases c
  ·simp only[cond_false,Jz]at h
   subst h
   refine⟨?_,fun _=> ?_,fun e=>e.elim⟩
   ·cases e.dst<;>exact W
   ·cases e.dst<;>exact fun _ _ h=>h
  ·obtain⟨h1,h2⟩:=eff_mem (Γ:=Γ) W h
   exact⟨h1,h2,fun e=>e.elim⟩
 |bad=>cases h
theorem commute{a b:VStm}{J J1 J2:St}(W:WF J)(hi:indep a b=true)(h1:a.run Γ J=some J1)(h2:b.run Γ J1=some J2): ∃J3,b.run Γ J=some J3∧a.run Γ J3=some J2:=by
 simp only[indep,Az]at hi
 obtain⟨hap,hk⟩:=hi
 cases a with
 |op x k args g=>
  simp only[apart,show(VStm.op x k args g).dst=some x from rfl,Az]at hap
  obtain⟨⟨g1,g2⟩,g3⟩:=hap
  have hx1:x∉b.reads:=by simpa using g1
  have hx2:b.dst≠some x:=fun e=>by rw[e]at g3;simp at g3
  obtain⟨d,rfl,hcongr⟩:=op_run_congr h1
  obtain⟨J3,k1,rfl,k3⟩:=frame_set h2 hx1 hx2
  refine⟨J3,k1,hcongr J3 (fun j hj=>k3 j fun e=> ?_) ?_⟩
  ·rw[e]at g2
   simp only[Bool.not_eq_true',List.contains_eq_mem,decide_eq_false_iff_not]at g2
   exact g2 hj
  ·simp only[Bool.or_eq_true,Bool.not_eq_true']at hk
   obtain⟨_,m1,m2⟩:=run_mem W k1
   rcases hk with(hk|hk)|hk
   ·left
    cases b<;>try (cases hk;done)
    rw[m2 trivial]
    exact fun _ _ h=>h
   ·exact .inl (m1 hk)
   ·exact .inr hk
 |_=>cases hk
end
end
section
def stAt(sts:List VStm)(k:Nat):VStm:=sts.getD k default
def bindsAny(e:Edge):Bool:=Region.binds .any e
def tableOK(ops:Array Oper)(M:Nat→Nat):Bool:=
 (List.range ops.size).all fun i=>
  match ops[i]? with
  |none=>false
  |some o=>o.after.toList.all (fun e=> !bindsAny e||decide (e.on<i))&&
   (List.range ops.size).all fun k=> !(M i).testBit k||o.after.toList.any fun e=>bindsAny e&&(e.on==k||(M e.on).testBit k)
def listedAt(L:Array Bool)(i:Nat):Bool:=L.getD i false
def unlisted(ops:Array Oper)(L:Array Bool):List Nat:=(List.range ops.size).filter fun i=> !listedAt L i
def canFirst(ops:Array Oper)(sts:List VStm)(M:Nat→Nat)(L:Array Bool)(i:Nat):Bool:=
 (List.range ops.size).all fun j=>listedAt L j||j==i||(M j).testBit i||indep (stAt sts i) (stAt sts j)
def pick(ops:Array Oper)(sts:List VStm)(M:Nat→Nat)(L:Array Bool):Option Nat:=(Region.ready .any ops L).find? (canFirst ops sts M L)
def seqs(ops:Array Oper)(sts:List VStm)(M:Nat→Nat):Nat→Array Bool→List (List Nat)
 |0,_=> [[]]
 |n+1,L=>match pick ops sts M L with
  |some i=>(seqs ops sts M n (L.setIfInBounds i true)).map (i:: ·)
  |none=>(Region.ready .any ops L).flatMap fun i=>(seqs ops sts M n (L.setIfInBounds i true)).map (i:: ·)
section
variable {P : Program} {fr : Cfg} {w0 : World} {pr : Prot} {A : Area} {n : Nat} {Γ : Env} {ops : Array Oper}
theorem listed_set{L:Array Bool}{i:Nat}(hi:i<L.size)(k:Nat):listedAt (L.setIfInBounds i true) k=(listedAt L k||k==i):=by
 simp only[listedAt,Array.getD_eq_getD_getElem?,Array.getElem?_setIfInBounds]
 by_cases h:i=k
 ·subst h;simp[hi]
 ·have h2:(k==i)=false:=by simpa using fun e:k=i=>h e.symm
  simp[h,h2]
theorem mem_readyV{L:Array Bool}(hL:L.size=ops.size){i:Nat}(h:i∈Region.ready .any ops L):
  i<ops.size∧listedAt L i=false∧ ∃o,ops[i]?=some o∧ ∀e∈o.after,bindsAny e=true→listedAt L e.on=true:=by
 simp only[Region.ready,List.mem_filter,List.mem_range,Az,Bool.not_eq_true']at h
 obtain⟨h1,h2,h3⟩:=h
 have hl:listedAt L i=false:=by
  simp only[listedAt,Array.getD_eq_getD_getElem?]at*
  rw[Rz (by omega)]at*
  simpa using h2
 refine⟨h1,hl,ops[i],Rz h1,fun e he hb=> ?_⟩
 rw[Rz h1]at h3
 simp only[Pz,Option.getD_some,Array.all_eq_true_iff_forall_mem]at h3
 have:=h3 e he
 have hb':Region.binds .any e=true:=hb
 rw[hb']at this
 simpa[listedAt]using this
theorem ready_of_least{L:Array Bool}{M:Nat→Nat}(hL:L.size=ops.size)(hB:tableOK ops M=true){i:Nat}(hi:i<ops.size)(hu:listedAt L i=false)(hlt: ∀k,k<i→listedAt L k=true):i∈Region.ready .any ops L:=by
 simp only[Region.ready,List.mem_filter,List.mem_range,Az,Bool.not_eq_true']
 refine⟨hi, ?_, ?_⟩
 ·simp only[listedAt,Array.getD_eq_getD_getElem?]at*
  rw[Rz (by omega)]at*
  simpa using hu
 ·rw[Rz hi]
  simp only[Pz,Option.getD_some,Array.all_eq_true_iff_forall_mem]
  intro e he
  simp only[tableOK,Tz,List.mem_range]at hB
  have:=hB i hi
  rw[Rz hi]at this
  simp only[Az,Tz]at this
  have h1:=this.1 e (by simpa using he)
  cases hb:Region.binds .any e
  ·simp
  ·simp only[bindsAny,hb,Bool.not_true,Bool.false_or,decide_eq_true_eq]at h1
   have:=hlt _ h1
   simpa[listedAt]using this
def Closed(ops:Array Oper)(L:Array Bool):Prop:= ∀i o,ops[i]?=some o→listedAt L i=true→ ∀e∈o.after,bindsAny e=true→listedAt L e.on=true
theorem closed_table{L:Array Bool}{M:Nat→Nat}(hB:tableOK ops M=true)(hC:Closed ops L): ∀(i:Nat),i<ops.size→(listedAt L i=true∨ ∃o,ops[i]?=some o∧ ∀e∈o.after,bindsAny e=true→listedAt L e.on=true)→
  ∀k,k<ops.size→(M i).testBit k=true→listedAt L k=true:=by
 intro i
 induction i using Nat.strongRecOn with
 |_ i ih=>
  intro hi hl k hk hm
  have hB':=hB
  simp only[tableOK,Tz,List.mem_range]at hB'
  have:=hB' i hi
  rw[Rz hi]at this
  simp only[Az,Tz,List.mem_range]at this
  have hed: ∀e∈ops[i].after,bindsAny e=true→listedAt L e.on=true:=by
   rcases hl with hl|⟨o,ho,hl⟩
   ·exact hC i _ (Rz hi) hl
   ·rw[Rz hi]at ho
    cases ho
    exact hl
  have h2:=this.2 k hk
  rw[hm]at h2
  simp only[Bool.not_true,Bool.false_or,List.any_eq_true,Az,Bool.or_eq_true,beq_iff_eq]at h2
  obtain⟨e,he,hb,hor⟩:=h2
  have he':e∈ops[i].after:=by simpa using he
  rcases hor with hor|hor
  ·subst hor;exact hed e he' hb
  ·have hlt:=this.1 e he
   rw[hb]at hlt
   have hlt:e.on<i:=by simpa using hlt
   exact ih e.on hlt (by omega) (.inl (hed e he' hb)) k hk hor
def Full(Γ:Env)(ops:Array Oper)(sts:List VStm)(K:St→Prop):Nat→Array Bool→St→Prop
 |0,_,J=>K J
 |n+1,L,J=> ∀i∈Region.ready .any ops L,∃J1,(stAt sts i).run Γ J=some J1∧Full Γ ops sts K n (L.setIfInBounds i true) J1
theorem ready_more{L:Array Bool}(hL:L.size=ops.size){i j:Nat}(hi:i∈Region.ready .any ops L)(hj:j∈Region.ready .any ops L)(hne:j≠i):j∈Region.ready .any ops (L.setIfInBounds i true):=by
 obtain⟨i1,i2,_⟩:=mem_readyV hL hi
 obtain⟨j1,j2,o,ho,hed⟩:=mem_readyV hL hj
 have hset:=fun k=>listed_set (L:=L) (i:=i) (by omega) k
 simp only[Region.ready,List.mem_filter,List.mem_range,Az,Bool.not_eq_true']
 have hsz:(L.setIfInBounds i true).size=ops.size:=by simpa using hL
 refine⟨j1, ?_, ?_⟩
 ·have:listedAt (L.setIfInBounds i true) j=false:=by rw[hset,j2];simpa using hne
  have hlt:j<(L.setIfInBounds i true).size:=by omega
  simp only[listedAt,Array.getD_eq_getD_getElem?,Rz hlt,Option.getD_some]at this⊢
  exact this
 ·rw[ho]
  simp only[Pz,Option.getD_some,Array.all_eq_true_iff_forall_mem]
  intro e he
  cases hb:Region.binds .any e
  ·simp
  ·have:=hed e he hb
   have h2:listedAt (L.setIfInBounds i true) e.on=true:=by rw[hset,this];rfl
   simpa[listedAt]using h2
theorem unlisted_set{L:Array Bool}(hL:L.size=ops.size){i:Nat}(hi:i<ops.size)(hu:listedAt L i=false){k:Nat}(hk:(unlisted ops L).length=k+1):(unlisted ops (L.setIfInBounds i true)).length=k:=by
 have hset:=fun k=>listed_set (L:=L) (i:=i) (by omega) k
 have hmem:i∈unlisted ops L:=by simp[unlisted,hi,hu]
 have e:unlisted ops (L.setIfInBounds i true)=(unlisted ops L).filter (· !=i):=by
  simp only[unlisted,List.filter_filter]
  apply List.filter_congr
  intro k _
  rw[hset k]
  cases listedAt L k<;>cases hk:(k==i)<;>simp_all [bne]
 have hnd:(unlisted ops L).Nodup:=List.Nodup.sublist List.filter_sublist List.nodup_range
 rw[e,←List.Nodup.erase_eq_filter hnd,List.length_erase_of_mem hmem,hk]
 rfl
theorem closed_set{L:Array Bool}(hL:L.size=ops.size){i:Nat}(hi:i∈Region.ready .any ops L)(hC:Closed ops L):Closed ops (L.setIfInBounds i true):=fun k ok hok hk e he hb=>by
 obtain⟨i1,i2,o,ho,hed⟩:=mem_readyV hL hi
 rw[listed_set (by omega)]at hk⊢
 rw[Bool.or_eq_true]at hk⊢
 rcases hk with hk|hk
 ·exact .inl (hC k ok hok hk e he hb)
 ·have:k=i:=by simpa using hk
  subst this
  rw[ho]at hok;cases hok
  exact .inl (hed e he hb)
theorem set_set_comm(L:Array Bool)(i j:Nat):(L.setIfInBounds i true).setIfInBounds j true=(L.setIfInBounds j true).setIfInBounds i true:=by
 apply Array.ext_getElem?
 intro k
 simp only[Array.getElem?_setIfInBounds,Array.size_setIfInBounds]
 by_cases h1:i=k<;>by_cases h2:j=k<;>simp[h1,h2]
theorem full_of_first{sts:List VStm}{K:St→Prop}{M:Nat→Nat}(hB:tableOK ops M=true): ∀(k:Nat) (L:Array Bool) (i:Nat) (J J1:St),L.size=ops.size→Closed ops L→(unlisted ops L).length=k+1→WF J→i∈Region.ready .any ops L→
  canFirst ops sts M L i=true→(stAt sts i).run Γ J=some J1→Full Γ ops sts K k (L.setIfInBounds i true) J1→Full Γ ops sts K (k+1) L J:=by
 intro k
 induction k with
 |zero=>
  intro L i J J1 hL hC hu W hi hf h1 hF j hj
  obtain⟨i1,i2,_⟩:=mem_readyV hL hi
  obtain⟨j1,j2,_⟩:=mem_readyV hL hj
  have hone: ∀q,q∈unlisted ops L→ ∀q',q'∈unlisted ops L→q=q':=by
   cases hl:unlisted ops L with
   |nil=>simp[hl]at hu
   |cons a r=>
    rw[hl]at hu
    have:r= []:=List.eq_nil_of_length_eq_zero (by simpa using hu)
    subst this
    intro q hq q' hq'
    simp at hq hq'
    rw[hq,hq']
  have:j=i:=hone j (by simp[unlisted,j1,j2]) i (by simp[unlisted,i1,i2])
  subst this
  exact⟨J1,h1,hF⟩
 |succ k ih=>
  intro L i J J1 hL hC hu W hi hf h1 hF j hj
  obtain⟨i1,i2,_⟩:=mem_readyV hL hi
  obtain⟨j1,j2,oj,hoj,hedj⟩:=mem_readyV hL hj
  by_cases hji:j=i
  ·subst hji;exact⟨J1,h1,hF⟩
  ·obtain⟨J2,h2,hF2⟩:=hF j (ready_more hL hi hj hji)
   have hnd:(M j).testBit i=false:=by
    cases hb:(M j).testBit i
    ·rfl
    ·have:=closed_table hB hC j j1 (.inr ⟨oj,hoj,hedj⟩) i i1 hb
     rw[i2]at this;cases this
   have hind:indep (stAt sts i) (stAt sts j)=true:=by
    simp only[canFirst,Tz,List.mem_range,Bool.or_eq_true,beq_iff_eq]at hf
    rcases hf j j1 with((h|h)|h)|h
    ·rw[j2]at h;cases h
    ·exact absurd h hji
    ·rw[hnd]at h;cases h
    ·exact h
   obtain⟨J3,h3,h4⟩:=commute W hind h1 h2
   refine⟨J3,h3,ih (L.setIfInBounds j true) i J3 J2 (by simpa using hL) (closed_set hL hj hC) (unlisted_set hL j1 j2 hu) (run_mem W h3).1 (ready_more hL hj hi (fun e=>hji e.symm)) ?_ h4 ?_⟩
   ·simp only[canFirst,Tz,List.mem_range,Bool.or_eq_true,beq_iff_eq]at hf⊢
    intro q hq
    rcases hf q hq with((h|h)|h)|h
    ·left;left;left;rw[listed_set (by omega),h];rfl
    ·exact .inl (.inl (.inr h))
    ·exact .inl (.inr h)
    ·exact .inr h
   ·rw[←set_set_comm];exact hF2
theorem full_of_seqs{sts:List VStm}{K:St→Prop}{M:Nat→Nat}(hB:tableOK ops M=true): ∀(k:Nat) (L:Array Bool) (J:St),L.size=ops.size→Closed ops L→(unlisted ops L).length=k→WF J→
  (∀s∈seqs ops sts M k L,∃J',runs Γ (s.map (stAt sts)) J=some J'∧K J')→Full Γ ops sts K k L J:=by
 intro k
 induction k with
 |zero=>
  intro L J hL hC hu W h
  obtain⟨J',h1,h2⟩:=h [] (by simp[seqs])
  simp only[List.map_nil,runs,Jz]at h1
  subst h1
  exact h2
 |succ k ih=>
  intro L J hL hC hu W h
  have step: ∀i,i∈Region.ready .any ops L→(seqs ops sts M k (L.setIfInBounds i true))≠ []→(∀s∈seqs ops sts M k (L.setIfInBounds i true),∃J',runs Γ ((i::s).map (stAt sts)) J=some J'∧K J')→
    ∃J1,(stAt sts i).run Γ J=some J1∧Full Γ ops sts K k (L.setIfInBounds i true) J1:=by
   intro i hi hne hs
   obtain⟨i1,i2,_⟩:=mem_readyV hL hi
   cases hr:(stAt sts i).run Γ J with
   |none=>
    cases hq:seqs ops sts M k (L.setIfInBounds i true)with
    |nil=>exact absurd hq hne
    |cons s r=>
     obtain⟨J',h1,_⟩:=hs s (by rw[hq];simp)
     simp[runs,hr]at h1
   |some J1=>
    refine⟨J1,rfl,ih _ J1 (by simpa using hL) (closed_set hL hi hC) (unlisted_set hL i1 i2 hu) (run_mem W hr).1 fun s hss=> ?_⟩
    obtain⟨J',h1,h2⟩:=hs s hss
    exact⟨J',by simpa[runs,hr]using h1,h2⟩
  have nonempty: ∀(k:Nat) (L:Array Bool),L.size=ops.size→(unlisted ops L).length=k→seqs ops sts M k L≠ []:=by
   intro k
   induction k with
   |zero=>intro L _ _;simp[seqs]
   |succ k ih2=>
    intro L hL hu
    have hrd:Region.ready .any ops L≠ []:=fun hr=>by
     have all: ∀q,q<ops.size→listedAt L q=true:=by
      intro q
      induction q using Nat.strongRecOn with
      |_ q ihq=>
       intro hq
       cases hl:listedAt L q
       ·have:=ready_of_least hL hB hq hl fun j hj=>ihq j hj (by omega)
        rw[hr]at this;cases this
       ·rfl
     have:unlisted ops L= []:=by
      simp only[unlisted,List.filter_eq_nil_iff,List.mem_range]
      intro q hq
      simp[all q hq]
     rw[this]at hu;cases hu
    simp only[seqs]
    split
    ·rename_i i hp
     have hi:=List.mem_of_find?_eq_some hp
     obtain⟨i1,i2,_⟩:=mem_readyV hL hi
     have:=ih2 (L.setIfInBounds i true) (by simpa using hL) (unlisted_set hL i1 i2 hu)
     simpa using this
    ·cases hq:Region.ready .any ops L with
     |nil=>exact absurd hq hrd
     |cons i r=>
      have hi:i∈Region.ready .any ops L:=by rw[hq];simp
      obtain⟨i1,i2,_⟩:=mem_readyV hL hi
      have:=ih2 (L.setIfInBounds i true) (by simpa using hL) (unlisted_set hL i1 i2 hu)
      simp[this]
  simp only[seqs]at h
  split at h
  ·rename_i i hp
   have hi:=List.mem_of_find?_eq_some hp
   obtain⟨i1,i2,_⟩:=mem_readyV hL hi
   obtain⟨J1,h1,h2⟩:=step i hi (nonempty k _ (by simpa using hL) (unlisted_set hL i1 i2 hu)) fun s hs=>h (i::s) (by simpa using hs)
   exact full_of_first hB k L i J J1 hL hC hu W hi (List.find?_some hp) h1 h2
  ·intro i hi
   obtain⟨i1,i2,_⟩:=mem_readyV hL hi
   exact step i hi (nonempty k _ (by simpa using hL) (unlisted_set hL i1 i2 hu)) fun s hs=>h (i::s) (by simp only[List.mem_flatMap,List.mem_map];exact⟨i,hi,s,hs,rfl⟩)
theorem Rel.wf{w:World}{cs:Array Value}{J:St}{tk:Places}(R:Rel P w0 pr A n w cs J tk):WF J:=fun x k r hk=>by
 cases h:J.m ((x+1)::k::r)with
 |none=>rfl
 |some o=>
  obtain⟨b,c,h1,_⟩:=(R.mem.obj _ o h).place
  rw[R.fresh x k r hk]at h1;cases h1
theorem any_sound{r:Option Nat}{B:Base}(hΓ:Sound P Γ){M:Nat→Nat}(hB:tableOK ops M=true){Q:Exit→Act→World→Prop}{df:List Deferred}{K:St→Prop}(hQ: ∀a' w' J',a'.defers=df→RelE P B n w' a'.tmps J'→K J'→Q .normal a' w'):
  ∀(k:Nat) (L:Array Bool) (a:Act) (w:World) (J:St),L.size=ops.size→Closed ops L→(unlisted ops L).length=k→a.defers=df→RelE P B n w a.tmps J→
   Full Γ ops (dReg P fr n ops) K k L J→wpAnyIn (wF r) 0 P .any ops Q k L a w:=by
 have hget: ∀i o,ops[i]?=some o→stAt (dReg P fr n ops) i=dStm P fr n ops o:=fun i o h=>by
  simp[stAt,dReg,List.getD,h]
 have readyNil: ∀{L:Array Bool},L.size=ops.size→Region.ready .any ops L= []→ ∀k,k<ops.size→listedAt L k=true:=by
  intro L hL hr k
  induction k using Nat.strongRecOn with
  |_ k ih=>
   intro hk
   cases hl:listedAt L k
   ·have:=ready_of_least hL hB hk hl fun j hj=>ih j hj (by omega)
    rw[hr]at this;cases this
   ·rfl
 intro k
 induction k with
 |zero=>
  intro L a w J hL hC hu hdf R hF
  refine⟨?_,hQ a w J hdf R hF⟩
  cases hr:Region.ready .any ops L with
  |nil=>rfl
  |cons i r=>
   obtain⟨h1,h2,_⟩:=mem_readyV hL (i:=i) (by rw[hr];simp)
   have:i∈unlisted ops L:=by simp[unlisted,h1,h2]
   rw[List.eq_nil_of_length_eq_zero hu]at this;cases this
 |succ k ih=>
  intro L a w J hL hC hu hdf R hF
  refine⟨fun hr=> ?_,fun i hi=> ?_⟩
  ·exfalso
   have all:=readyNil hL hr
   have:unlisted ops L= []:=by
    simp only[unlisted,List.filter_eq_nil_iff,List.mem_range]
    intro q hq
    simp[all q hq]
   rw[this]at hu;cases hu
  ·obtain⟨i1,i2,o,ho,_⟩:=mem_readyV hL hi
   obtain⟨J1,h1,h2⟩:=hF i hi
   rw[hget i o ho]at h1
   have:=stm_sound (r:=r) hΓ R h1 (wpAnyIn (wF r) 0 P .any ops Q k (L.setIfInBounds i true)) Q fun a' w' hdf' R'=>
    ih (L.setIfInBounds i true) a' w' J1 (by simpa using hL) (closed_set hL hi hC) (unlisted_set hL i1 i2 hu) (hdf'.trans hdf) R' h2
   unfold wpOpIn
   simp only[ho]
   split
   ·rename_i hw
    rw[if_pos hw]at this
    exact this
   ·rename_i hw
    rw[if_neg hw]at this
    exact⟨fun _ _=>trivial,this⟩
def orders(P:Program)(fr:Cfg)(n:Nat)(ops:Array Oper):Option (List (List VStm)):=
 let b:=Region.before ops
 if tableOK ops (fun i=>b.getD i 0)then some ((seqs ops (dReg P fr n ops) (fun i=>b.getD i 0) ops.size (Array.replicate ops.size false)).map fun s=>s.map (stAt (dReg P fr n ops)))else none
theorem RelE.wf{B:Base}{w:World}{cs:Array Value}{J:St}(R:RelE P B n w cs J):WF J:=let⟨_,_,_,_,R,_⟩:=R;R.wf
theorem drawn_sound{r:Option Nat}{B:Base}(hΓ:Sound P Γ)(hm:P.follows .mixedOrders=true){id:Nat}{Q:Exit→Act→World→Prop}{w:World}{J:St}{K:St→Prop}{a:Act}{ss:List (List VStm)}
  (R:RelE P B n w a.tmps J) (hd:orders P fr n ops=some ss) (hr: ∀s∈ss,∃J',runs Γ s J=some J'∧K J')
  (hQ: ∀a' w' J',a'.defers=a.defers→RelE P B n w' a'.tmps J'→K J'→Q .normal a' w'):Code.wpR r P (Code.region id ops true) Q a w:=by
 apply wpIn_region_any hm
 simp only[orders]at hd
 split at hd<;>cases hd
 rename_i hB
 have hun: ∀k,listedAt (Array.replicate ops.size false) k=false:=fun k=>by
  simp only[listedAt,Array.getD_eq_getD_getElem?,Array.getElem?_replicate]
  split<;>rfl
 have hC:Closed ops (Array.replicate ops.size false):=fun i o ho hl=>by rw[hun i]at hl;cases hl
 have hu:(unlisted ops (Array.replicate ops.size false)).length=ops.size:=by
  have:unlisted ops (Array.replicate ops.size false)=List.range ops.size:=List.filter_eq_self.2 fun k _=>by rw[hun k];rfl
  rw[this,List.length_range]
 have hg:Chg (fun _=>False) w {w with drawn:=w.drawn+1}:=⟨rfl,rfl,rfl,Nat.le_refl _,fun _ _ _=>rfl,Nat.le_succ _⟩
 have R':RelE P B n {w with drawn:=w.drawn+1} a.tmps J:=by
  obtain⟨w1,pr,A,tk,R,U⟩:=R
  have K:=R.keepsN hg (fun _ _ h=>h)
  exact⟨w1,pr,A,tk,⟨R.size,R.chg.trans hg (fun _ _ h=>h.elim),R.prlt,R.prA,R.glob.keeps K.cell,R.mem.keeps K fun _ _ _ _ _ _=>rfl,R.live,R.fresh,R.zero,R.one,fun i hi=>(R.slot i hi).keeps K,fun i hi=>(R.sav i hi).keeps K⟩,U⟩
 exact any_sound hΓ hB hQ ops.size _ a _ J (by simp) hC hu rfl R' (full_of_seqs hB _ _ _ (by simp) hC hu R.wf fun s hs=>hr _ (List.mem_map.2 ⟨s,hs,rfl⟩))
end
end
section
abbrev FP:=Nat→List D→Option D
def env0(G:FP):Env:=⟨G,fun f ds=>(G (1000001000000+f) ds).map fun d=>(d.bare,noMem),fun _ _ _=>none,fun k f ds=>G (1000000+(1000000*k+f)) ds⟩
def noG:FP:=fun _ _=>none
inductive XK where
 |pk (k:PK)
 |call (fl:Bool) (f:Nat)
 |ccall (fl:Bool)
 |agg
 |tup
 |clo (f:Nat)
 |lptr
 |cell (j n:Nat)
 |okc
 |gv (w:Bool)
 |nrm
 |nrmC
 |app (size:Nat)
 |lit (size len:Nat) (zero:List D) (places:List (Nat×Nat))
 |mks (size:Nat) (zero:List D)
 |setl (size j n:Nat)
 |take
 |mget (ks:List Nat) (z:D) (ok:Bool)
 |mset (ks:List Nat)
 |rngi (n:Nat)
 |geta (n s j m:Nat) (g:Bool)
 |seta (n s j m:Nat)
 |ecall (k f sz:Nat)
 |mkl
 |isc (f n:Nat)
 |capc (f i n:Nat)
 |mapp (ks:List Nat) (sz:Nat)
 |fmk
 |drp
 |clr (zero:List D)
 |adn
 |own
 deriving Inhabited
def mgetV(ks:List Nat)(z:D)(ok:Bool)(es:List (D×D))(k:D):Option D:=
 if k.okM=true∧eqKey ks k k=some true then(findV ks k es 0).bind fun r=>match r with
  |none=>some (if ok then .tup [z,bv false]else z)
  |some i=>(es[i]?).map fun p=>if ok then .tup [p.2,bv true]else p.2
 else none
def msetV(ks:List Nat)(es:List (D×D))(k v:D):Option (List (D×D)):=
 if v.okM=true∧k.okM=true∧eqKey ks k k=some true then(findV ks k es 0).bind fun r=>match r with
  |some i=>(es[i]?).map fun p=>es.set i (p.1,v)
  |none=>if es.length<maxMade then some (es++ [(k,v)])else none
 else none
def D.nfB:D→Bool
 | .v _| .list _| .lptr _=>true
 |_=>false
def D.nfC:D→Bool
 | .clo _ xs=>xs.all D.nfB
 |d=>d.nfB
def mappV(ks:List Nat)(sz:Nat)(es:List (D×D))(k:D)(b:List (List D)):Option (List (D×D)):=
 if(k.okM=true∧eqKey ks k k=some true)∧(b.all fun c=>c.length==sz&&c.all D.nfC)=true∧b.isEmpty=false then(findV ks k es 0).bind fun r=>match r with
  |some i=>match es[i]? with
   |some (k0, .list rows)=>if rows.length+b.length≤maxMade then some (es.set i (k0, .list (rows++b)))else none
   |_=>none
  |none=>if es.length<maxMade∧b.length≤maxMade then some (es++ [(k, .list b)])else none
 else none
def callX(G:FP)(fl:Bool)(f:Nat)(ds:List D):Option D:=(G f ds).bind fun r=>if(if fl then r.bare.flat||r.isOwn&&r.bare.noT else r.bare.noT)then some r.bare else none
def rowsOK(size:Nat)(es:List (List D)):Bool:=es.all fun c=>c.length==size&&c.all D.nfC
def lstOf:D→Option (List (List D))
 | .list es=>some es
 | .nil| .mt=>some []
 |_=>none
def XK.run(G:FP):XK→List D→Option D
 | .pk k,ds=>(k.run (env0 noG) noMem ds).bind fun d=>if d.noT then some d else none
 | .call fl f,ds=>callX G fl f ds
 | .ccall fl,ds=>match ds with
  | .clo f caps::r=>if f<1000000 then(caps.mapM (viewA noMem)).bind fun cs=>callX G fl f (r++cs)else none
  |_=>none
 | .agg,ds=>if ds.all D.noTC then some (.agg ds)else none
 | .tup,ds=>some (.tup ds)
 | .clo f,ds=>if ds.all D.noTC then some (.clo f ds)else none
 | .lptr,ds=>some (.lptr ds)
 | .cell j n,ds=>match ds with
  | [d]=>if d.cells.length=n∧d.cells.all D.okC=true∧d.cells.all D.noTC=true then d.cells[j]? else none
  |_=>none
 | .okc,ds=>match ds with
  | [d]=>if d.okC=true∧d.noT=true then some d else none
  |_=>none
 | .gv w,ds=>match ds with
  | [.v (.bool b)]=>some (bv (b==w))
  | [.tup _]=>some (bv false)
  |_=>none
 | .nrm,ds=>match ds with
  | [d]=>if d.noT then viewA noMem d else none
  |_=>none
 | .nrmC,ds=>match ds with
  | [d]=>if d.noTC then viewC noMem 6 d else none
  |_=>none
 | .app size,ds=>match ds with
  | [a,b]=>(lstOf a).bind fun a=>(lstOf b).bind fun b=>if rowsOK size b=true∧a.length+b.length≤maxMade then some (.list (a++b))else none
  |_=>none
 | .lit size len zero places,ds=>if ds.all (fun d=>d.cells.all D.okC)then(fillV zero places ds).bind fun cs=>if cs.length=len*size∧rowsOK size (chop size len (cs.map D.nz))=true then some (.list (chop size len (cs.map D.nz)))else none else none
 | .mks size zero,ds=>match ds with
  | [.v (.int _ l), .v (.int _ c)]=>if 0≤l∧l≤c∧c≤maxMade∧c.toNat*size≤16777216∧zero.length=size∧zero.all D.nfC=true then some (.list (List.replicate l.toNat zero))else none
  |_=>none
 | .setl size j n,ds=>match ds with
  | [.list es, .v (.int _ i),v]=>if i<0 then none else(es[i.toNat]?).bind fun c=>if v.cells.length=n∧j+n≤size∧c.length=size∧v.cells.all D.okC=true∧v.cells.all D.nfC=true then some (.list (es.set i.toNat (putAt c j v.cells)))else none
  |_=>none
 | .take,ds=>match ds with
  | [.list es, .v (.int _ k)]=>if 0≤k∧k≤es.length then some (.list (es.take k.toNat))else none
  |_=>none
 | .mget ks z ok,ds=>match ds with
  | [.list rows,k]=>(unpairR rows).bind fun es=>(mgetV ks z ok es k).bind fun d=>if d.noT then some d else none
  |_=>none
 | .mset ks,ds=>match ds with
  | [.list rows,k,v]=>(unpairR rows).bind fun es=>(msetV ks es k v).map fun es=> .list (pairR es)
  |_=>none
 | .rngi n,ds=>match ds with
  | [.v (.int _ i)]=>if 0≤i∧i<n then some (.tup [])else none
  |_=>none
 | .geta n s j m g,ds=>match ds with
  | [.agg xs, .v (.int _ i)]=>if 0≤i∧i<n∧j+m≤s∧n*s≤xs.length then(if g then(if((xs.drop (i.toNat*s+j)).take m).all D.noTC then some (.agg ((xs.drop (i.toNat*s+j)).take m))else none)else(xs[i.toNat*s+j]?).bind fun d=>if d.noT then some d else none)else none
  |_=>none
 | .seta n s j m,ds=>match ds with
  | [.agg xs, .v (.int _ i),v]=>if 0≤i∧i<n∧j+m≤s∧n*s≤xs.length∧v.cells.length=m∧v.cells.all D.okC=true∧v.cells.all D.noTC=true∧xs.all D.noTC=true then some (.agg (putAt xs (i.toNat*s+j) v.cells))else none
  |_=>none
 | .ecall k f sz,ds=>if(ds.set k .nil).all D.noT=true∧f<1000000 then(match ds[k]? with
  |some (.list es)=>(G (1000000+(1000000*k+f)) ds).bind fun r=>match r with
   | .tup [d, .list es']=>if d.noT=true∧es'.length=es.length∧rowsOK sz es'=true then some (.tup [d, .list es'])else none
   |_=>none
  |_=>none)else none
 | .drp,ds=>match ds with
  | [.list es, .v (.int _ k)]=>if 0≤k∧k≤es.length then some (.list (es.drop k.toNat))else none
  |_=>none
 | .clr zero,ds=>match ds with
  | [.list es, .v (.int _ k)]=>if 0≤k∧k≤es.length then some (.list (es.take k.toNat++List.replicate (es.length-k.toNat) zero))else none
  |_=>none
 | .adn,ds=>match ds with
  | [.v (.int _ a), .v (.int q b)]=>if 0≤a∧0≤b then some (.v (.int q (a+b)))else none
  |_=>none
 | .fmk,ds=>match ds with
  | [.list rows]=>(unpairR rows).bind fun es=>if es.all (fun p=>p.1.noT&&p.2.noT)then some (.fm rows)else none
  |_=>none
 | .mapp ks sz,ds=>match ds with
  | [.list rows,k,b]=>(unpairR rows).bind fun es=>(lstOf b).bind fun b=>(mappV ks sz es k b).map fun es=> .list (pairR es)
  |_=>none
 | .own,ds=>match ds with
  | [d]=>some d
  |_=>none
 | .mkl,ds=>some (.list (ds.map fun d=> [d]))
 | .isc f n,ds=>match ds with
  | [.clo g xs]=>if g=f∧xs.length=n then some (.tup [])else none
  |_=>none
 | .capc f i n,ds=>match ds with
  | [.clo g xs]=>if g=f∧xs.length=n then(xs[i]?).bind fun d=>if d.noT then some d else none else none
  |_=>none
inductive X where
 |t (i:Nat)
 |q (d:D)
 |mk (k:XK) (xs:List X)
 |ite (c a b:X)
 deriving Inhabited
mutual
def X.ev(G:FP)(E:List D):X→Option D
 | .t i=>E[i]?
 | .q d=>some d
 | .mk k xs=>(X.evs G E xs).bind (k.run G)
 | .ite c a b=>(X.ev G E c).bind fun v=>v.asBool.bind fun x=>bif x then X.ev G E a else X.ev G E b
def X.evs(G:FP)(E:List D):List X→Option (List D)
 | []=>some []
 |x::r=>(X.ev G E x).bind fun d=>(X.evs G E r).map fun ds=>d::ds
end
theorem evs_len{G:FP}{E:List D}: ∀{xs:List X} {ds:List D},X.evs G E xs=some ds→ds.length=xs.length
 | [],ds,h=>by simp[X.evs]at h;subst h;rfl
 |x::r,ds,h=>by
  simp only[X.evs,Bz,Mz]at h
  obtain⟨d,_,ds',h2,rfl⟩:=h
  simp[evs_len h2]
theorem evs_get{G:FP}{E:List D}: ∀{xs:List X} {ds:List D},X.evs G E xs=some ds→ ∀(i:Nat) (x:X) (d:D),xs[i]?=some x→ds[i]?=some d→X.ev G E x=some d
 | [],ds,_,i,x,d,hx,_=>by simp at hx
 |x::r,ds,h,i,y,d,hx,hd=>by
  simp only[X.evs,Bz,Mz]at h
  obtain⟨d0,h1,ds',h2,rfl⟩:=h
  cases i with
  |zero=>simp at hx hd;subst hx;subst hd;exact h1
  |succ i=>exact evs_get h2 i y d (by simpa using hx) (by simpa using hd)
theorem evs_of{G:FP}{E:List D}: ∀{xs:List X} {ds:List D},xs.length=ds.length→(∀(i:Nat) (x:X) (d:D),xs[i]?=some x→ds[i]?=some d→X.ev G E x=some d)→X.evs G E xs=some ds
 | [],[],_,_=>rfl
 |x::r,d::ds,hl,h=>by
  simp only[X.evs,h 0 x d rfl rfl,Oz,evs_of (xs:=r) (ds:=ds) (by simpa using hl) fun i y e hy he=>h (i+1) y e (by simpa using hy) (by simpa using he),Pz]
 | [],_::_,hl,_=>by simp at hl
 |_::_,[],hl,_=>by simp at hl
mutual
def X.lt(k:Nat):X→Bool
 | .t i=>decide (i<k)
 | .q _=>true
 | .mk _ xs=>X.lts k xs
 | .ite c a b=>X.lt k c&&X.lt k a&&X.lt k b
def X.lts(k:Nat):List X→Bool
 | []=>true
 |x::r=>X.lt k x&&X.lts k r
end
mutual
theorem ev_lt{G:FP}{E E':List D}{k:Nat}(h: ∀i,i<k→E[i]?=E'[i]?): ∀(x:X),X.lt k x=true→X.ev G E x=X.ev G E' x
 | .t i,hx=>by simp only[X.lt,decide_eq_true_eq]at hx;exact h i hx
 | .q _,_=>rfl
 | .mk kk xs,hx=>by simp only[X.lt]at hx;simp only[X.ev,evs_lt h xs hx]
 | .ite c a b,hx=>by
  simp only[X.lt,Az]at hx
  simp only[X.ev,ev_lt h c hx.1.1,ev_lt h a hx.1.2,ev_lt h b hx.2]
theorem evs_lt{G:FP}{E E':List D}{k:Nat}(h: ∀i,i<k→E[i]?=E'[i]?): ∀(xs:List X),X.lts k xs=true→X.evs G E xs=X.evs G E' xs
 | [],_=>rfl
 |x::r,hx=>by
  simp only[X.lts,Az]at hx
  simp only[X.evs,ev_lt h x hx.1,evs_lt h r hx.2]
end
mutual
theorem ev_more{G:FP}{E s:List D}: ∀(x:X) (d:D),X.ev G E x=some d→X.ev G (E++s) x=some d
 | .t i,d,h=>by simp only[X.ev]at h⊢;rw[Yz (Gz.1 h).1];exact h
 | .q _,_,h=>h
 | .mk k xs,d,h=>by
  simp only[X.ev,Bz]at h⊢
  obtain⟨ds,h1,h2⟩:=h
  exact⟨ds,evs_more xs ds h1,h2⟩
 | .ite c a b,d,h=>by
  simp only[X.ev,Bz]at h⊢
  obtain⟨v,h1,x,h2,h3⟩:=h
  refine⟨v,ev_more c v h1,x,h2, ?_⟩
  cases x
  ·exact ev_more b d h3
  ·exact ev_more a d h3
theorem evs_more{G:FP}{E s:List D}: ∀(xs:List X) (ds:List D),X.evs G E xs=some ds→X.evs G (E++s) xs=some ds
 | [],_,h=>h
 |x::r,ds,h=>by
  simp only[X.evs,Bz,Mz]at h⊢
  obtain⟨d,h1,ds',h2,rfl⟩:=h
  exact⟨d,ev_more x d h1,ds',evs_more r ds' h2,rfl⟩
end
def beqVal:Value→Value→Bool
 | .int k a, .int k' b=>decide (k=k'∧a=b)
 | .bool a, .bool b=>a==b
 | .nilFunc, .nilFunc=>true
 | .nilIface, .nilIface=>true
 | .pointer none, .pointer none=>true
 |_,_=>false
theorem beqVal_eq{a b:Value}(h:beqVal a b=true):a=b:=by
 unfold beqVal at h
 split at h<;>first|rfl|(simp at h;simp[h];done)|(cases h;done)
mutual
def beqD:D→D→Bool
 | .v x, .v y=>beqVal x y
 | .nil, .nil=>true
 | .nilmap, .nilmap=>true
 | .mt, .mt=>true
 | .tup xs, .tup ys=>beqDs xs ys
 | .agg xs, .agg ys=>beqDs xs ys
 | .lptr xs, .lptr ys=>beqDs xs ys
 | .list xs, .list ys=>beqDss xs ys
 | .clo f xs, .clo g ys=>f==g&&beqDs xs ys
 |_,_=>false
def beqDs:List D→List D→Bool
 | [],[]=>true
 |a::r,b::s=>beqD a b&&beqDs r s
 |_,_=>false
def beqDss:List (List D)→List (List D)→Bool
 | [],[]=>true
 |a::r,b::s=>beqDs a b&&beqDss r s
 |_,_=>false
end
mutual
theorem beqD_eq: ∀{a b:D},beqD a b=true→a=b
 | .v x,b,h=>by
  cases b<;>first|(rename_i y;rw[beqVal_eq (a:=x) (b:=y) (by simpa only[beqD]using h)];done)|(simp[beqD]at h;done)
 | .nil,b,h=>by cases b<;>first|rfl|(simp[beqD]at h;done)
 | .nilmap,b,h=>by cases b<;>first|rfl|(simp[beqD]at h;done)
 | .mt,b,h=>by cases b<;>first|rfl|(simp[beqD]at h;done)
 | .tup xs,b,h=>by
  cases b<;>first|(rename_i ys;rw[beqDs_eq (a:=xs) (b:=ys) (by simpa only[beqD]using h)];done)|(simp[beqD]at h;done)
 | .agg xs,b,h=>by
  cases b<;>first|(rename_i ys;rw[beqDs_eq (a:=xs) (b:=ys) (by simpa only[beqD]using h)];done)|(simp[beqD]at h;done)
 | .lptr xs,b,h=>by
  cases b<;>first|(rename_i ys;rw[beqDs_eq (a:=xs) (b:=ys) (by simpa only[beqD]using h)];done)|(simp[beqD]at h;done)
 | .list xs,b,h=>by
  cases b<;>first|(rename_i ys;rw[beqDss_eq (a:=xs) (b:=ys) (by simpa only[beqD]using h)];done)|(simp[beqD]at h;done)
 | .clo f xs,b,h=>by
  cases b<;>try (simp[beqD]at h;done)
  simp only[beqD,Az,beq_iff_eq]at h
  rw[h.1,beqDs_eq h.2]
 | .undef,b,h=>by cases b<;>(simp[beqD]at h;done)
 | .sl ..,b,h=>by cases b<;>(simp[beqD]at h;done)
 | .ptr ..,b,h=>by cases b<;>(simp[beqD]at h;done)
 | .rptr ..,b,h=>by cases b<;>(simp[beqD]at h;done)
 | .mp _,b,h=>by cases b<;>(simp[beqD]at h;done)
 | .fm _,b,h=>by cases b<;>(simp[beqD]at h;done)
theorem beqDs_eq: ∀{a b:List D},beqDs a b=true→a=b
 | [],[],_=>rfl
 |a::r,b::s,h=>by simp only[beqDs,Az]at h;rw[beqD_eq h.1,beqDs_eq h.2]
 | [],_::_,h=>by simp[beqDs]at h
 |_::_,[],h=>by simp[beqDs]at h
theorem beqDss_eq: ∀{a b:List (List D)},beqDss a b=true→a=b
 | [],[],_=>rfl
 |a::r,b::s,h=>by simp only[beqDss,Az]at h;rw[beqDs_eq h.1,beqDss_eq h.2]
 | [],_::_,h=>by simp[beqDss]at h
 |_::_,[],h=>by simp[beqDss]at h
end
def beqPs:List (Nat×Nat)→List (Nat×Nat)→Bool
 | [],[]=>true
 |(a,c)::r,(b,d)::s=>a==b&&c==d&&beqPs r s
 |_,_=>false
theorem beqPs_eq: ∀{a b:List (Nat×Nat)},beqPs a b=true→a=b
 | [],[],_=>rfl
 |(a,c)::r,(b,d)::s,h=>by simp only[beqPs,Az,beq_iff_eq]at h;rw[h.1.1,h.1.2,beqPs_eq h.2]
 | [],_::_,h=>by cases h
 |_::_,[],h=>by cases h
def beqPK:PK→PK→Bool
 | .mv, .mv| .inot, .inot| .ineg, .ineg| .llen, .llen| .slen, .slen| .chk, .chk=>true
 | .ibin a, .ibin b=>decide (a=b)
 | .ishift a, .ishift b=>decide (a=b)
 | .beq a, .beq b=>a==b
 | .seq a, .seq b=>a==b
 | .load n g, .load n' g'=>n==n'&&g==g'
 | .fld a, .fld b=>a==b
 | .idx a b, .idx a' b'=>a==a'&&b==b'
 | .aidx a b, .aidx a' b'=>a==a'&&b==b'
 | .ext a, .ext b=>a==b
 | .conv a, .conv b=>decide (a=b)
 | .afld a b c, .afld a' b' c'=>a==a'&&b==b'&&c==c'
 | .mx2 a, .mx2 b=>a==b
 | .aix a b c, .aix a' b' c'=>a==a'&&b==b'&&c==c'
 | .aeq a l, .aeq b l'=>a==b&&l==l'
 | .snil a, .snil b=>a==b
 | .slc a b c d, .slc a' b' c' d'=>a==a'&&b==b'&&c==c'&&d==d'
 | .sla a b c d, .sla a' b' c' d'=>a==a'&&b==b'&&c==c'&&d==d'
 | .sop a, .sop b=>decide (a=b)
 | .clo a, .clo b=>a==b
 | .fbox a, .fbox b=>a==b
 | .mx3 a, .mx3 b=>a==b
 | .build z p, .build z' p'=>beqDs z z'&&beqPs p p'
 | .lkp ks z o, .lkp ks' z' o'=>(ks==ks'&&o==o')&&beqDs [z] [z']
 |_,_=>false
theorem beqPK_eq{a b:PK}(h:beqPK a b=true):a=b:=by
 unfold beqPK at h
 split at h<;>first|rfl|(rw[Az]at h;rw[beqDs_eq h.1,beqPs_eq h.2];done)|(simp only[Az,beq_iff_eq]at h;have h2:=beqDs_eq h.2;simp only[List.cons.injEq,and_true]at h2;rw[h.1.1,h.1.2,h2];done)|(simp at h;simp[h];done)|(cases h;done)
def beqXK:XK→XK→Bool
 | .pk a, .pk b=>beqPK a b
 | .call a f, .call b g=>a==b&&f==g
 | .ccall a, .ccall b=>a==b
 | .agg, .agg| .tup, .tup| .lptr, .lptr| .okc, .okc| .nrm, .nrm| .nrmC, .nrmC=>true
 | .clo f, .clo g=>f==g
 | .cell a b, .cell a' b'=>a==a'&&b==b'
 | .app a, .app b=>a==b
 | .gv a, .gv b=>a==b
 | .setl a b c, .setl a' b' c'=>a==a'&&b==b'&&c==c'
 | .lit a b z p, .lit a' b' z' p'=>(a==a'&&b==b')&&(beqDs z z'&&beqPs p p')
 | .mks a z, .mks a' z'=>a==a'&&beqDs z z'
 | .take, .take=>true
 | .mget ks z ok, .mget ks' z' ok'=>(ks==ks'&&ok==ok')&&beqDs [z] [z']
 | .mset ks, .mset ks'=>ks==ks'
 | .rngi n, .rngi n'=>n==n'
 | .geta a b c d e, .geta a' b' c' d' e'=>a==a'&&b==b'&&c==c'&&d==d'&&e==e'
 | .seta a b c d, .seta a' b' c' d'=>a==a'&&b==b'&&c==c'&&d==d'
 | .ecall a b c, .ecall a' b' c'=>a==a'&&b==b'&&c==c'
 | .mkl, .mkl=>true
 | .isc a b, .isc a' b'=>a==a'&&b==b'
 | .capc a b c, .capc a' b' c'=>a==a'&&b==b'&&c==c'
 | .mapp a b, .mapp a' b'=>a==a'&&b==b'
 | .clr z, .clr z'=>beqDs z z'
 | .fmk, .fmk| .drp, .drp| .adn, .adn| .own, .own=>true
 |_,_=>false
theorem beqXK_eq{a b:XK}(h:beqXK a b=true):a=b:=by
 unfold beqXK at h
 split at h<;>first|rfl|(rw[beqPK_eq h];done)|(rw[beqDs_eq h];done)|(simp only[Az,beq_iff_eq]at h;rw[h.1.1,h.1.2,beqDs_eq h.2.1,beqPs_eq h.2.2];done)|(simp only[Az,beq_iff_eq]at h;rw[h.1,beqDs_eq h.2];done)|(simp only[Az,beq_iff_eq]at h;have h2:=beqDs_eq h.2;simp only[List.cons.injEq,and_true]at h2;rw[h.1.1,h.1.2,h2];done)|(simp at h;simp[h];done)|(cases h;done)
mutual
def beqX:X→X→Bool
 | .t i, .t j=>i==j
 | .q d, .q e=>beqD d e
 | .mk k xs, .mk k' ys=>beqXK k k'&&beqXs xs ys
 | .ite c a b, .ite c' a' b'=>beqX c c'&&beqX a a'&&beqX b b'
 |_,_=>false
def beqXs:List X→List X→Bool
 | [],[]=>true
 |x::r,y::s=>beqX x y&&beqXs r s
 |_,_=>false
end
mutual
theorem beqX_eq: ∀(a b:X),beqX a b=true→a=b
 | .t i,b,h=>by cases b<;>simp[beqX]at h;rw[h]
 | .q d,b,h=>by cases b<;>simp[beqX]at h;rw[beqD_eq h]
 | .mk k xs,b,h=>by
  cases b<;>simp[beqX]at h
  rw[beqXK_eq h.1,beqXs_eq xs _ h.2]
 | .ite c a b,y,h=>by
  cases y<;>simp[beqX]at h
  rw[beqX_eq c _ h.1.1,beqX_eq a _ h.1.2,beqX_eq b _ h.2]
theorem beqXs_eq: ∀(a b:List X),beqXs a b=true→a=b
 | [],b,h=>by cases b<;>simp[beqXs]at h;rfl
 |x::r,b,h=>by
  cases b<;>simp[beqXs]at h
  rw[beqX_eq x _ h.1,beqXs_eq r _ h.2]
end
def iter{α β:Type}(F:(α→Option β)→α→Option β):Nat→α→Option β
 |0=>fun _=>none
 |n+1=>F (iter F n)
end
section
inductive VE where
 |normal
 |exit (id:Nat)
 |ret
 deriving Inhabited,DecidableEq
def VE.ex:VE→Exit
 | .normal=> .normal
 | .exit id=> .exit id
 | .ret=> .ret
inductive RS where
 |ready
 |busy
 |done (e:VE)
 |over
 deriving Inhabited,DecidableEq
structure Raws where
 t:Nat→Tok
 f:Nat→RS→Obj
 c:Tok→Prop
inductive SV where
 |un
 |x (e:X)
 |agg (vs:List SV)
 |tup (vs:List SV)
 |clo (f:Nat) (vs:List SV)
 |ptr (n o:Nat)
 |dp (n o cnt s:Nat) (i:X) (j:Nat)
 |gl (n sz:Nat)
 |gs (n sz:Nat) (k:X)
 |gt (n sz:Nat) (k:X)
 |ep (n sz:Nat) (i:X) (j:Nat)
 |sb (n o len:Nat)
 |rb (n o:Nat)
 |mp (n:Nat)
 |yl (n:Nat)
 |gd (g:X) (v:SV)
 deriving Inhabited
inductive SO where
 |box (vs:List SV)
 |lst (e sz:Nat) (c:X)
 |map (c:X)
 |mpl (e sz:Nat) (c:X)
 |raw (k:RS)
 deriving Inhabited
def SO.isMp:SO→Bool
 | .map _| .mpl .. =>true
 |_=>false
structure Sy where
 s:List (Nat×SV)
 h:List (Nat×SO)
 nv:Nat
 d:Nat
 nx:Nat
 pd:Option VE
def find{α:Type}:List (Nat×α)→Nat→Option α
 | [],_=>none
 |(i,a)::r,n=>bif i==n then some a else find r n
def drop1{α:Type}(n:Nat):List (Nat×α)→List (Nat×α)
 | []=> []
 |(i,a)::r=>bif i==n then drop1 n r else(i,a)::drop1 n r
theorem find_drop{α:Type}(n k:Nat): ∀(l:List (Nat×α)),find (drop1 n l) k=if k=n then none else find l k
 | []=>by simp[find,drop1]
 |(i,a)::r=>by
  simp only[drop1]
  by_cases h:i=n
  ·simp only[h,beq_self_eq_true,cond_true,find_drop n k r,find]
   by_cases hk:k=n
   ·simp[hk]
   ·have:(n==k)=false:=by simpa using fun e=>hk e.symm
    simp[hk,this]
  ·have h1:(i==n)=false:=by simpa using h
   simp only[h1,cond_false,find,find_drop n k r]
   by_cases hk:i=k
   ·subst hk;simp[h]
   ·have:(i==k)=false:=by simpa using hk
    simp[this]
def setA{α:Type}(n:Nat)(a:α)(l:List (Nat×α)):List (Nat×α):=(n,a)::drop1 n l
theorem find_set{α:Type}(n k:Nat)(a:α)(l:List (Nat×α)):find (setA n a l) k=if k=n then some a else find l k:=by
 simp only[setA,find,find_drop]
 by_cases h:k=n
 ·subst h;simp
 ·have:(n==k)=false:=by simpa using fun e=>h e.symm
  simp[h,this]
def mapA{α β:Type}(f:α→β):List (Nat×α)→List (Nat×β)
 | []=> []
 |(i,a)::r=>(i,f a)::mapA f r
theorem find_map{α β:Type}(f:α→β)(k:Nat): ∀(l:List (Nat×α)),find (mapA f l) k=(find l k).map f
 | []=>rfl
 |(i,a)::r=>by
  simp only[mapA,find,find_map f k r]
  cases i==k<;>rfl
theorem find_mem {α : Type} : ∀ {l : List (Nat × α)} {n : Nat} {v : α}, find l n = some v → (n, v) ∈ l
  | [], _, _, h => by cases h
  | (i, a) :: r, n, v, h => by
    simp only [find] at h
    cases hi : i == n with
    | true => rw [hi] at h; cases h; have : i = n := by simpa using hi
              subst this; simp
    | false => rw [hi] at h; exact Cz _ (find_mem h)
mutual
def SV.men(n:Nat):SV→Bool
 | .un| .x _=>false
 | .agg vs| .tup vs=>SV.mens n vs
 | .clo _ vs=>SV.mens n vs
 | .ptr k _| .dp k _ _ _ _ _| .gl k _| .gs k _ _| .gt k _ _| .ep k _ _ _| .sb k _ _| .rb k _| .mp k| .yl k=>k==n
 | .gd _ v=>SV.men n v
def SV.mens(n:Nat):List SV→Bool
 | []=>false
 |v::r=>SV.men n v||SV.mens n r
end
theorem mens_get{n:Nat}: ∀{vs:List SV},SV.mens n vs=false→ ∀(i:Nat) (v:SV),vs[i]?=some v→v.men n=false
 | [],_,i,v,h=>by simp at h
 |a::r,h,i,v,hv=>by
  simp only[SV.mens,Bool.or_eq_false_iff]at h
  cases i with
  |zero=>simp at hv;subst hv;exact h.1
  |succ i=>exact mens_get h.2 i v (by simpa using hv)
section
variable (G : FP) (E : List D) (ι : Nat → Tok) (h : List (Nat × SO))
inductive VR:SV→D→Prop
 |un {d:D}:VR .un d
 |x {e:X} {d:D} (h1:X.ev G E e=some d) (h2:d.noT=true):VR (.x e) d
 |agg {vs:List SV} {ds:List D} (hl:vs.length=ds.length) (hh: ∀(i:Nat) (v:SV) (d:D),vs[i]?=some v→ds[i]?=some d→VR v d):VR (.agg vs) (.agg ds)
 |tup {vs:List SV} {ds:List D} (hl:vs.length=ds.length) (hh: ∀(i:Nat) (v:SV) (d:D),vs[i]?=some v→ds[i]?=some d→VR v d):VR (.tup vs) (.tup ds)
 |clo {f:Nat} {vs:List SV} {ds:List D} (hl:vs.length=ds.length) (hh: ∀(i:Nat) (v:SV) (d:D),vs[i]?=some v→ds[i]?=some d→VR v d):VR (.clo f vs) (.clo f ds)
 |ptr {n o:Nat} {vs:List SV} (hf:find h n=some (.box vs)):VR (.ptr n o) (.ptr (ι n) o)
 |dp {n o cnt s j:Nat} {i:X} {vs:List SV} {k:IntKind} {z:Int} (hf:find h n=some (.box vs)) (hv:X.ev G E i=some (.v (.int k z))) (h0:0≤z) (hz:z<cnt) (hl:o+cnt*s≤vs.length):
   VR (.dp n o cnt s i j) (.ptr (ι n) (o+z.toNat*s+j))
 |gln {n sz e:Nat} {c:X} (hf:find h n=some (.lst e sz c)) (hi:ι n= []):VR (.gl n sz) .nil
 |gl {n sz e:Nat} {c:X} {es:List (List D)} (hf:find h n=some (.lst e sz c)) (hc:X.ev G E c=some (.list es)) (hi:ι n≠ []):VR (.gl n sz) (.sl (ι n) sz 0 es.length none)
 |gsn {n sz e:Nat} {c k:X} {q:IntKind} (hf:find h n=some (.lst e sz c)) (hi:ι n= []) (hk:X.ev G E k=some (.v (.int q 0))):VR (.gs n sz k) (.list [])
 |gs {n sz e:Nat} {c k:X} {es:List (List D)} {q:IntKind} {z:Int} (hf:find h n=some (.lst e sz c)) (hc:X.ev G E c=some (.list es)) (hi:ι n≠ []) (hk:X.ev G E k=some (.v (.int q z))) (h0:0≤z) (hz:z≤es.length):
   VR (.gs n sz k) (.sl (ι n) sz 0 z.toNat none)
 |gtn {n sz e:Nat} {c k:X} {q:IntKind} (hf:find h n=some (.lst e sz c)) (hi:ι n= []) (hk:X.ev G E k=some (.v (.int q 0))):VR (.gt n sz k) (.list [])
 |gt {n sz e:Nat} {c k:X} {es:List (List D)} {q:IntKind} {z:Int} (hf:find h n=some (.lst e sz c)) (hc:X.ev G E c=some (.list es)) (hi:ι n≠ []) (hk:X.ev G E k=some (.v (.int q z))) (h0:0≤z) (hz:z≤es.length):
   VR (.gt n sz k) (.sl (ι n) sz z.toNat (es.length-z.toNat) none)
 |ep {n sz e j:Nat} {c i:X} {k:IntKind} {z:Int} {es:List (List D)} (hf:find h n=some (.lst e sz c)) (hc:X.ev G E c=some (.list es)) (hi:ι n≠ []) (hv:X.ev G E i=some (.v (.int k z))) (h0:0≤z) (hz:z.toNat<es.length):
   VR (.ep n sz i j) (.rptr (ι n) sz z.toNat j)
 |sb {n o len:Nat} {lim:Option Nat} {vs:List SV} (hf:find h n=some (.box vs)) (hl:o+len≤vs.length):VR (.sb n o len) (.sl (ι n) 1 o len lim)
 |rb {n o:Nat} {vs:List SV} (hf:find h n=some (.box vs)) (hl:o<vs.length):VR (.rb n o) (.rptr (ι n) 1 o 0)
 |mp {n:Nat} {o:SO} (hf:find h n=some o) (ho:o.isMp=true):VR (.mp n) (.mp (ι n))
 |yl {n:Nat} {k:RS} (hf:find h n=some (.raw k)):VR (.yl n) (.v (.func (.yield ((ι n).headD 0-1)) #[] #[]))
 |gd {g:X} {b:Bool} {v:SV} {d:D} (hg:X.ev G E g=some (bv b)) (h1:b=true→VR v d) (h2:b=false→d= .tup []):VR (.gd g v) d
end
def VRs(G:FP)(E:List D)(ι:Nat→Tok)(h:List (Nat×SO))(vs:List SV)(ds:List D):Prop:=
 vs.length=ds.length∧ ∀(i:Nat) (v:SV) (d:D),vs[i]?=some v→ds[i]?=some d→VR G E ι h v d
structure OE where
 k:D
 u:Tok
 g:Tok
 es:List (List D)
def OE.pr(q:OE):D×D:=(q.k, .list q.es)
def OE.en(sz:Nat)(q:OE):D×D:=(q.k, .sl q.u sz 0 q.es.length none)
abbrev OwnQ(h:List (Nat×SO))(ι γ:Nat→Tok)(J:St)(e sz:Nat)(q:OE):Prop:=
 q.u≠ []∧rowsOK sz q.es=true∧J.m q.u=some (.row q.g e q.es)∧(∀k o,find h k=some o→ι k≠q.u)∧(∀k e sz c,find h k=some (.lst e sz c)→ι k≠ []→γ k≠q.g)∧(∀y k r,q.g=(y+1)::k::r→k<J.c y)
abbrev OwnA(h:List (Nat×SO))(ι γ:Nat→Tok)(J:St)(e sz:Nat)(L:List OE):Prop:=(∀q∈L,OwnQ h ι γ J e sz q)∧(L.map OE.g).Nodup
theorem OwnQ.keep{h h':List (Nat×SO)}{ι ι' γ γ':Nat→Tok}{J J':St}{e sz:Nat}{q:OE}(H:OwnQ h ι γ J e sz q)(hm:J'.m q.u=J.m q.u)(hi: ∀k o,find h' k=some o→ι' k≠q.u)
  (hg: ∀k e sz c,find h' k=some (.lst e sz c)→ι' k≠ []→γ' k≠q.g) (hc: ∀y,J.c y≤J'.c y):OwnQ h' ι' γ' J' e sz q:=
 ⟨H.1,H.2.1,hm.trans H.2.2.1,hi,hg,fun y k r h=>Nat.lt_of_lt_of_le (H.2.2.2.2.2 y k r h) (hc y)⟩
abbrev Owned(h:List (Nat×SO))(ι γ:Nat→Tok)(J:St)(q:OE):Prop:= ∃n e sz c L,find h n=some (.mpl e sz c)∧J.m (ι n)=some (.map (L.map (OE.en sz)))∧OwnA h ι γ J e sz L∧q∈L
structure Mt(Ω:Raws)(G:FP)(E:List D)(ι γ:Nat→Tok)(Y:Sy)(J:St):Prop where
 slot: ∀i v,find Y.s i=some v→VR G E ι Y.h v (J.s i)
 box: ∀n vs,find Y.h n=some (.box vs)→ ∃ds,ι n≠ []∧J.m (ι n)=some (.box ds)∧VRs G E ι Y.h vs ds
 lst: ∀n e sz c,find Y.h n=some (.lst e sz c)→ ∃es,X.ev G E c=some (.list es)∧rowsOK sz es=true∧(ι n= []∧es= []∨ι n≠ []∧J.m (ι n)=some (.row (γ n) e es))
 mpo: ∀n c,find Y.h n=some (.map c)→ ∃es,X.ev G E c=some (.list (pairR es))∧ι n≠ []∧J.m (ι n)=some (.map es)
 own: ∀n e sz c,find Y.h n=some (.mpl e sz c)→ ∃L:List OE,X.ev G E c=some (.list (pairR (L.map OE.pr)))∧ι n≠ []∧J.m (ι n)=some (.map (L.map (OE.en sz)))∧OwnA Y.h ι γ J e sz L
 one: ∀n n' e e' sz sz' c c',find Y.h n=some (.mpl e sz c)→find Y.h n'=some (.mpl e' sz' c')→n=n'
 rwo: ∀n k,find Y.h n=some (.raw k)→ι n=Ω.t n∧ι n≠ []∧J.m (ι n)=some (.raw (Ω.f n k))∧ ¬Ω.c (ι n)
 inj: ∀n n' o o',find Y.h n=some o→find Y.h n'=some o'→ι n=ι n'→ι n≠ []→n=n'
 grp: ∀n n' e e' sz sz' c c',find Y.h n=some (.lst e sz c)→find Y.h n'=some (.lst e' sz' c')→ι n≠ []→ι n'≠ []→γ n=γ n'→n=n'
 wf:WF J
 old: ∀n e sz c,find Y.h n=some (.lst e sz c)→ι n≠ []→ ∀y k r,γ n=(y+1)::k::r→k<J.c y
 nv:E.length=Y.nv
 con: ∀t,Ω.c t→J.m t=some (.raw (.deferred (some [])))
def SO.like(G:FP)(E E':List D):SO→SO→Prop
 | .box vs, .box vs'=>vs'.length=vs.length
 | .lst e sz c, .lst e' sz' c'=>e'=e∧sz'=sz∧ ∀es,X.ev G E c=some (.list es)→ ∃es',X.ev G E' c'=some (.list es')∧es'.length=es.length
 | .map _, .map _=>True
 | .mpl .., .mpl .. =>True
 | .mpl .., .map _=>True
 | .raw _, .raw _=>True
 |_,_=>False
def Lk(G:FP)(E E':List D)(h h':List (Nat×SO))(n:Nat):Prop:= ∀o,find h n=some o→ ∃o',find h' n=some o'∧SO.like G E E' o o'
theorem Lk.box{G:FP}{E E':List D}{h h':List (Nat×SO)}{n:Nat}(L:Lk G E E' h h' n){vs:List SV}(hf:find h n=some (.box vs)): ∃vs',find h' n=some (.box vs')∧vs'.length=vs.length:=by
 obtain⟨o',h1,h2⟩:=L _ hf
 cases o'<;>simp only[SO.like]at h2
 exact⟨_,h1,h2⟩
theorem Lk.lst{G:FP}{E E':List D}{h h':List (Nat×SO)}{n:Nat}(L:Lk G E E' h h' n){e sz:Nat}{c:X}(hf:find h n=some (.lst e sz c)):
  ∃c',find h' n=some (.lst e sz c')∧ ∀es,X.ev G E c=some (.list es)→ ∃es',X.ev G E' c'=some (.list es')∧es'.length=es.length:=by
 obtain⟨o',h1,h2⟩:=L _ hf
 cases o'<;>simp only[SO.like]at h2
 obtain⟨rfl,rfl,h3⟩:=h2
 exact⟨_,h1,h3⟩
theorem Lk.map{G:FP}{E E':List D}{h h':List (Nat×SO)}{n:Nat}(L:Lk G E E' h h' n){o:SO}(hf:find h n=some o)(ho:o.isMp=true): ∃o',find h' n=some o'∧o'.isMp=true:=by
 obtain⟨o',h1,h2⟩:=L _ hf
 refine⟨o',h1, ?_⟩
 cases o<;>cases o'<;>simp only[SO.like]at h2<;>first|rfl|cases ho
theorem Lk.raw{G:FP}{E E':List D}{h h':List (Nat×SO)}{n:Nat}(L:Lk G E E' h h' n){k:RS}(hf:find h n=some (.raw k)): ∃k',find h' n=some (.raw k'):=by
 obtain⟨o',h1,h2⟩:=L _ hf
 cases o'<;>simp only[SO.like]at h2
 exact⟨_,h1⟩
theorem Lk.same{G:FP}{E E':List D}{h h':List (Nat×SO)}{n:Nat}(hE: ∀e d,X.ev G E e=some d→X.ev G E' e=some d)(hf:find h' n=find h n):Lk G E E' h h' n:=fun o ho=>
 ⟨o,hf.trans ho,by cases o<;>simp only[SO.like];exact⟨trivial,trivial,fun es he=>⟨es,hE _ _ he,rfl⟩⟩⟩
theorem VR.mono{G:FP}{E E':List D}{ι ι':Nat→Tok}{h h':List (Nat×SO)}(hE: ∀e d,X.ev G E e=some d→X.ev G E' e=some d){v:SV}{d:D}(H:VR G E ι h v d)
  (hm: ∀n,v.men n=true→ι' n=ι n∧Lk G E E' h h' n):VR G E' ι' h' v d:=by
 have mens: ∀{n:Nat} {vs:List SV} {i:Nat} {v:SV},vs[i]?=some v→v.men n=true→SV.mens n vs=true:=fun{n vs i v} hv hm=>by
  cases hh:SV.mens n vs with
  |true=>rfl
  |false=>rw[mens_get hh i v hv]at hm;cases hm
 induction H with
 |un=>exact .un
 |x h1 h2=>exact .x (hE _ _ h1) h2
 |agg hl hh ih=>exact .agg hl fun i v d hv hd=>ih i v d hv hd fun n hn=>hm n (by simpa[SV.men]using mens hv hn)
 |tup hl hh ih=>exact .tup hl fun i v d hv hd=>ih i v d hv hd fun n hn=>hm n (by simpa[SV.men]using mens hv hn)
 |clo hl hh ih=>exact .clo hl fun i v d hv hd=>ih i v d hv hd fun n hn=>hm n (by simpa[SV.men]using mens hv hn)
 | @ptr n o vs hf=>
  obtain⟨h1,L⟩:=hm n (by simp[SV.men])
  obtain⟨vs',h3,_⟩:=L.box hf
  rw[←h1];exact .ptr h3
 | @dp n o cnt s j i vs k z hf hv h0 hz hl=>
  obtain⟨h1,L⟩:=hm n (by simp[SV.men])
  obtain⟨vs',h3,h4⟩:=L.box hf
  rw[←h1];exact .dp h3 (hE _ _ hv) h0 hz (by rw[h4];exact hl)
 | @gln n sz e c hf hi=>
  obtain⟨h1,L⟩:=hm n (by simp[SV.men])
  obtain⟨c',h3,_⟩:=L.lst hf
  exact .gln h3 (h1.trans hi)
 | @gl n sz e c es hf hc hi=>
  obtain⟨h1,L⟩:=hm n (by simp[SV.men])
  obtain⟨c',h3,h4⟩:=L.lst hf
  obtain⟨es',h5,h6⟩:=h4 _ hc
  rw[←h1,←h6]
  exact .gl h3 h5 (by rw[h1];exact hi)
 | @gsn n sz e c k q hf hi hk=>
  obtain⟨h1,L⟩:=hm n (by simp[SV.men])
  obtain⟨c',h3,_⟩:=L.lst hf
  exact .gsn h3 (h1.trans hi) (hE _ _ hk)
 | @gs n sz e c k es q z hf hc hi hk h0 hz=>
  obtain⟨h1,L⟩:=hm n (by simp[SV.men])
  obtain⟨c',h3,h4⟩:=L.lst hf
  obtain⟨es',h5,h6⟩:=h4 _ hc
  rw[←h1]
  exact .gs h3 h5 (by rw[h1];exact hi) (hE _ _ hk) h0 (by rw[h6];exact hz)
 | @gtn n sz e c k q hf hi hk=>
  obtain⟨h1,L⟩:=hm n (by simp[SV.men])
  obtain⟨c',h3,_⟩:=L.lst hf
  exact .gtn h3 (h1.trans hi) (hE _ _ hk)
 | @gt n sz e c k es q z hf hc hi hk h0 hz=>
  obtain⟨h1,L⟩:=hm n (by simp[SV.men])
  obtain⟨c',h3,h4⟩:=L.lst hf
  obtain⟨es',h5,h6⟩:=h4 _ hc
  rw[←h1,←h6]
  exact .gt h3 h5 (by rw[h1];exact hi) (hE _ _ hk) h0 (by rw[h6];exact hz)
 | @ep n sz e j c i k z es hf hc hi hv h0 hz=>
  obtain⟨h1,L⟩:=hm n (by simp[SV.men])
  obtain⟨c',h3,h4⟩:=L.lst hf
  obtain⟨es',h5,h6⟩:=h4 _ hc
  rw[←h1]
  exact .ep h3 h5 (by rw[h1];exact hi) (hE _ _ hv) h0 (by rw[h6];exact hz)
 | @sb n o len lim vs hf hl=>
  obtain⟨h1,L⟩:=hm n (by simp[SV.men])
  obtain⟨vs',h3,h4⟩:=L.box hf
  rw[←h1];exact .sb h3 (by rw[h4];exact hl)
 | @rb n o vs hf hl=>
  obtain⟨h1,L⟩:=hm n (by simp[SV.men])
  obtain⟨vs',h3,h4⟩:=L.box hf
  rw[←h1];exact .rb h3 (by rw[h4];exact hl)
 | @mp n o hf ho=>
  obtain⟨h1,L⟩:=hm n (by simp[SV.men])
  obtain⟨o',h3,h4⟩:=L.map hf ho
  rw[←h1];exact .mp h3 h4
 | @yl n k hf=>
  obtain⟨h1,L⟩:=hm n (by simp[SV.men])
  obtain⟨k',h3⟩:=L.raw hf
  rw[←h1];exact .yl h3
 |gd hg h1 h2 ih=>exact .gd (hE _ _ hg) (fun e=>ih e fun n hn=>hm n (by simpa[SV.men]using hn)) h2
theorem VR.more{G:FP}{E s:List D}{ι:Nat→Tok}{h:List (Nat×SO)}{v:SV}{d:D}(H:VR G E ι h v d):VR G (E++s) ι h v d:=
 H.mono (fun _ _ h=>ev_more _ _ h) fun _ _=>⟨rfl,Lk.same (fun _ _ h=>ev_more _ _ h) rfl⟩
theorem Mt.more{Ω:Raws}{G:FP}{E s:List D}{ι γ:Nat→Tok}{Y:Sy}{J:St}(M:Mt Ω G E ι γ Y J):Mt Ω G (E++s) ι γ {Y with nv:=Y.nv+s.length} J:=
 ⟨fun i v hv=>(M.slot i v hv).more,fun n vs hn=>let⟨ds,h0,h1,h2,h3⟩:=M.box n vs hn;⟨ds,h0,h1,h2,fun i v d hv hd=>(h3 i v d hv hd).more⟩,
  fun n e sz c hn=>let⟨es,h1,h2⟩:=M.lst n e sz c hn;⟨es,ev_more _ _ h1,h2⟩,fun n c hn=>let⟨es,h1,h2⟩:=M.mpo n c hn;⟨es,ev_more _ _ h1,h2⟩,fun n e sz c hn=>let⟨L,h1,h2⟩:=M.own n e sz c hn;⟨L,ev_more _ _ h1,h2⟩,M.one,M.rwo,M.inj,M.grp,M.wf,M.old,by simp[M.nv],M.con⟩
def Sy.set(Y:Sy)(i:Nat)(v:SV):Sy:={Y with s:=setA i v Y.s}
theorem WF.set{J:St}(W:WF J)(i:Nat)(d:D):WF (J.set i d):=W
theorem Mt.set{Ω:Raws}{G:FP}{E:List D}{ι γ:Nat→Tok}{Y:Sy}{J:St}(M:Mt Ω G E ι γ Y J){i:Nat}{v:SV}{d:D}(hv:VR G E ι Y.h v d):Mt Ω G E ι γ (Y.set i v) (J.set i d):=
 ⟨fun j u hu=>by
  simp only[Sy.set,find_set]at hu
  by_cases hj:j=i
  ·rw[if_pos hj]at hu;cases hu;subst hj;rw[St.set_same];exact hv
  ·rw[if_neg hj]at hu;rw[St.set_ne _ _ hj];exact M.slot j u hu,M.box,M.lst,M.mpo,M.own,M.one,M.rwo,M.inj,M.grp,M.wf,M.old,M.nv,M.con⟩
def killV(n:Nat)(v:SV):SV:=bif v.men n then .un else v
def killO(n:Nat):SO→SO
 | .box vs=> .box (vs.map (killV n))
 |o=>o
def Sy.kill(Y:Sy)(n:Nat):Sy:={Y with s:=mapA (killV n) Y.s,h:=mapA (killO n) (drop1 n Y.h)}
def Sy.free(Y:Sy)(n:Nat):Prop:=
 find Y.h n=none∧(∀i v,find Y.s i=some v→v.men n=false)∧ ∀k vs,find Y.h k=some (.box vs)→ ∀v∈vs,v.men n=false
theorem kill_find(Y:Sy)(n k:Nat):find (Y.kill n).h k=if k=n then none else(find Y.h k).map (killO n):=by
 simp only[Sy.kill,find_map,find_drop]
 split<;>rfl
theorem kill_find'{Y:Sy}{n k:Nat}{o:SO}(h:find (Y.kill n).h k=some o):k≠n∧ ∃o0,find Y.h k=some o0∧o=killO n o0:=by
 rw[kill_find]at h
 split at h
 ·cases h
 ·rename_i hk
  obtain⟨o0,ho,h⟩:=Mz.1 h
  exact⟨hk,o0,ho,h.symm⟩
theorem like_kill{G:FP}{E:List D}(n:Nat)(o:SO):SO.like G E E o (killO n o):=by
 cases o with
 |box vs=>simp[killO,SO.like]
 |lst e sz c=>exact⟨rfl,rfl,fun es he=>⟨es,he,rfl⟩⟩
 |map c=>trivial
 |mpl=>trivial
 |raw=>trivial
theorem VR.killed{G:FP}{E:List D}{ι:Nat→Tok}{Y:Sy}(n:Nat){v:SV}{d:D}(H:VR G E ι Y.h v d):VR G E ι (Y.kill n).h (killV n v) d:=by
 unfold killV
 cases hm:v.men n with
 |true=>exact .un
 |false=>
  refine H.mono (fun _ _ h=>h) fun k hk=>⟨rfl,fun o ho=>⟨killO n o, ?_,like_kill n o⟩⟩
  rw[kill_find,if_neg (fun e=>by rw[e,hm]at hk;cases hk),ho];rfl
theorem Mt.kill{Ω:Raws}{G:FP}{E:List D}{ι γ:Nat→Tok}{Y:Sy}{J:St}(M:Mt Ω G E ι γ Y J)(n:Nat):Mt Ω G E ι γ (Y.kill n) J∧(Y.kill n).free n:=by
 have hl: ∀k e sz c,find (Y.kill n).h k=some (.lst e sz c)→find Y.h k=some (.lst e sz c):=fun k e sz c h=>by
  obtain⟨_,o,ho,h⟩:=kill_find' h
  cases o<;>simp only[killO,reduceCtorEq]at h
  rw[ho,h]
 have hp: ∀k e sz c,find (Y.kill n).h k=some (.mpl e sz c)→find Y.h k=some (.mpl e sz c):=fun k e sz c h=>by
  obtain⟨_,o,ho,h⟩:=kill_find' h
  cases o<;>simp only[killO,reduceCtorEq]at h
  rw[ho,h]
 refine⟨⟨fun i v hv=> ?_,fun k vs hk=> ?_,fun k e sz c hk=>M.lst k e sz c (hl k e sz c hk),fun k c hk=> ?_,fun k e sz c hk=> ?_,fun a b e e' sz sz' c c' h1 h2=>M.one a b e e' sz sz' c c' (hp _ _ _ _ h1) (hp _ _ _ _ h2),fun k q hk=> ?_,fun a b o o' h1 h2=> ?_,fun a b e e' sz sz' c c' h1 h2=>M.grp a b e e' sz sz' c c' (hl _ _ _ _ h1) (hl _ _ _ _ h2),M.wf,fun k e sz c hk=>M.old k e sz c (hl k e sz c hk),M.nv,M.con⟩, ?_,fun i v hv=> ?_,fun k vs hk v hv=> ?_⟩
 ·simp only[Sy.kill,find_map]at hv
  obtain⟨u,hu,rfl⟩:=Mz.1 hv
  exact(M.slot i u hu).killed n
 ·obtain⟨_,o,ho,h⟩:=kill_find' hk
  cases o<;>simp only[killO,reduceCtorEq,SO.box.injEq]at h
  rename_i us
  subst h
  obtain⟨ds,h0,h1,h2,h3⟩:=M.box k us ho
  refine⟨ds,h0,h1,by simpa using h2,fun i v d hv hd=> ?_⟩
  rw[Dz,Mz]at hv
  obtain⟨u,hu,rfl⟩:=hv
  exact(h3 i u d hu hd).killed n
 ·obtain⟨_,o,ho,h⟩:=kill_find' hk
  cases o<;>simp only[killO,reduceCtorEq]at h
  cases h
  exact M.mpo k c ho
 ·obtain⟨L,h1,h2,h3,h4⟩:=M.own k e sz c (hp _ _ _ _ hk)
  exact⟨L,h1,h2,h3,fun q hq=>(h4.1 q hq).keep rfl (fun j o hj=>let⟨_,o0,h0,_⟩:=kill_find' hj;(h4.1 q hq).2.2.2.1 j o0 h0) (fun j e sz c hj=>(h4.1 q hq).2.2.2.2.1 j e sz c (hl _ _ _ _ hj)) fun _=>Nat.le_refl _,h4.2⟩
 ·obtain⟨_,o,ho,h⟩:=kill_find' hk
  cases o<;>simp only[killO,reduceCtorEq,SO.raw.injEq]at h
  subst h
  exact M.rwo k _ ho
 ·obtain⟨_,o1,g1,_⟩:=kill_find' h1
  obtain⟨_,o2,g2,_⟩:=kill_find' h2
  exact M.inj a b o1 o2 g1 g2
 ·rw[kill_find,if_pos rfl]
 ·simp only[Sy.kill,find_map]at hv
  obtain⟨u,hu,rfl⟩:=Mz.1 hv
  cases hm:u.men n<;>simp[killV,hm,SV.men]
 ·obtain⟨_,o,ho,h⟩:=kill_find' hk
  cases o<;>simp only[killO,reduceCtorEq,SO.box.injEq]at h
  subst h
  obtain⟨u,_,rfl⟩:=List.mem_map.1 hv
  cases hm:u.men n<;>simp[killV,hm,SV.men]
end
section
def isCells(e:X)(n:Nat):Nat→List SV→Bool
 |i,[]=>i==n
 |i, .x (.mk (.cell j m) [e'])::r=>j==i&&m==n&&beqX e e'&&isCells e n (i+1) r
 |_,_::_=>false
def eta(vs:List SV):Option X:=
 match vs with
 | .x (.mk (.cell _ n) [e])::_=>if 2≤n∧isCells e n 0 vs=true then some e else none
 |_=>none
mutual
def SV.asX:SV→Option X
 | .x e=>some e
 | .agg vs=>(eta vs).or ((SV.asXs vs).map (.mk .agg))
 | .clo f vs=>(SV.asXs vs).map (.mk (.clo f))
 |_=>none
def SV.asXs:List SV→Option (List X)
 | []=>some []
 |v::r=>(SV.asX v).bind fun x=>(SV.asXs r).map fun xs=>x::xs
end
def viewS(h:List (Nat×SO)):Nat→SV→Option X
 |0,_=>none
 |k+1,v=>match v with
  | .x e=>if k=0 then none else some (.mk .nrmC [e])
  | .gl n _=>if k<2 then none else match find h n with
   |some (.lst _ _ c)=>some c
   |_=>none
  | .gs n _ q=>if k<2 then none else match find h n with
   |some (.lst _ _ c)=>some (.mk .take [c,q])
   |_=>none
  | .sb n o len=>if k=0 then none else match find h n with
   |some (.box vs)=>if o+len≤vs.length then(((vs.drop o).take len).mapM (viewS h k)).map (.mk .mkl)else none
   |_=>none
  | .ptr n o=>if k=0 then none else match find h n with
   |some (.box vs)=>if o≤vs.length then((vs.drop o).mapM (viewS h k)).map (.mk .lptr)else none
   |_=>none
  | .clo f vs=>if k=0 then none else(vs.mapM (viewS h k)).map (.mk (.clo f))
  | .mp n=>if k=0 then none else match find h n with
   |some (.map c)=>some (.mk .fmk [c])
   |_=>none
  |_=>none
def viewSA(h:List (Nat×SO))(v:SV):Option X:=
 match v with
 | .x e=>some (.mk .nrm [e])
 | .agg vs=>match eta vs with
  |some e=>some (.mk .nrm [e])
  |none=>(vs.mapM (viewS h 6)).map (.mk .agg)
 |v=>viewS h 6 v
def SV.isX:SV→Bool
 | .x _=>true
 |_=>false
def SV.isUn:SV→Bool
 | .un| .gd .. =>true
 |_=>false
def SV.pl:SV→Bool
 | .x _=>true
 | .agg vs=>vs.all SV.isX
 | .clo _ vs=>vs.all SV.isX
 |_=>false
def cont(h:List (Nat×SO))(n:Nat):Option X:=
 match find h n with
 |some (.lst _ _ c)=>some c
 |_=>none
def plainPK:PK→Bool
 | .call _| .ccall| .mv| .pick| .clo _| .ent=>false
 |_=>true
def symCall(h:List (Nat×SO))(f:Nat)(vs:List SV):Option (SV×List X):=
 (vs.mapM (viewSA h)).map fun es=>(.x (.mk (.call (!vs.all SV.pl) f) es),[.mk (.call (!vs.all SV.pl) f) es])
def qsX:List X→Option (List D)
 | []=>some []
 | .q d::r=>(qsX r).map (d:: ·)
 |_=>none
def foldPK:PK→Bool
 | .ibin _| .inot| .beq _| .conv _| .llen=>true
 |_=>false
def foldX(k:PK)(xs:List X):X:=
 if foldPK k then match(qsX xs).bind (k.run (env0 noG) noMem)with
  |some d=>if d.noT then .q d else .mk (.pk k) xs
  |none=> .mk (.pk k) xs
 else .mk (.pk k) xs
theorem qsX_ev{G:FP}{E:List D}: ∀{xs:List X} {ds:List D},qsX xs=some ds→X.evs G E xs=some ds
 | [],ds,h=>by simp[qsX]at h;subst h;rfl
 |x::r,ds,h=>by
  cases x<;>simp only[qsX]at h<;>try (cases h;done)
  obtain⟨ds',h1,rfl⟩:=Mz.1 h
  simp only[X.evs,X.ev,Oz,qsX_ev h1,Pz]
theorem foldX_ev{G:FP}{E:List D}{k:PK}{xs:List X}:X.ev G E (foldX k xs)=X.ev G E (.mk (.pk k) xs):=by
 unfold foldX
 split
 ·split
  ·rename_i d hd
   split
   ·rename_i hn
    obtain⟨ds,h1,h2⟩:=Bz.1 hd
    simp only[X.ev,qsX_ev h1,Oz,XK.run,h2,if_pos hn]
   ·rfl
  ·rfl
 ·rfl
def isQ:X→Bool
 | .q _=>true
 |_=>false
def symPlain(k:PK)(vs:List SV):Option (SV×List X):=
 if plainPK k then(SV.asXs vs).map fun xs=>(.x (foldX k xs),if isQ (foldX k xs)then []else [foldX k xs])else none
def unG(w:Bool)(c:X):X→X
 | .ite (.mk (.gv w') [c']) e u=>if w'=w∧beqX c' c=true then e else .ite (.mk (.gv w') [c']) e u
 |a=>a
def pickX(c a b:X):X:=match c with
 | .q (.v (.bool true))=>a
 | .q (.v (.bool false))=>b
 |c=> .ite c (unG true c a) (unG false c b)
theorem unG_ev{G:FP}{E:List D}{w:Bool}{c a:X}{vc d:D}(hc:X.ev G E c=some vc)(hw:vc.asBool=some w)(h:X.ev G E (unG w c a)=some d):X.ev G E a=some d:=by
 unfold unG at h
 split at h
 ·split at h
  ·rename_i w' c' e u hh
   obtain⟨rfl,hb⟩:=hh
   obtain rfl:=beqX_eq _ _ hb
   have hv:vc= .v (.bool w'):=by
    cases vc<;>simp only[D.asBool]at hw<;>try (cases hw;done)
    rename_i x
    cases x<;>simp only[]at hw<;>first|(cases hw;rfl)|cases hw
   subst hv
   simp only[X.ev,X.evs,hc,Oz,Pz,XK.run,beq_self_eq_true,bv,D.asBool,cond_true]
   exact h
  ·exact h
 ·exact h
theorem pickX_ev{G:FP}{E:List D}{c a b:X}{d:D}(h:X.ev G E (pickX c a b)=some d):X.ev G E (.ite c a b)=some d:=by
 unfold pickX at h
 split at h
 ·simpa[X.ev,D.asBool]using h
 ·simpa[X.ev,D.asBool]using h
 simp only[X.ev,Bz]at h⊢
 obtain⟨vc,h1,w,h2,h3⟩:=h
 refine⟨vc,h1,w,h2, ?_⟩
 cases w
 ·exact unG_ev h1 h2 h3
 ·exact unG_ev h1 h2 h3
def symMv(_:List (Nat×SO))(vs:List SV):Option (SV×List X):=
 match vs with
 | [v]=>some (v,[])
 |vs=>symPlain (.mv) vs
def symExt(_:List (Nat×SO))(q:Nat)(vs:List SV):Option (SV×List X):=
 match vs with
 | [.tup vs]=>(vs[q]?).map fun v=>(v,[])
 |vs=>symPlain (.ext q) vs
def symChk(_:List (Nat×SO))(vs:List SV):Option (SV×List X):=
 match vs with
 | [.ptr n o]=>some (.ptr n o,[])
 | [.dp n o c s i j]=>some (.dp n o c s i j,[])
 | [.ep n s i j]=>some (.ep n s i j,[])
 | [.clo f us]=>some (.clo f us,[])
 |vs=>symPlain (.chk) vs
def symFld(_:List (Nat×SO))(q:Nat)(vs:List SV):Option (SV×List X):=
 match vs with
 | [.ptr n o]=>some (.ptr n (o+q),[])
 | [.dp n o c s i j]=>some (.dp n o c s i (j+q),[])
 | [.ep n s i j]=>some (.ep n s i (j+q),[])
 |vs=>symPlain (.fld q) vs
def symLoad(h:List (Nat×SO))(m:Nat)(g:Bool)(vs:List SV):Option (SV×List X):=
 match m,g,vs with
 |m,g,[.ptr n o]=>match find h n with
  |some (.box us)=>if o+m≤us.length then(if g then some (.agg ((us.drop o).take m),[])else(us[o]?).map fun v=>(v,[]))else none
  |_=>none
 |1,false,[.rb n o]=>match find h n with
  |some (.box us)=>(us[o]?).map fun v=>(v,[])
  |_=>none
 |m,g,[.dp n o c s i j]=>match find h n with
  |some (.box us)=>if j+m≤s then(SV.asXs ((us.drop o).take (c*s))).map fun xs=>(.x (.mk (.geta c s j m g) [.mk .agg xs,i]),[.mk (.geta c s j m g) [.mk .agg xs,i]])else none
  |_=>none
 |m,g,[.ep n s i j]=>if s<j+m then none else(cont h n).map fun c=>(.x (.mk (.pk (.load m g)) [.mk (.pk (.fld j)) [.mk (.pk (.idx 0 s)) [c,i]]]),[.mk (.pk (.load m g)) [.mk (.pk (.fld j)) [.mk (.pk (.idx 0 s)) [c,i]]]])
 |_,_,vs=>symPlain (.load m g) vs
def symIdx(h:List (Nat×SO))(e s:Nat)(vs:List SV):Option (SV×List X):=
 match s,vs with
 |s,[.gl n s', .x i]=>if s=s' then(cont h n).map fun c=>(.ep n s i 0,[.mk (.pk (.idx 0 s)) [c,i]])else none
 |s,[.gs n s' k, .x i]=>if s=s' then(cont h n).map fun c=>(.ep n s i 0,[.mk (.pk (.idx 0 s)) [.mk .take [c,k],i]])else none
 |s,[.gt n s' k, .x i]=>if s=s' then(cont h n).map fun c=>(.ep n s (.mk .adn [k,i]) 0,[.mk (.pk (.idx 0 s)) [.mk .drp [c,k],i]])else none
 |1,[.sb n o len, .x (.q (.v (.int _ z)))]=>if 0≤z∧z<len then some (.rb n (o+z.toNat),[])else none
 |_,vs=>symPlain (.idx e s) vs
def symAidx(h:List (Nat×SO))(cnt s:Nat)(vs:List SV):Option (SV×List X):=
 match vs with
 | [.ptr n o, .x (.q (.v (.int _ z)))]=>if 0≤z∧z<cnt then some (.ptr n (o+z.toNat*s),[])else none
 | [.ptr n o, .x i]=>match find h n with
  |some (.box us)=>if o+cnt*s≤us.length then some (.dp n o cnt s i 0,[.mk (.rngi cnt) [i]])else none
  |_=>none
 | [.ep n sz i j, .x (.q (.v (.int _ z)))]=>if 0≤z∧z<cnt then some (.ep n sz i (j+z.toNat*s),[])else none
 |vs=>symPlain (.aidx cnt s) vs
def symLlen(h:List (Nat×SO))(vs:List SV):Option (SV×List X):=
 match vs with
 | [.gl n _]=>(cont h n).map fun c=>(.x (.mk (.pk .llen) [c]),[.mk (.pk .llen) [c]])
 | [.gs n _ k]=>(cont h n).map fun c=>(.x (.mk (.pk .llen) [.mk .take [c,k]]),[.mk (.pk .llen) [.mk .take [c,k]]])
 | [.gt n _ k]=>(cont h n).map fun c=>(.x (.mk (.pk .llen) [.mk .drp [c,k]]),[.mk (.pk .llen) [.mk .drp [c,k]]])
 | [.sb _ _ len]=>some (.x (.q (iv len)),[])
 |vs=>symPlain (.llen) vs
def symSlc(h:List (Nat×SO))(s:Nat)(lo hi mx:Bool)(vs:List SV):Option (SV×List X):=
 match s,lo,hi,mx,vs with
 |s,false,true,false,[.gl n s', .x k]=>if s=s' then(cont h n).map fun c=>(.gs n s k,[.mk .take [c,k]])else none
 |s,false,true,false,[.gs n s' _, .x k]=>if s=s' then(cont h n).map fun c=>(.gs n s k,[.mk .take [c,k]])else none
 |s,true,false,false,[.gl n s', .x k]=>if s=s' then(cont h n).map fun c=>(.gt n s k,[.mk .drp [c,k]])else none
 |_,_,_,_,vs=>symPlain (.slc s lo hi mx) vs
def symSla(h:List (Nat×SO))(cnt s:Nat)(lo hi:Bool)(vs:List SV):Option (SV×List X):=
 match cnt,s,lo,hi,vs with
 |cnt,1,false,false,[.ptr n o]=>match find h n with
  |some (.box us)=>if o+cnt≤us.length then some (.sb n o cnt,[])else none
  |_=>none
 |cnt,1,true,false,[.ptr n o, .x (.q (.v (.int _ z)))]=>match find h n with
  |some (.box us)=>if o+cnt≤us.length∧0≤z∧z≤cnt then some (.sb n (o+z.toNat) (cnt-z.toNat),[])else none
  |_=>none
 |_,_,_,_,vs=>symPlain (.sla cnt s lo hi) vs
def symLkp(h:List (Nat×SO))(ks:List Nat)(z:D)(ok:Bool)(vs:List SV):Option (SV×List X):=
 match vs with
 | [.mp n,k]=>match find h n with
  |some (.map c)=>k.asX.map fun k=>(.x (.mk (.mget ks z ok) [c,k]),[.mk (.mget ks z ok) [c,k]])
  |_=>none
 |vs=>symPlain (.lkp ks z ok) vs
def symAfld(_:List (Nat×SO))(off n:Nat)(g:Bool)(vs:List SV):Option (SV×List X):=
 match vs with
 | [.agg us]=>if off+n≤us.length then(if g then some (.agg ((us.drop off).take n),[])else(us[off]?).map fun v=>(v,[]))else none
 |vs=>symPlain (.afld off n g) vs
def symClo(_:List (Nat×SO))(f:Nat)(vs:List SV):Option (SV×List X):=
 if vs.all (fun v=> !v.isUn)then some (.clo f vs,[])else none
def symPick(_:List (Nat×SO))(vs:List SV):Option (SV×List X):=
 match vs with
 | [c,a,b]=>c.asX.bind fun c=>a.asX.bind fun a=>b.asX.map fun b=>(.x (pickX c a b),[pickX c a b])
 |vs=>symPlain (.pick) vs
def symCcall(h:List (Nat×SO))(vs:List SV):Option (SV×List X):=
 match vs with
 | .clo f caps::vs=>if f<1000000 then symCall h f (vs++caps)else none
 | .x e::vs=>(vs.mapM (viewSA h)).map fun es=>(.x (.mk (.ccall (!vs.all SV.pl)) (e::es)),[.mk (.ccall (!vs.all SV.pl)) (e::es)])
 |vs=>symPlain (.ccall) vs
def valD(d:D):SV:=if d.noT then .x (.q d)else .un
def okObl:SV→Option (List X)
 | .x (.q d)=>if d.okC then some []else none
 | .x (.mk (.cell _ _) _)=>some []
 | .x e=>some [.mk .okc [e]]
 | .ptr .. | .gl .. | .ep .. | .clo .. | .dp .. | .gs .. | .sb .. | .rb .. | .mp .. =>some []
 |_=>none
def okObls:List SV→Option (List X)
 | []=>some []
 |v::r=>(okObl v).bind fun a=>(okObls r).map fun b=>a++b
def cellsS(n:Nat)(g:Bool):SV→Option (List SV×List X)
 | .agg vs=>if vs.length=n then(okObls vs).map fun O=>(vs,O)else none
 | .x e=>if g then(if 0<n then some ((List.range n).map fun j=> .x (.mk (.cell j n) [e]),[.mk (.cell 0 n) [e]])else none)else if n=1 then some ([.x e],[.mk .okc [e]])else none
 | .ptr m o=>if n=1 then some ([.ptr m o],[])else none
 | .gl m s=>if n=1 then some ([.gl m s],[])else none
 | .ep m s i j=>if n=1 then some ([.ep m s i j],[])else none
 | .clo f vs=>if n=1 then some ([.clo f vs],[])else none
 | .dp m o c s i j=>if n=1 then some ([.dp m o c s i j],[])else none
 | .gs m s k=>if n=1 then some ([.gs m s k],[])else none
 | .mp m=>if n=1 then some ([.mp m],[])else none
 |_=>none
def isCellX:X→Bool
 | .q d=>d.okC
 | .mk (.cell _ _) _=>true
 | .mk (.pk k) _=>match k with
  | .ibin .. | .ishift .. | .beq .. | .seq .. | .sop .. | .inot| .ineg| .llen| .slen| .conv _| .aeq .. | .snil _=>true
  |_=>false
 |_=>false
def gOf:SV→Bool
 | .x e=> !isCellX e
 |_=>false
def fillS:List SV→List (Nat×Nat)→List SV→Option (List SV×List X)
 |cells,[],[]=>some (cells,[])
 |cells,(off,n)::ps,v::vs=>(cellsS n (gOf v) v).bind fun q=>if off+n≤cells.length then(fillS (cells.take off++q.1++cells.drop (off+n)) ps vs).map fun r=>(r.1,q.2++r.2)else none
 |_,_,_=>none
def symBuild(_:List (Nat×SO))(zero:List D)(places:List (Nat×Nat))(vs:List SV):Option (SV×List X):=
 match fillS (zero.map valD) places vs with
 |some q=>some (.agg q.1,q.2)
 |none=>symPlain (.build zero places) vs
def symAix(_:List (Nat×SO))(n size:Nat)(g:Bool)(vs:List SV):Option (SV×List X):=
 match vs with
 | [.agg us, .x (.q (.v (.int _ i)))]=>if 0≤i∧i<n∧i.toNat*size+size≤us.length then(if g then some (.agg ((us.drop (i.toNat*size)).take size),[])else(us[i.toNat*size]?).map fun v=>(v,[]))else none
 |vs=>symPlain (.aix n size g) vs
def symOp(h:List (Nat×SO))(k:PK)(vs:List SV):Option (SV×List X):=
 match k with
 | .mv=>symMv h vs
 | .ext q=>symExt h q vs
 | .chk=>symChk h vs
 | .fld q=>symFld h q vs
 | .load m g=>symLoad h m g vs
 | .idx e s=>symIdx h e s vs
 | .aidx cnt s=>symAidx h cnt s vs
 | .llen=>symLlen h vs
 | .slc s lo hi mx=>symSlc h s lo hi mx vs
 | .sla cnt s lo hi=>symSla h cnt s lo hi vs
 | .lkp ks z ok=>symLkp h ks z ok vs
 | .afld off n g=>symAfld h off n g vs
 | .clo f=>symClo h f vs
 | .pick=>symPick h vs
 | .call f=>symCall h f vs
 | .ccall=>symCcall h vs
 | .build z p=>symBuild h z p vs
 | .aix n s g=>symAix h n s g vs
 |k=>symPlain k vs
section
variable {Ω : Raws} {G : FP} {E : List D} {ι γ : Nat → Tok} {Y : Sy} {J : St}
theorem isCells_get{e:X}{n:Nat}: ∀{i:Nat} {vs:List SV},isCells e n i vs=true→i+vs.length=n∧ ∀j,j<vs.length→vs[j]?=some (.x (.mk (.cell (i+j) n) [e]))
 |i,[],h=>by simp[isCells]at h;exact⟨by simpa using h,fun j hj=>by simp at hj⟩
 |i,v::r,h=>by
  unfold isCells at h
  split at h
  ·rename_i hh;cases hh
  ·rename_i j m e' r' hh
   cases hh
   simp only[Az,beq_iff_eq]at h
   obtain⟨⟨⟨rfl,rfl⟩,he⟩,hr⟩:=h
   obtain rfl:=beqX_eq _ _ he
   obtain⟨h1,h2⟩:=isCells_get hr
   refine⟨by simp;omega,fun q hq=> ?_⟩
   cases q with
   |zero=>rfl
   |succ q=>
    have:=h2 q (by simpa using hq)
    simpa[Nat.add_assoc,Nat.add_comm 1 q]using this
  ·cases h
theorem eta_sound{vs:List SV}{ds:List D}{e:X}(he:eta vs=some e)(hv:VRs G E ι Y.h vs ds):X.ev G E e=some (.agg ds)∧ds.all D.noTC=true:=by
 unfold eta at he
 split at he
 ·rename_i j n e' r
  split at he
  ·rename_i hc
   cases he
   obtain⟨h2,hc⟩:=hc
   obtain⟨h3,h4⟩:=isCells_get hc
   have at': ∀i,i<n→ ∃d d0,ds[i]?=some d∧X.ev G E e=some d0∧d0.cells.length=n∧d0.cells[i]?=some d∧d.noTC=true:=fun i hi=>by
    have hi':i<(SV.x (.mk (.cell j n) [e])::r).length:=by omega
    have hdl:i<ds.length:=by rw[←hv.1];exact hi'
    have hd:ds[i]?=some ds[i]:=Ez hdl
    have:=hv.2 i _ _ (h4 i hi') hd
    cases this with
    |x h5 _=>
     simp only[X.ev,X.evs,Bz,Mz]at h5
     obtain⟨dd,⟨d0,h6,ds',h7,rfl⟩,h8⟩:=h5
     cases h7
     simp only[XK.run]at h8
     split at h8
     ·rename_i hcc
      simp only[Nat.zero_add]at h8
      refine⟨_,d0,hd,h6,hcc.1,h8, ?_⟩
      exact Tz.1 hcc.2.2 _ (Lz h8)
     ·cases h8
   obtain⟨_,d0,_,h6,h7,_⟩:=at' 0 (by omega)
   have hl:ds.length=n:=by rw[←hv.1];omega
   have hcell:d0.cells=ds:=List.ext_getElem? fun i=>by
    by_cases hi:i<n
    ·obtain⟨d,d1,g1,g2,_,g4,_⟩:=at' i hi
     rw[h6]at g2;cases g2
     rw[g4,g1]
    ·rw[List.getElem?_eq_none (by omega),List.getElem?_eq_none (by omega)]
   refine⟨?_,Tz.2 fun d hd=> ?_⟩
   ·rw[h6]
    cases d0<;>simp only[D.cells]at hcell h7<;>first|(rw[hcell];done)|(simp at h7;omega)
   ·obtain⟨i,hi⟩:=List.getElem?_of_mem hd
    obtain⟨d',_,g1,_,_,_,g5⟩:=at' i (by have:=(Gz.1 hi).1;omega)
    rw[hi]at g1;cases g1;exact g5
  ·cases he
 ·cases he
theorem asXs_get: ∀{vs:List SV} {xs:List X},SV.asXs vs=some xs→xs.length=vs.length∧ ∀(i:Nat) (v:SV) (x:X),vs[i]?=some v→xs[i]?=some x→v.asX=some x
 | [],xs,h=>by simp[SV.asXs]at h;subst h;exact⟨rfl,fun i v x h=>by simp at h⟩
 |v::r,xs,h=>by
  simp only[SV.asXs,Bz,Mz]at h
  obtain⟨x,h1,xs',h2,rfl⟩:=h
  obtain⟨h3,h4⟩:=asXs_get h2
  refine⟨by simp[h3],fun i u y hu hy=> ?_⟩
  cases i with
  |zero=>simp at hu hy;subst hu;subst hy;exact h1
  |succ i=>exact h4 i u y (by simpa using hu) (by simpa using hy)
theorem asX_sound{v:SV}{d:D}(H:VR G E ι Y.h v d): ∀{e:X} {d':D},v.asX=some e→X.ev G E e=some d'→d'=d:=by
 have vals: ∀{vs:List SV} {xs:List X} {ds ds':List D},vs.length=ds.length→(∀(i:Nat) (v:SV) (d:D),vs[i]?=some v→ds[i]?=some d→ ∀{e:X} {d':D},v.asX=some e→X.ev G E e=some d'→d'=d)→
   SV.asXs vs=some xs→X.evs G E xs=some ds'→ds'=ds:=fun{vs xs ds ds'} hl ih ha he=>by
  obtain⟨h1,h2⟩:=asXs_get ha
  have h3:=evs_len he
  refine List.ext_getElem? fun i=> ?_
  by_cases hi:i<vs.length
  ·have e1:=Ez hi
   have e2:=Ez (show i<xs.length by omega)
   have e3:=Ez (show i<ds.length by omega)
   have e4:=Ez (show i<ds'.length by omega)
   rw[e3,e4,ih i _ _ e1 e3 (h2 i _ _ e1 e2) (evs_get he i _ _ e2 e4)]
  ·rw[List.getElem?_eq_none (by omega),List.getElem?_eq_none (by omega)]
 induction H with
 |x h1 _=>intro e d' ha he;cases ha;rw[h1]at he;cases he;rfl
 |agg hl hh ih=>
  intro e d' ha he
  simp only[SV.asX,Option.or_eq_some_iff]at ha
  rcases ha with ha|⟨_,ha⟩
  ·have:=(eta_sound (Y:=Y) ha ⟨hl,hh⟩).1
   rw[this]at he;cases he;rfl
  ·obtain⟨xs,hx,rfl⟩:=Mz.1 ha
   simp only[X.ev,Bz]at he
   obtain⟨ds',h1,h2⟩:=he
   simp only[XK.run]at h2
   split at h2<;>cases h2
   rw[vals hl ih hx h1]
 |clo hl hh ih=>
  intro e d' ha he
  simp only[SV.asX]at ha
  obtain⟨xs,hx,rfl⟩:=Mz.1 ha
  simp only[X.ev,Bz]at he
  obtain⟨ds',h1,h2⟩:=he
  simp only[XK.run]at h2
  split at h2<;>cases h2
  rw[vals hl ih hx h1]
 |_=>intro e d' ha;simp[SV.asX]at ha
theorem asX_noT{v:SV}{d:D}(H:VR G E ι Y.h v d){e:X}{d':D}(ha:v.asX=some e)(he:X.ev G E e=some d'):d'.noT=true:=by
 cases H with
 |x h1 h2=>cases ha;rw[h1]at he;cases he;exact h2
 |agg hl hh=>
  simp only[SV.asX,Option.or_eq_some_iff]at ha
  rcases ha with ha|⟨_,ha⟩
  ·have:=eta_sound (Y:=Y) ha ⟨hl,hh⟩
   rw[this.1]at he;cases he;exact this.2
  ·obtain⟨xs,hx,rfl⟩:=Mz.1 ha
   simp only[X.ev,Bz]at he
   obtain⟨ds',h1,h2⟩:=he
   simp only[XK.run]at h2
   split at h2<;>cases h2
   assumption
 |clo hl hh=>
  simp only[SV.asX]at ha
  obtain⟨xs,hx,rfl⟩:=Mz.1 ha
  simp only[X.ev,Bz]at he
  obtain⟨ds',h1,h2⟩:=he
  simp only[XK.run]at h2
  split at h2<;>cases h2
  assumption
 |_=>simp[SV.asX]at ha
theorem asXs_sound{vs:List SV}{ds ds':List D}{xs:List X}(hv:VRs G E ι Y.h vs ds)(ha:SV.asXs vs=some xs)(he:X.evs G E xs=some ds'):ds'=ds:=by
 obtain⟨h1,h2⟩:=asXs_get ha
 have h3:=evs_len he
 have hl:=hv.1
 refine List.ext_getElem? fun i=> ?_
 by_cases hi:i<vs.length
 ·have e1:=Ez hi
  have e2:=Ez (show i<xs.length by omega)
  have e3:=Ez (show i<ds.length by omega)
  have e4:=Ez (show i<ds'.length by omega)
  rw[e3,e4,asX_sound (hv.2 i _ _ e1 e3) (h2 i _ _ e1 e2) (evs_get he i _ _ e2 e4)]
 ·rw[List.getElem?_eq_none (by omega),List.getElem?_eq_none (by omega)]
end
end
section
theorem viewC_plainB{m:Mem}{k:Nat}{d:D}(h:d.noTB=true):viewC m (k+1) d=viewC noMem 6 d:=by
 cases d<;>simp only[D.noTB]at h<;>first|rfl|cases h
theorem mapM_congr'{f g:D→Option D}: ∀{l:List D},(∀d∈l,f d=g d)→l.mapM f=l.mapM g
 | [],_=>rfl
 |a::l,h=>by
  have h1:=mapM_congr' (f:=f) (g:=g) (l:=l) fun d hd=>h d (Cz _ hd)
  simp only[List.mapM_cons,h a (List.mem_cons_self ..),h1]
theorem viewRow_congr{f g:D→Option D}{l:List D}(h: ∀d∈l,f d=g d):viewRow f l=viewRow g l:=by unfold viewRow;rw[mapM_congr' h]
theorem viewC_plain{m:Mem}{k:Nat}{d:D}(h:d.noTC=true):viewC m (k+2) d=viewC noMem 6 d:=by
 cases d
 case clo f xs=>
  simp only[D.noTC,Tz]at h
  show(viewRow (viewC m (k+1)) xs).map (D.clo f)=(viewRow (viewC noMem 5) xs).map (D.clo f)
  rw[viewRow_congr fun d hd=>(viewC_plainB (m:=m) (k:=k) (h d hd)).trans (viewC_plainB (m:=noMem) (k:=4) (h d hd)).symm]
 all_goals exact viewC_plainB h
theorem viewRow_map{f:D→Option D}{l:List D}(hf: ∀x,f (.v x)=some (.v x)):viewRow f l=l.mapM f:=by
 unfold viewRow
 split
 ·rename_i h
  symm
  induction l with
  |nil=>rfl
  |cons a l ih=>
   simp only[List.all_cons,Az]at h
   have ha:f a=some a:=by cases a<;>first|exact hf _|(simp[D.flatC]at h;done)
   simp[List.mapM_cons,ha,ih h.2]
 ·rfl
theorem viewA_plain{m:Mem}{d:D}(h:d.noT=true):viewA m d=viewA noMem d:=by
 cases d
 case agg xs=>
  simp only[D.noT,Tz]at h
  simp only[viewA]
  rw[viewRow_congr fun d hd=>viewC_plain (m:=m) (k:=4) (h d hd)]
 case clo f xs=>
  simp only[D.noT,Tz]at h
  show(viewRow (viewC m 5) xs).map (D.clo f)=(viewRow (viewC noMem 5) xs).map (D.clo f)
  rw[viewRow_congr fun d hd=>(viewC_plain (m:=m) (k:=3) (h d hd)).trans (viewC_plain (m:=noMem) (k:=3) (h d hd)).symm]
 case tup xs=>rfl
 all_goals exact viewC_plain (m:=m) (k:=4) (by simpa only[D.noT]using h)
theorem mapM_evs{f:SV→Option X}{g:D→Option D}{G:FP}{E:List D}: ∀{vs:List SV} {es:List X} {ds ds':List D},vs.length=ds.length→vs.mapM f=some es→X.evs G E es=some ds'→
  (∀(i:Nat) (v:SV) (d:D),vs[i]?=some v→ds[i]?=some d→ ∀{e:X} {d':D},f v=some e→X.ev G E e=some d'→g d=some d')→ds.mapM g=some ds'
 | [],es,[],ds',_,h,he,_=>by simp at h;subst h;simp[X.evs]at he;subst he;rfl
 |v::vs,es,d::ds,ds',hl,h,he,H=>by
  simp only[List.mapM_cons,Option.bind_eq_bind,Bz,Option.pure_def,Jz]at h
  obtain⟨e,h1,es',h2,rfl⟩:=h
  simp only[X.evs,Bz,Mz]at he
  obtain⟨d',h3,ds'',h4,rfl⟩:=he
  have r:=mapM_evs (ds:=ds) (by simpa using hl) h2 h4 fun i u dd hu hd=>H (i+1) u dd (by simpa using hu) (by simpa using hd)
  simp only[List.mapM_cons,H 0 v d rfl rfl h1 h3,r,Option.bind_eq_bind,Oz,Option.pure_def]
 | [],_,_::_,_,hl,_,_,_=>by simp at hl
 |_::_,_,[],_,hl,_,_,_=>by simp at hl
section
variable {Ω : Raws} {G : FP} {E : List D} {ι γ : Nat → Tok} {Y : Sy} {J : St}
theorem rows_view{m:Mem}{sz k:Nat}{es:List (List D)}(h:rowsOK sz es=true):viewRows (viewC m (k+2)) es=some es:=by
 have cellB: ∀c:D,c.nfB=true→viewC m (k+1) c=some c:=fun c hc=>by
  cases c<;>simp only[D.nfB]at hc<;>first|rfl|cases hc
 have all: ∀(f:D→Option D) (l:List D),(∀c∈l,f c=some c)→l.mapM f=some l:=by
  intro f l
  induction l with
  |nil=>intro _;rfl
  |cons a l ih=>intro hl;simp[List.mapM_cons,hl a (by simp),ih fun c hc=>hl c (by simp[hc])]
 have cell: ∀c:D,c.nfC=true→viewC m (k+2) c=some c:=fun c hc=>by
  cases c
  case clo f xs=>
   simp only[D.nfC,Tz]at hc
   show(viewRow (viewC m (k+1)) xs).map (D.clo f)=_
   rw[viewRow_map (f:=viewC m (k+1)) fun _=>rfl,all _ xs fun c h=>cellB c (hc c h)]
   rfl
  all_goals simp only[D.nfC,D.nfB]at hc<;>first|rfl|cases hc
 have row: ∀q∈es,viewRow (viewC m (k+2)) q=some q:=fun q hq=>by
  have h1:=Tz.1 h q hq
  simp only[Az,Tz]at h1
  rw[viewRow_map (f:=viewC m (k+2)) fun _=>rfl]
  have: ∀l:List D,(∀c∈l,c.nfC=true)→l.mapM (viewC m (k+2))=some l:=by
   intro l
   induction l with
   |nil=>intro _;rfl
   |cons a l ih=>intro hl;simp[List.mapM_cons,cell a (hl a (by simp)),ih fun c hc=>hl c (by simp[hc])]
  exact this q h1.2
 unfold viewRows
 split
 ·rfl
 ·have: ∀l:List (List D),(∀q∈l,viewRow (viewC m (k+2)) q=some q)→l.mapM (viewRow (viewC m (k+2)))=some l:=by
   intro l
   induction l with
   |nil=>intro _;rfl
   |cons a l ih=>intro hl;simp[List.mapM_cons,hl a (by simp),ih fun c hc=>hl c (by simp[hc])]
  exact this es row
theorem rowsOK_len{sz:Nat}{es:List (List D)}(h:rowsOK sz es=true):es.all (fun c=>c.length==sz)=true:=
 Tz.2 fun q hq=>by have:=Tz.1 h q hq;simp only[Az]at this;exact this.1
theorem viewS_sound(M:Mt Ω G E ι γ Y J): ∀(k:Nat) {v:SV} {d:D},VR G E ι Y.h v d→ ∀{e:X} {d':D},viewS Y.h k v=some e→X.ev G E e=some d'→viewC J.m k d=some d'
 |0,_,_,_,_,_,h,_=>by simp[viewS]at h
 |k+1,v,d,H,e,d',h,he=>by
  cases H with
  |x h1 _=>
   simp only[viewS]at h
   split at h
   ·cases h
   ·rename_i hk
    cases h
    obtain⟨k',rfl⟩: ∃k',k=k'+1:=⟨k-1,by omega⟩
    simp only[X.ev,X.evs,h1,Oz,Pz,XK.run]at he
    split at he
    ·rename_i hc;rw[viewC_plain hc];exact he
    ·cases he
  | @ptr n o vs hf=>
   simp only[viewS,hf]at h
   split at h
   ·cases h
   ·rename_i hk
    split at h
    ·rename_i ho
     obtain⟨es,hes,rfl⟩:=Mz.1 h
     simp only[X.ev,Bz]at he
     obtain⟨ds',h1,h2⟩:=he
     cases h2
     obtain⟨ds,_,h3,h4⟩:=M.box n vs hf
     have hl:=h4.1
     simp only[viewC,h3]
     rw[if_pos (by omega)]
     obtain⟨k',rfl⟩: ∃k',k=k'+1:=⟨k-1,by omega⟩
     rw[viewRow_map (f:=viewC J.m (k'+1)) fun _=>rfl]
     rw[mapM_evs (ds:=ds.drop o) (by simp[hl]) hes h1 fun i u dd hu hd=>by
      rw[List.getElem?_drop]at hu hd
      exact fun{e d'}=>viewS_sound M (k'+1) (h4.2 _ u dd hu hd)]
     rfl
    ·cases h
  | @gln n sz e0 c hf hi=>
   simp only[viewS,hf]at h
   split at h<;>cases h
   obtain⟨es,h1,_,h2⟩:=M.lst n e0 sz _ hf
   rcases h2 with⟨_,rfl⟩|⟨h2,_⟩
   ·rw[h1]at he;cases he;rfl
   ·exact absurd hi h2
  | @gl n sz e0 c es hf hc hi=>
   simp only[viewS,hf]at h
   split at h
   ·cases h
   ·rename_i hk
    cases h
    rw[hc]at he;cases he
    obtain⟨es',h1,h3,h2⟩:=M.lst n e0 sz _ hf
    rw[hc]at h1;cases h1
    rcases h2 with⟨h2,_⟩|⟨_,h2⟩
    ·exact absurd h2 hi
    ·obtain⟨k',rfl⟩: ∃k',k=k'+2:=⟨k-2,by omega⟩
     have hel:(D.sl (ι n) sz 0 es.length none).elems J.m=some es:=by
      simp only[D.elems,h2]
      rw[if_pos ⟨by omega,rowsOK_len h3⟩];simp
     show(((D.sl (ι n) sz 0 es.length none).elems J.m).bind fun es=>(viewRows (viewC J.m (k'+2)) es).map D.list)=some (.list es)
     rw[hel]
     simp only[Oz,rows_view h3,Pz]
  | @gsn n sz e0 c q kd hf hi hq=>
   simp only[viewS,hf]at h
   split at h<;>cases h
   obtain⟨es,h1,_,h2⟩:=M.lst n e0 sz _ hf
   rcases h2 with⟨_,rfl⟩|⟨h2,_⟩
   ·simp only[X.ev,X.evs,h1,hq,Oz,Pz,XK.run,List.length_nil]at he
    cases he;rfl
   ·exact absurd hi h2
  | @gs n sz e0 c q es kd z hf hc hi hq h0 hz=>
   simp only[viewS,hf]at h
   split at h
   ·cases h
   ·rename_i hk
    cases h
    simp only[X.ev,X.evs,hc,hq,Oz,Pz,XK.run]at he
    rw[if_pos ⟨h0,hz⟩]at he
    cases he
    obtain⟨es',h1,h3,h2⟩:=M.lst n e0 sz _ hf
    rw[hc]at h1;cases h1
    rcases h2 with⟨h2,_⟩|⟨_,h2⟩
    ·exact absurd h2 hi
    ·obtain⟨k',rfl⟩: ∃k',k=k'+2:=⟨k-2,by omega⟩
     have hel:(D.sl (ι n) sz 0 z.toNat none).elems J.m=some (es.take z.toNat):=by
      simp only[D.elems,h2]
      rw[if_pos ⟨by omega,rowsOK_len h3⟩];simp
     have hrt:rowsOK sz (es.take z.toNat)=true:=Tz.2 fun q hq=>Tz.1 h3 q (List.mem_of_mem_take hq)
     show(((D.sl (ι n) sz 0 z.toNat none).elems J.m).bind fun es=>(viewRows (viewC J.m (k'+2)) es).map D.list)=some (.list (es.take z.toNat))
     rw[hel]
     simp only[Oz,rows_view hrt,Pz]
  | @sb n o len lim vs hf hlen=>
   simp only[viewS,hf]at h
   split at h
   ·cases h
   ·rename_i hk
    obtain⟨es,hes,rfl⟩:=Mz.1 h
    simp only[X.ev,Bz]at he
    obtain⟨ds',h1,h2⟩:=he
    cases h2
    obtain⟨ds,_,h3,h4⟩:=M.box n vs hf
    have hl:=h4.1
    obtain⟨k',rfl⟩: ∃k',k=k'+1:=⟨k-1,by omega⟩
    have hm:((ds.drop o).take len).mapM (viewC J.m (k'+1))=some ds':=mapM_evs (ds:=(ds.drop o).take len) (by simp[hl]) hes h1 fun i u dd hu hd {e d'}=>by
     have hi:i<len:=by have:=(Gz.1 hu).1;simp at this;omega
     rw[List.getElem?_take_of_lt hi,List.getElem?_drop]at hu hd
     exact viewS_sound M (k'+1) (h4.2 _ u dd hu hd)
    have hel:(D.sl (ι n) 1 o len lim).elems J.m=some (((ds.drop o).take len).map fun d=> [d]):=by
     simp only[D.elems,h3]
     rw[if_pos ⟨trivial,by omega⟩]
    show(((D.sl (ι n) 1 o len lim).elems J.m).bind fun es=>(viewRows (viewC J.m (k'+1)) es).map D.list)=some (.list (ds'.map fun d=> [d]))
    rw[hel]
    have hrow: ∀d:D,viewRow (viewC J.m (k'+1)) [d]=(viewC J.m (k'+1) d).map fun d=> [d]:=fun d=>by
     rw[viewRow_map (f:=viewC J.m (k'+1)) fun _=>rfl]
     simp only[List.mapM_cons,List.mapM_nil,Option.bind_eq_bind,Option.pure_def]
     cases viewC J.m (k'+1) d<;>rfl
    have hrows:viewRows (viewC J.m (k'+1)) (((ds.drop o).take len).map fun d=> [d])=some (ds'.map fun d=> [d]):=by
     generalize(ds.drop o).take len=l at hm
     have key: ∀(l ds':List D),l.mapM (viewC J.m (k'+1))=some ds'→(l.map fun d=> [d]).mapM (viewRow (viewC J.m (k'+1)))=some (ds'.map fun d=> [d]):=by
      intro l
      induction l with
      |nil=>intro ds' h;simp at h;subst h;rfl
      |cons a l ih=>
       intro ds' h
       simp only[List.mapM_cons,Option.bind_eq_bind,Bz,Option.pure_def,Jz]at h
       obtain⟨b,hb,r,hr,rfl⟩:=h
       simp only[List.map_cons,List.mapM_cons,hrow,hb,Pz,ih r hr,Option.bind_eq_bind,Oz,Option.pure_def]
     unfold viewRows
     split
     ·rename_i hall
      have:ds'=l:=by
       have e:l.mapM (viewC J.m (k'+1))=some l:=by
        clear hm key
        induction l with
        |nil=>rfl
        |cons a l ih=>
         simp only[List.map_cons,List.all_cons,Az,List.all_nil,and_true]at hall
         have ha:viewC J.m (k'+1) a=some a:=by cases a<;>first|rfl|(simp[D.flatC]at hall;done)
         simp[List.mapM_cons,ha,ih hall.2]
       rw[hm]at e;exact Option.some.inj e
      rw[this]
     ·exact key l ds' hm
    rw[Oz,hrows];rfl
  | @clo f vs ds hl hh=>
   simp only[viewS]at h
   split at h
   ·cases h
   ·rename_i hk
    obtain⟨es,hes,rfl⟩:=Mz.1 h
    simp only[X.ev,Bz]at he
    obtain⟨ds',h1,h2⟩:=he
    simp only[XK.run]at h2
    split at h2<;>cases h2
    obtain⟨k',rfl⟩: ∃k',k=k'+1:=⟨k-1,by omega⟩
    show(viewRow (viewC J.m (k'+1)) ds).map (D.clo f)=_
    rw[viewRow_map (f:=viewC J.m (k'+1)) fun _=>rfl,mapM_evs hl hes h1 fun i u dd hu hd {e d'}=>viewS_sound M (k'+1) (hh i u dd hu hd)]
    rfl
  | @mp n o hf ho=>
   simp only[viewS]at h
   split at h
   ·cases h
   ·split at h
    ·rename_i c hfc
     cases h
     obtain⟨es,k1,k2,k3⟩:=M.mpo n c hfc
     simp only[X.ev,X.evs,k1,Oz,Pz,XK.run,unpair_pair]at he
     split at he<;>cases he
     rename_i hall
     simp only[viewC,k3]
     rw[if_pos hall]
    ·cases h
  |_=>simp[viewS]at h
theorem viewSA_sound(M:Mt Ω G E ι γ Y J){v:SV}{d:D}(H:VR G E ι Y.h v d){e:X}{d':D}(h:viewSA Y.h v=some e)(he:X.ev G E e=some d'):viewA J.m d=some d':=by
 have nrm: ∀{e0:X} {d0:D},X.ev G E e0=some d0→X.ev G E (.mk .nrm [e0])=some d'→viewA J.m d0=some d':=fun{e0 d0} h1 he=>by
  simp only[X.ev,X.evs,h1,Oz,Pz,XK.run]at he
  split at he
  ·rename_i hc;rw[viewA_plain hc];exact he
  ·cases he
 cases H with
 |x h1 _=>simp only[viewSA,Jz]at h;subst h;exact nrm h1 he
 | @agg vs ds hl hh=>
  simp only[viewSA]at h
  split at h
  ·rename_i e0 h0
   cases h
   exact nrm (eta_sound (Y:=Y) h0 ⟨hl,hh⟩).1 he
  ·obtain⟨es,hes,rfl⟩:=Mz.1 h
   simp only[X.ev,Bz]at he
   obtain⟨ds',h1,h2⟩:=he
   simp only[XK.run]at h2
   split at h2<;>cases h2
   show(viewRow (viewC J.m 6) ds).map D.agg=_
   rw[viewRow_map (f:=viewC J.m 6) fun _=>rfl,mapM_evs hl hes h1 fun i u dd hu hd {e d'}=>viewS_sound M 6 (hh i u dd hu hd)]
   rfl
 |un=>simp[viewSA,viewS]at h
 |ptr hf=>exact viewS_sound M 6 (.ptr hf) (by simpa only[viewSA]using h) he
 |gln hf hi=>exact viewS_sound M 6 (.gln hf hi) (by simpa only[viewSA]using h) he
 |gl hf hc hi=>exact viewS_sound M 6 (.gl hf hc hi) (by simpa only[viewSA]using h) he
 |gsn hf hi hk=>exact viewS_sound M 6 (.gsn hf hi hk) (by simpa only[viewSA]using h) he
 |gs hf hc hi hk h0 hz=>exact viewS_sound M 6 (.gs hf hc hi hk h0 hz) (by simpa only[viewSA]using h) he
 |ep=>simp[viewSA,viewS]at h
 |gt=>simp[viewSA,viewS]at h
 |gtn=>simp[viewSA,viewS]at h
 |tup=>simp[viewSA,viewS]at h
 |dp=>simp[viewSA,viewS]at h
 |sb hf hl=>exact viewS_sound M 6 (.sb hf hl) (by simpa only[viewSA]using h) he
 |rb=>simp[viewSA,viewS]at h
 |mp hf ho=>exact viewS_sound M 6 (.mp hf ho) (by simpa only[viewSA]using h) he
 |yl=>simp[viewSA,viewS]at h
 |clo hl hh=>exact viewS_sound M 6 (.clo hl hh) (by simpa only[viewSA]using h) he
 |gd=>simp[viewSA,viewS]at h
theorem noTB_noTC{d:D}(h:d.noTB=true):d.noTC=true:=by cases d<;>simp only[D.noTB]at h<;>first|rfl|cases h
theorem noTC_noT{d:D}(h:d.noTC=true):d.noT=true:=by
 cases d
 case clo f xs=>
  simp only[D.noTC,D.noT,Tz]at h⊢
  exact fun x hx=>noTB_noTC (h x hx)
 all_goals simp only[D.noTC,D.noTB]at h<;>first|rfl|cases h
theorem flatC_noTC{d:D}(h:d.flatC=true):d.noTC=true:=by cases d<;>simp only[D.flatC]at h<;>first|rfl|cases h
theorem flat_noT{d:D}(h:d.flat=true):d.noT=true:=by
 cases d
 case agg xs=>simp only[D.flat,D.noT,Tz]at h⊢;exact fun x hx=>flatC_noTC (h x hx)
 case tup xs=>
  simp only[D.flat,D.noT,Tz]at h⊢
  intro x hx
  have:=h x hx
  cases x
  case agg ys=>simp only[Tz]at this⊢;exact fun y hy=>flatC_noTC (this y hy)
  all_goals exact flatC_noTC this
 all_goals exact noTC_noT (flatC_noTC (by simpa only[D.flat]using h))
theorem pl_noT{v:SV}{d:D}(H:VR G E ι Y.h v d)(hp:v.pl=true){e:X}{d':D}(h:viewSA Y.h v=some e)(he:X.ev G E e=some d'):d.noT=true:=by
 have cells: ∀{vs:List SV} {ds ds':List D} {es:List X} {k:Nat},vs.length=ds.length→(∀(i:Nat) (v:SV) (d:D),vs[i]?=some v→ds[i]?=some d→VR G E ι Y.h v d)→vs.all SV.isX=true→
   vs.mapM (viewS Y.h (k+1))=some es→X.evs G E es=some ds'→ds.all D.noTC=true:=fun{vs ds ds' es k} hl hh hx hes hev=>by
  refine Tz.2 fun d hd=> ?_
  obtain⟨i,hi⟩:=List.getElem?_of_mem hd
  have hil:i<vs.length:=by rw[hl];exact(Gz.1 hi).1
  have hv:=Ez hil
  have hisx:=Tz.1 hx _ (Lz hv)
  have hr:=hh i _ d hv hi
  obtain⟨hlen,hget⟩:=mapM_get hes
  have he1:=Ez (show i<es.length by omega)
  obtain⟨v',hv',he2⟩:=hget i _ he1
  rw[hv]at hv';cases hv'
  have hd':=Ez (show i<ds'.length by rw[evs_len hev];omega)
  have he3:=evs_get hev i _ _ he1 hd'
  cases hvv:vs[i]<;>rw[hvv]at hisx hr he2<;>simp only[SV.isX]at hisx<;>try (cases hisx;done)
  cases hr with
  |x h1 _=>
   simp only[viewS]at he2
   split at he2
   ·cases he2
   ·rw[←Option.some.inj he2]at he3
    simp only[X.ev,X.evs,h1,Oz,Pz,XK.run]at he3
    split at he3
    ·assumption
    ·cases he3
 cases H with
 |x _ h2=>exact h2
 | @agg vs ds hl hh=>
  simp only[viewSA]at h
  split at h
  ·rename_i e0 h0
   exact(eta_sound (Y:=Y) h0 ⟨hl,hh⟩).2
  ·obtain⟨es,hes,rfl⟩:=Mz.1 h
   simp only[X.ev,Bz]at he
   obtain⟨ds',h1,_⟩:=he
   exact cells hl hh (by simpa[SV.pl]using hp) hes h1
 | @clo f vs ds hl hh=>
  simp only[viewSA,viewS]at h
  rw[if_neg (by omega)]at h
  obtain⟨es,hes,rfl⟩:=Mz.1 h
  simp only[X.ev,Bz]at he
  obtain⟨ds',h1,_⟩:=he
  exact cells hl hh (by simpa[SV.pl]using hp) hes h1
 |_=>simp[SV.pl]at hp
theorem views_sound(M:Mt Ω G E ι γ Y J){vs:List SV}{ds as:List D}{es:List X}(hv:VRs G E ι Y.h vs ds)(h:vs.mapM (viewSA Y.h)=some es)(he:X.evs G E es=some as):
  ds.mapM (viewA J.m)=some as∧(vs.all SV.pl=true→ds.all D.noT=true):=by
 refine⟨mapM_evs hv.1 h he fun i u dd hu hd {e d'}=>viewSA_sound M (hv.2 i u dd hu hd),fun hp=>Tz.2 fun d hd=> ?_⟩
 obtain⟨i,hi⟩:=List.getElem?_of_mem hd
 have hil:i<vs.length:=by rw[hv.1];exact(Gz.1 hi).1
 have hv1:=Ez hil
 obtain⟨hlen,hget⟩:=mapM_get h
 have he1:=Ez (show i<es.length by omega)
 obtain⟨v',hv',he2⟩:=hget i _ he1
 rw[hv1]at hv';cases hv'
 have hd':=Ez (show i<as.length by rw[evs_len he];omega)
 exact pl_noT (hv.2 i _ d hv1 hi) (Tz.1 hp _ (Lz hv1)) he2 (evs_get he i _ _ he1 hd')
theorem callX_sound{m:Mem}{fl:Bool}{f:Nat}{ds as:List D}{d:D}(h:ds.mapM (viewA m)=some as)(hp:fl=false→ds.all D.noT=true)(hc:callX G fl f as=some d):
  callV (env0 G) m f ds=some d∧d.noT=true:=by
 unfold callX at hc
 rw[Bz]at hc
 obtain⟨d0,h1,h2⟩:=hc
 cases fl
 ·simp only[Bool.false_eq_true,if_false]at h2
  split at h2<;>cases h2
  rename_i hcond
  exact⟨by simp[callV,h,env0,h1,hp rfl,hcond],hcond⟩
 ·simp only[if_true]at h2
  split at h2<;>cases h2
  rename_i hcond
  refine⟨by
   unfold callV
   rw[h]
   show(G f as).bind _=_
   rw[h1]
   exact if_pos (by rw[hcond];rfl), ?_⟩
  rw[Bool.or_eq_true,Az]at hcond
  exact hcond.elim flat_noT fun h=>h.2
end
end
section
section
variable {Ω : Raws} {G : FP} {E : List D} {ι γ : Nat → Tok} {Y : Sy} {J : St} {h : List (Nat × SO)}
theorem VRs.one{v:SV}{ds:List D}(H:VRs G E ι h [v] ds): ∃d,ds= [d]∧VR G E ι h v d:=by
 obtain⟨hl,hh⟩:=H
 match ds,hl with
 | [d],_=>exact⟨d,rfl,hh 0 v d rfl rfl⟩
theorem VRs.cons{v:SV}{vs:List SV}{ds:List D}(H:VRs G E ι h (v::vs) ds): ∃d r,ds=d::r∧VR G E ι h v d∧VRs G E ι h vs r:=by
 obtain⟨hl,hh⟩:=H
 match ds,hl with
 |d::r,hl=>exact⟨d,r,rfl,hh 0 v d rfl rfl,by simpa using hl,fun i u e hu he=>hh (i+1) u e (by simpa using hu) (by simpa using he)⟩
theorem VRs.nil:VRs G E ι h [] []:=⟨rfl,fun i v d h=>by simp at h⟩
theorem VRs.mk{v:SV}{vs:List SV}{d:D}{ds:List D}(H:VR G E ι h v d)(K:VRs G E ι h vs ds):VRs G E ι h (v::vs) (d::ds):=by
 refine⟨by simp[K.1],fun i u e hu he=> ?_⟩
 cases i with
 |zero=>simp at hu he;subst hu;subst he;exact H
 |succ i=>exact K.2 i u e (by simpa using hu) (by simpa using he)
theorem VRs.two{v u:SV}{ds:List D}(H:VRs G E ι h [v,u] ds): ∃d e,ds= [d,e]∧VR G E ι h v d∧VR G E ι h u e:=by
 obtain⟨d,r,rfl,h1,h2⟩:=H.cons
 obtain⟨e,rfl,h3⟩:=h2.one
 exact⟨d,e,rfl,h1,h3⟩
theorem VRs.three{v u t:SV}{ds:List D}(H:VRs G E ι h [v,u,t] ds): ∃d e f,ds= [d,e,f]∧VR G E ι h v d∧VR G E ι h u e∧VR G E ι h t f:=by
 obtain⟨d,r,rfl,h1,h2⟩:=H.cons
 obtain⟨e,f,rfl,h3,h4⟩:=h2.two
 exact⟨d,e,f,rfl,h1,h3,h4⟩
theorem VRs.append{vs us:List SV}{ds es:List D}(H:VRs G E ι h vs ds)(K:VRs G E ι h us es):VRs G E ι h (vs++us) (ds++es):=by
 refine⟨by simp[H.1,K.1],fun i v d hv hd=> ?_⟩
 by_cases hi:i<vs.length
 ·rw[Yz hi]at hv
  rw[Yz (by rw[←H.1];exact hi)]at hd
  exact H.2 i v d hv hd
 ·rw[Xz (by omega)]at hv
  rw[Xz (by rw[←H.1];omega),←H.1]at hd
  exact K.2 _ v d hv hd
theorem VRs.drop{vs:List SV}{ds:List D}(H:VRs G E ι h vs ds)(k:Nat):VRs G E ι h (vs.drop k) (ds.drop k):=
 ⟨by simp[H.1],fun i v d hv hd=>by rw[List.getElem?_drop]at hv hd;exact H.2 _ v d hv hd⟩
theorem VRs.take{vs:List SV}{ds:List D}(H:VRs G E ι h vs ds)(k:Nat):VRs G E ι h (vs.take k) (ds.take k):=
 ⟨by simp[H.1],fun i v d hv hd=>by
  rw[List.getElem?_take]at hv hd
  split at hv
  ·rename_i hi;rw[if_pos hi]at hd;exact H.2 i v d hv hd
  ·cases hv⟩
theorem ev_mk{k:XK}{xs:List X}{d:D}(he:X.ev G E (.mk k xs)=some d): ∃ds,X.evs G E xs=some ds∧k.run G ds=some d:=by
 simpa only[X.ev,Bz]using he
theorem evs1{x:X}{ds:List D}(he:X.evs G E [x]=some ds): ∃d,ds= [d]∧X.ev G E x=some d:=by
 simp only[X.evs,Pz,Bz]at he
 obtain⟨d,h1,h2⟩:=he
 cases h2;exact⟨d,rfl,h1⟩
theorem evs2{x y:X}{ds:List D}(he:X.evs G E [x,y]=some ds): ∃d e,ds= [d,e]∧X.ev G E x=some d∧X.ev G E y=some e:=by
 simp only[X.evs,Pz,Bz,Mz]at he
 obtain⟨d,h1,e,⟨e',h2,h3⟩,h4⟩:=he
 cases h3;cases h4;exact⟨d,e',rfl,h1,h2⟩
theorem run_env{k:PK}(hp:plainPK k=true)(Γ Γ':Env)(m:Mem)(ds:List D):k.run Γ m ds=k.run Γ' m ds:=by
 cases k<;>first|rfl|(simp[plainPK]at hp)
theorem pk_run{k:PK}{ds:List D}{d:D}(he:(XK.pk k).run G ds=some d)(hp:plainPK k=true:=by rfl):k.run (env0 G) noMem ds=some d∧d.noT=true:=by
 simp only[XK.run,Bz]at he
 obtain⟨d',h1,h2⟩:=he
 split at h2<;>cases h2
 exact⟨by rw[run_env hp _ (env0 noG)];exact h1,by assumption⟩
theorem msub_no(m:Mem):MSub noMem m:=fun _ _ h=>by cases h
theorem symPlain_sound{k:PK}{vs:List SV}{ds:List D}{v:SV}{O:List X}(hv:VRs G E ι Y.h vs ds)(hs:symPlain k vs=some (v,O))(hO: ∀e∈O,∃d,X.ev G E e=some d):
  ∃d,k.run (env0 G) J.m ds=some d∧VR G E ι Y.h v d:=by
 unfold symPlain at hs
 split at hs
 ·rename_i hpp
  obtain⟨xs,hx,he⟩:=Mz.1 hs
  cases he
  have hex: ∃d,X.ev G E (foldX k xs)=some d:=by
   cases hq:isQ (foldX k xs)with
   |true=>
    generalize foldX k xs=y at hq
    cases y<;>simp only[isQ]at hq<;>first|exact⟨_,rfl⟩|cases hq
   |false=>exact hO _ (by rw[hq];exact List.mem_singleton.2 rfl)
  obtain⟨d,hd⟩:=hex
  obtain⟨ds',h1,h2⟩:=ev_mk (foldX_ev.symm.trans hd)
  obtain rfl:=asXs_sound hv hx h1
  obtain⟨h3,h4⟩:=pk_run h2 hpp
  exact⟨d,run_mono_mem (msub_no _) h3, .x hd h4⟩
 ·cases hs
theorem symCall_sound(M:Mt Ω G E ι γ Y J){f:Nat}{vs:List SV}{ds:List D}{v:SV}{O:List X}(hv:VRs G E ι Y.h vs ds)(hs:symCall Y.h f vs=some (v,O))(hO: ∀e∈O,∃d,X.ev G E e=some d):
  ∃d,callV (env0 G) J.m f ds=some d∧VR G E ι Y.h v d:=by
 unfold symCall at hs
 obtain⟨es,hx,he⟩:=Mz.1 hs
 cases he
 obtain⟨d,hd⟩:=hO _ (List.mem_singleton.2 rfl)
 obtain⟨as,h1,h2⟩:=ev_mk hd
 obtain⟨h3,h4⟩:=views_sound M hv hx h1
 obtain⟨h5,h6⟩:=callX_sound h3 (fun hf=>h4 (by simpa using hf)) h2
 exact⟨d,h5, .x hd h6⟩
theorem cont_some{n:Nat}{c:X}(hc:cont h n=some c): ∃e sz,find h n=some (.lst e sz c):=by
 unfold cont at hc
 split at hc<;>cases hc
 exact⟨_,_,by assumption⟩
theorem VR.x_inv{e:X}{d:D}(H:VR G E ι h (.x e) d):X.ev G E e=some d∧d.noT=true:=by cases H;exact⟨by assumption,by assumption⟩
theorem VR.isDef{v:SV}{d:D}(H:VR G E ι h v d)(hu:v.isUn=false):d.isDef=true:=by
 cases H<;>first|rfl|(simp[SV.isUn]at hu;done)|skip
 rename_i e h1 h2
 cases d<;>first|rfl|(simp[D.noT,D.noTC,D.noTB]at h2)
theorem drp_ev{c k:X}{es:List (List D)}{d:D}(hc:X.ev G E c=some (.list es))(h:X.ev G E (.mk .drp [c,k])=some d):
  ∃q z,X.ev G E k=some (.v (.int q z))∧0≤z∧z≤es.length∧d= .list (es.drop z.toNat):=by
 obtain⟨ds,a1,a2⟩:=ev_mk h
 obtain⟨dc,dk,rfl,c3,c4⟩:=evs2 a1
 rw[hc]at c3;cases c3
 simp only[XK.run]at a2
 split at a2
 ·rename_i es0 q z heq
  simp only[List.cons.injEq,D.list.injEq,and_true]at heq
  obtain⟨rfl,rfl⟩:=heq
  split at a2<;>cases a2
  rename_i hc
  exact⟨q,z,c4,hc.1,hc.2,rfl⟩
 ·cases a2
theorem take_ev{c k:X}{es:List (List D)}{d:D}(hc:X.ev G E c=some (.list es))(h:X.ev G E (.mk .take [c,k])=some d):
  ∃q z,X.ev G E k=some (.v (.int q z))∧0≤z∧z≤es.length∧d= .list (es.take z.toNat):=by
 obtain⟨ds,a1,a2⟩:=ev_mk h
 obtain⟨dc,dk,rfl,c3,c4⟩:=evs2 a1
 rw[hc]at c3;cases c3
 simp only[XK.run]at a2
 split at a2
 ·rename_i es0 q z heq
  simp only[List.cons.injEq,D.list.injEq,and_true]at heq
  obtain⟨rfl,rfl⟩:=heq
  split at a2<;>cases a2
  rename_i hc
  exact⟨q,z,c4,hc.1,hc.2,rfl⟩
 ·cases a2
theorem symMv_sound(_:Mt Ω G E ι γ Y J){vs:List SV}{ds:List D}{v:SV}{O:List X}(hv:VRs G E ι Y.h vs ds)(hs:symMv Y.h vs=some (v,O))(hO: ∀e∈O,∃d,X.ev G E e=some d):
  ∃d,(PK.mv).run (env0 G) J.m ds=some d∧VR G E ι Y.h v d:=by
 unfold symMv at hs
 split at hs
 ·cases hs;obtain⟨d,rfl,H⟩:=hv.one;exact⟨d,rfl,H⟩
 ·exact symPlain_sound hv hs hO
theorem symExt_sound(_:Mt Ω G E ι γ Y J){q:Nat}{vs:List SV}{ds:List D}{v:SV}{O:List X}(hv:VRs G E ι Y.h vs ds)(hs:symExt Y.h q vs=some (v,O))(hO: ∀e∈O,∃d,X.ev G E e=some d):
  ∃d,(PK.ext q).run (env0 G) J.m ds=some d∧VR G E ι Y.h v d:=by
 unfold symExt at hs
 split at hs
 ·rename_i vs
  obtain⟨d,rfl,H⟩:=hv.one
  obtain⟨v',hv',he⟩:=Mz.1 hs
  cases he
  cases H with
  |tup hl hh=>
   rename_i xs
   have hlt:=(Gz.1 hv').1
   have hx:=Ez (show q<xs.length by omega)
   exact⟨_,hx,hh q _ _ hv' hx⟩
 ·exact symPlain_sound hv hs hO
theorem symChk_sound(_:Mt Ω G E ι γ Y J){vs:List SV}{ds:List D}{v:SV}{O:List X}(hv:VRs G E ι Y.h vs ds)(hs:symChk Y.h vs=some (v,O))(hO: ∀e∈O,∃d,X.ev G E e=some d):
  ∃d,(PK.chk).run (env0 G) J.m ds=some d∧VR G E ι Y.h v d:=by
 unfold symChk at hs
 split at hs
 ·cases hs;obtain⟨d,rfl,H⟩:=hv.one;cases H;exact⟨_,rfl, .ptr (by assumption)⟩
 ·cases hs;obtain⟨d,rfl,H⟩:=hv.one;have H':=H;cases H;exact⟨_,rfl,H'⟩
 ·cases hs;obtain⟨d,rfl,H⟩:=hv.one;have H':=H;cases H;exact⟨_,rfl,H'⟩
 ·cases hs;obtain⟨d,rfl,H⟩:=hv.one;have H':=H;cases H;exact⟨_,rfl,H'⟩
 ·exact symPlain_sound hv hs hO
theorem symFld_sound(_:Mt Ω G E ι γ Y J){q:Nat}{vs:List SV}{ds:List D}{v:SV}{O:List X}(hv:VRs G E ι Y.h vs ds)(hs:symFld Y.h q vs=some (v,O))(hO: ∀e∈O,∃d,X.ev G E e=some d):
  ∃d,(PK.fld q).run (env0 G) J.m ds=some d∧VR G E ι Y.h v d:=by
 unfold symFld at hs
 split at hs
 ·cases hs;obtain⟨d,rfl,H⟩:=hv.one;cases H;exact⟨_,rfl, .ptr (by assumption)⟩
 ·cases hs;obtain⟨d,rfl,H⟩:=hv.one
  rename_i n o c s i j
  cases H with
  |dp h1 h2 h3 h4 h5=>
   have:=VR.dp (ι:=ι) (j:=j+q) h1 h2 h3 h4 h5
   rw[←Nat.add_assoc]at this
   exact⟨_,rfl,this⟩
 ·cases hs;obtain⟨d,rfl,H⟩:=hv.one
  cases H with
  |ep h1 h2 h3 h4 h5 h6=>exact⟨_,rfl, .ep h1 h2 h3 h4 h5 h6⟩
 ·exact symPlain_sound hv hs hO
theorem symLoad_sound(M:Mt Ω G E ι γ Y J){m:Nat}{g:Bool}{vs:List SV}{ds:List D}{v:SV}{O:List X}(hv:VRs G E ι Y.h vs ds)(hs:symLoad Y.h m g vs=some (v,O))(hO: ∀e∈O,∃d,X.ev G E e=some d):
  ∃d,(PK.load m g).run (env0 G) J.m ds=some d∧VR G E ι Y.h v d:=by
 unfold symLoad at hs
 split at hs
 ·rename_i n o
  obtain⟨d,rfl,H⟩:=hv.one
  cases H with
  |ptr hf=>
   simp only[hf]at hs
   split at hs
   ·rename_i ho
    obtain⟨xs,_,h1,h2⟩:=M.box _ _ hf
    have hl:=h2.1
    simp only[PK.run,loadV,h1]
    rw[if_pos (by omega)]
    cases g
    ·simp only[Bool.false_eq_true,if_false]at hs⊢
     obtain⟨u,hu,he⟩:=Mz.1 hs
     cases he
     have hlt:=(Gz.1 hu).1
     exact⟨_,Ez (show o<xs.length by omega),h2.2 o _ _ hu (Ez _)⟩
    ·simp only[if_true]at hs⊢
     cases hs
     exact⟨_,rfl, .agg ((h2.drop o).take m).1 ((h2.drop o).take m).2⟩
   ·cases hs
 ·rename_i n o
  obtain⟨d,rfl,H⟩:=hv.one
  cases H with
  |rb hf hl=>
   simp only[hf]at hs
   obtain⟨v',hv',he⟩:=Mz.1 hs
   cases he
   obtain⟨xs,_,h1,h2⟩:=M.box _ _ hf
   have hlt:o<xs.length:=by rw[←h2.1];exact hl
   refine⟨xs[o], ?_,h2.2 o _ _ hv' (Ez hlt)⟩
   simp only[PK.run,loadV,h1]
   rw[if_pos ⟨trivial,by omega⟩]
   simp[hlt]
 ·rename_i n o c s i j
  obtain⟨d,rfl,H⟩:=hv.one
  cases H with
  |dp hf hiv h0 hz hl=>
   rename_i z
   simp only[hf]at hs
   split at hs
   ·rename_i hjm
    obtain⟨xs,hx,he⟩:=Mz.1 hs
    cases he
    obtain⟨ds,_,h1,h2⟩:=M.box _ _ hf
    obtain⟨d',hd'⟩:=hO _ (List.mem_singleton.2 rfl)
    obtain⟨ds1,a1,a2⟩:=ev_mk hd'
    obtain⟨da,di,rfl,a3,a4⟩:=evs2 a1
    rw[hiv]at a4;cases a4
    obtain⟨xs',b1,b2⟩:=ev_mk a3
    simp only[XK.run]at b2
    split at b2<;>cases b2
    obtain rfl:=asXs_sound ((h2.drop o).take (c*s)) hx b1
    have hzs:z.toNat*s+s≤c*s:=by
     have:(z.toNat+1)*s≤c*s:=Nat.mul_le_mul_right _ (by omega)
     rw[Nat.add_mul]at this;omega
    have hdl:=h2.1
    simp only[XK.run]at a2
    split at a2
    ·have hcut:(((ds.drop o).take (c*s)).drop (z.toNat*s+j)).take m=(ds.drop (o+z.toNat*s+j)).take m:=by
      rw[List.drop_take,List.drop_drop,List.take_take]
      congr 1
      ·omega
      ·congr 1;omega
     cases g
     ·simp only[Bool.false_eq_true,if_false,Bz]at a2
      obtain⟨d0,c1,c2⟩:=a2
      split at c2<;>cases c2
      rename_i hno
      have hlt0:=(Gz.1 c1).1
      simp only[List.length_take,List.length_drop]at hlt0
      rw[List.getElem?_take_of_lt (by omega),List.getElem?_drop]at c1
      refine⟨d', ?_, .x hd' hno⟩
      simp only[PK.run,loadV,h1]
      rw[if_pos (by omega)]
      simp only[Bool.false_eq_true,if_false]
      rw[show o+z.toNat*s+j=o+(z.toNat*s+j) by omega];exact c1
     ·simp only[if_true]at a2
      rw[hcut]at a2
      split at a2<;>cases a2
      rename_i hno
      refine⟨_, ?_, .x hd' hno⟩
      simp only[PK.run,loadV,h1]
      rw[if_pos (by omega)]
      rfl
    ·cases a2
   ·cases hs
 ·rename_i n s i j
  obtain⟨d,rfl,H⟩:=hv.one
  split at hs
  ·cases hs
  rename_i hjm
  obtain⟨c,hc,he⟩:=Mz.1 hs
  cases he
  obtain⟨e0,sz0,hf⟩:=cont_some hc
  obtain⟨d',hd'⟩:=hO _ (List.mem_singleton.2 rfl)
  cases H with
  |ep g1 g2 g3 g4 g5 g6=>
   rename_i es
   rw[hf]at g1;cases g1
   obtain⟨es',k1,k2,k3⟩:=M.lst _ _ _ _ hf
   rw[g2]at k1;cases k1
   rcases k3 with⟨k3,_⟩|⟨_,k3⟩
   ·exact absurd k3 g3
   ·obtain⟨ds1,a1,a2⟩:=ev_mk hd'
    obtain⟨p1,rfl,a3⟩:=evs1 a1
    obtain⟨a4,a5⟩:=pk_run a2
    obtain⟨ds2,b1,b2⟩:=ev_mk a3
    obtain⟨p2,rfl,b3⟩:=evs1 b1
    obtain⟨b4,_⟩:=pk_run b2
    obtain⟨ds3,c1,c2⟩:=ev_mk b3
    obtain⟨q1,q2,rfl,c3,c4⟩:=evs2 c1
    obtain⟨c5,_⟩:=pk_run c2
    rw[g2]at c3;cases c3
    rw[g4]at c4;cases c4
    simp only[PK.run,idxV]at c5
    rw[if_neg (by omega),Bz]at c5
    obtain⟨cc,c6,c7⟩:=c5
    by_cases hcl:cc.length=s
    ·rw[if_pos hcl]at c7;cases c7
     simp only[PK.run,fldV,Jz]at b4
     subst b4
     refine⟨d', ?_, .x hd' a5⟩
     simp only[PK.run,loadV,k3,c6,Oz]
     simp only[PK.run,loadV,List.length_drop]at a4
     have hidx:(cc.drop j)[0]?=cc[j]?:=by rw[List.getElem?_drop];rfl
     rw[hidx,if_pos (by omega)]at a4
     rw[if_pos ⟨hcl,by omega⟩];exact a4
    ·rw[if_neg hcl]at c7;cases c7
 ·exact symPlain_sound hv hs hO
theorem symIdx_sound(M:Mt Ω G E ι γ Y J){e s:Nat}{vs:List SV}{ds:List D}{v:SV}{O:List X}(hv:VRs G E ι Y.h vs ds)(hs:symIdx Y.h e s vs=some (v,O))(hO: ∀e∈O,∃d,X.ev G E e=some d):
  ∃d,(PK.idx e s).run (env0 G) J.m ds=some d∧VR G E ι Y.h v d:=by
 unfold symIdx at hs
 split at hs
 ·rename_i n s' i
  obtain⟨d,z,rfl,H,K⟩:=hv.two
  split at hs
  ·rename_i hss
   subst hss
   obtain⟨c,hc,he⟩:=Mz.1 hs
   cases he
   obtain⟨e0,sz0,hf⟩:=cont_some hc
   obtain⟨d',hd'⟩:=hO _ (List.mem_singleton.2 rfl)
   obtain⟨ds1,a1,a2⟩:=ev_mk hd'
   obtain⟨q1,q2,rfl,c3,c4⟩:=evs2 a1
   obtain⟨c5,_⟩:=pk_run a2
   obtain⟨k1,_⟩:=K.x_inv
   rw[k1]at c4;cases c4
   obtain⟨es,j1,j2,j3⟩:=M.lst _ _ _ _ hf
   rw[j1]at c3;cases c3
   simp only[PK.run,idxV]at c5
   split at c5
   ·rename_i es0 kd zz heq
    simp only[List.cons.injEq,D.list.injEq,and_true]at heq
    obtain⟨rfl,rfl⟩:=heq
    split at c5
    ·cases c5
    ·rename_i hz0
     rw[Bz]at c5
     obtain⟨cc,c6,_⟩:=c5
     have hlt:=(Gz.1 c6).1
     rcases j3 with⟨_,rfl⟩|⟨j4,j5⟩
     ·simp at hlt
     ·cases H with
      |gln g1 g2=>exact absurd g2 j4
      |gl g1 g2 g3=>
       rw[hf]at g1;cases g1
       rw[j1]at g2;cases g2
       refine⟨.rptr (ι n) s zz.toNat 0, ?_, .ep hf j1 j4 k1 (by omega) hlt⟩
       simp only[PK.run,idxV]
       rw[if_neg hz0,if_pos ⟨trivial,hlt⟩,Nat.zero_add]
   ·rename_i heq
    simp at heq
   ·cases c5
  ·cases hs
 ·rename_i n s' k i
  obtain⟨d,z,rfl,H,K⟩:=hv.two
  split at hs
  ·rename_i hss
   subst hss
   obtain⟨c,hc,he⟩:=Mz.1 hs
   cases he
   obtain⟨e0,sz0,hf⟩:=cont_some hc
   obtain⟨d',hd'⟩:=hO _ (List.mem_singleton.2 rfl)
   obtain⟨ds1,a1,a2⟩:=ev_mk hd'
   obtain⟨q1,q2,rfl,c3,c4⟩:=evs2 a1
   obtain⟨c5,_⟩:=pk_run a2
   obtain⟨k1,_⟩:=K.x_inv
   rw[k1]at c4;cases c4
   obtain⟨es,j1,j2,j3⟩:=M.lst _ _ _ _ hf
   obtain⟨kq,kk,g1,g2,g3,rfl⟩:=take_ev j1 c3
   simp only[PK.run,idxV]at c5
   split at c5
   ·rename_i es0 kd zz heq
    simp only[List.cons.injEq,D.list.injEq,and_true]at heq
    obtain⟨rfl,rfl⟩:=heq
    split at c5
    ·cases c5
    ·rename_i hz0
     rw[Bz]at c5
     obtain⟨cc,c6,_⟩:=c5
     have hlt:=(Gz.1 c6).1
     simp only[List.length_take]at hlt
     rcases j3 with⟨_,rfl⟩|⟨j4,j5⟩
     ·simp at hlt
     ·cases H with
      |gsn _ g4=>exact absurd g4 j4
      |gs g4 g5 g6 g7 g8 g9=>
       rw[g1]at g7;cases g7
       rw[hf]at g4;cases g4
       refine⟨.rptr (ι n) s zz.toNat 0, ?_, .ep hf j1 j4 k1 (by omega) (by omega)⟩
       simp only[PK.run,idxV]
       rw[if_neg hz0,if_pos ⟨trivial,by omega⟩,Nat.zero_add]
   ·rename_i heq
    simp at heq
   ·cases c5
  ·cases hs
 ·rename_i n s' k i
  obtain⟨d,z,rfl,H,K⟩:=hv.two
  split at hs
  ·rename_i hss
   subst hss
   obtain⟨c,hc,he⟩:=Mz.1 hs
   cases he
   obtain⟨e0,sz0,hf⟩:=cont_some hc
   obtain⟨d',hd'⟩:=hO _ (List.mem_singleton.2 rfl)
   obtain⟨ds1,a1,a2⟩:=ev_mk hd'
   obtain⟨q1,q2,rfl,c3,c4⟩:=evs2 a1
   obtain⟨c5,_⟩:=pk_run a2
   obtain⟨k1,_⟩:=K.x_inv
   rw[k1]at c4;cases c4
   obtain⟨es,j1,j2,j3⟩:=M.lst _ _ _ _ hf
   obtain⟨kq,kk,g1,g2,g3,rfl⟩:=drp_ev j1 c3
   simp only[PK.run,idxV]at c5
   split at c5
   ·rename_i es0 kd zz heq
    simp only[List.cons.injEq,D.list.injEq,and_true]at heq
    obtain⟨rfl,rfl⟩:=heq
    split at c5
    ·cases c5
    ·rename_i hz0
     rw[Bz]at c5
     obtain⟨cc,c6,_⟩:=c5
     have hlt:=(Gz.1 c6).1
     simp only[List.length_drop]at hlt
     rcases j3 with⟨_,rfl⟩|⟨j4,j5⟩
     ·simp at hlt
     ·cases H with
      |gtn _ g4=>exact absurd g4 j4
      |gt g4 g5 g6 g7 g8 g9=>
       rw[g1]at g7;cases g7
       rw[hf]at g4;cases g4
       rw[j1]at g5;cases g5
       have hz0':0≤zz:=by omega
       have hadd:(kk+zz).toNat=kk.toNat+zz.toNat:=by omega
       refine⟨.rptr (ι n) s (kk+zz).toNat 0, ?_, .ep hf j1 j4 (by simp only[X.ev,X.evs,g1,k1,Oz,Pz,XK.run];exact if_pos ⟨g2,hz0'⟩) (by omega) (by omega)⟩
       simp only[PK.run,idxV]
       rw[if_neg hz0,if_pos ⟨trivial,by omega⟩,hadd]
   ·rename_i heq
    simp at heq
   ·cases c5
  ·cases hs
 ·rename_i n o len kd z
  obtain⟨d,e',rfl,H,K⟩:=hv.two
  split at hs
  ·rename_i hz
   cases hs
   cases H with
   |sb hf hl=>
    obtain⟨k1,_⟩:=K.x_inv
    cases k1
    refine⟨.rptr (ι n) 1 (o+z.toNat) 0, ?_, .rb hf (by omega)⟩
    simp only[PK.run,idxV]
    rw[if_neg (by omega),if_pos ⟨trivial,by omega⟩]
  ·cases hs
 ·exact symPlain_sound hv hs hO
theorem symAidx_sound(_:Mt Ω G E ι γ Y J){cnt s:Nat}{vs:List SV}{ds:List D}{v:SV}{O:List X}(hv:VRs G E ι Y.h vs ds)(hs:symAidx Y.h cnt s vs=some (v,O))(hO: ∀e∈O,∃d,X.ev G E e=some d):
  ∃d,(PK.aidx cnt s).run (env0 G) J.m ds=some d∧VR G E ι Y.h v d:=by
 unfold symAidx at hs
 split at hs
 ·rename_i n o kd z
  obtain⟨d,e,rfl,H,K⟩:=hv.two
  split at hs
  ·rename_i hz
   cases hs
   cases H with
   |ptr hf=>
    obtain⟨k1,_⟩:=K.x_inv
    cases k1
    refine⟨.ptr (ι n) (o+z.toNat*s), ?_, .ptr hf⟩
    simp only[PK.run,aidxV]
    rw[if_pos hz]
  ·cases hs
 ·rename_i n o i hne
  obtain⟨d,e,rfl,H,K⟩:=hv.two
  split at hs
  ·rename_i us hf
   split at hs
   ·rename_i hl
    cases hs
    obtain⟨d',hd'⟩:=hO _ (List.mem_singleton.2 rfl)
    obtain⟨ds1,a1,a2⟩:=ev_mk hd'
    obtain⟨q1,rfl,c3⟩:=evs1 a1
    obtain⟨k1,_⟩:=K.x_inv
    rw[k1]at c3;cases c3
    simp only[XK.run]at a2
    split at a2<;>try (cases a2;done)
    rename_i kd z heq
    simp only[List.cons.injEq,and_true]at heq
    rw[heq]at k1⊢
    split at a2
    ·rename_i hz
     cases H with
     |ptr _=>
      have:=VR.dp (ι:=ι) (j:=0) hf k1 hz.1 hz.2 hl
      rw[Nat.add_zero]at this
      refine⟨.ptr (ι n) (o+z.toNat*s), ?_,this⟩
      simp only[PK.run,aidxV]
      rw[if_pos hz]
    ·cases a2
   ·cases hs
  ·cases hs
 ·rename_i n sz i j kd z
  obtain⟨d,e,rfl,H,K⟩:=hv.two
  split at hs
  ·rename_i hz
   cases hs
   cases H with
   |ep h1 h2 h3 h4 h5 h6=>
    obtain⟨k1,_⟩:=K.x_inv
    cases k1
    refine⟨.rptr (ι n) sz _ (j+z.toNat*s), ?_, .ep h1 h2 h3 h4 h5 h6⟩
    simp only[PK.run,aidxV]
    rw[if_pos hz]
  ·cases hs
 ·exact symPlain_sound hv hs hO
theorem symLlen_sound(M:Mt Ω G E ι γ Y J){vs:List SV}{ds:List D}{v:SV}{O:List X}(hv:VRs G E ι Y.h vs ds)(hs:symLlen Y.h vs=some (v,O))(hO: ∀e∈O,∃d,X.ev G E e=some d):
  ∃d,(PK.llen).run (env0 G) J.m ds=some d∧VR G E ι Y.h v d:=by
 unfold symLlen at hs
 split at hs
 ·rename_i n sz
  obtain⟨d,rfl,H⟩:=hv.one
  obtain⟨c,hc,he⟩:=Mz.1 hs
  cases he
  obtain⟨e0,sz0,hf⟩:=cont_some hc
  obtain⟨d',hd'⟩:=hO _ (List.mem_singleton.2 rfl)
  obtain⟨ds1,a1,a2⟩:=ev_mk hd'
  obtain⟨p1,rfl,a3⟩:=evs1 a1
  obtain⟨a4,a5⟩:=pk_run a2
  obtain⟨es,j1,j2,j3⟩:=M.lst _ _ _ _ hf
  rw[j1]at a3;cases a3
  simp only[PK.run,lenV,D.lenD,Oz,Jz]at a4
  subst a4
  refine⟨_, ?_, .x hd' a5⟩
  cases H with
  |gln g1 g2=>
   rcases j3 with⟨_,rfl⟩|⟨j4,_⟩
   ·rfl
   ·exact absurd g2 j4
  |gl g1 g2 g3=>
   rw[hf]at g1;cases g1
   rw[j1]at g2;cases g2
   rfl
 ·rename_i n sz k
  obtain⟨d,rfl,H⟩:=hv.one
  obtain⟨c,hc,he⟩:=Mz.1 hs
  cases he
  obtain⟨e0,sz0,hf⟩:=cont_some hc
  obtain⟨d',hd'⟩:=hO _ (List.mem_singleton.2 rfl)
  obtain⟨ds1,a1,a2⟩:=ev_mk hd'
  obtain⟨p1,rfl,a3⟩:=evs1 a1
  obtain⟨a4,a5⟩:=pk_run a2
  obtain⟨es,j1,j2,j3⟩:=M.lst _ _ _ _ hf
  obtain⟨kq,kk,g1,g2,g3,rfl⟩:=take_ev j1 a3
  simp only[PK.run,lenV,D.lenD,Oz,Jz,List.length_take]at a4
  refine⟨_, ?_, .x hd' a5⟩
  cases H with
  |gsn g4 g5 g6=>
   rcases j3 with⟨_,rfl⟩|⟨j4,_⟩
   ·rw[←a4];simp[PK.run,lenV,D.lenD]
   ·exact absurd g5 j4
  |gs g4 g5 g6 g7 g8 g9=>
   rw[g1]at g7;cases g7
   rw[←a4]
   simp only[PK.run,lenV,D.lenD,Oz]
   congr 3;omega
 ·rename_i n sz k
  obtain⟨d,rfl,H⟩:=hv.one
  obtain⟨c,hc,he⟩:=Mz.1 hs
  cases he
  obtain⟨e0,sz0,hf⟩:=cont_some hc
  obtain⟨d',hd'⟩:=hO _ (List.mem_singleton.2 rfl)
  obtain⟨ds1,a1,a2⟩:=ev_mk hd'
  obtain⟨p1,rfl,a3⟩:=evs1 a1
  obtain⟨a4,a5⟩:=pk_run a2
  obtain⟨es,j1,j2,j3⟩:=M.lst _ _ _ _ hf
  obtain⟨kq,kk,g1,g2,g3,rfl⟩:=drp_ev j1 a3
  simp only[PK.run,lenV,D.lenD,Oz,Jz,List.length_drop]at a4
  refine⟨_, ?_, .x hd' a5⟩
  cases H with
  |gtn g4 g5 g6=>
   rcases j3 with⟨_,rfl⟩|⟨j4,_⟩
   ·rw[←a4];simp[PK.run,lenV,D.lenD]
   ·exact absurd g5 j4
  |gt g4 g5 g6 g7 g8 g9=>
   rw[g1]at g7;cases g7
   rw[hf]at g4;cases g4
   rw[j1]at g5;cases g5
   rw[←a4]
   simp only[PK.run,lenV,D.lenD,Oz]
 ·cases hs;obtain⟨d,rfl,H⟩:=hv.one;cases H;exact⟨_,rfl, .x rfl rfl⟩
 ·exact symPlain_sound hv hs hO
theorem symSlc_sound(M:Mt Ω G E ι γ Y J){s:Nat}{lo hi mx:Bool}{vs:List SV}{ds:List D}{v:SV}{O:List X}(hv:VRs G E ι Y.h vs ds)(hs:symSlc Y.h s lo hi mx vs=some (v,O))(hO: ∀e∈O,∃d,X.ev G E e=some d):
  ∃d,(PK.slc s lo hi mx).run (env0 G) J.m ds=some d∧VR G E ι Y.h v d:=by
 unfold symSlc at hs
 split at hs
 ·rename_i n s' k
  obtain⟨d,z,rfl,H,K⟩:=hv.two
  split at hs
  ·rename_i hss
   subst hss
   obtain⟨c,hc,he⟩:=Mz.1 hs
   cases he
   obtain⟨e0,sz0,hf⟩:=cont_some hc
   obtain⟨d',hd'⟩:=hO _ (List.mem_singleton.2 rfl)
   obtain⟨es,j1,j2,j3⟩:=M.lst _ _ _ _ hf
   obtain⟨kq,kk,g1,g2,g3,rfl⟩:=take_ev j1 hd'
   obtain⟨k1,_⟩:=K.x_inv
   rw[k1]at g1;cases g1
   cases H with
   |gln g4 g5=>
    rcases j3 with⟨_,rfl⟩|⟨j4,_⟩
    ·obtain rfl:kk=0:=by simp at g3;omega
     rw[hf]at g4;cases g4
     exact⟨.list [],by simp[PK.run,slcV,intsV,boundsV,cutV], .gsn hf g5 k1⟩
    ·exact absurd g5 j4
   |gl g4 g5 g6=>
    rw[hf]at g4;cases g4
    rw[j1]at g5;cases g5
    refine⟨.sl (ι n) s 0 kk.toNat none, ?_, .gs hf j1 g6 k1 g2 g3⟩
    simp only[PK.run,slcV,intsV,Pz,boundsV,Oz]
    rw[if_pos ⟨by omega,g2, .inl g3,trivial⟩]
    simp
  ·cases hs
 ·rename_i n s' k0 k
  obtain⟨d,z,rfl,H,K⟩:=hv.two
  split at hs
  ·rename_i hss
   subst hss
   obtain⟨c,hc,he⟩:=Mz.1 hs
   cases he
   obtain⟨e0,sz0,hf⟩:=cont_some hc
   obtain⟨d',hd'⟩:=hO _ (List.mem_singleton.2 rfl)
   obtain⟨es,j1,j2,j3⟩:=M.lst _ _ _ _ hf
   obtain⟨kq,kk,g1,g2,g3,rfl⟩:=take_ev j1 hd'
   obtain⟨k1,_⟩:=K.x_inv
   rw[k1]at g1;cases g1
   cases H with
   |gsn g4 g5 _=>
    rcases j3 with⟨_,rfl⟩|⟨j4,_⟩
    ·obtain rfl:kk=0:=by simp at g3;omega
     rw[hf]at g4;cases g4
     exact⟨.list [],by simp[PK.run,slcV,intsV,boundsV,cutV], .gsn hf g5 k1⟩
    ·exact absurd g5 j4
   |gs g4 g5 g6 g7 g8 g9=>
    rw[hf]at g4;cases g4
    rw[j1]at g5;cases g5
    rcases j3 with⟨j4,_⟩|⟨j4,j5⟩
    ·exact absurd j4 g6
    refine⟨.sl (ι n) s 0 kk.toNat none, ?_, .gs hf j1 g6 k1 g2 g3⟩
    simp only[PK.run,slcV,intsV,Pz,boundsV,Oz]
    rw[if_pos ⟨by omega,g2, .inr (by simp only[roomV,j5];simpa using g3),trivial⟩]
    simp
  ·cases hs
 ·rename_i n s' k
  obtain⟨d,z,rfl,H,K⟩:=hv.two
  split at hs
  ·rename_i hss
   subst hss
   obtain⟨c,hc,he⟩:=Mz.1 hs
   cases he
   obtain⟨e0,sz0,hf⟩:=cont_some hc
   obtain⟨d',hd'⟩:=hO _ (List.mem_singleton.2 rfl)
   obtain⟨es,j1,j2,j3⟩:=M.lst _ _ _ _ hf
   obtain⟨kq,kk,g1,g2,g3,rfl⟩:=drp_ev j1 hd'
   obtain⟨k1,_⟩:=K.x_inv
   rw[k1]at g1;cases g1
   cases H with
   |gln g4 g5=>
    rcases j3 with⟨_,rfl⟩|⟨j4,_⟩
    ·obtain rfl:kk=0:=by simp at g3;omega
     rw[hf]at g4;cases g4
     exact⟨.list [],by simp[PK.run,slcV,intsV,boundsV,cutV], .gtn hf g5 k1⟩
    ·exact absurd g5 j4
   |gl g4 g5 g6=>
    rw[hf]at g4;cases g4
    rw[j1]at g5;cases g5
    refine⟨.sl (ι n) s kk.toNat (es.length-kk.toNat) none, ?_, .gt hf j1 g6 k1 g2 g3⟩
    simp only[PK.run,slcV,intsV,Pz,boundsV,Oz]
    rw[if_pos ⟨g2,g3, .inl (by omega),trivial⟩]
    simp
  ·cases hs
 ·exact symPlain_sound hv hs hO
theorem symSla_sound(_:Mt Ω G E ι γ Y J){cnt s:Nat}{lo hi:Bool}{vs:List SV}{ds:List D}{v:SV}{O:List X}(hv:VRs G E ι Y.h vs ds)(hs:symSla Y.h cnt s lo hi vs=some (v,O))(hO: ∀e∈O,∃d,X.ev G E e=some d):
  ∃d,(PK.sla cnt s lo hi).run (env0 G) J.m ds=some d∧VR G E ι Y.h v d:=by
 unfold symSla at hs
 split at hs
 ·rename_i n o
  obtain⟨d,rfl,H⟩:=hv.one
  split at hs
  ·rename_i us hf
   split at hs
   ·rename_i hl
    cases hs
    cases H with
    |ptr _=>
     refine⟨.sl (ι n) 1 o cnt (some cnt), ?_, .sb hf hl⟩
     simp[PK.run,slaV,intsV,boundsV]
   ·cases hs
  ·cases hs
 ·rename_i n o kd z
  obtain⟨d,e,rfl,H,K⟩:=hv.two
  split at hs
  ·rename_i us hf
   split at hs
   ·rename_i hl
    obtain⟨hl,h0,h1⟩:=hl
    cases hs
    obtain⟨k1,_⟩:=K.x_inv
    cases k1
    cases H with
    |ptr _=>
     refine⟨.sl (ι n) 1 (o+z.toNat) (cnt-z.toNat) (some (cnt-z.toNat)), ?_, .sb hf (by omega)⟩
     simp only[PK.run,slaV,intsV,Pz,boundsV,Oz]
     rw[if_pos ⟨h0,h1,Int.le_refl _,trivial⟩]
     simp
   ·cases hs
  ·cases hs
 ·exact symPlain_sound hv hs hO
theorem symLkp_sound(M:Mt Ω G E ι γ Y J){ks:List Nat}{z:D}{ok:Bool}{vs:List SV}{ds:List D}{v:SV}{O:List X}(hv:VRs G E ι Y.h vs ds)(hs:symLkp Y.h ks z ok vs=some (v,O))(hO: ∀e∈O,∃d,X.ev G E e=some d):
  ∃d,(PK.lkp ks z ok).run (env0 G) J.m ds=some d∧VR G E ι Y.h v d:=by
 unfold symLkp at hs
 split at hs
 ·rename_i n k
  obtain⟨d,e,rfl,H,K⟩:=hv.two
  split at hs
  ·rename_i c hf
   obtain⟨kx,hkx,he⟩:=Mz.1 hs
   cases he
   obtain⟨d',hd'⟩:=hO _ (List.mem_singleton.2 rfl)
   obtain⟨ds1,a1,a2⟩:=ev_mk hd'
   obtain⟨dc,dk,rfl,c3,c4⟩:=evs2 a1
   obtain⟨es,j1,j2,j3⟩:=M.mpo _ _ hf
   rw[j1]at c3;cases c3
   obtain rfl:=asX_sound K hkx c4
   simp only[XK.run,unpair_pair,Oz,Bz]at a2
   obtain⟨d0,g1,g2⟩:=a2
   split at g2<;>cases g2
   rename_i hno
   cases H with
   |mp _=>
    refine⟨_, ?_, .x hd' hno⟩
    simp only[PK.run,lkpV,j3]
    exact g1
  ·cases hs
 ·exact symPlain_sound hv hs hO
theorem symAfld_sound(_:Mt Ω G E ι γ Y J){off n:Nat}{g:Bool}{vs:List SV}{ds:List D}{v:SV}{O:List X}(hv:VRs G E ι Y.h vs ds)(hs:symAfld Y.h off n g vs=some (v,O))(hO: ∀e∈O,∃d,X.ev G E e=some d):
  ∃d,(PK.afld off n g).run (env0 G) J.m ds=some d∧VR G E ι Y.h v d:=by
 unfold symAfld at hs
 split at hs
 ·rename_i us
  obtain⟨d,rfl,H⟩:=hv.one
  cases H with
  |agg hl hh=>
   rename_i xs
   have h2:VRs G E ι Y.h us xs:=⟨hl,hh⟩
   split at hs
   ·rename_i ho
    simp only[PK.run,afldV]
    rw[if_pos (by omega)]
    cases g
    ·simp only[Bool.false_eq_true,if_false]at hs⊢
     obtain⟨u,hu,he⟩:=Mz.1 hs
     cases he
     have hlt:=(Gz.1 hu).1
     exact⟨_,Ez (show off<xs.length by omega),h2.2 off _ _ hu (Ez _)⟩
    ·simp only[if_true]at hs⊢
     cases hs
     exact⟨_,rfl, .agg ((h2.drop off).take n).1 ((h2.drop off).take n).2⟩
   ·cases hs
 ·exact symPlain_sound hv hs hO
theorem symClo_sound(_:Mt Ω G E ι γ Y J){f:Nat}{vs:List SV}{ds:List D}{v:SV}{O:List X}(hv:VRs G E ι Y.h vs ds)(hs:symClo Y.h f vs=some (v,O))(hO: ∀e∈O,∃d,X.ev G E e=some d):
  ∃d,(PK.clo f).run (env0 G) J.m ds=some d∧VR G E ι Y.h v d:=by
 unfold symClo at hs
 split at hs
 ·rename_i hu
  cases hs
  refine⟨.clo f ds, ?_, .clo hv.1 hv.2⟩
  simp only[PK.run,cloV]
  rw[if_pos (Tz.2 fun d hd=> ?_)]
  obtain⟨i,hi⟩:=List.getElem?_of_mem hd
  have hil:i<vs.length:=by rw[hv.1];exact(Gz.1 hi).1
  have hvi:=Ez hil
  have:=Tz.1 hu _ (Lz hvi)
  exact(hv.2 i _ d hvi hi).isDef (by simpa using this)
 ·cases hs
theorem symPick_sound(_:Mt Ω G E ι γ Y J){vs:List SV}{ds:List D}{v:SV}{O:List X}(hv:VRs G E ι Y.h vs ds)(hs:symPick Y.h vs=some (v,O))(hO: ∀e∈O,∃d,X.ev G E e=some d):
  ∃d,(PK.pick).run (env0 G) J.m ds=some d∧VR G E ι Y.h v d:=by
 unfold symPick at hs
 split at hs
 ·rename_i c a b
  obtain⟨d,e,f,rfl,H,K,L⟩:=hv.three
  simp only[Bz,Mz]at hs
  obtain⟨xc,h1,xa,h2,xb,h3,he⟩:=hs
  cases he
  obtain⟨d',hd'⟩:=hO _ (List.mem_singleton.2 rfl)
  have hd:=pickX_ev hd'
  simp only[X.ev,Bz]at hd
  obtain⟨vc,g1,bb,g2,g3⟩:=hd
  obtain rfl:=asX_sound H h1 g1
  cases bb
  ·simp only[cond_false]at g3
   obtain rfl:=asX_sound L h3 g3
   exact⟨d',by simp[PK.run,pickV,g2], .x hd' (asX_noT L h3 g3)⟩
  ·simp only[cond_true]at g3
   obtain rfl:=asX_sound K h2 g3
   exact⟨d',by simp[PK.run,pickV,g2], .x hd' (asX_noT K h2 g3)⟩
 ·exact symPlain_sound hv hs hO
theorem symCcall_sound(M:Mt Ω G E ι γ Y J){vs:List SV}{ds:List D}{v:SV}{O:List X}(hv:VRs G E ι Y.h vs ds)(hs:symCcall Y.h vs=some (v,O))(hO: ∀e∈O,∃d,X.ev G E e=some d):
  ∃d,(PK.ccall).run (env0 G) J.m ds=some d∧VR G E ι Y.h v d:=by
 unfold symCcall at hs
 split at hs
 ·rename_i f caps vs
  obtain⟨d,r,rfl,H,K⟩:=hv.cons
  split at hs
  rotate_left
  ·cases hs
  rename_i hflt
  cases H with
  |clo hl hh=>
   obtain⟨d',h1,h2⟩:=symCall_sound M (K.append ⟨hl,hh⟩) hs hO
   exact⟨d',by simp only[PK.run,ccallV,if_pos hflt];exact h1,h2⟩
 ·rename_i e vs
  obtain⟨d,r,rfl,H,K⟩:=hv.cons
  obtain⟨es,hx,he⟩:=Mz.1 hs
  cases he
  obtain⟨d',hd'⟩:=hO _ (List.mem_singleton.2 rfl)
  obtain⟨ds1,a1,a2⟩:=ev_mk hd'
  simp only[X.evs,Bz,Mz]at a1
  obtain⟨dc,b1,as,b2,rfl⟩:=a1
  obtain⟨k1,k2⟩:=H.x_inv
  rw[k1]at b1;cases b1
  obtain⟨h3,h4⟩:=views_sound M K hx b2
  simp only[XK.run]at a2
  split at a2
  ·rename_i f caps rr heq
   cases heq
   split at a2
   rotate_left
   ·cases a2
   rename_i hflt
   rw[Bz]at a2
   obtain⟨cs,c1,c2⟩:=a2
   have hcp:caps.all D.noT=true:=by
    simp only[D.noT,Tz]at k2⊢
    exact fun x hx=>noTC_noT (k2 x hx)
   have hcv:caps.mapM (viewA J.m)=some cs:=by
    rw[←c1]
    exact mapM_congr' fun x hx=>viewA_plain (Tz.1 hcp x hx)
   obtain⟨h5,h6⟩:=callX_sound (m:=J.m) (ds:=r++caps) (as:=as++cs) (by rw[List.mapM_append,h3,hcv];rfl) (fun hf=>by
    simp only[List.all_append,Az]
    exact⟨h4 (by simpa using hf),hcp⟩) c2
   exact⟨d',by simp only[PK.run,ccallV,if_pos hflt];exact h5, .x hd' h6⟩
  ·cases a2
 ·exact symPlain_sound hv hs hO
theorem valD_rep{h:List (Nat×SO)}(d:D):VR G E ι h (valD d) d:=by
 unfold valD
 split
 ·exact .x rfl (by assumption)
 ·exact .un
theorem okObl_sound{h:List (Nat×SO)}{v:SV}{d:D}{O:List X}(H:VR G E ι h v d)(ho:okObl v=some O)(hO: ∀e∈O,∃d,X.ev G E e=some d):d.okC=true:=by
 unfold okObl at ho
 split at ho
 ·split at ho<;>cases ho
  cases H with|x h1 _=>cases h1;assumption
 ·cases ho
  cases H with
  |x h1 _=>
   obtain⟨ds,g1,g2⟩:=ev_mk h1
   simp only[XK.run]at g2
   split at g2
   ·split at g2
    ·rename_i hc
     exact Tz.1 hc.2.1 _ (Lz g2)
    ·cases g2
   ·cases g2
 ·cases ho
  obtain⟨d',hd'⟩:=hO _ (List.mem_singleton.2 rfl)
  obtain⟨ds,g1,g2⟩:=ev_mk hd'
  obtain⟨d2,rfl,g3⟩:=evs1 g1
  obtain⟨h1,_⟩:=H.x_inv
  rw[h1]at g3;cases g3
  simp only[XK.run]at g2
  split at g2<;>cases g2
  rename_i hc;exact hc.1
 ·cases H;rfl
 ·cases H<;>rfl
 ·cases H;rfl
 ·cases H;rfl
 ·cases H;rfl
 ·cases H<;>rfl
 ·cases H;rfl
 ·cases H;rfl
 ·cases H;rfl
 ·cases ho
theorem okObls_sound{h:List (Nat×SO)}: ∀{vs:List SV} {ds:List D} {O:List X},VRs G E ι h vs ds→okObls vs=some O→(∀e∈O,∃d,X.ev G E e=some d)→ds.all D.okC=true
 | [],ds,O,H,_,_=>by
  have h0:ds= []:=List.eq_nil_of_length_eq_zero H.1.symm
  subst h0;rfl
 |v::r,ds,O,H,ho,hO=>by
  obtain⟨d,ds',rfl,h1,h2⟩:=H.cons
  simp only[okObls,Bz,Mz]at ho
  obtain⟨a,h3,b,h4,rfl⟩:=ho
  simp only[List.all_cons,okObl_sound h1 h3 fun e he=>hO e (by simp[he]),okObls_sound h2 h4 fun e he=>hO e (by simp[he]),Bool.and_self]
theorem cellsS_sound{h:List (Nat×SO)}{n:Nat}{g:Bool}{v:SV}{d:D}{vs:List SV}{O:List X}(H:VR G E ι h v d)(hc:cellsS n g v=some (vs,O))(hO: ∀e∈O,∃d,X.ev G E e=some d):
  d.cells.length=n∧d.cells.all D.okC=true∧VRs G E ι h vs d.cells:=by
 have one: ∀{u:SV} {d:D},VR G E ι h u d→d.cells= [d]→d.okC=true→n=1→d.cells.length=n∧d.cells.all D.okC=true∧VRs G E ι h [u] d.cells:=fun{u d} H h1 h2 h3=>by
  rw[h1];exact⟨h3.symm,by simp[h2],VRs.mk H VRs.nil⟩
 unfold cellsS at hc
 split at hc
 ·split at hc
  ·rename_i hl
   obtain⟨O',h1,h2⟩:=Mz.1 hc
   cases h2
   cases H with
   |agg h3 h4=>exact⟨h3.symm.trans hl,okObls_sound ⟨h3,h4⟩ h1 hO,h3,h4⟩
  ·cases hc
 ·rename_i e
  obtain⟨h1,h2⟩:=H.x_inv
  split at hc
  ·split at hc
   ·rename_i hn
    cases hc
    obtain⟨d',hd'⟩:=hO _ (List.mem_singleton.2 rfl)
    obtain⟨ds,g1,g2⟩:=ev_mk hd'
    obtain⟨d2,rfl,g3⟩:=evs1 g1
    rw[h1]at g3;cases g3
    simp only[XK.run]at g2
    split at g2
    ·rename_i hcc
     refine⟨hcc.1,hcc.2.1,by simp[hcc.1],fun i v c hv hcd=> ?_⟩
     have hi:=(Gz.1 hcd).1
     simp only[Dz,List.getElem?_range (show i<n by omega),Pz,Jz]at hv
     subst hv
     refine .x ?_ (noTC_noT (Tz.1 hcc.2.2 _ (Lz hcd)))
     simp only[X.ev,X.evs,h1,Oz,Pz,XK.run]
     rw[if_pos hcc];exact hcd
    ·cases g2
   ·cases hc
  ·split at hc
   ·rename_i hn
    cases hc
    obtain⟨d',hd'⟩:=hO _ (List.mem_singleton.2 rfl)
    obtain⟨ds,g1,g2⟩:=ev_mk hd'
    obtain⟨d2,rfl,g3⟩:=evs1 g1
    rw[h1]at g3;cases g3
    simp only[XK.run]at g2
    split at g2
    ·rename_i hcc
     have hcells:d.cells= [d]:=by cases d<;>first|rfl|(simp[D.okC]at hcc)
     exact one H hcells hcc.1 hn
    ·cases g2
   ·cases hc
 ·split at hc<;>cases hc
  cases H with|ptr hf=>exact one (.ptr hf) rfl rfl (by assumption)
 ·split at hc<;>cases hc
  have H':=H
  cases H with
  |gln=>exact one H' rfl rfl (by assumption)
  |gl=>exact one H' rfl rfl (by assumption)
 ·split at hc<;>cases hc
  have H':=H
  cases H;exact one H' rfl rfl (by assumption)
 ·split at hc<;>cases hc
  have H':=H
  cases H;exact one H' rfl rfl (by assumption)
 ·split at hc<;>cases hc
  have H':=H
  cases H;exact one H' rfl rfl (by assumption)
 ·split at hc<;>cases hc
  have H':=H
  cases H with
  |gsn=>exact one H' rfl rfl (by assumption)
  |gs=>exact one H' rfl rfl (by assumption)
 ·split at hc<;>cases hc
  have H':=H
  cases H;exact one H' rfl rfl (by assumption)
 ·cases hc
theorem putAt_VRs{h:List (Nat×SO)}{us vs:List SV}{xs ds:List D}{o:Nat}(H:VRs G E ι h us xs)(K:VRs G E ι h vs ds):VRs G E ι h (us.take o++vs++us.drop (o+vs.length)) (putAt xs o ds):=by
 unfold putAt
 rw[K.1]
 exact((H.take o).append K).append (H.drop _)
theorem fillS_sound{h:List (Nat×SO)}: ∀{ps:List (Nat×Nat)} {cells vs r:List SV} {xs ds:List D} {O:List X},VRs G E ι h cells xs→VRs G E ι h vs ds→fillS cells ps vs=some (r,O)→(∀e∈O,∃d,X.ev G E e=some d)→
  ∃ys,fillV xs ps ds=some ys∧VRs G E ι h r ys∧ds.all (fun d=>d.cells.all D.okC)=true
 | [],cells,[],r,xs,ds,O,H,K,hf,hO=>by
  cases hf
  have:ds= []:=List.eq_nil_of_length_eq_zero K.1.symm
  subst this
  exact⟨xs,rfl,H,rfl⟩
 | [],cells,v::vs,r,xs,ds,O,H,K,hf,hO=>by cases hf
 |(off,n)::ps,cells,[],r,xs,ds,O,H,K,hf,hO=>by cases hf
 |(off,n)::ps,cells,v::vs,r,xs,ds,O,H,K,hf,hO=>by
  simp only[fillS,Bz]at hf
  obtain⟨⟨cs,O1⟩,h1,hf⟩:=hf
  split at hf
  ·rename_i hlen
   obtain⟨⟨r',O2⟩,h2,h3⟩:=Mz.1 hf
   cases h3
   obtain⟨d,ds',rfl,K1,K2⟩:=K.cons
   obtain⟨c1,c2,c3⟩:=cellsS_sound K1 h1 fun e he=>hO e (List.mem_append_left _ he)
   have hcl:cs.length=n:=by rw[c3.1];exact c1
   have hput:=putAt_VRs (o:=off) H c3
   rw[hcl]at hput
   obtain⟨ys,y1,y2,y3⟩:=fillS_sound hput K2 h2 fun e he=>hO e (List.mem_append_right _ he)
   refine⟨ys, ?_,y2,by simp[c2,y3]⟩
   simp only[fillV]
   rw[if_pos ⟨c1,by rw[←H.1];exact hlen⟩]
   exact y1
  ·cases hf
theorem symBuild_sound(_:Mt Ω G E ι γ Y J){zero:List D}{places:List (Nat×Nat)}{vs:List SV}{ds:List D}{v:SV}{O:List X}(hv:VRs G E ι Y.h vs ds)(hs:symBuild Y.h zero places vs=some (v,O))(hO: ∀e∈O,∃d,X.ev G E e=some d):
  ∃d,(PK.build zero places).run (env0 G) J.m ds=some d∧VR G E ι Y.h v d:=by
 unfold symBuild at hs
 split at hs
 ·rename_i q hq
  cases hs
  have hz:VRs G E ι Y.h (zero.map valD) zero:=⟨by simp,fun i v d hv hd=>by
   rw[Dz,hd]at hv
   simp only[Pz,Jz]at hv
   subst hv;exact valD_rep d⟩
  obtain⟨ys,y1,y2,y3⟩:=fillS_sound hz hv (show fillS _ _ _=some (q.1,q.2)from hq) hO
  refine⟨.agg ys, ?_, .agg y2.1 y2.2⟩
  simp only[PK.run,buildV]
  rw[if_pos y3,y1];rfl
 ·exact symPlain_sound hv hs hO
theorem symAix_sound(_:Mt Ω G E ι γ Y J){n size:Nat}{g:Bool}{vs:List SV}{ds:List D}{v:SV}{O:List X}(hv:VRs G E ι Y.h vs ds)(hs:symAix Y.h n size g vs=some (v,O))(hO: ∀e∈O,∃d,X.ev G E e=some d):
  ∃d,(PK.aix n size g).run (env0 G) J.m ds=some d∧VR G E ι Y.h v d:=by
 unfold symAix at hs
 split at hs
 ·rename_i us k i
  obtain⟨d,e,rfl,H,K⟩:=hv.two
  obtain⟨k1,_⟩:=K.x_inv
  cases k1
  cases H with
  | @agg _ xs hl hh=>
   have HH:VRs G E ι Y.h us xs:=⟨hl,hh⟩
   split at hs
   ·rename_i hc
    have hc':0≤i∧i<n∧i.toNat*size+size≤xs.length:=by rw[←hl];exact hc
    split at hs
    ·rename_i hg
     cases hs
     refine⟨.agg ((xs.drop (i.toNat*size)).take size),by simp only[PK.run,aixV];rw[if_pos hc',if_pos hg], ?_⟩
     have:=(HH.drop (i.toNat*size)).take size
     exact .agg this.1 this.2
    ·rename_i hg
     obtain⟨u,hu,he⟩:=Mz.1 hs
     cases he
     have hi:=(Gz.1 hu).1
     have hd:xs[i.toNat*size]?=some (xs[i.toNat*size]'(by omega)):=Ez _
     refine⟨_,by simp only[PK.run,aixV];rw[if_pos hc',if_neg hg];exact hd,hh _ _ _ hu hd⟩
   ·cases hs
 ·exact symPlain_sound hv hs hO
theorem symOp_sound(M:Mt Ω G E ι γ Y J){k:PK}{vs:List SV}{ds:List D}{v:SV}{O:List X}(hv:VRs G E ι Y.h vs ds)(hs:symOp Y.h k vs=some (v,O))(hO: ∀e∈O,∃d,X.ev G E e=some d):
  ∃d,k.run (env0 G) J.m ds=some d∧VR G E ι Y.h v d:=by
 unfold symOp at hs
 split at hs
 ·exact symMv_sound M hv hs hO
 ·exact symExt_sound M hv hs hO
 ·exact symChk_sound M hv hs hO
 ·exact symFld_sound M hv hs hO
 ·exact symLoad_sound M hv hs hO
 ·exact symIdx_sound M hv hs hO
 ·exact symAidx_sound M hv hs hO
 ·exact symLlen_sound M hv hs hO
 ·exact symSlc_sound M hv hs hO
 ·exact symSla_sound M hv hs hO
 ·exact symLkp_sound M hv hs hO
 ·exact symAfld_sound M hv hs hO
 ·exact symClo_sound M hv hs hO
 ·exact symPick_sound M hv hs hO
 ·exact symCall_sound M hv hs hO
 ·exact symCcall_sound M hv hs hO
 ·exact symBuild_sound M hv hs hO
 ·exact symAix_sound M hv hs hO
 ·exact symPlain_sound hv hs hO
end
end
section
def valS(Y:Sy):VArg→SV
 | .t i=>(find Y.s i).getD .un
 | .c (.agg xs)=> .agg (xs.map valD)
 | .c d=>valD d
def contOf(h:List (Nat×SO)):SV→Option X
 | .x e=>some e
 | .gl n _=>cont h n
 | .gs n _ k=>(cont h n).map fun c=> .mk .take [c,k]
 | .gt n _ k=>(cont h n).map fun c=> .mk .drp [c,k]
 |_=>none
def Sy.nw(Y:Sy)(x:Nat):Sy:=Y.kill (Y.nx+x)
def Sy.add(Y:Sy)(x nm:Nat)(o:SO)(v:SV):Sy:={Y with h:=setA nm o Y.h,s:=setA x v Y.s}
def cellsOfX(N:Nat)(e:X):List SV:=(List.range N).map fun k=> .x (.mk (.cell k N) [e])
def symStore(n:Nat)(g:Bool)(va vv:SV)(Y:Sy):Option (Sy×List X):=
 match va with
 | .ptr m o=>match find Y.h m with
  |some (.box us)=>(cellsS n g vv).bind fun q=>if o+n≤us.length then some ({Y with h:=setA m (.box (us.take o++q.1++us.drop (o+n))) Y.h},q.2)else none
  |_=>none
 | .rb m o=>match find Y.h m with
  |some (.box us)=>(cellsS n g vv).bind fun q=>if o+n≤us.length then some ({Y with h:=setA m (.box (us.take o++q.1++us.drop (o+n))) Y.h},q.2)else none
  |_=>none
 | .dp m o c s i j=>match find Y.h m with
  |some (.box us)=>(SV.asXs ((us.drop o).take (c*s))).bind fun xs=>vv.asX.bind fun x=>
   if o+c*s≤us.length then some ({Y with h:=setA m (.box (us.take o++cellsOfX (c*s) (.mk (.seta c s j n) [.mk .agg xs,i,x])++us.drop (o+c*s))) Y.h},[.mk (.seta c s j n) [.mk .agg xs,i,x]])else none
  |_=>none
 | .ep m s i j=>match find Y.h m with
  |some (.lst t sz c)=>if sz=s then vv.asX.map fun x=>({Y with h:=setA m (.lst t sz (.mk (.setl s j n) [c,i,x])) Y.h},[.mk (.setl s j n) [c,i,x]])else none
  |_=>none
 |_=>none
def symApp(x t size:Nat)(va vb:SV)(Y:Sy)(nm:Nat):Option (Sy×List X):=
 (contOf Y.h vb).bind fun cb=>match va with
  | .x (.q .nil)=>some (Y.add x nm (.lst t size (.mk (.app size) [.q (.list []),cb])) (.gl nm size),[.mk (.app size) [.q (.list []),cb]])
  | .gl n s=>match find Y.h n with
   |some (.lst t' s' c)=>if t'=t∧s=size∧s'=size then some ((Y.kill n).add x nm (.lst t size (.mk (.app size) [c,cb])) (.gl nm size),[.mk (.app size) [c,cb]])else none
   |_=>none
  |_=>none
def SO.isMpl:SO→Bool
 | .mpl .. =>true
 |_=>false
def acX(t size f:Nat)(xs:List X):X:= .mk (.app size) [.q (.list []), .mk .drp [.mk (.call false (1000001000000+(1000000*t+f))) xs, .q (iv 0)]]
def symEff(e:Eff)(Y:Sy):Option (Sy×List X):=
 match e with
 | .box n g x a=>(cellsS n g (valS (Y.nw x) a)).map fun q=>((Y.nw x).add x (Y.nx+x) (.box q.1) (.ptr (Y.nx+x) 0),q.2)
 | .store n g a v=>symStore n g (valS Y a) (valS Y v) Y
 | .app x t size a b=>symApp x t size (valS (Y.nw x) a) (valS (Y.nw x) b) (Y.nw x) (Y.nx+x)
 | .mks x t size zero a b=>match valS (Y.nw x) a,valS (Y.nw x) b with
  | .x ea, .x eb=>some ((Y.nw x).add x (Y.nx+x) (.lst t size (.mk (.mks size zero) [ea,eb])) (.gl (Y.nx+x) size),[.mk (.mks size zero) [ea,eb]])
  |_,_=>none
 | .lit x t size len zero places args=>(SV.asXs (args.map (valS (Y.nw x)))).map fun xs=>((Y.nw x).add x (Y.nx+x) (.lst t size (.mk (.lit size len zero places) xs)) (.gl (Y.nx+x) size),[.mk (.lit size len zero places) xs])
 | .mkm x=>some ((Y.nw x).add x (Y.nx+x) (.map (.q (.list []))) (.mp (Y.nx+x)),[])
 | .mkml x e sz=>if Y.h.all (fun p=> !p.2.isMpl)then some ((Y.nw x).add x (Y.nx+x) (.mpl e sz (.q (.list []))) (.mp (Y.nx+x)),[])else none
 | .copy x a b=>match valS Y a,valS Y b with
  | .sb n o l, .sb m p l'=>match find Y.h n,find Y.h m with
   |some (.box us),some (.box vs)=>if 0<l∧0<l'∧o+l≤us.length∧p+l'≤vs.length then
     some ((match x with
      |some i=>Sy.set {Y with h:=setA n (.box (us.take o++(vs.drop p).take (min l' l)++us.drop (o+min l' l))) Y.h} i (.x (.q (iv ((min l' l:Nat):Int))))
      |none=>{Y with h:=setA n (.box (us.take o++(vs.drop p).take (min l' l)++us.drop (o+min l' l))) Y.h}),[])else none
   |_,_=>none
  |_,_=>none
 | .mupd ks a k v=>match valS Y a with
  | .mp n=>match find Y.h n with
   |some (.map c)=>(valS Y k).asX.bind fun kx=>(valS Y v).asX.map fun vx=>({Y with h:=setA n (.map (.mk (.mset ks) [c,kx,vx])) Y.h},[.mk (.mset ks) [c,kx,vx]])
   |_=>none
  |_=>none
 | .clr size zero a=>match valS Y a with
  | .gt n sz k=>match find Y.h n with
   |some (.lst e sz' c)=>if(sz'=sz∧size=sz)∧(zero.length==size&&zero.all D.nfC)=true then some ({Y with h:=setA n (.lst e sz (.mk (.clr zero) [c,k])) Y.h},[.mk (.clr zero) [c,k]])else none
   |_=>none
  |_=>none
 | .ecall x k f args=>match(args.map (valS Y))[k]? with
  |some (.gl n sz)=>match find Y.h n with
   |some (.lst e sz' c)=>if sz'=sz then(SV.asXs ((args.map (valS Y)).set k (.x c))).map fun xs=>
     (Sy.set {Y with h:=setA n (.lst e sz (.mk (.pk (.ext 1)) [.mk (.ecall k f sz) xs])) Y.h} x (.x (.mk (.pk (.ext 0)) [.mk (.ecall k f sz) xs])),[.mk (.pk (.ext 1)) [.mk (.ecall k f sz) xs], .mk (.pk (.ext 0)) [.mk (.ecall k f sz) xs]])else none
   |_=>none
  |_=>none
 | .acall x t size f args=>if f<1000000 then(SV.asXs (args.map (valS (Y.nw x)))).map fun xs=>((Y.nw x).add x (Y.nx+x) (.lst t size (acX t size f xs)) (.gl (Y.nx+x) size),acX t size f xs::xs.map fun a=> .mk .nrm [a])else none
section
variable {Ω : Raws} {G : FP} {E : List D} {ι γ : Nat → Tok} {Y : Sy} {J : St}
theorem valS_rep(M:Mt Ω G E ι γ Y J)(a:VArg):VR G E ι Y.h (valS Y a) (a.val J.s):=by
 cases a with
 |t i=>
  simp only[valS,VArg.val]
  cases hf:find Y.s i with
  |none=>exact .un
  |some v=>exact M.slot i v hf
 |c d=>
  cases d<;>simp only[valS,VArg.val]<;>try exact valD_rep _
  rename_i xs
  exact .agg (by simp) fun i v d hv hd=>by
   rw[Dz,hd]at hv
   simp only[Pz,Jz]at hv
   subst hv;exact valD_rep d
theorem mens_false{n:Nat}: ∀{vs:List SV},(∀v∈vs,v.men n=false)→SV.mens n vs=false
 | [],_=>rfl
 |v::r,h=>by
  have h1:=mens_false (n:=n) (vs:=r) fun u hu=>h u (Cz _ hu)
  simp only[SV.mens,h v (List.mem_cons_self ..),h1,Bool.or_self]
theorem mens_mem{n:Nat}{vs:List SV}(h:SV.mens n vs=false): ∀v∈vs,v.men n=false:=fun v hv=>by
 obtain⟨i,hi⟩:=List.getElem?_of_mem hv
 exact mens_get h i v hi
theorem valS_free{x:Nat}(F:Y.free x)(a:VArg):(valS Y a).men x=false:=by
 have vd: ∀d:D,(valD d).men x=false:=fun d=>by unfold valD;split<;>rfl
 cases a with
 |t i=>
  simp only[valS]
  cases hf:find Y.s i with
  |none=>rfl
  |some v=>exact F.2.1 i v hf
 |c d=>
  cases d<;>simp only[valS]<;>try exact vd _
  rename_i xs
  simp only[SV.men]
  exact mens_false fun v hv=>by obtain⟨d,_,rfl⟩:=List.mem_map.1 hv;exact vd d
theorem cellsS_free {x n : Nat} {g : Bool} {v : SV} {vs : List SV} {O : List X} (hc : cellsS n g v = some (vs, O)) (hv : v.men x = false) : ∀ u ∈ vs, u.men x = false := by
  unfold cellsS at hc
  split at hc
  · split at hc
    · obtain ⟨O', h1, h2⟩ := Mz.1 hc
      cases h2
      exact mens_mem (by simpa only [SV.men] using hv)
    · cases hc
  · split at hc
    · split at hc <;> cases hc
      intro u hu
      obtain ⟨j, _, rfl⟩ := List.mem_map.1 hu
      rfl
    · split at hc <;> cases hc
      intro u hu; simp at hu; subst hu; rfl
  all_goals first
    | (cases hc; done)
    | (split at hc <;> cases hc
       intro u hu; simp at hu; subst hu; exact hv)
theorem VR.fresh{h:List (Nat×SO)}{v:SV}{d:D}(H:VR G E ι h v d){x:Nat}(hx:v.men x=false){t:Tok}{o:SO}:VR G E (fun n=>if n=x then t else ι n) (setA x o h) v d:=
 H.mono (fun _ _ h=>h) fun n hn=>by
  have hne:n≠x:=fun e=>by subst e;rw[hx]at hn;cases hn
  exact⟨if_neg hne,Lk.same (fun _ _ h=>h) (by rw[find_set,if_neg hne])⟩
theorem VRs.fresh{h:List (Nat×SO)}{vs:List SV}{ds:List D}(H:VRs G E ι h vs ds){x:Nat}(hx: ∀v∈vs,v.men x=false){t:Tok}{o:SO}:VRs G E (fun n=>if n=x then t else ι n) (setA x o h) vs ds:=
 ⟨H.1,fun i v d hv hd=>(H.2 i v d hv hd).fresh (hx v (Lz hv))⟩
theorem Mt.nw(M:Mt Ω G E ι γ Y J)(x:Nat):Mt Ω G E ι γ (Y.nw x) J∧(Y.nw x).free (Y.nx+x):=M.kill _
theorem Mt.add(M:Mt Ω G E ι γ Y J){x nm:Nat}(F:Y.free nm){o:SO}{v:SV}{t g:Tok}{J':St}(W:WF J')(hs: ∀j,j≠x→J'.s j=J.s j)
  (hm: ∀n o',find Y.h n=some o'→ι n≠ []→J'.m (ι n)=J.m (ι n)) (hc: ∀y,J.c y≤J'.c y) (hr: ∀t q,J.m t=some (.raw q)→J'.m t=some (.raw q))
  (hv:VR G E (fun n=>if n=nm then t else ι n) (setA nm o Y.h) v (J'.s x))
  (ho:match o with
   | .box vs=> ∃ds,t≠ []∧J'.m t=some (.box ds)∧VRs G E (fun n=>if n=nm then t else ι n) (setA nm o Y.h) vs ds
   | .lst e sz c=> ∃es,X.ev G E c=some (.list es)∧rowsOK sz es=true∧(t= []∧es= []∨t≠ []∧J'.m t=some (.row g e es))∧(t≠ []→ ∀n e sz c,find Y.h n=some (.lst e sz c)→ι n≠ []→γ n≠g)∧(t≠ []→ ∀y k r,g=(y+1)::k::r→k<J'.c y)
   | .map c=> ∃es,X.ev G E c=some (.list (pairR es))∧t≠ []∧J'.m t=some (.map es)
   | .mpl _ _ c=>X.ev G E c=some (.list [])∧t≠ []∧J'.m t=some (.map [])∧ ∀k e sz c,find Y.h k≠some (.mpl e sz c)
   | .raw k=>t=Ω.t nm∧t≠ []∧J'.m t=some (.raw (Ω.f nm k))∧ ¬Ω.c t)
  (ht:t≠ []→ ∀n o,find Y.h n=some o→ι n≠t) (hx: ∀q,Owned Y.h ι γ J q→t≠q.u∧(t≠ []→(∃e sz c,o= .lst e sz c)→g≠q.g)∧J'.m q.u=J.m q.u):
  Mt Ω G E (fun n=>if n=nm then t else ι n) (fun n=>if n=nm then g else γ n) (Y.add x nm o v) J':=by
 have hf: ∀n,find (Y.add x nm o v).h n=if n=nm then some o else find Y.h n:=fun n=>find_set nm n o Y.h
 refine⟨fun i u hu=> ?_,fun n vs hn=> ?_,fun n e sz c hn=> ?_,fun n c hn=> ?_,fun n e sz c hn=> ?_,fun n n' e e' sz sz' c c' h1 h2=> ?_,fun n kk hn=> ?_,fun n n' o1 o2 h1 h2 he hne=> ?_,fun n n' e e' sz sz' c c' h1 h2 k1 k2 he=> ?_,W,fun n e sz c hn hne y k r hg=> ?_,M.nv,fun t ht=>hr t _ (M.con t ht)⟩
 ·simp only[Sy.add,find_set]at hu
  by_cases hi:i=x
  ·rw[if_pos hi]at hu;cases hu;rw[hi];exact hv
  ·rw[if_neg hi]at hu
   rw[hs i hi]
   exact(M.slot i u hu).fresh (F.2.1 i u hu)
 ·rw[hf]at hn
  by_cases hi:n=nm
  ·rw[if_pos hi]at hn;cases hn
   obtain⟨ds,h1,h2,h3⟩:=ho
   exact⟨ds,by simpa[hi]using h1,by simpa[hi]using h2,h3⟩
  ·rw[if_neg hi]at hn
   obtain⟨ds,h1,h2,h3⟩:=M.box n vs hn
   refine⟨ds,by simpa[hi]using h1, ?_,h3.fresh (F.2.2 n vs hn)⟩
   simp only[if_neg hi]
   rw[hm n _ hn h1];exact h2
 ·rw[hf]at hn
  by_cases hi:n=nm
  ·rw[if_pos hi]at hn;cases hn
   obtain⟨es,h1,h2,h3,_⟩:=ho
   exact⟨es,h1,h2,by simpa[hi]using h3⟩
  ·rw[if_neg hi]at hn
   obtain⟨es,h1,h2,h3⟩:=M.lst n e sz c hn
   refine⟨es,h1,h2, ?_⟩
   simp only[if_neg hi]
   rcases h3 with h3|⟨h3,h4⟩
   ·exact .inl h3
   ·exact .inr ⟨h3,by rw[hm n _ hn h3];exact h4⟩
 ·rw[hf]at hn
  by_cases hi:n=nm
  ·rw[if_pos hi]at hn;cases hn
   obtain⟨es,h1,h2,h3⟩:=ho
   exact⟨es,h1,by simpa[hi]using h2,by simpa[hi]using h3⟩
  ·rw[if_neg hi]at hn
   obtain⟨es,h1,h2,h3⟩:=M.mpo n c hn
   refine⟨es,h1,by simpa[hi]using h2, ?_⟩
   simp only[if_neg hi]
   rw[hm n _ hn h2];exact h3
 ·rw[hf]at hn
  by_cases hi:n=nm
  ·rw[if_pos hi]at hn;cases hn
   obtain⟨h1,h2,h3,_⟩:=ho
   exact⟨[],h1,by simpa[hi]using h2,by simpa[hi]using h3,fun q hq=>(by cases hq),List.nodup_nil⟩
  ·rw[if_neg hi]at hn
   obtain⟨L,h1,h2,h3,h4⟩:=M.own n e sz c hn
   refine⟨L,h1,by simpa[hi]using h2, ?_,fun q hq=> ?_,h4.2⟩
   ·simp only[if_neg hi]
    rw[hm n _ hn h2];exact h3
   ·obtain⟨k1,k2,k3⟩:=hx q ⟨n,e,sz,c,L,hn,h3,h4,hq⟩
    obtain⟨_,_,_,q4,q5,_⟩:=h4.1 q hq
    refine(h4.1 q hq).keep k3 (fun k o' hk=> ?_) (fun k e' sz' c' hk hne=> ?_) hc
    ·rw[hf]at hk
     by_cases hkn:k=nm
     ·simp only[if_pos hkn];exact k1
     ·rw[if_neg hkn]at hk;simp only[if_neg hkn];exact q4 k o' hk
    ·rw[hf]at hk
     by_cases hkn:k=nm
     ·rw[if_pos hkn]at hk;simp only[if_pos hkn]at hne⊢;exact k2 hne ⟨_,_,_,Option.some.inj hk⟩
     ·rw[if_neg hkn]at hk;simp only[if_neg hkn]at hne⊢;exact q5 k e' sz' c' hk hne
 ·rw[hf]at h1 h2
  by_cases hi:n=nm<;>by_cases hi':n'=nm
  ·rw[hi,hi']
  ·rw[if_pos hi]at h1;rw[if_neg hi']at h2;cases h1
   exact absurd h2 (ho.2.2.2 _ _ _ _)
  ·rw[if_neg hi]at h1;rw[if_pos hi']at h2;cases h2
   exact absurd h1 (ho.2.2.2 _ _ _ _)
  ·rw[if_neg hi]at h1;rw[if_neg hi']at h2
   exact M.one n n' _ _ _ _ _ _ h1 h2
 ·rw[hf]at hn
  by_cases hi:n=nm
  ·rw[if_pos hi]at hn;cases hn
   obtain⟨h0,h1,h2⟩:=ho
   exact⟨by simpa[hi]using h0,by simpa[hi]using h1,by simpa[hi]using h2⟩
  ·rw[if_neg hi]at hn
   obtain⟨h0,h1,h2⟩:=M.rwo n kk hn
   refine⟨by simpa[hi]using h0,by simpa[hi]using h1, ?_⟩
   simp only[if_neg hi]
   rw[hm n _ hn h1];exact h2
 ·rw[hf]at h1 h2
  by_cases hi:n=nm<;>by_cases hi':n'=nm
  ·rw[hi,hi']
  ·simp only[if_pos hi,if_neg hi']at he hne h2
   exact absurd he.symm (ht hne n' o2 h2)
  ·simp only[if_neg hi,if_pos hi']at he hne h1
   exact absurd he (ht (he▸hne) n o1 h1)
  ·simp only[if_neg hi,if_neg hi']at he hne h1 h2
   exact M.inj n n' o1 o2 h1 h2 he hne
 ·rw[hf]at h1 h2
  by_cases hi:n=nm<;>by_cases hi':n'=nm
  ·rw[hi,hi']
  ·simp only[if_pos hi,if_neg hi']at he k1 k2 h1 h2
   cases h1
   obtain⟨es,_,_,_,h4,_⟩:=ho
   exact absurd he.symm (h4 k1 n' e' sz' c' h2 k2)
  ·simp only[if_neg hi,if_pos hi']at he k1 k2 h1 h2
   cases h2
   obtain⟨es,_,_,_,h4,_⟩:=ho
   exact absurd he (h4 k2 n e sz c h1 k1)
  ·simp only[if_neg hi,if_neg hi']at he k1 k2 h1 h2
   exact M.grp n n' e e' sz sz' c c' h1 h2 k1 k2 he
 ·rw[hf]at hn
  by_cases hi:n=nm
  ·simp only[if_pos hi]at hn hne hg
   cases hn
   obtain⟨es,_,_,_,_,h5⟩:=ho
   exact h5 hne y k r hg
  ·simp only[if_neg hi]at hn hne hg
   exact Nat.lt_of_lt_of_le (M.old n e sz c hn hne y k r hg) (hc y)
end
end
section
section
variable {Ω : Raws} {G : FP} {E : List D} {ι γ : Nat → Tok} {Y : Sy} {J : St}
theorem new_m(J:St)(x:Nat)(o:HO)(d:D)(t:Tok):(J.new x o d).m t=if t=J.tok x then some o else J.m t:=rfl
theorem new_s(J:St)(x:Nat)(o:HO)(d:D)(j:Nat):(J.new x o d).s j=if j=x then d else J.s j:=rfl
theorem new_c(J:St)(x:Nat)(o:HO)(d:D)(y:Nat):(J.new x o d).c y=if y=x then J.c y+1 else J.c y:=rfl
theorem raw_new{J:St}(W:WF J)(x:Nat)(o:HO)(d:D)(t:Tok)(q:Obj)(h:J.m t=some (.raw q)):(J.new x o d).m t=some (.raw q):=by rw[new_m,if_neg (fun e=>by rw[e,W.tok x]at h;cases h)];exact h
theorem tok_ne(J:St)(x:Nat):J.tok x≠ []:=by simp[St.tok]
theorem Mt.live(M:Mt Ω G E ι γ Y J){n:Nat}{o:SO}(h:find Y.h n=some o)(hi:ι n≠ []): ∃q,J.m (ι n)=some q:=by
 cases o with
 |box vs=>obtain⟨ds,_,h1,_⟩:=M.box n vs h;exact⟨_,h1⟩
 |lst e sz c=>
  obtain⟨es,_,_,h1⟩:=M.lst n e sz c h
  rcases h1 with⟨h1,_⟩|⟨_,h1⟩
  ·exact absurd h1 hi
  ·exact⟨_,h1⟩
 |map c=>obtain⟨es,_,_,h1⟩:=M.mpo n c h;exact⟨_,h1⟩
 |mpl e sz c=>obtain⟨L,_,_,h1,_⟩:=M.own n e sz c h;exact⟨_,h1⟩
 |raw k=>obtain⟨_,_,h1,_⟩:=M.rwo n k h;exact⟨_,h1⟩
theorem Mt.ne_tok(M:Mt Ω G E ι γ Y J)(x:Nat){n:Nat}{o:SO}(h:find Y.h n=some o):ι n≠J.tok x:=fun e=>by
 obtain⟨q,hq⟩:=M.live h (by rw[e];exact tok_ne J x)
 rw[e,M.wf.tok x]at hq;cases hq
theorem Mt.grp_tok(M:Mt Ω G E ι γ Y J)(x:Nat){n e sz:Nat}{c:X}(h:find Y.h n=some (.lst e sz c))(hi:ι n≠ []):γ n≠J.tok x:=fun e=>by
 have:=M.old n _ _ _ h hi x (J.c x) [] e
 omega
theorem Owned.mem{h:List (Nat×SO)}{q:OE}(H:Owned h ι γ J q): ∃e,J.m q.u=some (.row q.g e q.es)∧q.u≠ []∧(∀k o,find h k=some o→ι k≠q.u)∧(∀k e sz c,find h k=some (.lst e sz c)→ι k≠ []→γ k≠q.g)∧ ∀y k r,q.g=(y+1)::k::r→k<J.c y:=by
 obtain⟨n,e,sz,c,L,h1,h2,h3,hq⟩:=H
 obtain⟨a1,a2,a3,a4,a5,a6⟩:=h3.1 q hq
 exact⟨e,a3,a1,a4,a5,a6⟩
theorem Mt.own_tok(M:Mt Ω G E ι γ Y J)(x:Nat){q:OE}(H:Owned Y.h ι γ J q):J.tok x≠q.u∧J.tok x≠q.g:=by
 obtain⟨e,h1,_,_,_,h5⟩:=H.mem
 refine⟨fun e2=> ?_,fun e2=> ?_⟩
 ·rw[←e2,M.wf.tok x]at h1;cases h1
 ·have:=h5 x (J.c x) [] e2.symm
  omega
theorem Owned.kill{q:OE}{n:Nat}(M:Mt Ω G E ι γ Y J)(H:Owned (Y.kill n).h ι γ J q): ∃q',Owned Y.h ι γ J q'∧q'.u=q.u∧q'.g=q.g:=by
 obtain⟨n',e,sz,c,L,h1,h2,h3,hq⟩:=H
 obtain⟨_,o,ho,h⟩:=kill_find' h1
 cases o<;>simp only[killO,reduceCtorEq]at h
 cases h
 obtain⟨L1,k1,k2,k3,k4⟩:=M.own n' _ _ _ ho
 rw[k3]at h2
 have hL:L1.map (OE.en sz)=L.map (OE.en sz):=by injection h2 with h2;injection h2
 obtain⟨i,hi⟩:=List.getElem?_of_mem hq
 have e1:(L1.map (OE.en sz))[i]?=some (q.en sz):=by rw[hL,Dz,hi];rfl
 rw[Dz,Mz]at e1
 obtain⟨q',hq',he⟩:=e1
 have hu:q'.u=q.u:=by simp only[OE.en,Prod.mk.injEq,D.sl.injEq]at he;exact he.2.1
 have m1:=(k4.1 q' (Lz hq')).2.2.1
 have m2:=(h3.1 q hq).2.2.1
 rw[hu,m2]at m1
 have hg:q'.g=q.g:=by injection m1 with m1;injection m1 with m1;exact m1.symm
 exact⟨q',⟨n',_,_,_,L1,ho,k3,k4,Lz hq'⟩,hu,hg⟩
theorem Mt.box_new(M:Mt Ω G E ι γ Y J){x nm:Nat}(F:Y.free nm){vs:List SV}{ds:List D}(hv:VRs G E ι Y.h vs ds)(hf: ∀v∈vs,v.men nm=false):
  Mt Ω G E (fun n=>if n=nm then J.tok x else ι n) (fun n=>if n=nm then []else γ n) (Y.add x nm (.box vs) (.ptr nm 0)) (J.new x (.box ds) (.ptr (J.tok x) 0)):=by
 refine M.add F (t:=J.tok x) (g:= []) (M.wf.new x _ _) (fun j hj=>by rw[new_s,if_neg hj]) (fun n o' h hi=>by rw[new_m,if_neg (M.ne_tok x h)]) (fun y=>by rw[new_c];split<;>omega) (fun t q h=>by rw[new_m,if_neg (fun e=>by rw[e,M.wf.tok x]at h;cases h)];exact h) ?_ ⟨ds,tok_ne J x,by rw[new_m,if_pos rfl],hv.fresh hf⟩ (fun _ n o h=>M.ne_tok x h) (fun q hq=>⟨(M.own_tok x hq).1,fun _ h=>(by obtain⟨_,_,_,h⟩:=h;cases h),by rw[new_m,if_neg (Ne.symm (M.own_tok x hq).1)]⟩)
 rw[new_s,if_pos rfl]
 have:=VR.ptr (G:=G) (E:=E) (ι:=fun n=>if n=nm then J.tok x else ι n) (h:=setA nm (.box vs) Y.h) (n:=nm) (o:=0) (vs:=vs) (by rw[find_set,if_pos rfl])
 simpa using this
theorem Mt.map_new(M:Mt Ω G E ι γ Y J){x nm:Nat}(F:Y.free nm):
  Mt Ω G E (fun n=>if n=nm then J.tok x else ι n) (fun n=>if n=nm then []else γ n) (Y.add x nm (.map (.q (.list []))) (.mp nm)) (J.new x (.map []) (.mp (J.tok x))):=by
 refine M.add F (t:=J.tok x) (g:= []) (M.wf.new x _ _) (fun j hj=>by rw[new_s,if_neg hj]) (fun n o' h hi=>by rw[new_m,if_neg (M.ne_tok x h)]) (fun y=>by rw[new_c];split<;>omega) (fun t q h=>by rw[new_m,if_neg (fun e=>by rw[e,M.wf.tok x]at h;cases h)];exact h) ?_ ⟨[],rfl,tok_ne J x,by rw[new_m,if_pos rfl]⟩ (fun _ n o h=>M.ne_tok x h) (fun q hq=>⟨(M.own_tok x hq).1,fun _ h=>(by obtain⟨_,_,_,h⟩:=h;cases h),by rw[new_m,if_neg (Ne.symm (M.own_tok x hq).1)]⟩)
 rw[new_s,if_pos rfl]
 have:=VR.mp (G:=G) (E:=E) (ι:=fun n=>if n=nm then J.tok x else ι n) (h:=setA nm (.map (.q (.list []))) Y.h) (n:=nm) (o:= .map (.q (.list []))) (by rw[find_set,if_pos rfl]) rfl
 simpa using this
theorem Mt.mpl_new(M:Mt Ω G E ι γ Y J){x nm:Nat}(e sz:Nat)(F:Y.free nm)(hn: ∀k e sz c,find Y.h k≠some (.mpl e sz c)):
  Mt Ω G E (fun n=>if n=nm then J.tok x else ι n) (fun n=>if n=nm then []else γ n) (Y.add x nm (.mpl e sz (.q (.list []))) (.mp nm)) (J.new x (.map []) (.mp (J.tok x))):=by
 refine M.add F (t:=J.tok x) (g:= []) (M.wf.new x _ _) (fun j hj=>by rw[new_s,if_neg hj]) (fun n o' h hi=>by rw[new_m,if_neg (M.ne_tok x h)]) (fun y=>by rw[new_c];split<;>omega) (fun t q h=>by rw[new_m,if_neg (fun e=>by rw[e,M.wf.tok x]at h;cases h)];exact h) ?_ ⟨rfl,tok_ne J x,by rw[new_m,if_pos rfl],hn⟩ (fun _ n o h=>M.ne_tok x h) (fun q hq=>⟨(M.own_tok x hq).1,fun _ h=>(by obtain⟨_,_,_,h⟩:=h;cases h),by rw[new_m,if_neg (Ne.symm (M.own_tok x hq).1)]⟩)
 rw[new_s,if_pos rfl]
 have:=VR.mp (G:=G) (E:=E) (ι:=fun n=>if n=nm then J.tok x else ι n) (h:=setA nm (.mpl e sz (.q (.list []))) Y.h) (n:=nm) (o:= .mpl e sz (.q (.list []))) (by rw[find_set,if_pos rfl]) rfl
 simpa using this
theorem Mt.lst_new(M:Mt Ω G E ι γ Y J){x nm e sz:Nat}{c:X}(F:Y.free nm){es:List (List D)}(hc:X.ev G E c=some (.list es))(hr:rowsOK sz es=true){J':St}{g:Tok}(W:WF J')
  (hs:J'.s=(J.new x (.row g e es) (.sl (J.tok x) sz 0 es.length none)).s) (hm: ∀n o',find Y.h n=some o'→ι n≠ []→J'.m (ι n)=J.m (ι n)) (hself:J'.m (J.tok x)=some (.row g e es)) (hraw: ∀t q,J.m t=some (.raw q)→J'.m t=some (.raw q)) (hcc: ∀y,J'.c y=if y=x then J.c y+1 else J.c y)
  (hx: ∀q,Owned Y.h ι γ J q→g≠q.g∧J'.m q.u=J.m q.u)
  (hg:g=J.tok x∨(∀n e sz c,find Y.h n=some (.lst e sz c)→ι n≠ []→γ n≠g)∧ ∀y k r,g=(y+1)::k::r→k<J.c y):
  Mt Ω G E (fun n=>if n=nm then J.tok x else ι n) (fun n=>if n=nm then g else γ n) (Y.add x nm (.lst e sz c) (.gl nm sz)) J':=by
 refine M.add F (t:=J.tok x) (g:=g) W (fun j hj=>by rw[hs,new_s,if_neg hj]) hm (fun y=>by rw[hcc];split<;>omega) hraw ?_ ⟨es,hc,hr, .inr ⟨tok_ne J x,hself⟩,fun _ n e' sz' c' h hi=> ?_,fun _ y k r h=> ?_⟩ (fun _ n o h=>M.ne_tok x h) (fun q hq=>⟨(M.own_tok x hq).1,fun _ _=>(hx q hq).1,(hx q hq).2⟩)
 ·rw[hs,new_s,if_pos rfl]
  have:=VR.gl (G:=G) (E:=E) (ι:=fun n=>if n=nm then J.tok x else ι n) (h:=setA nm (.lst e sz c) Y.h) (n:=nm) (sz:=sz) (e:=e) (c:=c) (es:=es) (by rw[find_set,if_pos rfl]) hc (by simp[tok_ne])
  simpa using this
 ·rcases hg with rfl|hg
  ·exact M.grp_tok x h hi
  ·exact hg.1 n e' sz' c' h hi
 ·rw[hcc]
  rcases hg with rfl|hg
  ·simp only[St.tok,List.cons.injEq]at h
   obtain⟨h1,h2,_⟩:=h
   have:y=x:=by omega
   subst this
   rw[if_pos rfl];omega
  ·have:=hg.2 y k r h
   split<;>omega
theorem Mt.lst_same(M:Mt Ω G E ι γ Y J){x nm e sz:Nat}{c:X}(F:Y.free nm){es:List (List D)}(hc:X.ev G E c=some (.list es))(hr:rowsOK sz es=true){t g:Tok}{d:D}
  (h:t= []∧es= []∧d= .nil∨t≠ []∧J.m t=some (.row g e es)∧d= .sl t sz 0 es.length none∧(∀n o,find Y.h n=some o→ι n≠t)∧(∀n e sz c,find Y.h n=some (.lst e sz c)→ι n≠ []→γ n≠g)∧ ∀y k r,g=(y+1)::k::r→k<J.c y) (hx: ∀q,Owned Y.h ι γ J q→t≠q.u∧(t≠ []→g≠q.g)):
  Mt Ω G E (fun n=>if n=nm then t else ι n) (fun n=>if n=nm then g else γ n) (Y.add x nm (.lst e sz c) (.gl nm sz)) (J.set x d):=by
 refine M.add F (t:=t) (g:=g) M.wf (fun j hj=>St.set_ne J d hj) (fun _ _ _ _=>rfl) (fun y=>Nat.le_refl _) (fun _ _ h=>h) ?_ ⟨es,hc,hr, ?_,fun ht=> ?_,fun ht=> ?_⟩ (fun ht=> ?_) (fun q hq=>⟨(hx q hq).1,fun ht _=>(hx q hq).2 ht,rfl⟩)
 ·rw[St.set_same]
  rcases h with⟨h1,h2,rfl⟩|⟨h1,h2,rfl,_⟩
  ·exact .gln (by rw[find_set,if_pos rfl]) (by simp[h1])
  ·have:=VR.gl (G:=G) (E:=E) (ι:=fun n=>if n=nm then t else ι n) (h:=setA nm (.lst e sz c) Y.h) (n:=nm) (sz:=sz) (e:=e) (c:=c) (es:=es) (by rw[find_set,if_pos rfl]) hc (by simpa using h1)
   simpa using this
 ·rcases h with⟨h1,h2,_⟩|⟨h1,h2,_⟩
  ·exact .inl ⟨h1,h2⟩
  ·exact .inr ⟨h1,h2⟩
 ·rcases h with⟨h1,_⟩|⟨_,_,_,_,h2,_⟩
  ·exact absurd h1 ht
  ·exact h2
 ·rcases h with⟨h1,_⟩|⟨_,_,_,_,_,h2⟩
  ·exact absurd h1 ht
  ·exact h2
 ·rcases h with⟨h1,_⟩|⟨_,_,_,h2,_⟩
  ·exact absurd h1 ht
  ·exact h2
theorem VR.write{h:List (Nat×SO)}{v:SV}{d:D}(H:VR G E ι h v d){n:Nat}{o o':SO}(hf:find h n=some o)(hoo:SO.like G E E o o'):VR G E ι (setA n o' h) v d:=
 H.mono (fun _ _ h=>h) fun k hk=>by
  by_cases hkn:k=n
  ·subst hkn
   exact⟨rfl,fun q hq=>⟨o',by rw[find_set,if_pos rfl],by rw[hf]at hq;cases hq;exact hoo⟩⟩
  ·exact⟨rfl,Lk.same (fun _ _ h=>h) (by rw[find_set,if_neg hkn])⟩
theorem Mt.write(M:Mt Ω G E ι γ Y J){n:Nat}{o o':SO}{q:HO}{J':St}(hf:find Y.h n=some o)(hi:ι n≠ [])(W:WF J')(hs:J'.s=J.s)(hc:J'.c=J.c)(hself:J'.m (ι n)=some q)
  (hm: ∀k o',k≠n→find Y.h k=some o'→ι k≠ []→J'.m (ι k)=J.m (ι k))
  (hraw: ∀t q,J.m t=some (.raw q)→t≠ι n→J'.m t=some (.raw q)) (hnraw: ∀q,J.m (ι n)≠some (.raw q)) (hoo:SO.like G E E o o') (hown: ∀q,Owned Y.h ι γ J q→J'.m q.u=J.m q.u)
  (ho:match o' with
   | .box vs=> ∃ds,q= .box ds∧VRs G E ι Y.h vs ds
   | .lst e sz c=> ∃es,X.ev G E c=some (.list es)∧rowsOK sz es=true∧q= .row (γ n) e es
   | .map c=> ∃es,X.ev G E c=some (.list (pairR es))∧q= .map es
   | .mpl .. =>False
   | .raw _=>False):Mt Ω G E ι γ {Y with h:=setA n o' Y.h} J':=by
 have hf': ∀k,find (setA n o' Y.h) k=if k=n then some o' else find Y.h k:=fun k=>find_set n k o' Y.h
 have back: ∀k e sz c,find (setA n o' Y.h) k=some (.lst e sz c)→ ∃c0,find Y.h k=some (.lst e sz c0):=fun k e sz c h=>by
  rw[hf']at h
  by_cases hk:k=n
  ·rw[if_pos hk]at h;cases h
   cases o<;>simp only[SO.like]at hoo
   obtain⟨rfl,rfl,_⟩:=hoo
   exact⟨_,by rw[hk];exact hf⟩
  ·rw[if_neg hk]at h;exact⟨c,h⟩
 have some': ∀k p,find (setA n o' Y.h) k=some p→ ∃p0,find Y.h k=some p0:=fun k p h=>by
  rw[hf']at h
  by_cases hk:k=n
  ·exact⟨o,by rw[hk];exact hf⟩
  ·rw[if_neg hk]at h;exact⟨p,h⟩
 refine⟨fun i v hv=>by rw[hs];exact(M.slot i v hv).write hf hoo,fun k vs hk=> ?_,fun k e sz c hk=> ?_,fun k c hk=> ?_,fun k e sz c hk=> ?_,fun a b e e' sz sz' c c' h1 h2=> ?_,fun k kk hk=> ?_,fun a b p p' h1 h2=> ?_,fun a b e e' sz sz' c c' h1 h2=> ?_,W,fun k e sz c hk=> ?_,M.nv,fun t ht=>hraw t _ (M.con t ht) fun e=>hnraw _ (e▸M.con t ht)⟩
 ·rw[hf']at hk
  by_cases hkn:k=n
  ·rw[if_pos hkn]at hk;cases hk
   obtain⟨ds,rfl,h2⟩:=ho
   exact⟨ds,by rw[hkn];exact hi,by rw[hkn];exact hself,h2.1,fun i v d hv hd=>(h2.2 i v d hv hd).write hf hoo⟩
  ·rw[if_neg hkn]at hk
   obtain⟨ds,h1,h2,h3⟩:=M.box k vs hk
   exact⟨ds,h1,by rw[hm k _ hkn hk h1];exact h2,h3.1,fun i v d hv hd=>(h3.2 i v d hv hd).write hf hoo⟩
 ·rw[hf']at hk
  by_cases hkn:k=n
  ·rw[if_pos hkn]at hk;cases hk
   obtain⟨es,h1,h2,rfl⟩:=ho
   exact⟨es,h1,h2, .inr ⟨by rw[hkn];exact hi,by rw[hkn];exact hself⟩⟩
  ·rw[if_neg hkn]at hk
   obtain⟨es,h1,h2,h3⟩:=M.lst k e sz c hk
   refine⟨es,h1,h2, ?_⟩
   rcases h3 with h3|⟨h3,h4⟩
   ·exact .inl h3
   ·exact .inr ⟨h3,by rw[hm k _ hkn hk h3];exact h4⟩
 ·rw[hf']at hk
  by_cases hkn:k=n
  ·rw[if_pos hkn]at hk;cases hk
   obtain⟨es,h1,rfl⟩:=ho
   exact⟨es,h1,by rw[hkn];exact hi,by rw[hkn];exact hself⟩
  ·rw[if_neg hkn]at hk
   obtain⟨es,h1,h2,h3⟩:=M.mpo k c hk
   exact⟨es,h1,h2,by rw[hm k _ hkn hk h2];exact h3⟩
 ·rw[hf']at hk
  by_cases hkn:k=n
  ·rw[if_pos hkn]at hk;cases hk
   exact ho.elim
  ·rw[if_neg hkn]at hk
   obtain⟨L,h1,h2,h3,h4⟩:=M.own k e sz c hk
   refine⟨L,h1,h2,by rw[hm k _ hkn hk h2];exact h3,fun q hq=> ?_,h4.2⟩
   refine(h4.1 q hq).keep (hown q ⟨k,e,sz,c,L,hk,h3,h4,hq⟩) (fun j o2 hj=> ?_) (fun j e' sz' c' hj=> ?_) fun y=>by rw[hc];exact Nat.le_refl _
   ·obtain⟨p0,g1⟩:=some' j o2 hj
    exact(h4.1 q hq).2.2.2.1 j p0 g1
   ·obtain⟨c0,g1⟩:=back j _ _ _ hj
    exact(h4.1 q hq).2.2.2.2.1 j _ _ c0 g1
 ·have nm: ∀{k e sz c},find (setA n o' Y.h) k=some (.mpl e sz c)→find Y.h k=some (.mpl e sz c):=fun{k e sz c} h=>by
   rw[hf']at h
   by_cases hk:k=n
   ·rw[if_pos hk]at h;cases h;exact ho.elim
   ·rw[if_neg hk]at h;exact h
  exact M.one a b _ _ _ _ _ _ (nm h1) (nm h2)
 ·rw[hf']at hk
  by_cases hkn:k=n
  ·rw[if_pos hkn]at hk;cases hk
   exact ho.elim
  ·rw[if_neg hkn]at hk
   obtain⟨h1,h2,h3⟩:=M.rwo k kk hk
   exact⟨h1,h2,by rw[hm k _ hkn hk h2];exact h3⟩
 ·obtain⟨p0,g1⟩:=some' a p h1
  obtain⟨p1,g2⟩:=some' b p' h2
  exact M.inj a b p0 p1 g1 g2
 ·obtain⟨c0,g1⟩:=back a e sz c h1
  obtain⟨c1,g2⟩:=back b e' sz' c' h2
  exact M.grp a b e e' sz sz' c0 c1 g1 g2
 ·obtain⟨c0,g1⟩:=back k e sz c hk
  rw[hc]
  exact M.old k e sz c0 g1
theorem contOf_sound(M:Mt Ω G E ι γ Y J){v:SV}{d dc:D}{cb:X}{es:List (List D)}(H:VR G E ι Y.h v d)(hc:contOf Y.h v=some cb)(he:X.ev G E cb=some dc)(hl:lstOf dc=some es):d.elems J.m=some es:=by
 unfold contOf at hc
 split at hc
 ·cases hc
  obtain⟨h1,h2⟩:=H.x_inv
  rw[h1]at he;cases he
  cases d<;>simp only[lstOf]at hl<;>first|exact hl|cases hl
 ·obtain⟨e0,sz0,hf⟩:=cont_some hc
  obtain⟨es',h1,h2,h3⟩:=M.lst _ _ _ _ hf
  rw[h1]at he;cases he
  cases hl
  cases H with
  |gln g1 g2=>
   rcases h3 with⟨_,rfl⟩|⟨h3,_⟩
   ·rfl
   ·exact absurd g2 h3
  |gl g1 g2 g3=>
   rw[hf]at g1;cases g1
   rw[h1]at g2;cases g2
   rcases h3 with⟨h3,_⟩|⟨_,h3⟩
   ·exact absurd h3 g3
   ·simp only[D.elems,h3]
    rw[if_pos ⟨by omega,rowsOK_len h2⟩];simp
 ·obtain⟨c,hc',he'⟩:=Mz.1 hc
  subst he'
  obtain⟨e0,sz0,hf⟩:=cont_some hc'
  obtain⟨es',h1,h2,h3⟩:=M.lst _ _ _ _ hf
  obtain⟨q,z,k1,k2,k3,rfl⟩:=take_ev h1 he
  cases hl
  cases H with
  |gsn g1 g2 g3=>
   rcases h3 with⟨_,rfl⟩|⟨h3,_⟩
   ·simp[D.elems]
   ·exact absurd g2 h3
  |gs g1 g2 g3 g4 g5 g6=>
   rw[hf]at g1;cases g1
   rw[h1]at g2;cases g2
   rw[k1]at g4;cases g4
   rcases h3 with⟨h3,_⟩|⟨_,h3⟩
   ·exact absurd h3 g3
   ·simp only[D.elems,h3]
    rw[if_pos ⟨by omega,rowsOK_len h2⟩];simp
 ·obtain⟨c,hc',he'⟩:=Mz.1 hc
  subst he'
  obtain⟨e0,sz0,hf⟩:=cont_some hc'
  obtain⟨es',h1,h2,h3⟩:=M.lst _ _ _ _ hf
  obtain⟨q,z,k1,k2,k3,rfl⟩:=drp_ev h1 he
  cases hl
  cases H with
  |gtn g1 g2 g3=>
   rcases h3 with⟨_,rfl⟩|⟨h3,_⟩
   ·simp[D.elems]
   ·exact absurd g2 h3
  |gt g1 g2 g3 g4 g5 g6=>
   rw[hf]at g1;cases g1
   rw[h1]at g2;cases g2
   rw[k1]at g4;cases g4
   rcases h3 with⟨h3,_⟩|⟨_,h3⟩
   ·exact absurd h3 g3
   ·simp only[D.elems,h3]
    rw[if_pos ⟨by omega,rowsOK_len h2⟩];exact congrArg some (List.take_of_length_le (by simp))
 ·cases hc
theorem free_kill{x n:Nat}(F:Y.free x):(Y.kill n).free x:=by
 have un: ∀v:SV,v.men x=false→(killV n v).men x=false:=fun v hv=>by unfold killV;cases v.men n<;>simp[hv,SV.men]
 refine⟨?_,fun i v hv=> ?_,fun k vs hk v hv=> ?_⟩
 ·rw[kill_find,F.1];simp
 ·simp only[Sy.kill,find_map]at hv
  obtain⟨u,hu,rfl⟩:=Mz.1 hv
  exact un u (F.2.1 i u hu)
 ·obtain⟨_,o,ho,h⟩:=kill_find' hk
  cases o<;>simp only[killO,reduceCtorEq,SO.box.injEq]at h
  subst h
  obtain⟨u,hu,rfl⟩:=List.mem_map.1 hv
  exact un u (F.2.2 k _ ho u hu)
end
end
section
section
variable {Ω : Raws} {G : FP} {E : List D} {ι γ : Nat → Tok} {Y : Sy} {J : St}
theorem app_run{size:Nat}{a b:D}{d:D}(h:(XK.app size).run G [a,b]=some d): ∃x y,lstOf a=some x∧lstOf b=some y∧rowsOK size y=true∧x.length+y.length≤maxMade∧d= .list (x++y):=by
 simp only[XK.run,Bz]at h
 obtain⟨x,h1,y,h2,h3⟩:=h
 split at h3<;>cases h3
 rename_i hc
 exact⟨x,y,h1,h2,hc.1,hc.2,rfl⟩
theorem rowsOK_append{size:Nat}{a b:List (List D)}(h:rowsOK size a=true)(k:rowsOK size b=true):rowsOK size (a++b)=true:=by
 simp only[rowsOK,List.all_append,Az]at*
 exact⟨h,k⟩
theorem VRs_cells{h:List (Nat×SO)}{N:Nat}{e:X}{ds:List D}(he:X.ev G E e=some (.agg ds))(hl:ds.length=N)(hn:ds.all D.noTC=true):VRs G E ι h (cellsOfX N e) ds:=by
 refine⟨by simp[cellsOfX,hl],fun i v c hv hc=> ?_⟩
 have hi:=(Gz.1 hc).1
 simp only[cellsOfX,Dz,List.getElem?_range (show i<N by omega),Pz,Jz]at hv
 subst hv
 have hok:ds.all D.okC=true:=Tz.2 fun d hd=>by
  have:=Tz.1 hn d hd
  cases d<;>first|rfl|cases this
 refine .x ?_ (noTC_noT (Tz.1 hn _ (Lz hc)))
 simp only[X.ev,X.evs,he,Oz,Pz,XK.run]
 exact(if_pos ⟨hl,hok,hn⟩).trans hc
theorem putAt_all{p:D→Bool}{xs ds:List D}{o:Nat}(h:xs.all p=true)(k:ds.all p=true):(putAt xs o ds).all p=true:=by
 simp only[putAt,List.all_append,Az]
 exact⟨⟨Tz.2 fun d hd=>Tz.1 h d (List.mem_of_mem_take hd),k⟩,Tz.2 fun d hd=>Tz.1 h d (List.mem_of_mem_drop hd)⟩
theorem Mt.own_ne(_:Mt Ω G E ι γ Y J){n:Nat}{o:SO}(hf:find Y.h n=some o){q:OE}(H:Owned Y.h ι γ J q):q.u≠ι n:=fun e=>by
 obtain⟨_,_,_,h,_⟩:=H.mem
 exact h n o hf e.symm
theorem own_struck{q:OE}{g:Tok}{k:Nat}{e:Nat}(h:J.m q.u=some (.row q.g e q.es))(hg:q.g≠g):HO.struck g k (J.m q.u)=J.m q.u:=by
 rw[h];simp only[HO.struck];rw[if_neg fun hh=>hg hh.1]
theorem Mt.wbox(M:Mt Ω G E ι γ Y J){m o:Nat}{us vs:List SV}{xs ds:List D}(hf:find Y.h m=some (.box us))(k1:ι m≠ [])(k2:J.m (ι m)=some (.box xs))(k3:VRs G E ι Y.h us xs)(hv:VRs G E ι Y.h vs ds)(ho:o+vs.length≤us.length):
  Mt Ω G E ι γ {Y with h:=setA m (.box (us.take o++vs++us.drop (o+vs.length))) Y.h} (J.put (ι m) (some (.box (putAt xs o ds)))):=by
 refine M.write (o:= .box us) (q:= .box (putAt xs o ds)) hf k1 (M.wf.put (by rw[k2];simp)) rfl rfl (by simp[St.put]) (fun k o' hk hfk hik=> ?_) (fun t q h hne=>by simp only[St.put,if_neg hne];exact h) (fun q h=>by rw[k2]at h;cases h) (by simp only[SO.like,List.length_append,List.length_take,List.length_drop];omega) (fun q hq=>by simp only[St.put,if_neg (M.own_ne hf hq)]) ⟨_,rfl,putAt_VRs k3 hv⟩
 have:ι k≠ι m:=fun e=>hk (M.inj k m _ _ hfk hf e hik)
 simp[St.put,this]
theorem symStore_sound(M:Mt Ω G E ι γ Y J){n:Nat}{g:Bool}{va vv:SV}{da dv:D}{Y':Sy}{O:List X}(ha:VR G E ι Y.h va da)(hvv:VR G E ι Y.h vv dv)(hs:symStore n g va vv Y=some (Y',O))(hO: ∀e∈O,∃d,X.ev G E e=some d):
  ∃J',storeV n da dv J=some J'∧Mt Ω G E ι γ Y' J':=by
 unfold symStore at hs
 split at hs
 ·rename_i m o
  split at hs
  ·rename_i us hf
   rw[Bz]at hs
   obtain⟨⟨vs,O'⟩,hc,hs⟩:=hs
   split at hs
   ·rename_i ho
    cases hs
    obtain⟨h1,h2,h3⟩:=cellsS_sound hvv hc hO
    obtain⟨xs,k1,k2,k3⟩:=M.box m us hf
    have hvl:vs.length=n:=by rw[h3.1,h1]
    cases ha
    refine⟨_,by simp only[storeV,k2];rw[if_pos ⟨h1,by rw[←k3.1];exact ho,h2⟩], ?_⟩
    have:=M.wbox (o:=o) hf k1 k2 k3 h3 (by omega)
    rw[hvl]at this;exact this
   ·cases hs
  ·cases hs
 ·rename_i m o
  split at hs
  ·rename_i us hf
   rw[Bz]at hs
   obtain⟨⟨vs,O'⟩,hc,hs⟩:=hs
   split at hs
   ·rename_i ho
    cases hs
    obtain⟨h1,h2,h3⟩:=cellsS_sound hvv hc hO
    obtain⟨xs,k1,k2,k3⟩:=M.box m us hf
    have hvl:vs.length=n:=by rw[h3.1,h1]
    cases ha
    refine⟨_,by simp only[storeV,k2];rw[if_pos ⟨trivial,h1,by rw[←k3.1];omega,h2⟩], ?_⟩
    have:=M.wbox (o:=o) hf k1 k2 k3 h3 (by omega)
    rw[hvl]at this;exact this
   ·cases hs
  ·cases hs
 ·rename_i m o c s i j
  split at hs
  ·rename_i us hf
   simp only[Bz]at hs
   obtain⟨xs,hx,x,hxv,hs⟩:=hs
   split at hs
   ·rename_i ho
    cases hs
    obtain⟨d',hd'⟩:=hO _ (List.mem_singleton.2 rfl)
    obtain⟨ds0,a1,a2⟩:=ev_mk hd'
    simp only[X.evs,Bz,Mz]at a1
    obtain⟨dc,b1,r1,⟨di,b2,r2,⟨dx,b3,r3,b4,rfl⟩,rfl⟩,rfl⟩:=a1
    cases b4
    obtain⟨zs,k1,k2,k3⟩:=M.box m us hf
    cases ha with
    |dp hf2 hiv h0 hz hl=>
     rename_i z
     rw[hiv]at b2;cases b2
     obtain⟨ws,c1,c2⟩:=ev_mk b1
     simp only[XK.run]at c2
     split at c2<;>cases c2
     have hsub:=(k3.drop o).take (c*s)
     obtain rfl:=asXs_sound hsub hx c1
     obtain rfl:=asX_sound hvv hxv b3
     have hkl:=k3.1
     simp only[XK.run]at a2
     split at a2
     ·rename_i hcond
      cases a2
      obtain⟨_,_,q3,q4,q5,q6,q7,q8⟩:=hcond
      have hzs:z.toNat*s+s≤c*s:=by
       have:(z.toNat+1)*s≤c*s:=Nat.mul_le_mul_right _ (by omega)
       rw[Nat.add_mul]at this;omega
      have hsl:((zs.drop o).take (c*s)).length=c*s:=by simp;omega
      have hpl:(putAt ((zs.drop o).take (c*s)) (z.toNat*s+j) dx.cells).length=c*s:=by rw[putAt_length (by omega)];exact hsl
      have hcells:=VRs_cells (ι:=ι) (h:=Y.h) hd' hpl (putAt_all q8 q7)
      have hcl:(cellsOfX (c*s) (.mk (.seta c s j n) [.mk .agg xs,i,x])).length=c*s:=by simp[cellsOfX]
      have:=M.wbox (o:=o) hf k1 k2 k3 hcells (by rw[hcl];exact ho)
      rw[hcl]at this
      refine⟨_, ?_,this⟩
      simp only[storeV,k2]
      rw[if_pos ⟨q5,by omega,q6⟩]
      congr 3
      refine congrArg HO.box (List.ext_getElem? fun p=> ?_)
      rw[putAt_get (show o+z.toNat*s+j+dx.cells.length≤zs.length by omega),putAt_get (show o+(putAt ((zs.drop o).take (c*s)) (z.toNat*s+j) dx.cells).length≤zs.length by rw[hpl];omega),hpl]
      by_cases hp:o≤p∧p<o+c*s
      ·rw[if_pos hp,putAt_get (by omega)]
       by_cases hp2:o+z.toNat*s+j≤p∧p<o+z.toNat*s+j+dx.cells.length
       ·rw[if_pos hp2,if_pos (by omega)]
        congr 1;omega
       ·rw[if_neg hp2,if_neg (by omega),List.getElem?_take_of_lt (by omega),List.getElem?_drop]
        congr 1;omega
      ·rw[if_neg hp,if_neg (by omega)]
     ·cases a2
   ·cases hs
  ·cases hs
 ·rename_i m s i j
  split at hs
  ·rename_i t sz c hf
   split at hs
   ·rename_i hss
    subst hss
    obtain⟨xe,hx,he⟩:=Mz.1 hs
    cases he
    obtain⟨d',hd'⟩:=hO _ (List.mem_singleton.2 rfl)
    obtain⟨ds,a1,a2⟩:=ev_mk hd'
    simp only[X.evs,Bz,Mz]at a1
    obtain⟨dc,b1,r1,⟨di,b2,r2,⟨dx,b3,r3,b4,rfl⟩,rfl⟩,rfl⟩:=a1
    cases b4
    obtain⟨es,k1,k2,k3⟩:=M.lst _ _ _ _ hf
    rw[k1]at b1;cases b1
    cases ha with
    |ep g1 g2 g3 g4 g5 g6=>
     rw[hf]at g1;cases g1
     rw[k1]at g2;cases g2
     rename_i kd z
     rw[g4]at b2;cases b2
     rcases k3 with⟨k3,_⟩|⟨_,k3⟩
     ·exact absurd k3 g3
     ·have hv:=asX_sound hvv hx b3
      subst hv
      simp only[XK.run]at a2
      rw[if_neg (by omega),Bz]at a2
      obtain⟨cc,c1,c2⟩:=a2
      split at c2
      ·rename_i hcc
       cases c2
       obtain⟨q1,q2,q3,q4,q5⟩:=hcc
       have hlen:cc.length=sz:=q3
       refine⟨(J.strike (γ m) z.toNat).put (ι m) (some (.row (γ m) t (es.set z.toNat (putAt cc j dx.cells)))), ?_, ?_⟩
       ·simp only[storeV,k3,c1,Oz]
        rw[if_pos ⟨q1,q2,q3,q4⟩]
       ·refine M.write (o:= .lst t sz c) (q:= .row (γ m) t (es.set z.toNat (putAt cc j dx.cells))) hf g3 ?_ rfl rfl (by simp[St.put]) (fun k o' hk hfk hik=> ?_) (fun t q h hne=>by simp only[St.put,if_neg hne,St.strike];rw[h];rfl) (fun q h=>by rw[k3]at h;cases h) ⟨rfl,rfl,fun es' he'=>⟨_,hd',by rw[k1]at he';cases he';simp⟩⟩ (fun q hq=>by obtain⟨_,p1,_,_,p4,_⟩:=hq.mem;simp only[St.put,if_neg (M.own_ne hf hq),St.strike];exact own_struck p1 (Ne.symm (p4 m _ _ _ hf g3))) ⟨_,hd', ?_,rfl⟩
        ·intro x k r hkk
         have hne:(x+1)::k::r≠ι m:=fun e=>by
          have:=M.wf x k r hkk
          rw[e,k3]at this;cases this
         simp only[St.put,if_neg hne]
         exact M.wf.strike _ _ x k r hkk
        ·have hne:ι k≠ι m:=fun e=>hk (M.inj k m _ _ hfk hf e hik)
         simp only[St.put,if_neg hne,St.strike]
         cases o' with
         |box vs'=>obtain⟨ds',_,e1,_⟩:=M.box k vs' hfk;rw[e1];rfl
         |map c'=>obtain⟨_,_,_,e1⟩:=M.mpo k c' hfk;rw[e1];rfl
         |mpl e' sz' c'=>obtain⟨_,_,_,e1,_⟩:=M.own k e' sz' c' hfk;rw[e1];rfl
         |raw kk=>obtain⟨_,_,e1,_⟩:=M.rwo k kk hfk;rw[e1];rfl
         |lst e' sz' c'=>
          obtain⟨es',_,_,e1⟩:=M.lst k _ _ _ hfk
          rcases e1 with⟨e1,_⟩|⟨_,e1⟩
          ·exact absurd e1 hik
          ·rw[e1]
           simp only[HO.struck]
           rw[if_neg fun hh=>hk (M.grp k m _ _ _ _ _ _ hfk hf hik g3 hh.1)]
        ·refine Tz.2 fun q hq=> ?_
         rcases List.mem_or_eq_of_mem_set hq with hq|rfl
         ·exact Tz.1 k2 q hq
         ·have hl:(putAt cc j dx.cells).length=cc.length:=putAt_length (by omega)
          have hccok:=Tz.1 k2 cc (Lz c1)
          simp only[Az,Tz]at hccok q5
          simp only[Az,Tz,beq_iff_eq]
          refine⟨by rw[hl];exact q3,fun z hz=> ?_⟩
          unfold putAt at hz
          simp only[List.mem_append]at hz
          rcases hz with(hz|hz)|hz
          ·exact hccok.2 z (List.mem_of_mem_take hz)
          ·exact q5 z hz
          ·exact hccok.2 z (List.mem_of_mem_drop hz)
      ·cases c2
   ·cases hs
  ·cases hs
 ·cases hs
theorem symApp_sound(M1:Mt Ω G E ι γ Y J){x t size nm:Nat}(F:Y.free nm){va vb:SV}{da db:D}{Y':Sy}{O:List X}(ha:VR G E ι Y.h va da)(hb:VR G E ι Y.h vb db)(hs:symApp x t size va vb Y nm=some (Y',O))(hO: ∀e∈O,∃d,X.ev G E e=some d):
  ∃J' ι' γ',appV x t size da db J=some J'∧Mt Ω G E ι' γ' Y' J':=by
 unfold symApp at hs
 rw[Bz]at hs
 obtain⟨cb,hcb,hs⟩:=hs
 split at hs
 ·cases hs
  obtain⟨h1,_⟩:=ha.x_inv
  obtain rfl:da= .nil:=(Option.some.inj (show some D.nil=some da from h1)).symm
  obtain⟨d',hd'⟩:=hO _ (List.mem_singleton.2 rfl)
  obtain⟨ds,a1,a2⟩:=ev_mk hd'
  obtain⟨p,q,rfl,a3,a4⟩:=evs2 a1
  cases a3
  obtain⟨x0,y,e1,e2,e3,e4,rfl⟩:=app_run a2
  cases e1
  simp only[List.nil_append,List.length_nil,Nat.zero_add]at hd' e4
  have hel:=contOf_sound M1 hb hcb a4 e2
  simp only[appV,hel,Oz]
  rw[if_neg (by rw[rowsOK_len e3];simp)]
  by_cases hy:y.isEmpty=true
  ·rw[if_pos hy]
   have hy0:y= []:=List.isEmpty_iff.1 hy
   subst hy0
   exact⟨_,_,_,rfl,M1.lst_same F (t:= []) (g:= []) hd' rfl (.inl ⟨rfl,rfl,rfl⟩) fun q hq=>⟨Ne.symm hq.mem.choose_spec.2.1,fun h=>absurd rfl h⟩⟩
  ·rw[if_neg hy,if_pos e4]
   exact⟨_,_,_,rfl,M1.lst_new F hd' e3 (M1.wf.new x _ _) rfl (fun n o' h hi=>by rw[new_m,if_neg (M1.ne_tok x h)]) (by rw[new_m,if_pos rfl]) (raw_new (by first|exact M1.wf|exact M2.wf) x _ _) (fun y=>new_c ..) (fun q hq=>⟨(M1.own_tok x hq).2,by rw[new_m,if_neg (Ne.symm (M1.own_tok x hq).1)]⟩) (.inl rfl)⟩
 ·rename_i n s
  split at hs
  ·rename_i t' s' c hf
   split at hs
   ·rename_i hcond
    obtain⟨rfl,rfl,rfl⟩:=hcond
    cases hs
    obtain⟨d',hd'⟩:=hO _ (List.mem_singleton.2 rfl)
    obtain⟨ds,a1,a2⟩:=ev_mk hd'
    obtain⟨p,q,rfl,a3,a4⟩:=evs2 a1
    obtain⟨x0,y,e1,e2,e3,e4,rfl⟩:=app_run a2
    obtain⟨es,k1,k2,k3⟩:=M1.lst _ _ _ _ hf
    rw[k1]at a3;cases a3
    obtain rfl:es=x0:=Option.some.inj e1
    have hel:=contOf_sound M1 hb hcb a4 e2
    obtain⟨M2,F2⟩:=M1.kill n
    have F3:(Y.kill n).free nm:=free_kill F
    have back: ∀k o,find (Y.kill n).h k=some o→k≠n∧ ∃o',find Y.h k=some o'∧ ∀e sz c,o= .lst e sz c→o'= .lst e sz c:=fun k o h=>by
     obtain⟨h1,o1,h2,h3⟩:=kill_find' h
     refine⟨h1,o1,h2,fun e sz c ho=> ?_⟩
     subst ho
     cases o1<;>simp only[killO,reduceCtorEq]at h3
     exact h3.symm
    have hne: ∀k o,find (Y.kill n).h k=some o→ι n≠ []→ι k≠ι n:=fun k o h hi e=>by
     obtain⟨h1,o',h2,_⟩:=back k o h
     exact h1 (M1.inj k n o' _ h2 hf e (by rw[e];exact hi))
    have hgr:ι n≠ []→ ∀k e sz c,find (Y.kill n).h k=some (.lst e sz c)→ι k≠ []→γ k≠γ n:=fun hi k e sz c h hk eg=>by
     obtain⟨h1,o',h2,h3⟩:=back k _ h
     rw[h3 _ _ _ rfl]at h2
     exact h1 (M1.grp k n _ _ _ _ _ _ h2 hf hk hi eg)
    have hold:=fun hi=>M1.old n _ _ _ hf hi
    have hownn: ∀q,Owned (Y.kill n).h ι γ J q→ι n≠ []→ι n≠q.u∧(ι n≠ []→γ n≠q.g):=fun q hq hi=>by
     obtain⟨q',hq',h1,h2⟩:=hq.kill M1
     obtain⟨_,_,_,p3,p4,_⟩:=hq'.mem
     exact⟨by rw[←h1];exact p3 n _ hf,fun _=>by rw[←h2];exact p4 n _ _ _ hf hi⟩
    rcases k3 with⟨k3,rfl⟩|⟨k3,k4⟩
    ·obtain rfl:da= .nil:=by
      cases ha with
      |gln=>rfl
      |gl g1 g2 g3=>exact absurd k3 g3
     simp only[List.nil_append,List.length_nil,Nat.zero_add]at hd' e4
     simp only[appV,hel,Oz]
     rw[if_neg (by rw[rowsOK_len e3];simp)]
     by_cases hy:y.isEmpty=true
     ·rw[if_pos hy]
      have hy0:y= []:=List.isEmpty_iff.1 hy
      subst hy0
      exact⟨_,_,_,rfl,M2.lst_same F3 (t:= []) (g:= []) hd' rfl (.inl ⟨rfl,rfl,rfl⟩) fun q hq=>⟨Ne.symm hq.mem.choose_spec.2.1,fun h=>absurd rfl h⟩⟩
     ·rw[if_neg hy,if_pos e4]
      exact⟨_,_,_,rfl,M2.lst_new F3 hd' e3 (M2.wf.new x _ _) rfl (fun n o' h hi=>by rw[new_m,if_neg (M2.ne_tok x h)]) (by rw[new_m,if_pos rfl]) (raw_new (by first|exact M1.wf|exact M2.wf) x _ _) (fun y=>new_c ..) (fun q hq=>⟨(M2.own_tok x hq).2,by rw[new_m,if_neg (Ne.symm (M2.own_tok x hq).1)]⟩) (.inl rfl)⟩
    ·obtain rfl:da= .sl (ι n) s' 0 es.length none:=by
      cases ha with
      |gln g1 g2=>exact absurd g2 k3
      |gl g1 g2 g3=>
       rw[hf]at g1;cases g1
       rw[k1]at g2;cases g2;rfl
     simp only[appV,hel,Oz]
     rw[if_neg (by rw[rowsOK_len e3];simp)]
     by_cases hy:y.isEmpty=true
     ·rw[if_pos hy]
      have hy0:y= []:=List.isEmpty_iff.1 hy
      subst hy0
      simp only[List.append_nil]at hd'
      exact⟨_,_,_,rfl,M2.lst_same F3 (t:=ι n) (g:=γ n) hd' k2 (.inr ⟨k3,k4,rfl,fun k o h=>hne k o h k3,fun k e sz c h hi=>hgr k3 k e sz c h hi,hold k3⟩) fun q hq=>hownn q hq k3⟩
     ·rw[if_neg hy]
      simp only[k4]
      rw[if_pos ⟨trivial,trivial,e4,by omega⟩]
      simp only[if_true,List.take_length]
      refine⟨_,_,_,rfl,M2.lst_new F3 (g:=γ n) hd' (rowsOK_append k2 e3) ((M2.wf.strike _ _).new x _ _) ?_ (fun k o' h hi=> ?_) ?_ (fun t q h=>raw_new (M2.wf.strike _ _) x _ _ t q (by simp only[St.strike];rw[h];rfl)) (fun y=>new_c ..) (fun q hq=>⟨(hownn q hq k3).2 k3,by
       obtain⟨_,p1,_⟩:=hq.mem
       have hnt:q.u≠(J.strike (γ n) es.length).tok x:=Ne.symm (M2.own_tok x hq).1
       rw[new_m,if_neg hnt]
       exact own_struck p1 (Ne.symm ((hownn q hq k3).2 k3))⟩) (.inr ⟨fun k e sz c h hi=>hgr k3 k e sz c h hi,hold k3⟩)⟩
      ·rw[List.length_append];rfl
      ·have hnt:ι k≠(J.strike (γ n) es.length).tok x:=M2.ne_tok x h
       rw[new_m,if_neg hnt]
       simp only[St.strike]
       cases o' with
       |box vs'=>obtain⟨ds',_,e1,_⟩:=M2.box k vs' h;rw[e1];rfl
       |map c'=>obtain⟨_,_,_,e1⟩:=M2.mpo k c' h;rw[e1];rfl
       |mpl e' sz' c'=>obtain⟨_,_,_,e1,_⟩:=M2.own k e' sz' c' h;rw[e1];rfl
       |raw kk=>obtain⟨_,_,e1,_⟩:=M2.rwo k kk h;rw[e1];rfl
       |lst e' sz' c'=>
        obtain⟨es',_,_,e1⟩:=M2.lst k _ _ _ h
        rcases e1 with⟨e1,_⟩|⟨_,e1⟩
        ·exact absurd e1 hi
        ·rw[e1]
         simp only[HO.struck]
         rw[if_neg fun hh=>hgr k3 k _ _ _ h hi hh.1]
      ·exact(new_m ..).trans (if_pos rfl)
   ·cases hs
  ·cases hs
 ·cases hs
theorem Mt.relst(M:Mt Ω G E ι γ Y J){n e sz:Nat}{c c':X}{es:List (List D)}(hf:find Y.h n=some (.lst e sz c))(hc:X.ev G E c=some (.list es))(hc':X.ev G E c'=some (.list es)):
  Mt Ω G E ι γ {Y with h:=setA n (.lst e sz c') Y.h} J:=by
 have hf': ∀k,find (setA n (.lst e sz c') Y.h) k=if k=n then some (.lst e sz c')else find Y.h k:=fun k=>find_set n k _ Y.h
 have L: ∀k,Lk G E E Y.h (setA n (.lst e sz c') Y.h) k:=fun k o ho=>by
  by_cases hk:k=n
  ·rw[hk,hf]at ho;cases ho
   exact⟨.lst e sz c',by rw[hf',if_pos hk],(⟨rfl,rfl,fun es1 h1=>⟨es,hc',by rw[hc]at h1;cases h1;rfl⟩⟩:SO.like G E E (.lst e sz c) (.lst e sz c'))⟩
  ·refine Lk.same (fun _ _ h=>h) ?_ o ho
   rw[hf',if_neg hk]
 have V: ∀{v d},VR G E ι Y.h v d→VR G E ι (setA n (.lst e sz c') Y.h) v d:=fun{v d} H=>H.mono (fun _ _ h=>h) fun k _=>⟨rfl,L k⟩
 have old: ∀k o,find (setA n (.lst e sz c') Y.h) k=some o→k≠n→find Y.h k=some o:=fun k o h hk=>by rw[hf',if_neg hk]at h;exact h
 have some': ∀k o,find (setA n (.lst e sz c') Y.h) k=some o→ ∃o0,find Y.h k=some o0:=fun k o h=>by
  by_cases hk:k=n
  ·exact⟨_,hk▸hf⟩
  ·exact⟨_,old k o h hk⟩
 have lst': ∀k e1 sz1 c1,find (setA n (.lst e sz c') Y.h) k=some (.lst e1 sz1 c1)→ ∃c0,find Y.h k=some (.lst e1 sz1 c0):=fun k e1 sz1 c1 h=>by
  by_cases hk:k=n
  ·rw[hf',if_pos hk]at h;cases h;exact⟨c,hk▸hf⟩
  ·exact⟨_,old k _ h hk⟩
 have mpl': ∀k e1 sz1 c1,find (setA n (.lst e sz c') Y.h) k=some (.mpl e1 sz1 c1)→find Y.h k=some (.mpl e1 sz1 c1):=fun k e1 sz1 c1 h=>old k _ h fun hk=>by rw[hf',if_pos hk]at h;cases h
 refine⟨fun i v hv=>V (M.slot i v hv),fun k vs hk=> ?_,fun k e1 sz1 c1 hk=> ?_,fun k c1 hk=> ?_,fun k e1 sz1 c1 hk=> ?_,fun a b _ _ _ _ _ _ h1 h2=>M.one a b _ _ _ _ _ _ (mpl' _ _ _ _ h1) (mpl' _ _ _ _ h2),fun k q hk=> ?_,fun a b o o' h1 h2=> ?_,fun a b e1 e2 s1 s2 c1 c2 h1 h2=> ?_,M.wf,fun k e1 sz1 c1 hk=> ?_,M.nv,M.con⟩
 ·obtain⟨ds,h0,h1,h2,h3⟩:=M.box k vs (old k _ hk fun e1=>by rw[hf',if_pos e1]at hk;cases hk)
  exact⟨ds,h0,h1,h2,fun i v d hv hd=>V (h3 i v d hv hd)⟩
 ·by_cases hkn:k=n
  ·rw[hf',if_pos hkn]at hk;cases hk
   obtain⟨es1,h1,h2,h3⟩:=M.lst k _ _ _ (hkn▸hf)
   rw[hc]at h1;cases h1
   exact⟨es,hc',h2,h3⟩
  ·exact M.lst k _ _ _ (old k _ hk hkn)
 ·exact M.mpo k _ (old k _ hk fun e1=>by rw[hf',if_pos e1]at hk;cases hk)
 ·obtain⟨L1,h1,h2,h3,h4⟩:=M.own k _ _ _ (mpl' _ _ _ _ hk)
  exact⟨L1,h1,h2,h3,fun q hq=>(h4.1 q hq).keep rfl (fun j o hj=>let⟨o0,h0⟩:=some' j o hj;(h4.1 q hq).2.2.2.1 j o0 h0) (fun j e sz c hj=>let⟨c0,h0⟩:=lst' j _ _ _ hj;(h4.1 q hq).2.2.2.2.1 j e sz c0 h0) fun _=>Nat.le_refl _,h4.2⟩
 ·exact M.rwo k _ (old k _ hk fun e1=>by rw[hf',if_pos e1]at hk;cases hk)
 ·obtain⟨o0,h0⟩:=some' a o h1
  obtain⟨o1,h3⟩:=some' b o' h2
  exact M.inj a b o0 o1 h0 h3
 ·obtain⟨c0,h0⟩:=lst' a _ _ _ h1
  obtain⟨c3,h3⟩:=lst' b _ _ _ h2
  exact M.grp a b _ _ _ _ c0 c3 h0 h3
 ·obtain⟨c0,h0⟩:=lst' k _ _ _ hk
  exact M.old k _ _ c0 h0
theorem nfB_noTB{d:D}(h:d.nfB=true):d.noTB=true:=by cases d<;>first|rfl|cases h
theorem nfC_noTC{d:D}(h:d.nfC=true):d.noTC=true:=by
 cases d
 case clo f xs=>
  simp only[D.nfC,D.noTC,Tz]at h⊢
  exact fun x hx=>nfB_noTB (h x hx)
 all_goals first|rfl|cases h
theorem Mt.strike_other(M:Mt Ω G E ι γ Y J){n k' e sz lim:Nat}{c:X}{o':SO}(hf:find Y.h n=some (.lst e sz c))(hfk:find Y.h k'=some o')(hk':k'≠n)(hik:ι k'≠ [])(g3:ι n≠ []):HO.struck (γ n) lim (J.m (ι k'))=J.m (ι k'):=by
 cases o' with
 |box vs=>obtain⟨ds,_,h1,_⟩:=M.box k' vs hfk;rw[h1];rfl
 |lst e' sz' c'=>
  obtain⟨es1,_,_,h1⟩:=M.lst k' _ _ _ hfk
  rcases h1 with⟨h1,_⟩|⟨_,h1⟩
  ·exact absurd h1 hik
  ·rw[h1]
   simp only[HO.struck]
   rw[if_neg fun hh=>hk' (M.grp k' n _ _ _ _ _ _ hfk hf hik g3 hh.1)]
 |map c=>obtain⟨es,_,_,h1⟩:=M.mpo k' c hfk;rw[h1];rfl
 |mpl e' sz' c=>obtain⟨L,_,_,h1,_⟩:=M.own k' _ _ _ hfk;rw[h1];rfl
 |raw q=>obtain⟨_,_,h1,_⟩:=M.rwo k' q hfk;rw[h1];rfl
theorem symEcall_sound(M:Mt Ω G E ι γ Y J){x k f n sz e:Nat}{args:List VArg}{c:X}{xs:List X}(hk:(args.map (valS Y))[k]?=some (.gl n sz))(hf:find Y.h n=some (.lst e sz c))(hx:SV.asXs ((args.map (valS Y)).set k (.x c))=some xs)
  {d0 d1:D} (h0:X.ev G E (.mk (.pk (.ext 1)) [.mk (.ecall k f sz) xs])=some d1) (h1:X.ev G E (.mk (.pk (.ext 0)) [.mk (.ecall k f sz) xs])=some d0):
  ∃J',ecallV (env0 G) x k f (args.map (VArg.val J.s)) J=some J'∧Mt Ω G E ι γ (Sy.set {Y with h:=setA n (.lst e sz (.mk (.pk (.ext 1)) [.mk (.ecall k f sz) xs])) Y.h} x (.x (.mk (.pk (.ext 0)) [.mk (.ecall k f sz) xs]))) J':=by
 have hvs:VRs G E ι Y.h (args.map (valS Y)) (args.map (VArg.val J.s)):=⟨by simp,fun i v d hv hd=>by
  rw[Dz,Mz]at hv hd
  obtain⟨g,hg,rfl⟩:=hv
  obtain⟨g',hg',rfl⟩:=hd
  rw[hg]at hg';cases hg'
  exact valS_rep M g⟩
 generalize args.map (VArg.val J.s)=ds at hvs
 generalize args.map (valS Y)=vs at hk hx hvs
 obtain⟨es,k1,k2,k3⟩:=M.lst n e sz c hf
 have hkl:=(Gz.1 hk).1
 have hkd:k<ds.length:=by rw[←hvs.1];exact hkl
 have hdk:=Ez hkd
 have hgl:=hvs.2 k _ _ hk hdk
 have hvs2:VRs G E ι Y.h (vs.set k (.x c)) (ds.set k (.list es)):=⟨by simp[hvs.1],fun i v d hv hd=>by
  by_cases hik:i=k
  ·subst hik
   rw[List.getElem?_set_self hkl]at hv
   rw[List.getElem?_set_self hkd]at hd
   cases hv;cases hd
   exact .x k1 rfl
  ·rw[List.getElem?_set_ne (Ne.symm hik)]at hv hd
   exact hvs.2 i v d hv hd⟩
 obtain⟨ts,a1,a2⟩:=ev_mk h0
 obtain⟨r,rfl,a3⟩:=evs1 a1
 obtain⟨as,a4,a5⟩:=ev_mk a3
 obtain rfl:=asXs_sound hvs2 hx a4
 obtain⟨ts',b1,b2⟩:=ev_mk h1
 obtain⟨r',rfl,b3⟩:=evs1 b1
 rw[a3]at b3;cases b3
 simp only[XK.run,List.set_set]at a5
 split at a5
 rotate_left
 ·cases a5
 rename_i hcond
 rw[List.getElem?_set_self hkd]at a5
 simp only[]at a5
 obtain⟨q,hq,a5⟩:=Bz.1 a5
 split at a5
 rotate_left
 ·cases a5
 rename_i d es'
 split at a5<;>cases a5
 rename_i hok
 obtain⟨o1,o2,o3⟩:=hok
 have e1:d1= .list es':=by
  simp only[XK.run,Bz]at a2
  obtain⟨y,hy,a2⟩:=a2
  split at a2<;>cases a2
  simpa[PK.run,extV]using hy.symm
 have e0:d0=d:=by
  simp only[XK.run,Bz]at b2
  obtain⟨y,hy,b2⟩:=b2
  split at b2<;>cases b2
  simpa[PK.run,extV]using hy.symm
 subst e1 e0
 have hq':(env0 G).e k f (ds.set k (.list es))=some (.tup [d0, .list es']):=hq
 have hall:es.all (fun c=>c.all D.noTC)=true:=Tz.2 fun c hc=>Tz.2 fun d hd=>nfC_noTC (by
  have:=Tz.1 k2 c hc
  simp only[Az]at this
  exact Tz.1 this.2 d hd)
 unfold ecallV
 rw[if_pos hcond,hdk]
 generalize ds[k]=dk at hgl hdk
 cases hgl with
 |gln g1 g2=>
  have hes:es= []:=by
   rcases k3 with⟨_,h⟩|⟨h,_⟩
   ·exact h
   ·exact absurd g2 h
  subst hes
  have hes':es'= []:=List.length_eq_zero_iff.1 (by simpa using o2)
  subst hes'
  simp only[hq',Oz,if_pos o1]
  exact⟨_,rfl,(M.relst hf k1 h0).set (.x h1 o1)⟩
 |gl g1 g2 g3=>
  rw[hf]at g1;cases g1
  rw[k1]at g2;cases g2
  rcases k3 with⟨k3,_⟩|⟨_,k3⟩
  ·exact absurd k3 g3
  simp only[k3,hall,and_self,if_true,hq',Oz,if_pos o1]
  refine⟨_,rfl,Mt.set (M.write (o:= .lst e sz c) (o':= .lst e sz (.mk (.pk (.ext 1)) [.mk (.ecall k f sz) xs])) (q:= .row (γ n) e es') (J':=(J.strike (γ n) 0).put (ι n) (some (.row (γ n) e es'))) hf g3 ?_ rfl rfl (by simp[St.put]) (fun k' o' hk' hfk hik=> ?_) (fun t q h hne=> ?_) (fun q h=>by rw[k3]at h;cases h) ⟨rfl,rfl,fun es1 h=>⟨es',h0,by rw[k1]at h;cases h;exact o2⟩⟩ (fun q hq=> ?_) ⟨es',h0,o3,rfl⟩) (.x h1 o1)⟩
  ·intro y k r hk
   simp only[St.put]
   split
   ·rename_i e
    rw[←e,M.wf y k r hk]at k3
    cases k3
   ·exact M.wf.strike _ _ y k r hk
  ·have hne:ι k'≠ι n:=fun e=>hk' (M.inj k' n _ _ hfk hf e hik)
   simp only[St.put,if_neg hne]
   show HO.struck (γ n) 0 (J.m (ι k'))=J.m (ι k')
   cases o' with
   |box vs=>obtain⟨ds,_,h1,_⟩:=M.box k' vs hfk;rw[h1];rfl
   |lst e' sz' c'=>
    obtain⟨es1,_,_,h1⟩:=M.lst k' _ _ _ hfk
    rcases h1 with⟨h1,_⟩|⟨_,h1⟩
    ·exact absurd h1 hik
    ·rw[h1]
     simp only[HO.struck]
     rw[if_neg fun hh=>hk' (M.grp k' n _ _ _ _ _ _ hfk hf hik g3 hh.1)]
   |map c=>obtain⟨es,_,_,h1⟩:=M.mpo k' c hfk;rw[h1];rfl
   |mpl e' sz' c=>obtain⟨L,_,_,h1,_⟩:=M.own k' _ _ _ hfk;rw[h1];rfl
   |raw q=>obtain⟨_,_,h1,_⟩:=M.rwo k' q hfk;rw[h1];rfl
  ·simp only[St.put,if_neg hne]
   show HO.struck (γ n) 0 (J.m t)=some (.raw q)
   rw[h];rfl
  ·simp only[St.put,if_neg (M.own_ne hf hq)]
   obtain⟨e0,m1,_,_,m4,_⟩:=hq.mem
   exact own_struck m1 (Ne.symm (m4 n _ _ _ hf g3))
theorem symEff_sound(M:Mt Ω G E ι γ Y J){e:Eff}{Y':Sy}{O:List X}(hs:symEff e Y=some (Y',O))(hO: ∀e∈O,∃d,X.ev G E e=some d):
  ∃J' ι' γ',e.run (env0 G) J=some J'∧Mt Ω G E ι' γ' Y' J':=by
 unfold symEff at hs
 split at hs
 ·rename_i n g x a
  obtain⟨M1,F⟩:=M.nw x
  obtain⟨⟨vs,O'⟩,hc,he⟩:=Mz.1 hs
  cases he
  obtain⟨h1,h2,h3⟩:=cellsS_sound (valS_rep M1 a) hc hO
  refine⟨_,_,_, ?_,M1.box_new F h3 (cellsS_free hc (valS_free F a))⟩
  simp only[Eff.run,boxV]
  rw[if_pos h2]
 ·rename_i n g a v
  obtain⟨J',h1,h2⟩:=symStore_sound M (valS_rep M a) (valS_rep M v) hs hO
  exact⟨J',ι,γ,h1,h2⟩
 ·rename_i x t size a b
  obtain⟨M1,F⟩:=M.nw x
  exact symApp_sound M1 F (valS_rep M1 a) (valS_rep M1 b) hs hO
 ·rename_i x t size zero a b
  obtain⟨M1,F⟩:=M.nw x
  have ha:=valS_rep M1 a
  have hb:=valS_rep M1 b
  split at hs
  ·rename_i ea eb hva hvb
   cases hs
   rw[hva]at ha
   rw[hvb]at hb
   obtain⟨h1,_⟩:=ha.x_inv
   obtain⟨h2,_⟩:=hb.x_inv
   obtain⟨d',hd'⟩:=hO _ (List.mem_singleton.2 rfl)
   obtain⟨ds,a1,a2⟩:=ev_mk hd'
   obtain⟨p,q,rfl,a3,a4⟩:=evs2 a1
   rw[h1]at a3;cases a3
   rw[h2]at a4;cases a4
   simp only[XK.run]at a2
   split at a2<;>try (cases a2;done)
   rename_i k1 l k2 c heq
   simp only[List.cons.injEq,and_true]at heq
   split at a2<;>cases a2
   rename_i hc
   simp only[Eff.run,mksV,heq.1,heq.2]
   rw[if_pos ⟨hc.1,hc.2.1,hc.2.2.1,hc.2.2.2.1⟩]
   have hlen:l.toNat=(List.replicate l.toNat zero).length:=by simp
   have hok:rowsOK size (List.replicate l.toNat zero)=true:=Tz.2 fun q hq=>by
    obtain⟨_,rfl⟩:=List.mem_replicate.1 hq
    simp[hc.2.2.2.2.1,hc.2.2.2.2.2]
   refine⟨_,_,_,rfl,M1.lst_new F hd' hok (M1.wf.new x _ _) ?_ (fun n o' h hi=>by rw[new_m,if_neg (M1.ne_tok x h)]) (by rw[new_m,if_pos rfl]) (raw_new (by first|exact M1.wf|exact M2.wf) x _ _) (fun y=>new_c ..) (fun q hq=>⟨(M1.own_tok x hq).2,by rw[new_m,if_neg (Ne.symm (M1.own_tok x hq).1)]⟩) (.inl rfl)⟩
   rw[←hlen]
  ·cases hs
 ·rename_i x t size len zero places args
  obtain⟨M1,F⟩:=M.nw x
  obtain⟨xs,hx,he⟩:=Mz.1 hs
  cases he
  obtain⟨d',hd'⟩:=hO _ (List.mem_singleton.2 rfl)
  obtain⟨ds,a1,a2⟩:=ev_mk hd'
  have hvs:VRs G E ι (Y.nw x).h (args.map (valS (Y.nw x))) (args.map (VArg.val J.s)):=⟨by simp,fun i v d hv hd=>by
   rw[Dz,Mz]at hv hd
   obtain⟨g,hg,rfl⟩:=hv
   obtain⟨g',hg',rfl⟩:=hd
   rw[hg]at hg';cases hg'
   exact valS_rep M1 g⟩
  obtain rfl:=asXs_sound hvs hx a1
  simp only[XK.run]at a2
  split at a2
  ·rename_i hall
   rw[Bz]at a2
   obtain⟨cs,c1,c2⟩:=a2
   split at c2<;>cases c2
   rename_i hc
   simp only[Eff.run,litV]
   rw[if_pos hall,c1]
   simp only[Oz]
   rw[if_pos hc.1]
   have hlen:(chop size len (cs.map D.nz)).length=len:=chop_length size len (cs.map D.nz)
   refine⟨_,_,_,rfl,M1.lst_new F hd' hc.2 (M1.wf.new x _ _) ?_ (fun n o' h hi=>by rw[new_m,if_neg (M1.ne_tok x h)]) (by rw[new_m,if_pos rfl]) (raw_new (by first|exact M1.wf|exact M2.wf) x _ _) (fun y=>new_c ..) (fun q hq=>⟨(M1.own_tok x hq).2,by rw[new_m,if_neg (Ne.symm (M1.own_tok x hq).1)]⟩) (.inl rfl)⟩
   rw[hlen]
  ·cases a2
 ·rename_i x
  obtain⟨M1,F⟩:=M.nw x
  cases hs
  exact⟨_,_,_,rfl,M1.map_new F⟩
 ·rename_i x e sz
  obtain⟨M1,F⟩:=M.nw x
  split at hs<;>cases hs
  rename_i hall
  refine⟨_,_,_,rfl,M1.mpl_new e sz F fun k e' sz' c' hk=> ?_⟩
  obtain⟨_,o,ho,h⟩:=kill_find' hk
  cases o<;>simp only[killO,reduceCtorEq]at h
  have:=Tz.1 hall _ (find_mem ho)
  simp[SO.isMpl]at this
 ·rename_i x a b
  have ha:=valS_rep M a
  have hb:=valS_rep M b
  split at hs
  ·rename_i n o l m p l' hva hvb
   rw[hva]at ha
   rw[hvb]at hb
   split at hs
   ·rename_i us vs hf hf'
    split at hs<;>cases hs
    rename_i hc
    obtain⟨c1,c2,c3,c4⟩:=hc
    obtain⟨xs,k1,k2,k3⟩:=M.box n us hf
    obtain⟨ys,j1,j2,j3⟩:=M.box m vs hf'
    generalize hda:a.val J.s=da at ha
    generalize hdb:b.val J.s=db at hb
    cases ha with
    |sb _ _=>
     cases hb with
     |sb _ _=>
      have hvl:((vs.drop p).take (min l' l)).length=min l' l:=by simp;omega
      have M2:=M.wbox (o:=o) hf k1 k2 k3 ((j3.drop p).take (min l' l)) (by rw[hvl];omega)
      rw[hvl]at M2
      have hrun: ∀(x:Option Nat) (lm lm':Option Nat),copyV x (.sl (ι n) 1 o l lm) (.sl (ι m) 1 p l' lm') J=some (match x with
        |some i=>(J.put (ι n) (some (.box (putAt xs o ((ys.drop p).take (min l' l)))))).set i (iv ((min l' l:Nat):Int))
        |none=>J.put (ι n) (some (.box (putAt xs o ((ys.drop p).take (min l' l)))))):=fun x lm lm'=>by
       simp only[copyV,k2,j2]
       rw[if_pos ⟨c1,c2,by rw[←k3.1];exact c3,by rw[←j3.1];exact c4⟩]
       cases x<;>rfl
      cases x with
      |none=>exact⟨_,ι,γ,by simp only[Eff.run,hda,hdb];exact hrun none _ _,M2⟩
      |some i=>exact⟨_,ι,γ,by simp only[Eff.run,hda,hdb];exact hrun (some i) _ _,M2.set (.x rfl rfl)⟩
   ·cases hs
  ·cases hs
 ·rename_i ks a k v
  have ha:=valS_rep M a
  split at hs
  ·rename_i n hva
   rw[hva]at ha
   split at hs
   ·rename_i c hf
    simp only[Bz,Mz]at hs
    obtain⟨kx,hkx,vx,hvx,he⟩:=hs
    cases he
    obtain⟨d',hd'⟩:=hO _ (List.mem_singleton.2 rfl)
    obtain⟨ds0,a1,a2⟩:=ev_mk hd'
    simp only[X.evs,Bz,Mz]at a1
    obtain⟨dc,b1,r1,⟨dk,b2,r2,⟨dv,b3,r3,b4,rfl⟩,rfl⟩,rfl⟩:=a1
    cases b4
    obtain⟨es,k1,k2,k3⟩:=M.mpo n c hf
    rw[k1]at b1;cases b1
    have hk:=asX_sound (valS_rep M k) hkx b2
    have hv:=asX_sound (valS_rep M v) hvx b3
    simp only[XK.run,unpair_pair,Oz,Mz]at a2
    obtain⟨es',g1,g2⟩:=a2
    cases g2
    generalize hda:a.val J.s=da at ha
    cases ha with
    |mp _ _=>
     refine⟨J.put (ι n) (some (.map es')),ι,γ, ?_,M.write (o:= .map c) (q:= .map es') hf k2 (M.wf.put (by rw[k3];simp)) rfl rfl (by simp[St.put]) (fun k o' hk hfk hik=> ?_) (fun t q h hne=>by simp only[St.put,if_neg hne];exact h) (fun q h=>by rw[k3]at h;cases h) trivial (fun q hq=>by simp only[St.put,if_neg (M.own_ne hf hq)]) ⟨es',hd',rfl⟩⟩
     ·simp only[Eff.run,hda,mupdV,k3,←hk,←hv]
      unfold msetV at g1
      split at g1
      ·rename_i hok
       rw[if_pos hok]
       obtain⟨r,hr,g1⟩:=Bz.1 g1
       rw[hr]
       simp only[Oz]
       cases r with
       |some i=>obtain⟨p,hp,rfl⟩:=Mz.1 g1;simp only[hp,Pz]
       |none=>
        simp only[]at g1⊢
        split at g1<;>cases g1
        rename_i hlt
        rw[if_pos hlt]
      ·cases g1
     ·have:ι k≠ι n:=fun e=>hk (M.inj k n _ _ hfk hf e hik)
      simp[St.put,this]
   ·cases hs
  ·cases hs
 ·rename_i size zero a
  have ha:=valS_rep M a
  split at hs
  ·rename_i n sz k hva
   rw[hva]at ha
   split at hs
   ·rename_i e sz' c hf
    split at hs<;>cases hs
    rename_i hcond
    obtain⟨⟨rfl,rfl⟩,hz⟩:=hcond
    obtain⟨d',hd'⟩:=hO _ (List.mem_singleton.2 rfl)
    obtain⟨es,k1,k2,k3⟩:=M.lst n _ _ c hf
    obtain⟨ts,a1,a2⟩:=ev_mk hd'
    obtain⟨q1,q2,rfl,c3,c4⟩:=evs2 a1
    rw[k1]at c3;cases c3
    simp only[XK.run]at a2
    split at a2
    rotate_left
    ·cases a2
    rename_i es0 kd z heq
    simp only[List.cons.injEq,D.list.injEq,and_true]at heq
    obtain⟨rfl,rfl⟩:=heq
    split at a2<;>cases a2
    rename_i hr
    have hrows:rowsOK size (es.take z.toNat++List.replicate (es.length-z.toNat) zero)=true:=by
     refine rowsOK_append (Tz.2 fun c hc=>Tz.1 k2 c (List.mem_of_mem_take hc)) (Tz.2 fun c hc=> ?_)
     rw[List.eq_of_mem_replicate hc];exact hz
    have hln:(es.take z.toNat++List.replicate (es.length-z.toNat) zero).length=es.length:=by simp;omega
    generalize hda:a.val J.s=da at ha
    have same:es.length-z.toNat=0→es.take z.toNat++List.replicate (es.length-z.toNat) zero=es:=fun h=>by
     rw[h,List.replicate_zero,List.append_nil,List.take_of_length_le (by omega)]
    cases ha with
    |gtn g1 g2 g3=>
     have hes:es= []:=by
      rcases k3 with⟨_,h⟩|⟨h,_⟩
      ·exact h
      ·exact absurd g2 h
     subst hes
     refine⟨J,ι,γ,by simp only[Eff.run,hda,clrV],M.relst hf k1 ?_⟩
     rw[hd',same (by simp)]
    |gt g1 g2 g3 g4 g5 g6=>
     rw[hf]at g1;cases g1
     rw[k1]at g2;cases g2
     rw[c4]at g4;cases g4
     by_cases h0:es.length-z.toNat=0
     ·refine⟨J,ι,γ,by simp only[Eff.run,hda,clrV,if_pos h0],M.relst hf k1 ?_⟩
      rw[hd',same h0]
     rcases k3 with⟨k3,_⟩|⟨_,k3⟩
     ·exact absurd k3 g3
     have hzl:zero.length=size:=by simp only[Az,beq_iff_eq]at hz;exact hz.1
     have hdr:es.drop (z.toNat+(es.length-z.toNat))= []:=List.drop_eq_nil_of_le (by omega)
     refine⟨(J.strike (γ n) z.toNat).put (ι n) (some (.row (γ n) e (es.take z.toNat++List.replicate (es.length-z.toNat) zero))),ι,γ, ?_, ?_⟩
     ·simp only[Eff.run,hda,clrV,if_neg h0,k3]
      rw[if_pos ⟨⟨trivial,hzl⟩,by omega,rowsOK_len k2⟩,hdr,List.append_nil]
     ·refine M.write (o:= .lst e size c) (o':= .lst e size (.mk (.clr zero) [c,k])) (q:= .row (γ n) e (es.take z.toNat++List.replicate (es.length-z.toNat) zero)) hf g3 ?_ rfl rfl (by simp[St.put]) (fun k' o' hk' hfk hik=> ?_) (fun t q h hne=> ?_) (fun q h=>by rw[k3]at h;cases h) ⟨rfl,rfl,fun es1 h=>⟨_,hd',by rw[k1]at h;cases h;exact hln⟩⟩ (fun q hq=> ?_) ⟨_,hd',hrows,rfl⟩
      ·intro y k r hk
       simp only[St.put]
       split
       ·rename_i e
        rw[←e,M.wf y k r hk]at k3
        cases k3
       ·exact M.wf.strike _ _ y k r hk
      ·have hne:ι k'≠ι n:=fun e=>hk' (M.inj k' n _ _ hfk hf e hik)
       simp only[St.put,if_neg hne]
       exact M.strike_other hf hfk hk' hik g3
      ·simp only[St.put,if_neg hne]
       show HO.struck (γ n) z.toNat (J.m t)=some (.raw q)
       rw[h];rfl
      ·simp only[St.put,if_neg (M.own_ne hf hq)]
       obtain⟨e0,m1,_,_,m4,_⟩:=hq.mem
       exact own_struck m1 (Ne.symm (m4 n _ _ _ hf g3))
   ·cases hs
  ·cases hs
 ·rename_i x k f args
  split at hs
  ·rename_i n sz hk
   split at hs
   ·rename_i e sz' c hf
    split at hs
    ·rename_i hss
     subst hss
     obtain⟨xs,hx,he⟩:=Mz.1 hs
     cases he
     obtain⟨d1,h1⟩:=hO _ (List.mem_cons_self ..)
     obtain⟨d0,h0⟩:=hO _ (Cz _ (List.mem_singleton.2 rfl))
     obtain⟨J',g1,g2⟩:=symEcall_sound (x:=x) M hk hf hx h1 h0
     exact⟨J',ι,γ,g1,g2⟩
    ·cases hs
   ·cases hs
  ·cases hs
 ·rename_i x t size f args
  split at hs
  rotate_left
  ·cases hs
  rename_i hf6
  obtain⟨M1,F⟩:=M.nw x
  obtain⟨xs,hx,he⟩:=Mz.1 hs
  cases he
  obtain⟨d',hd'⟩:=hO _ (List.mem_cons_self ..)
  have hd1:=hd'
  unfold acX at hd1
  obtain⟨ts,a1,a2⟩:=ev_mk hd1
  obtain⟨p,q,rfl,b1,b2⟩:=evs2 a1
  cases b1
  obtain⟨ts2,c1,c2⟩:=ev_mk b2
  obtain⟨p2,q2,rfl,e1,e2⟩:=evs2 c1
  cases e2
  obtain⟨ds,f1,f2⟩:=ev_mk e1
  have hvs:VRs G E ι (Y.nw x).h (args.map (valS (Y.nw x))) (args.map (VArg.val J.s)):=⟨by simp,fun i v d hv hd=>by
   rw[Dz,Mz]at hv hd
   obtain⟨g,hg,rfl⟩:=hv
   obtain⟨g',hg',rfl⟩:=hd
   rw[hg]at hg';cases hg'
   exact valS_rep M1 g⟩
  obtain rfl:=asXs_sound hvs hx f1
  have hno:(args.map (VArg.val J.s)).all D.noT=true:=Tz.2 fun d hd=>by
   obtain⟨i,hi⟩:=List.getElem?_of_mem hd
   have hil:i<xs.length:=by rw[←evs_len f1];exact(Gz.1 hi).1
   have hxi:=Ez hil
   obtain⟨r,hr⟩:=hO (.mk .nrm [xs[i]]) (Cz _ (List.mem_map.2 ⟨xs[i],List.getElem_mem hil,rfl⟩))
   obtain⟨us,g1,g2⟩:=ev_mk hr
   obtain⟨u,rfl,g3⟩:=evs1 g1
   have:=evs_get f1 i _ d hxi hi
   rw[g3]at this;cases this
   simp only[XK.run]at g2
   split at g2
   ·assumption
   ·cases g2
  simp only[XK.run]at c2 a2
  split at c2
  rotate_left
  ·cases c2
  rename_i es k0 z heq
  simp only[List.cons.injEq,and_true]at heq
  obtain⟨rfl,hz⟩:=heq
  cases hz
  split at c2<;>cases c2
  simp only[Int.toNat_zero,List.drop_zero,lstOf,Oz,List.nil_append]at a2
  split at a2<;>cases a2
  rename_i hok
  simp only[XK.run,callX]at f2
  obtain⟨r,hr,f3⟩:=Bz.1 f2
  have hbare:r.bare= .list es:=by
   simp only[Bool.false_eq_true,if_false]at f3
   by_cases hn:r.bare.noT=true
   ·rw[if_pos hn]at f3;exact Option.some.inj f3
   ·rw[if_neg hn]at f3;cases f3
  have hq:(env0 G).q (1000000*t+f) (args.map (VArg.val J.s))=some (.list es,noMem):=by
   show(G (1000001000000+(1000000*t+f)) _).map _=_
   rw[hr];simp[hbare]
  have hes:es.all (fun c=>c.length==size)=true:=Tz.2 fun c hc=>by
   have:=Tz.1 hok.1 c hc
   simp only[Az]at this
   exact this.1
  simp only[Eff.run,acallV]
  rw[if_pos ⟨hno,hf6⟩,hq]
  simp only[Oz]
  rw[if_pos hes]
  exact⟨_,_,_,rfl,M1.lst_new F hd' hok.1 (M1.wf.new x _ _) rfl (fun n o' h hi=>by rw[new_m,if_neg (M1.ne_tok x h)]) (by rw[new_m,if_pos rfl]) (raw_new (by first|exact M1.wf|exact M2.wf) x _ _) (fun y=>new_c ..) (fun q hq=>⟨(M1.own_tok x hq).2,by rw[new_m,if_neg (Ne.symm (M1.own_tok x hq).1)]⟩) (.inl rfl)⟩
end
end
end Go.Proofs.YtkcfpgaepmllhaaGreatDoor
