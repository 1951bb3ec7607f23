/- Part of the proof: symbolic execution of the program, its soundness, and the closing lemmas. No condition. -/
import Derived.Test.YtkcfpgaepmllhaaGreatDoorEac
namespace Go.Proofs.YtkcfpgaepmllhaaGreatDoor
open Go.RowKit
set_option maxRecDepth 100000
set_option linter.all false
section
def b6(Y:Sy):aL→SV
 | .t i=>(find Y.s i).getD .un
 | .c (.agg xs)=> .agg (xs.map Bw)
 | .c d=>Bw d
def tj(h:List (Nat×SO)):SV→Option X
 | .x e=>some e
 | .gl n _=>cont h n
 | .gs n _ k=>(cont h n).map fun c=> .mk .take [c,k]
 | .gt n _ k=>(cont h n).map fun c=> .mk .drp [c,k]
 |_=>none
def Sy.nw(Y:Sy)(x:Nat):Sy:=Y.kill (Y.nx+x)
def Sy.add(Y:Sy)(x nm:Nat)(o:SO)(v:SV):Sy:={Y with h:=cq nm o Y.h,s:=cq x v Y.s}
def ki(N:Nat)(e:X):List SV:=(List.range N).map fun k=> .x (.mk (.cell k N) [e])
def kO(n:Nat)(g:Bool)(va vv:SV)(Y:Sy):Option (Sy×List X):=
 match va with
 | .ptr m o=>match find Y.h m with
  |some (.box us)=>(l7 n g vv).bind fun q=>if o+n≤us.length then some ({Y with h:=cq m (.box (us.take o++q.1++us.drop (o+n))) Y.h},q.2)else none
  |_=>none
 | .rb m o=>match find Y.h m with
  |some (.box us)=>(l7 n g vv).bind fun q=>if o+n≤us.length then some ({Y with h:=cq m (.box (us.take o++q.1++us.drop (o+n))) Y.h},q.2)else none
  |_=>none
 | .dp m o c s i j=>match find Y.h m with
  |some (.box us)=>(SV.nU ((us.drop o).take (c*s))).bind fun xs=>vv.oB.bind fun x=>
   if o+c*s≤us.length then some ({Y with h:=cq m (.box (us.take o++ki (c*s) (.mk (.seta c s j n) [.mk .agg xs,i,x])++us.drop (o+c*s))) Y.h},[.mk (.seta c s j n) [.mk .agg xs,i,x]])else none
  |_=>none
 | .ep m s i j=>match find Y.h m with
  |some (.az t sz c)=>if sz=s then vv.oB.map fun x=>({Y with h:=cq m (.az t sz (.mk (.setl s j n) [c,i,x])) Y.h},[.mk (.setl s j n) [c,i,x]])else none
  |_=>none
 |_=>none
def qB(x t size:Nat)(va vb:SV)(Y:Sy)(nm:Nat):Option (Sy×List X):=
 (tj Y.h vb).bind fun cb=>match va with
  | .x (.q .nil)=>some (Y.add x nm (.az t size (.mk (.app size) [.q (.list []),cb])) (.gl nm size),[.mk (.app size) [.q (.list []),cb]])
  | .gl n s=>match find Y.h n with
   |some (.az t' s' c)=>if t'=t∧s=size∧s'=size then some ((Y.kill n).add x nm (.az t size (.mk (.app size) [c,cb])) (.gl nm size),[.mk (.app size) [c,cb]])else none
   |_=>none
  |_=>none
def SO.NJ:SO→Bool
 | .mpl .. =>true
 |_=>false
def acX(t size f:Nat)(xs:List X):X:= .mk (.app size) [.q (.list []), .mk .drp [.mk (.call false (1000001000000+(1000000*t+f))) xs, .q (iv 0)]]
def fZ(e:Eff)(Y:Sy):Option (Sy×List X):=
 match e with
 | .box n g x a=>(l7 n g (b6 (Y.nw x) a)).map fun q=>((Y.nw x).add x (Y.nx+x) (.box q.1) (.ptr (Y.nx+x) 0),q.2)
 | .store n g a v=>kO n g (b6 Y a) (b6 Y v) Y
 | .app x t size a b=>qB x t size (b6 (Y.nw x) a) (b6 (Y.nw x) b) (Y.nw x) (Y.nx+x)
 | .mks x t size zero a b=>match b6 (Y.nw x) a,b6 (Y.nw x) b with
  | .x ea, .x eb=>some ((Y.nw x).add x (Y.nx+x) (.az t size (.mk (.mks size zero) [ea,eb])) (.gl (Y.nx+x) size),[.mk (.mks size zero) [ea,eb]])
  |_,_=>none
 | .lit x t size len zero places args=>(SV.nU (args.map (b6 (Y.nw x)))).map fun xs=>((Y.nw x).add x (Y.nx+x) (.az t size (.mk (.lit size len zero places) xs)) (.gl (Y.nx+x) size),[.mk (.lit size len zero places) xs])
 | .mkm x=>some ((Y.nw x).add x (Y.nx+x) (.map (.q (.list []))) (.mp (Y.nx+x)),[])
 | .mkml x e sz=>if Y.h.all (fun p=> !p.2.NJ)then some ((Y.nw x).add x (Y.nx+x) (.mpl e sz (.q (.list []))) (.mp (Y.nx+x)),[])else none
 | .copy x a b=>match b6 Y a,b6 Y b with
  | .sb n o l, .sb m p l'=>match find Y.h n,find Y.h m with
   |some (.box us),some (.box vs)=>if 0<l∧0<l'∧o+l≤us.length∧p+l'≤vs.length then
     some ((match x with
      |some i=>Sy.set {Y with h:=cq n (.box (us.take o++(vs.drop p).take (min l' l)++us.drop (o+min l' l))) Y.h} i (.x (.q (iv ((min l' l:Nat):Int))))
      |none=>{Y with h:=cq n (.box (us.take o++(vs.drop p).take (min l' l)++us.drop (o+min l' l))) Y.h}),[])else none
   |_,_=>none
  |_,_=>none
 | .mupd ks a k v=>match b6 Y a with
  | .mp n=>match find Y.h n with
   |some (.map c)=>(b6 Y k).oB.bind fun kx=>(b6 Y v).oB.map fun vx=>({Y with h:=cq n (.map (.mk (.mset ks) [c,kx,vx])) Y.h},[.mk (.mset ks) [c,kx,vx]])
   |_=>none
  |_=>none
 | .clr size zero a=>match b6 Y a with
  | .gt n sz k=>match find Y.h n with
   |some (.az e sz' c)=>if(sz'=sz∧size=sz)∧(zero.length==size&&zero.all D.nG)=true then some ({Y with h:=cq n (.az e sz (.mk (.clr zero) [c,k])) Y.h},[.mk (.clr zero) [c,k]])else none
   |_=>none
  |_=>none
 | .ecall x k f args=>match(args.map (b6 Y))[k]? with
  |some (.gl n sz)=>match find Y.h n with
   |some (.az e sz' c)=>if sz'=sz then(SV.nU ((args.map (b6 Y)).set k (.x c))).map fun xs=>
     (Sy.set {Y with h:=cq n (.az e sz (.mk (.pk (.ext 1)) [.mk (.ecall k f sz) xs])) Y.h} x (.x (.mk (.pk (.ext 0)) [.mk (.ecall k f sz) xs])),[.mk (.pk (.ext 1)) [.mk (.ecall k f sz) xs], .mk (.pk (.ext 0)) [.mk (.ecall k f sz) xs]])else none
   |_=>none
  |_=>none
 | .acall x t size f args=>if f<1000000 then(SV.nU (args.map (b6 (Y.nw x)))).map fun xs=>((Y.nw x).add x (Y.nx+x) (.az t size (acX t size f xs)) (.gl (Y.nx+x) size),acX t size f xs::xs.map fun a=> .mk .bt [a])else none
section
variable {Ω : bM} {G : FP} {E : List D} {ι γ : Nat → Tok} {Y : Sy} {J : St}
theorem aJ(M:Mt Ω G E ι γ Y J)(a:aL):VR G E ι Y.h (b6 Y a) (a.val J.s):=by
 cases a with
 |t i=>
  simp only[b6];cases hf:find Y.s i with
  |none=>exact .un
  |some v=>exact M.slot i v hf
 |c d=>
  cases d<;>simp only[b6]<;>try exact uX _
  exact .agg (by simp) fun i v d hv hd=>by
   rw[Dz,hd]at hv;simp only[Pz,Jz]at hv;subst hv;exact uX d
theorem tX{n:Nat}: ∀{vs:List SV},(∀v∈vs,v.jc n=false)→SV.o_ n vs=false
 | [],_=>rfl
 |v::r,h=>by
  have h1:=tX (n:=n) (vs:=r) fun u hu=>h u (Cz _ hu);simp only[SV.o_,h v (List.mem_cons_self ..),h1,Bool.or_self]
theorem IC{n:Nat}{vs:List SV}(h:SV.o_ n vs=false): ∀v∈vs,v.jc n=false:=fun v hv=>by
 obtain⟨i,hi⟩:=List.getElem?_of_mem hv;exact tY h i v hi
theorem Gi{x:Nat}(F:Y.free x)(a:aL):(b6 Y a).jc x=false:=by
 have vd: ∀d:D,(Bw d).jc x=false:=fun d=>by unfold Bw;split<;>rfl
 cases a with
 |t i=>
  simp only[b6];cases hf:find Y.s i with
  |none=>rfl
  |some v=>exact F.2.1 i v hf
 |c d=>
  cases d<;>simp only[b6]<;>try exact vd _
  exact tX fun v hv=>by obtain⟨d,_,rfl⟩:=List.mem_map.1 hv;exact vd d
theorem zM {x n : Nat} {g : Bool} {v : SV} {vs : List SV} {O : List X} (hc : l7 n g v = some (vs, O)) (hv : v.jc x = false) : ∀ u ∈ vs, u.jc x = false := by
  unfold l7 at hc
  split at hc
  · split at hc
    · obtain ⟨O', h1, h2⟩ := Mz.1 hc
      cases h2
      exact IC (by simpa only [SV.jc] using hv)
    · cases hc
  · split at hc
    · split at hc <;> cases hc
      intro u hu
      obtain ⟨j, _, rfl⟩ := List.mem_map.1 hu
      rfl
    · grind
  all_goals first
    | (cases hc; done)
    | (split at hc <;> cases hc
       intro u hu; simp at hu; subst hu; exact hv)
theorem VR.fresh{h:List (Nat×SO)}{v:SV}{d:D}(H:VR G E ι h v d){x:Nat}(hx:v.jc x=false){t:Tok}{o:SO}:VR G E (fun n=>if n=x then t else ι n) (cq x o h) v d:=
 H.mono (fun _ _ h=>h) fun n hn=>by
  have hne:n≠x:=fun e=>by subst e;rw[hx]at hn;cases hn
  exact⟨if_neg hne,Lk.same (fun _ _ h=>h) (by rw[bB,if_neg hne])⟩
theorem bA.fresh{h:List (Nat×SO)}{vs:List SV}{ds:List D}(H:bA G E ι h vs ds){x:Nat}(hx: ∀v∈vs,v.jc x=false){t:Tok}{o:SO}:bA G E (fun n=>if n=x then t else ι n) (cq x o h) vs ds:=
 ⟨H.1,fun i v d hv hd=>(H.2 i v d hv hd).fresh (hx v (Lz hv))⟩
theorem Mt.nw(M:Mt Ω G E ι γ Y J)(x:Nat):Mt Ω G E ι γ (Y.nw x) J∧(Y.nw x).free (Y.nx+x):=M.kill _
theorem Mt.add(M:Mt Ω G E ι γ Y J){x nm:Nat}(F:Y.free nm){o:SO}{v:SV}{t g:Tok}{J':St}(W:WF J')(hs: ∀j,j≠x→J'.s j=J.s j)
  (hm: ∀n o',find Y.h n=some o'→ι n≠ []→J'.m (ι n)=J.m (ι n)) (hc: ∀y,J.c y≤J'.c y) (hr: ∀t q,J.m t=some (.raw q)→J'.m t=some (.raw q))
  (hv:VR G E (fun n=>if n=nm then t else ι n) (cq nm o Y.h) v (J'.s x))
  (ho:match o with
   | .box vs=> ∃ds,t≠ []∧J'.m t=some (.box ds)∧bA G E (fun n=>if n=nm then t else ι n) (cq nm o Y.h) vs ds
   | .az e sz c=> ∃es,X.ev G E c=some (.list es)∧aQ sz es=true∧(t= []∧es= []∨t≠ []∧J'.m t=some (.row g e es))∧(t≠ []→ ∀n e sz c,find Y.h n=some (.az e sz c)→ι n≠ []→γ n≠g)∧(t≠ []→ ∀y k r,g=(y+1)::k::r→k<J'.c y)
   | .map c=> ∃es,X.ev G E c=some (.list (aH es))∧t≠ []∧J'.m t=some (.map es)
   | .mpl e sz c=>X.ev G E c=some (.list [])∧t≠ []∧J'.m t=some (.map [])∧ ∀k e sz c,find Y.h k≠some (.mpl e sz c)
   | .raw k=>t=Ω.t nm∧t≠ []∧J'.m t=some (.raw (Ω.f nm k))∧ ¬Ω.c t)
  (ht:t≠ []→ ∀n o,find Y.h n=some o→ι n≠t) (hx: ∀q,iK Y.h ι γ J q→t≠q.u∧(t≠ []→(∃e sz c,o= .az e sz c)→g≠q.g)∧J'.m q.u=J.m q.u):
  Mt Ω G E (fun n=>if n=nm then t else ι n) (fun n=>if n=nm then g else γ n) (Y.add x nm o v) J':=by
 have hf: ∀n,find (Y.add x nm o v).h n=if n=nm then some o else find Y.h n:=fun n=>bB nm n o Y.h
 refine⟨fun i u hu=> ?_,fun n vs hn=> ?_,fun n e sz c hn=> ?_,fun n c hn=> ?_,fun n e sz c hn=> ?_,fun n n' e e' sz sz' c c' h1 h2=> ?_,fun n kk hn=> ?_,fun n n' o1 o2 h1 h2 he hne=> ?_,fun n n' e e' sz sz' c c' h1 h2 k1 k2 he=> ?_,W,fun n e sz c hn hne y k r hg=> ?_,M.nv,fun t ht=>hr t _ (M.con t ht)⟩
 ·simp only[Sy.add,bB]at hu;by_cases hi:i=x
  ·rw[if_pos hi]at hu;cases hu;rw[hi];exact hv
  ·rw[if_neg hi]at hu;rw[hs i hi];exact(M.slot i u hu).fresh (F.2.1 i u hu)
 ·rw[hf]at hn;by_cases hi:n=nm
  ·rw[if_pos hi]at hn;cases hn;obtain⟨ds,h1,h2,h3⟩:=ho;exact⟨ds,by simpa[hi]using h1,by simpa[hi]using h2,h3⟩
  ·rw[if_neg hi]at hn;obtain⟨ds,h1,h2,h3⟩:=M.box n vs hn;refine⟨ds,by simpa[hi]using h1, ?_,h3.fresh (F.2.2 n vs hn)⟩;simp only[if_neg hi];rw[hm n _ hn h1];exact h2
 ·rw[hf]at hn;by_cases hi:n=nm
  ·rw[if_pos hi]at hn;cases hn;obtain⟨es,h1,h2,h3,_⟩:=ho;exact⟨es,h1,h2,by simpa[hi]using h3⟩
  ·rw[if_neg hi]at hn;obtain⟨es,h1,h2,h3⟩:=M.az n e sz c hn;refine⟨es,h1,h2, ?_⟩;simp only[if_neg hi];rcases h3 with h3|⟨h3,h4⟩
   ·exact .inl h3
   ·exact .inr ⟨h3,by rw[hm n _ hn h3];exact h4⟩
 ·rw[hf]at hn;by_cases hi:n=nm
  ·rw[if_pos hi]at hn;cases hn;obtain⟨es,h1,h2,h3⟩:=ho;exact⟨es,h1,by simpa[hi]using h2,by simpa[hi]using h3⟩
  ·rw[if_neg hi]at hn;obtain⟨es,h1,h2,h3⟩:=M.mpo n c hn;refine⟨es,h1,by simpa[hi]using h2, ?_⟩;simp only[if_neg hi];rw[hm n _ hn h2];exact h3
 ·rw[hf]at hn;by_cases hi:n=nm
  ·rw[if_pos hi]at hn;cases hn;obtain⟨h1,h2,h3,_⟩:=ho;exact⟨[],h1,by simpa[hi]using h2,by simpa[hi]using h3,fun q hq=>(by cases hq),List.nodup_nil⟩
  ·rw[if_neg hi]at hn;obtain⟨L,h1,h2,h3,h4⟩:=M.own n e sz c hn;refine⟨L,h1,by simpa[hi]using h2, ?_,fun q hq=> ?_,h4.2⟩
   ·simp only[if_neg hi];rw[hm n _ hn h2];exact h3
   ·obtain⟨k1,k2,k3⟩:=hx q ⟨n,e,sz,c,L,hn,h3,h4,hq⟩;obtain⟨_,_,_,q4,q5,_⟩:=h4.1 q hq;refine(h4.1 q hq).lj k3 (fun k o' hk=> ?_) (fun k e' sz' c' hk hne=> ?_) hc
    ·rw[hf]at hk;by_cases hkn:k=nm
     ·simp only[if_pos hkn];exact k1
     ·rw[if_neg hkn]at hk;simp only[if_neg hkn];exact q4 k o' hk
    ·rw[hf]at hk;by_cases hkn:k=nm
     ·rw[if_pos hkn]at hk;simp only[if_pos hkn]at hne⊢;exact k2 hne ⟨_,_,_,Option.some.inj hk⟩
     ·rw[if_neg hkn]at hk;simp only[if_neg hkn]at hne⊢;exact q5 k e' sz' c' hk hne
 ·rw[hf]at h1 h2;by_cases hi:n=nm<;>by_cases hi':n'=nm
  ·rw[hi,hi']
  ·rw[if_pos hi]at h1;rw[if_neg hi']at h2;cases h1;exact absurd h2 (ho.2.2.2 _ _ _ _)
  ·rw[if_neg hi]at h1;rw[if_pos hi']at h2;cases h2;exact absurd h1 (ho.2.2.2 _ _ _ _)
  ·rw[if_neg hi]at h1;rw[if_neg hi']at h2;exact M.one n n' _ _ _ _ _ _ h1 h2
 ·rw[hf]at hn;by_cases hi:n=nm
  ·rw[if_pos hi]at hn;cases hn;obtain⟨h0,h1,h2⟩:=ho;exact⟨by simpa[hi]using h0,by simpa[hi]using h1,by simpa[hi]using h2⟩
  ·rw[if_neg hi]at hn;obtain⟨h0,h1,h2⟩:=M.rwo n kk hn;refine⟨by simpa[hi]using h0,by simpa[hi]using h1, ?_⟩;simp only[if_neg hi];rw[hm n _ hn h1];exact h2
 ·rw[hf]at h1 h2;by_cases hi:n=nm<;>by_cases hi':n'=nm
  ·rw[hi,hi']
  ·simp only[if_pos hi,if_neg hi']at he hne h2;exact absurd he.symm (ht hne n' o2 h2)
  ·simp only[if_neg hi,if_pos hi']at he hne h1;exact absurd he (ht (he▸hne) n o1 h1)
  ·simp only[if_neg hi,if_neg hi']at he hne h1 h2;exact M.inj n n' o1 o2 h1 h2 he hne
 ·rw[hf]at h1 h2;by_cases hi:n=nm<;>by_cases hi':n'=nm
  ·rw[hi,hi']
  ·simp only[if_pos hi,if_neg hi']at he k1 k2 h1 h2;cases h1;obtain⟨es,_,_,_,h4,_⟩:=ho;exact absurd he.symm (h4 k1 n' e' sz' c' h2 k2)
  ·simp only[if_neg hi,if_pos hi']at he k1 k2 h1 h2;cases h2;obtain⟨es,_,_,_,h4,_⟩:=ho;exact absurd he (h4 k2 n e sz c h1 k1)
  ·simp only[if_neg hi,if_neg hi']at he k1 k2 h1 h2;exact M.gV n n' e e' sz sz' c c' h1 h2 k1 k2 he
 ·rw[hf]at hn;by_cases hi:n=nm
  ·simp only[if_pos hi]at hn hne hg;cases hn;obtain⟨es,_,_,_,_,h5⟩:=ho;exact h5 hne y k r hg
  ·simp only[if_neg hi]at hn hne hg;exact Nat.lt_of_lt_of_le (M.old n e sz c hn hne y k r hg) (hc y)
end
end
section
section
variable {Ω : bM} {G : FP} {E : List D} {ι γ : Nat → Tok} {Y : Sy} {J : St}
theorem cA(J:St)(x:Nat)(o:HO)(d:D)(t:Tok):(J.new x o d).m t=if t=J.tok x then some o else J.m t:=rfl
theorem fc(J:St)(x:Nat)(o:HO)(d:D)(j:Nat):(J.new x o d).s j=if j=x then d else J.s j:=rfl
theorem pb(J:St)(x:Nat)(o:HO)(d:D)(y:Nat):(J.new x o d).c y=if y=x then J.c y+1 else J.c y:=rfl
theorem mW{J:St}(W:WF J)(x:Nat)(o:HO)(d:D)(t:Tok)(q:Obj)(h:J.m t=some (.raw q)):(J.new x o d).m t=some (.raw q):=by rw[cA,if_neg (fun e=>by rw[e,W.tok x]at h;cases h)];exact h
theorem mG(J:St)(x:Nat):J.tok x≠ []:=by simp[St.tok]
theorem Mt.live(M:Mt Ω G E ι γ Y J){n:Nat}{o:SO}(h:find Y.h n=some o)(hi:ι n≠ []): ∃q,J.m (ι n)=some q:=by
 cases o with
 |box vs=>obtain⟨ds,_,h1,_⟩:=M.box n vs h;exact⟨_,h1⟩
 |az e sz c=>
  obtain⟨es,_,_,h1⟩:=M.az n e sz c h
  grind
 |map c=>obtain⟨es,_,_,h1⟩:=M.mpo n c h;exact⟨_,h1⟩
 |mpl e sz c=>obtain⟨L,_,_,h1,_⟩:=M.own n e sz c h;exact⟨_,h1⟩
 |raw k=>obtain⟨_,_,h1,_⟩:=M.rwo n k h;exact⟨_,h1⟩
theorem Mt.eo(M:Mt Ω G E ι γ Y J)(x:Nat){n:Nat}{o:SO}(h:find Y.h n=some o):ι n≠J.tok x:=fun e=>by
 obtain⟨q,hq⟩:=M.live h (by rw[e];exact mG J x);rw[e,M.wf.tok x]at hq;cases hq
theorem Mt.Ef(M:Mt Ω G E ι γ Y J)(x:Nat){n e sz:Nat}{c:X}(h:find Y.h n=some (.az e sz c))(hi:ι n≠ []):γ n≠J.tok x:=fun e=>by
 have:=M.old n _ _ _ h hi x (J.c x) [] e;omega
theorem iK.mem{h:List (Nat×SO)}{q:OE}(H:iK h ι γ J q): ∃e,J.m q.u=some (.row q.g e q.es)∧q.u≠ []∧(∀k o,find h k=some o→ι k≠q.u)∧(∀k e sz c,find h k=some (.az e sz c)→ι k≠ []→γ k≠q.g)∧ ∀y k r,q.g=(y+1)::k::r→k<J.c y:=by
 grind
theorem Mt.cg(M:Mt Ω G E ι γ Y J)(x:Nat){q:OE}(H:iK Y.h ι γ J q):J.tok x≠q.u∧J.tok x≠q.g:=by
 obtain⟨e,h1,_,_,_,h5⟩:=H.mem;refine⟨fun e2=> ?_,fun e2=> ?_⟩
 ·rw[←e2,M.wf.tok x]at h1;cases h1
 ·have:=h5 x (J.c x) [] e2.symm;omega
theorem iK.kill{q:OE}{n:Nat}(M:Mt Ω G E ι γ Y J)(H:iK (Y.kill n).h ι γ J q): ∃q',iK Y.h ι γ J q'∧q'.u=q.u∧q'.g=q.g:=by
 obtain⟨n',e,sz,c,L,h1,h2,h3,hq⟩:=H;obtain⟨_,o,ho,h⟩:=bF h1;cases o<;>simp only[hU,reduceCtorEq]at h;cases h;obtain⟨L1,k1,k2,k3,k4⟩:=M.own n' _ _ _ ho;rw[k3]at h2;have hL:L1.map (OE.en sz)=L.map (OE.en sz):=by injection h2 with h2;injection h2
 obtain⟨i,hi⟩:=List.getElem?_of_mem hq;have e1:(L1.map (OE.en sz))[i]?=some (q.en sz):=by rw[hL,Dz,hi];rfl
 rw[Dz,Mz]at e1;obtain⟨q',hq',he⟩:=e1;have hu:q'.u=q.u:=by simp only[OE.en,Prod.mk.injEq,D.sl.injEq]at he;exact he.2.1
 have m1:=(k4.1 q' (Lz hq')).2.2.1;have m2:=(h3.1 q hq).2.2.1;rw[hu,m2]at m1;have hg:q'.g=q.g:=by injection m1 with m1;injection m1 with m1;exact m1.symm
 exact⟨q',⟨n',_,_,_,L1,ho,k3,k4,Lz hq'⟩,hu,hg⟩
theorem Mt.Ka(M:Mt Ω G E ι γ Y J){x nm:Nat}(F:Y.free nm){vs:List SV}{ds:List D}(hv:bA G E ι Y.h vs ds)(hf: ∀v∈vs,v.jc nm=false):
  Mt Ω G E (fun n=>if n=nm then J.tok x else ι n) (fun n=>if n=nm then []else γ n) (Y.add x nm (.box vs) (.ptr nm 0)) (J.new x (.box ds) (.ptr (J.tok x) 0)):=by
 refine M.add F (t:=J.tok x) (g:= []) (M.wf.new x _ _) (fun j hj=>by rw[fc,if_neg hj]) (fun n o' h hi=>by rw[cA,if_neg (M.eo x h)]) (fun y=>by rw[pb];split<;>omega) (fun t q h=>by rw[cA,if_neg (fun e=>by rw[e,M.wf.tok x]at h;cases h)];exact h) ?_ ⟨ds,mG J x,by rw[cA,if_pos rfl],hv.fresh hf⟩ (fun _ n o h=>M.eo x h) (fun q hq=>⟨(M.cg x hq).1,fun _ h=>(by obtain⟨_,_,_,h⟩:=h;cases h),by rw[cA,if_neg (Ne.symm (M.cg x hq).1)]⟩);rw[fc,if_pos rfl];have:=VR.ptr (G:=G) (E:=E) (ι:=fun n=>if n=nm then J.tok x else ι n) (h:=cq nm (.box vs) Y.h) (n:=nm) (o:=0) (vs:=vs) (by rw[bB,if_pos rfl]);simpa using this
theorem Mt.LH(M:Mt Ω G E ι γ Y J){x nm:Nat}(F:Y.free nm):
  Mt Ω G E (fun n=>if n=nm then J.tok x else ι n) (fun n=>if n=nm then []else γ n) (Y.add x nm (.map (.q (.list []))) (.mp nm)) (J.new x (.map []) (.mp (J.tok x))):=by
 refine M.add F (t:=J.tok x) (g:= []) (M.wf.new x _ _) (fun j hj=>by rw[fc,if_neg hj]) (fun n o' h hi=>by rw[cA,if_neg (M.eo x h)]) (fun y=>by rw[pb];split<;>omega) (fun t q h=>by rw[cA,if_neg (fun e=>by rw[e,M.wf.tok x]at h;cases h)];exact h) ?_ ⟨[],rfl,mG J x,by rw[cA,if_pos rfl]⟩ (fun _ n o h=>M.eo x h) (fun q hq=>⟨(M.cg x hq).1,fun _ h=>(by obtain⟨_,_,_,h⟩:=h;cases h),by rw[cA,if_neg (Ne.symm (M.cg x hq).1)]⟩);rw[fc];have:=VR.mp (G:=G) (E:=E) (ι:=fun n=>if n=nm then J.tok x else ι n) (h:=cq nm (.map (.q (.list []))) Y.h) (n:=nm) (o:= .map (.q (.list []))) (by rw[bB,if_pos rfl]) rfl
 grind
theorem Mt.LQ(M:Mt Ω G E ι γ Y J){x nm:Nat}(e sz:Nat)(F:Y.free nm)(hn: ∀k e sz c,find Y.h k≠some (.mpl e sz c)):
  Mt Ω G E (fun n=>if n=nm then J.tok x else ι n) (fun n=>if n=nm then []else γ n) (Y.add x nm (.mpl e sz (.q (.list []))) (.mp nm)) (J.new x (.map []) (.mp (J.tok x))):=by
 refine M.add F (t:=J.tok x) (g:= []) (M.wf.new x _ _) (fun j hj=>by rw[fc,if_neg hj]) (fun n o' h hi=>by rw[cA,if_neg (M.eo x h)]) (fun y=>by rw[pb];split<;>omega) (fun t q h=>by rw[cA,if_neg (fun e=>by rw[e,M.wf.tok x]at h;cases h)];exact h) ?_ ⟨rfl,mG J x,by rw[cA,if_pos rfl],hn⟩ (fun _ n o h=>M.eo x h) (fun q hq=>⟨(M.cg x hq).1,fun _ h=>(by obtain⟨_,_,_,h⟩:=h;cases h),by rw[cA,if_neg (Ne.symm (M.cg x hq).1)]⟩);rw[fc];have:=VR.mp (G:=G) (E:=E) (ι:=fun n=>if n=nm then J.tok x else ι n) (h:=cq nm (.mpl e sz (.q (.list []))) Y.h) (n:=nm) (o:= .mpl e sz (.q (.list []))) (by rw[bB,if_pos rfl]) rfl
 grind
theorem Mt.mQ(M:Mt Ω G E ι γ Y J){x nm e sz:Nat}{c:X}(F:Y.free nm){es:List (List D)}(hc:X.ev G E c=some (.list es))(hr:aQ sz es=true){J':St}{g:Tok}(W:WF J')
  (hs:J'.s=(J.new x (.row g e es) (.sl (J.tok x) sz 0 es.length none)).s) (hm: ∀n o',find Y.h n=some o'→ι n≠ []→J'.m (ι n)=J.m (ι n)) (cz:J'.m (J.tok x)=some (.row g e es)) (nk: ∀t q,J.m t=some (.raw q)→J'.m t=some (.raw q)) (hcc: ∀y,J'.c y=if y=x then J.c y+1 else J.c y)
  (hx: ∀q,iK Y.h ι γ J q→g≠q.g∧J'.m q.u=J.m q.u)
  (hg:g=J.tok x∨(∀n e sz c,find Y.h n=some (.az e sz c)→ι n≠ []→γ n≠g)∧ ∀y k r,g=(y+1)::k::r→k<J.c y):
  Mt Ω G E (fun n=>if n=nm then J.tok x else ι n) (fun n=>if n=nm then g else γ n) (Y.add x nm (.az e sz c) (.gl nm sz)) J':=by
 refine M.add F (t:=J.tok x) (g:=g) W (fun j hj=>by rw[hs,fc,if_neg hj]) hm (fun y=>by rw[hcc];split<;>omega) nk ?_ ⟨es,hc,hr, .inr ⟨mG J x,cz⟩,fun _ n e' sz' c' h hi=> ?_,fun _ y k r h=> ?_⟩ (fun _ n o h=>M.eo x h) (fun q hq=>⟨(M.cg x hq).1,fun _ _=>(hx q hq).1,(hx q hq).2⟩)
 ·rw[hs,fc];have:=VR.gl (G:=G) (E:=E) (ι:=fun n=>if n=nm then J.tok x else ι n) (h:=cq nm (.az e sz c) Y.h) (n:=nm) (sz:=sz) (e:=e) (c:=c) (es:=es) (by rw[bB,if_pos rfl]) hc (by simp[mG])
  grind
 ·rcases hg with rfl|hg
  ·exact M.Ef x h hi
  ·grind
 ·rw[hcc];rcases hg with rfl|hg
  ·simp only[St.tok,List.cons.injEq]at h;have:y=x:=by omega
   subst this;rw[if_pos rfl];omega
  ·have:=hg.2 y k r h;split<;>omega
theorem Mt.tV(M:Mt Ω G E ι γ Y J){x nm e sz:Nat}{c:X}(F:Y.free nm){es:List (List D)}(hc:X.ev G E c=some (.list es))(hr:aQ sz es=true){t g:Tok}{d:D}
  (h:t= []∧es= []∧d= .nil∨t≠ []∧J.m t=some (.row g e es)∧d= .sl t sz 0 es.length none∧(∀n o,find Y.h n=some o→ι n≠t)∧(∀n e sz c,find Y.h n=some (.az e sz c)→ι n≠ []→γ n≠g)∧ ∀y k r,g=(y+1)::k::r→k<J.c y) (hx: ∀q,iK Y.h ι γ J q→t≠q.u∧(t≠ []→g≠q.g)):
  Mt Ω G E (fun n=>if n=nm then t else ι n) (fun n=>if n=nm then g else γ n) (Y.add x nm (.az e sz c) (.gl nm sz)) (J.set x d):=by
 refine M.add F (t:=t) (g:=g) M.wf (fun j hj=>St.dg J d hj) (fun _ _ _ _=>rfl) (fun y=>Nat.le_refl _) (fun _ _ h=>h) ?_ ⟨es,hc,hr, ?_,fun ht=> ?_,fun ht=> ?_⟩ (fun ht=> ?_) (fun q hq=>⟨(hx q hq).1,fun ht _=>(hx q hq).2 ht,rfl⟩)
 ·rw[St.uG];rcases h with⟨h1,h2,rfl⟩|⟨h1,h2,rfl,_⟩
  ·exact .gln (by rw[bB,if_pos rfl]) (by simp[h1])
  ·have:=VR.gl (G:=G) (E:=E) (ι:=fun n=>if n=nm then t else ι n) (h:=cq nm (.az e sz c) Y.h) (n:=nm) (sz:=sz) (e:=e) (c:=c) (es:=es) (by rw[bB,if_pos rfl]) hc (by simpa using h1);simpa using this
 ·rcases h with⟨h1,h2,_⟩|⟨h1,h2,_⟩
  ·exact .inl ⟨h1,h2⟩
  ·exact .inr ⟨h1,h2⟩
 ·rcases h with⟨h1,_⟩|⟨_,_,_,_,h2,_⟩
  ·exact absurd h1 ht
  ·exact h2
 ·rcases h with⟨h1,_⟩|⟨_,_,_,_,_,h2⟩
  ·exact absurd h1 ht
  ·exact h2
 ·rcases h with⟨h1,_⟩|⟨_,_,_,h2,_⟩
  ·exact absurd h1 ht
  ·exact h2
theorem VR.write{h:List (Nat×SO)}{v:SV}{d:D}(H:VR G E ι h v d){n:Nat}{o o':SO}(hf:find h n=some o)(hoo:SO.cU G E E o o'):VR G E ι (cq n o' h) v d:=
 H.mono (fun _ _ h=>h) fun k hk=>by
  by_cases hkn:k=n
  ·subst hkn;exact⟨rfl,fun q hq=>⟨o',by rw[bB,if_pos rfl],by rw[hf]at hq;cases hq;exact hoo⟩⟩
  ·exact⟨rfl,Lk.same (fun _ _ h=>h) (by rw[bB,if_neg hkn])⟩
theorem Mt.write(M:Mt Ω G E ι γ Y J){n:Nat}{o o':SO}{q:HO}{J':St}(hf:find Y.h n=some o)(hi:ι n≠ [])(W:WF J')(hs:J'.s=J.s)(hc:J'.c=J.c)(cz:J'.m (ι n)=some q)
  (hm: ∀k o',k≠n→find Y.h k=some o'→ι k≠ []→J'.m (ι k)=J.m (ι k))
  (nk: ∀t q,J.m t=some (.raw q)→t≠ι n→J'.m t=some (.raw q)) (W6: ∀q,J.m (ι n)≠some (.raw q)) (hoo:SO.cU G E E o o') (Fy: ∀q,iK Y.h ι γ J q→J'.m q.u=J.m q.u)
  (ho:match o' with
   | .box vs=> ∃ds,q= .box ds∧bA G E ι Y.h vs ds
   | .az e sz c=> ∃es,X.ev G E c=some (.list es)∧aQ sz es=true∧q= .row (γ n) e es
   | .map c=> ∃es,X.ev G E c=some (.list (aH es))∧q= .map es
   | .mpl .. =>False
   | .raw k=>False):Mt Ω G E ι γ {Y with h:=cq n o' Y.h} J':=by
 have hf': ∀k,find (cq n o' Y.h) k=if k=n then some o' else find Y.h k:=fun k=>bB n k o' Y.h
 have back: ∀k e sz c,find (cq n o' Y.h) k=some (.az e sz c)→ ∃c0,find Y.h k=some (.az e sz c0):=fun k e sz c h=>by
  rw[hf']at h;by_cases hk:k=n
  ·rw[if_pos hk]at h;cases h;cases o<;>simp only[SO.cU]at hoo
   grind
  ·rw[if_neg hk]at h;exact⟨c,h⟩
 have aR: ∀k p,find (cq n o' Y.h) k=some p→ ∃p0,find Y.h k=some p0:=fun k p h=>by
  rw[hf']at h;by_cases hk:k=n
  ·exact⟨o,by rw[hk];exact hf⟩
  ·rw[if_neg hk]at h;exact⟨p,h⟩
 refine⟨fun i v hv=>by rw[hs];exact(M.slot i v hv).write hf hoo,fun k vs hk=> ?_,fun k e sz c hk=> ?_,fun k c hk=> ?_,fun k e sz c hk=> ?_,fun a b e e' sz sz' c c' h1 h2=> ?_,fun k kk hk=> ?_,fun a b p p' h1 h2=> ?_,fun a b e e' sz sz' c c' h1 h2=> ?_,W,fun k e sz c hk=> ?_,M.nv,fun t ht=>nk t _ (M.con t ht) fun e=>W6 _ (e▸M.con t ht)⟩
 ·rw[hf']at hk;by_cases hkn:k=n
  ·rw[if_pos hkn]at hk;cases hk;obtain⟨ds,rfl,h2⟩:=ho;exact⟨ds,by rw[hkn];exact hi,by rw[hkn];exact cz,h2.1,fun i v d hv hd=>(h2.2 i v d hv hd).write hf hoo⟩
  ·rw[if_neg hkn]at hk;obtain⟨ds,h1,h2,h3⟩:=M.box k vs hk;exact⟨ds,h1,by rw[hm k _ hkn hk h1];exact h2,h3.1,fun i v d hv hd=>(h3.2 i v d hv hd).write hf hoo⟩
 ·rw[hf']at hk;by_cases hkn:k=n
  ·rw[if_pos hkn]at hk;cases hk
   grind
  ·rw[if_neg hkn]at hk;obtain⟨es,h1,h2,h3⟩:=M.az k e sz c hk;refine⟨es,h1,h2, ?_⟩;rcases h3 with h3|⟨h3,h4⟩
   ·exact .inl h3
   ·exact .inr ⟨h3,by rw[hm k _ hkn hk h3];exact h4⟩
 ·rw[hf']at hk;by_cases hkn:k=n
  ·rw[if_pos hkn]at hk;cases hk;obtain⟨es,h1,rfl⟩:=ho;exact⟨es,h1,by rw[hkn];exact hi,by rw[hkn];exact cz⟩
  ·rw[if_neg hkn]at hk;obtain⟨es,h1,h2,h3⟩:=M.mpo k c hk;exact⟨es,h1,h2,by rw[hm k _ hkn hk h2];exact h3⟩
 ·rw[hf']at hk;by_cases hkn:k=n
  ·rw[if_pos hkn]at hk;cases hk;exact ho.elim
  ·rw[if_neg hkn]at hk;obtain⟨L,h1,h2,h3,h4⟩:=M.own k e sz c hk;refine⟨L,h1,h2,by rw[hm k _ hkn hk h2];exact h3,fun q hq=> ?_,h4.2⟩;refine(h4.1 q hq).lj (Fy q ⟨k,e,sz,c,L,hk,h3,h4,hq⟩) (fun j o2 hj=> ?_) (fun j e' sz' c' hj=> ?_) fun y=>by rw[hc];exact Nat.le_refl _
   ·obtain⟨p0,g1⟩:=aR j o2 hj;exact(h4.1 q hq).2.2.2.1 j p0 g1
   ·obtain⟨c0,g1⟩:=back j _ _ _ hj;exact(h4.1 q hq).2.2.2.2.1 j _ _ c0 g1
 ·have nm: ∀{k e sz c},find (cq n o' Y.h) k=some (.mpl e sz c)→find Y.h k=some (.mpl e sz c):=fun{k e sz c} h=>by
   rw[hf']at h;by_cases hk:k=n
   ·rw[if_pos hk]at h;cases h;exact ho.elim
   ·rw[if_neg hk]at h;exact h
  exact M.one a b _ _ _ _ _ _ (nm h1) (nm h2)
 ·rw[hf']at hk;by_cases hkn:k=n
  ·rw[if_pos hkn]at hk;cases hk;exact ho.elim
  ·rw[if_neg hkn]at hk;obtain⟨h1,h2,h3⟩:=M.rwo k kk hk;exact⟨h1,h2,by rw[hm k _ hkn hk h2];exact h3⟩
 ·obtain⟨p0,g1⟩:=aR a p h1;obtain⟨p1,g2⟩:=aR b p' h2;exact M.inj a b p0 p1 g1 g2
 ·obtain⟨c0,g1⟩:=back a e sz c h1;obtain⟨c1,g2⟩:=back b e' sz' c' h2;exact M.gV a b e e' sz sz' c0 c1 g1 g2
 ·obtain⟨c0,g1⟩:=back k e sz c hk;rw[hc];exact M.old k e sz c0 g1
theorem kX(M:Mt Ω G E ι γ Y J){v:SV}{d dc:D}{cb:X}{es:List (List D)}(H:VR G E ι Y.h v d)(hc:tj Y.h v=some cb)(he:X.ev G E cb=some dc)(hl:lN dc=some es):d.elems J.m=some es:=by
 unfold tj at hc;split at hc
 ·cases hc;obtain⟨h1,h2⟩:=H.b7;rw[h1]at he;cases he;cases d<;>simp only[lN]at hl<;>first|exact hl|cases hl
 ·obtain⟨e0,sz0,hf⟩:=b9 hc;obtain⟨es',h1,h2,h3⟩:=M.az _ _ _ _ hf;rw[h1]at he;cases he;cases hl;cases H with
  |gln g1 g2=>
   rcases h3 with⟨_,rfl⟩|⟨h3,_⟩
   ·rfl
   ·grind
  |gl g1 g2 g3=>
   rw[hf]at g1;cases g1;rw[h1]at g2;cases g2;rcases h3 with⟨h3,_⟩|⟨_,h3⟩
   ·grind
   ·simp only[D.elems,h3];rw[if_pos ⟨by omega,bQ h2⟩];simp
 ·obtain⟨c,hc',he'⟩:=Mz.1 hc;subst he';obtain⟨e0,sz0,hf⟩:=b9 hc';obtain⟨es',h1,h2,h3⟩:=M.az _ _ _ _ hf;obtain⟨q,z,k1,k2,k3,rfl⟩:=eZ h1 he;cases hl;cases H with
  |gsn g1 g2 g3=>
   rcases h3 with⟨_,rfl⟩|⟨h3,_⟩
   ·simp[D.elems]
   ·grind
  |gs g1 g2 g3 g4 g5 g6=>
   rw[hf]at g1;cases g1;rw[k1]at g4;cases g4;rcases h3 with⟨h3,_⟩|⟨_,h3⟩
   ·grind
   ·simp only[D.elems,h3];rw[if_pos ⟨by omega,bQ h2⟩];simp
 ·obtain⟨c,hc',he'⟩:=Mz.1 hc;subst he';obtain⟨e0,sz0,hf⟩:=b9 hc';obtain⟨es',h1,h2,h3⟩:=M.az _ _ _ _ hf;obtain⟨q,z,k1,k2,k3,rfl⟩:=xJ h1 he;cases hl;cases H with
  |gtn g1 g2 g3=>
   rcases h3 with⟨_,rfl⟩|⟨h3,_⟩
   ·simp[D.elems]
   ·grind
  |gt g1 g2 g3 g4 g5 g6=>
   rw[hf]at g1;cases g1;rw[h1]at g2;cases g2;rw[k1]at g4;cases g4;rcases h3 with⟨h3,_⟩|⟨_,h3⟩
   ·grind
   ·simp only[D.elems,h3];rw[if_pos ⟨by omega,bQ h2⟩];exact congrArg some (List.take_of_length_le (by simp))
 ·cases hc
theorem Ft{x n:Nat}(F:Y.free x):(Y.kill n).free x:=by
 have un: ∀v:SV,v.jc x=false→(qY n v).jc x=false:=fun v hv=>by unfold qY;cases v.jc n<;>simp[hv,SV.jc]
 refine⟨?_,fun i v hv=> ?_,fun k vs hk v hv=> ?_⟩
 ·rw[mO,F.1];simp
 ·simp only[Sy.kill,dY]at hv;obtain⟨u,hu,rfl⟩:=Mz.1 hv;exact un u (F.2.1 i u hu)
 ·obtain⟨_,o,ho,h⟩:=bF hk;cases o<;>simp only[hU,reduceCtorEq,SO.box.injEq]at h;subst h;obtain⟨u,hu,rfl⟩:=List.mem_map.1 hv;exact un u (F.2.2 k _ ho u hu)
end
end
section
section
variable {Ω : bM} {G : FP} {E : List D} {ι γ : Nat → Tok} {Y : Sy} {J : St}
theorem DC{size:Nat}{a b:D}{d:D}(h:(XK.app size).run G [a,b]=some d): ∃x y,lN a=some x∧lN b=some y∧aQ size y=true∧x.length+y.length≤aD∧d= .list (x++y):=by
 simp only[XK.run,Bz]at h
 grind
theorem jK{size:Nat}{a b:List (List D)}(h:aQ size a=true)(k:aQ size b=true):aQ size (a++b)=true:=by
 simp only[aQ]at*
 grind
theorem EY{h:List (Nat×SO)}{N:Nat}{e:X}{ds:List D}(he:X.ev G E e=some (.agg ds))(hl:ds.length=N)(hn:ds.all D.aO=true):bA G E ι h (ki N e) ds:=by
 refine⟨by simp[ki,hl],fun i v c hv hc=> ?_⟩;have hi:=(Gz.1 hc).1;simp only[ki,Dz,List.getElem?_range (show i<N by omega),Pz,Jz]at hv;subst hv
 have hok:ds.all D.gH=true:=Tz.2 fun d hd=>by
  have:=Tz.1 hn d hd;cases d<;>first|rfl|cases this
 refine .x ?_ (mw (Tz.1 hn _ (Lz hc)));simp only[X.ev,X.bm,he];exact(if_pos ⟨hl,hok,hn⟩).trans hc
theorem F4{p:D→Bool}{xs ds:List D}{o:Nat}(h:xs.all p=true)(k:ds.all p=true):(putAt xs o ds).all p=true:=by
 simp only[putAt]
 grind
theorem Mt.my(M:Mt Ω G E ι γ Y J){n:Nat}{o:SO}(hf:find Y.h n=some o){q:OE}(H:iK Y.h ι γ J q):q.u≠ι n:=fun e=>by
 obtain⟨_,_,_,h,_⟩:=H.mem;exact h n o hf e.symm
theorem lz{q:OE}{g:Tok}{k:Nat}{e:Nat}(h:J.m q.u=some (.row q.g e q.es))(hg:q.g≠g):HO.ez g k (J.m q.u)=J.m q.u:=by
 rw[h];simp only[HO.ez];rw[if_neg fun hh=>hg hh.1]
theorem Mt.MU(M:Mt Ω G E ι γ Y J){m o:Nat}{us vs:List SV}{xs ds:List D}(hf:find Y.h m=some (.box us))(k1:ι m≠ [])(k2:J.m (ι m)=some (.box xs))(k3:bA G E ι Y.h us xs)(hv:bA G E ι Y.h vs ds)(ho:o+vs.length≤us.length):
  Mt Ω G E ι γ {Y with h:=cq m (.box (us.take o++vs++us.drop (o+vs.length))) Y.h} (J.put (ι m) (some (.box (putAt xs o ds)))):=by
 refine M.write (o:= .box us) (q:= .box (putAt xs o ds)) hf k1 (M.wf.put (by rw[k2];simp)) rfl rfl (by simp[St.put]) (fun k o' hk hfk hik=> ?_) (fun t q h hne=>by simp only[St.put,if_neg hne];exact h) (fun q h=>by rw[k2]at h;cases h) (by simp only[SO.cU,List.length_append,List.length_take,List.length_drop];omega) (fun q hq=>by simp only[St.put,if_neg (M.my hf hq)]) ⟨_,rfl,wO k3 hv⟩;have:ι k≠ι m:=fun e=>hk (M.inj k m _ _ hfk hf e hik);simp[St.put,this]
theorem uQ(M:Mt Ω G E ι γ Y J){n:Nat}{g:Bool}{va vv:SV}{da dv:D}{Y':Sy}{O:List X}(ha:VR G E ι Y.h va da)(hvv:VR G E ι Y.h vv dv)(hs:kO n g va vv Y=some (Y',O))(hO: ∀e∈O,∃d,X.ev G E e=some d):
  ∃J',jN n da dv J=some J'∧Mt Ω G E ι γ Y' J':=by
 unfold kO at hs;split at hs
 ·rename_i m o;split at hs
  ·rename_i us hf;rw[Bz]at hs;obtain⟨⟨vs,O'⟩,hc,hs⟩:=hs;split at hs
   ·rename_i ho;cases hs;obtain⟨h1,h2,h3⟩:=il hvv hc hO;obtain⟨xs,k1,k2,k3⟩:=M.box m us hf;have hvl:vs.length=n:=by rw[h3.1,h1]
    cases ha;refine⟨_,by simp only[jN,k2];rw[if_pos ⟨h1,by rw[←k3.1];exact ho,h2⟩], ?_⟩;have:=M.MU (o:=o) hf k1 k2 k3 h3 (by omega)
    grind
   ·cases hs
  ·cases hs
 ·rename_i m o;split at hs
  ·rename_i us hf;rw[Bz]at hs;obtain⟨⟨vs,O'⟩,hc,hs⟩:=hs;split at hs
   ·rename_i ho;cases hs;obtain⟨h1,h2,h3⟩:=il hvv hc hO;obtain⟨xs,k1,k2,k3⟩:=M.box m us hf;have hvl:vs.length=n:=by rw[h3.1,h1]
    cases ha;refine⟨_,by simp only[jN,k2];rw[if_pos ⟨trivial,h1,by rw[←k3.1];omega,h2⟩], ?_⟩;have:=M.MU (o:=o) hf k1 k2 k3 h3 (by omega)
    grind
   ·cases hs
  ·cases hs
 ·rename_i m o c s i j;split at hs
  ·rename_i us hf;simp only[Bz]at hs;obtain⟨xs,hx,x,hxv,hs⟩:=hs;split at hs
   ·rename_i ho;cases hs;obtain⟨d',hd'⟩:=hO _ (List.mem_singleton.2 rfl);obtain⟨ds0,a1,a2⟩:=bc hd';simp only[X.bm,Bz,Mz]at a1;obtain⟨dc,b1,r1,⟨di,b2,r2,⟨dx,b3,r3,b4,rfl⟩,rfl⟩,rfl⟩:=a1;cases b4;obtain⟨zs,k1,k2,k3⟩:=M.box m us hf;cases ha with
    |dp hf2 hiv h0 hz hl=>
     rename_i z;rw[hiv]at b2;cases b2;obtain⟨ws,c1,c2⟩:=bc b1;simp only[XK.run]at c2;split at c2<;>cases c2;have KX:=(k3.drop o).take (c*s);obtain rfl:=gu KX hx c1;obtain rfl:=b8 hvv hxv b3;have hkl:=k3.1;simp only[XK.run]at a2;split at a2
     ·rename_i br;cases a2;obtain⟨_,_,q3,q4,q5,q6,q7,q8⟩:=br
      have hzs:z.toNat*s+s≤c*s:=by
       have:(z.toNat+1)*s≤c*s:=Nat.mul_le_mul_right _ (by omega);rw[Nat.add_mul]at this;omega
      have hsl:((zs.drop o).take (c*s)).length=c*s:=by simp;omega
      have hpl:(putAt ((zs.drop o).take (c*s)) (z.toNat*s+j) dx.cells).length=c*s:=by rw[eX (by omega)];exact hsl
      have HR:=EY (ι:=ι) (h:=Y.h) hd' hpl (F4 q8 q7);have hcl:(ki (c*s) (.mk (.seta c s j n) [.mk .agg xs,i,x])).length=c*s:=by simp[ki]
      have:=M.MU (o:=o) hf k1 k2 k3 HR (by rw[hcl];exact ho);rw[hcl]at this;refine⟨_, ?_,this⟩;simp only[jN,k2];rw[if_pos ⟨q5,by omega,q6⟩];congr 3;refine congrArg HO.box (List.ext_getElem? fun p=> ?_);rw[gD (show o+z.toNat*s+j+dx.cells.length≤zs.length by omega),gD (show o+(putAt ((zs.drop o).take (c*s)) (z.toNat*s+j) dx.cells).length≤zs.length by rw[hpl];omega),hpl];by_cases hp:o≤p∧p<o+c*s
      ·rw[if_pos hp,gD (by omega)];by_cases hp2:o+z.toNat*s+j≤p∧p<o+z.toNat*s+j+dx.cells.length
       ·rw[if_pos hp2,if_pos (by omega)];congr 1;omega
       ·rw[if_neg hp2,if_neg (by omega),List.getElem?_take_of_lt (by omega),List.getElem?_drop];congr 1;omega
      ·rw[if_neg hp,if_neg (by omega)]
     ·cases a2
   ·cases hs
  ·cases hs
 ·rename_i m s i j;split at hs
  ·rename_i t sz c hf;split at hs
   ·rename_i hss;subst hss;obtain⟨xe,hx,he⟩:=Mz.1 hs;cases he;obtain⟨d',hd'⟩:=hO _ (List.mem_singleton.2 rfl);obtain⟨ds,a1,a2⟩:=bc hd';simp only[X.bm,Bz,Mz]at a1;obtain⟨dc,b1,r1,⟨di,b2,r2,⟨dx,b3,r3,b4,rfl⟩,rfl⟩,rfl⟩:=a1;cases b4;obtain⟨es,k1,k2,k3⟩:=M.az _ _ _ _ hf;rw[k1]at b1;cases b1;cases ha with
    |ep g1 g2 g3 g4 g5 g6=>
     rw[hf]at g1;cases g1;rw[k1]at g2;cases g2;rename_i kd z;rw[g4]at b2;cases b2;rcases k3 with⟨k3,_⟩|⟨_,k3⟩
     ·exact absurd k3 g3
     ·have hv:=b8 hvv hx b3;subst hv;simp only[XK.run]at a2;rw[if_neg (by omega),Bz]at a2;obtain⟨cc,c1,c2⟩:=a2;split at c2
      ·rename_i hcc;cases c2;obtain⟨q1,q2,q3,q4,q5⟩:=hcc;have hlen:cc.length=sz:=q3;refine⟨(J.aG (γ m) z.toNat).put (ι m) (some (.row (γ m) t (es.set z.toNat (putAt cc j dx.cells)))), ?_, ?_⟩
       ·simp only[jN,k3,c1,Oz];rw[if_pos ⟨q1,q2,q3,q4⟩]
       ·refine M.write (o:= .az t sz c) (q:= .row (γ m) t (es.set z.toNat (putAt cc j dx.cells))) hf g3 ?_ rfl rfl (by simp[St.put]) (fun k o' hk hfk hik=> ?_) (fun t q h hne=>by simp only[St.put,if_neg hne,St.aG];rw[h];rfl) (fun q h=>by rw[k3]at h;cases h) ⟨rfl,rfl,fun es' he'=>⟨_,hd',by rw[k1]at he';cases he';simp⟩⟩ (fun q hq=>by obtain⟨_,p1,_,_,p4,_⟩:=hq.mem;simp only[St.put,if_neg (M.my hf hq),St.aG];exact lz p1 (Ne.symm (p4 m _ _ _ hf g3))) ⟨_,hd', ?_,rfl⟩
        ·intro x k r hkk
         have hne:(x+1)::k::r≠ι m:=fun e=>by
          have:=M.wf x k r hkk;rw[e,k3]at this;cases this
         simp only[St.put,if_neg hne];exact M.wf.aG _ _ x k r hkk
        ·have hne:ι k≠ι m:=fun e=>hk (M.inj k m _ _ hfk hf e hik);simp only[St.put,if_neg hne,St.aG];cases o' with
         |box vs'=>obtain⟨ds',_,e1,_⟩:=M.box k vs' hfk;rw[e1];rfl
         |map c'=>obtain⟨_,_,_,e1⟩:=M.mpo k c' hfk;rw[e1];rfl
         |mpl e' sz' c'=>obtain⟨_,_,_,e1,_⟩:=M.own k e' sz' c' hfk;rw[e1];rfl
         |raw kk=>obtain⟨_,_,e1,_⟩:=M.rwo k kk hfk;rw[e1];rfl
         |az e' sz' c'=>
          obtain⟨es',_,_,e1⟩:=M.az k _ _ _ hfk;rcases e1 with⟨e1,_⟩|⟨_,e1⟩
          ·exact absurd e1 hik
          ·rw[e1];simp only[HO.ez];rw[if_neg fun hh=>hk (M.gV k m _ _ _ _ _ _ hfk hf hik g3 hh.1)]
        ·refine Tz.2 fun q hq=> ?_;rcases List.mem_or_eq_of_mem_set hq with hq|rfl
         ·exact Tz.1 k2 q hq
         ·have hl:(putAt cc j dx.cells).length=cc.length:=eX (by omega);have HQ:=Tz.1 k2 cc (Lz c1);simp only[Az,Tz]at HQ q5;simp only[Az,Tz,beq_iff_eq];refine⟨by rw[hl];exact q3,fun z hz=> ?_⟩;unfold putAt at hz;simp only[List.mem_append]at hz;rcases hz with(hz|hz)|hz
          ·exact HQ.2 z (List.mem_of_mem_take hz)
          ·exact q5 z hz
          ·exact HQ.2 z (List.mem_of_mem_drop hz)
      ·cases c2
   ·cases hs
  ·cases hs
 ·cases hs
theorem yJ(M1:Mt Ω G E ι γ Y J){x t size nm:Nat}(F:Y.free nm){va vb:SV}{da db:D}{Y':Sy}{O:List X}(ha:VR G E ι Y.h va da)(hb:VR G E ι Y.h vb db)(hs:qB x t size va vb Y nm=some (Y',O))(hO: ∀e∈O,∃d,X.ev G E e=some d):
  ∃J' ι' γ',sU x t size da db J=some J'∧Mt Ω G E ι' γ' Y' J':=by
 unfold qB at hs;rw[Bz]at hs;obtain⟨cb,hcb,hs⟩:=hs;split at hs
 ·cases hs;obtain⟨h1,_⟩:=ha.b7;obtain rfl:da= .nil:=(Option.some.inj (show some D.nil=some da from h1)).symm;obtain⟨d',hd'⟩:=hO _ (List.mem_singleton.2 rfl);obtain⟨ds,a1,a2⟩:=bc hd';obtain⟨p,q,rfl,a3,a4⟩:=oN a1;cases a3;obtain⟨x0,y,e1,e2,e3,e4,rfl⟩:=DC a2;cases e1;simp only[List.nil_append,List.length_nil,Nat.zero_add]at hd' e4;have hel:=kX M1 hb hcb a4 e2;simp only[sU,hel,Oz];rw[if_neg (by rw[bQ e3];simp)];by_cases hy:y.isEmpty=true
  ·rw[if_pos hy];have hy0:y= []:=List.isEmpty_iff.1 hy;subst hy0;exact⟨_,_,_,rfl,M1.tV F (t:= []) (g:= []) hd' rfl (.inl ⟨rfl,rfl,rfl⟩) fun q hq=>⟨Ne.symm hq.mem.choose_spec.2.1,fun h=>absurd rfl h⟩⟩
  ·rw[if_neg hy,if_pos e4];exact⟨_,_,_,rfl,M1.mQ F hd' e3 (M1.wf.new x _ _) rfl (fun n o' h hi=>by rw[cA,if_neg (M1.eo x h)]) (by rw[cA,if_pos rfl]) (mW (by first|exact M1.wf|exact M2.wf) x _ _) (fun y=>pb ..) (fun q hq=>⟨(M1.cg x hq).2,by rw[cA,if_neg (Ne.symm (M1.cg x hq).1)]⟩) (.inl rfl)⟩
 ·rename_i n s;split at hs
  ·rename_i t' s' c hf;split at hs
   ·rename_i br;obtain⟨rfl,rfl,rfl⟩:=br;cases hs;obtain⟨d',hd'⟩:=hO _ (List.mem_singleton.2 rfl);obtain⟨ds,a1,a2⟩:=bc hd';obtain⟨p,q,rfl,a3,a4⟩:=oN a1;obtain⟨x0,y,e1,e2,e3,e4,rfl⟩:=DC a2;obtain⟨es,k1,k2,k3⟩:=M1.az _ _ _ _ hf;rw[k1]at a3;cases a3;obtain rfl:es=x0:=Option.some.inj e1;have hel:=kX M1 hb hcb a4 e2;obtain⟨M2,F2⟩:=M1.kill n;have F3:(Y.kill n).free nm:=Ft F
    have back: ∀k o,find (Y.kill n).h k=some o→k≠n∧ ∃o',find Y.h k=some o'∧ ∀e sz c,o= .az e sz c→o'= .az e sz c:=fun k o h=>by
     obtain⟨h1,o1,h2,h3⟩:=bF h;refine⟨h1,o1,h2,fun e sz c ho=> ?_⟩;subst ho;cases o1<;>simp only[hU,reduceCtorEq]at h3
     grind
    have hne: ∀k o,find (Y.kill n).h k=some o→ι n≠ []→ι k≠ι n:=fun k o h hi e=>by
     obtain⟨h1,o',h2,_⟩:=back k o h;exact h1 (M1.inj k n o' _ h2 hf e (by rw[e];exact hi))
    have hgr:ι n≠ []→ ∀k e sz c,find (Y.kill n).h k=some (.az e sz c)→ι k≠ []→γ k≠γ n:=fun hi k e sz c h hk eg=>by
     obtain⟨h1,o',h2,h3⟩:=back k _ h;rw[h3 _ _ _ rfl]at h2;exact h1 (M1.gV k n _ _ _ _ _ _ h2 hf hk hi eg)
    have hold:=fun hi=>M1.old n _ _ _ hf hi
    have HZ: ∀q,iK (Y.kill n).h ι γ J q→ι n≠ []→ι n≠q.u∧(ι n≠ []→γ n≠q.g):=fun q hq hi=>by
     obtain⟨q',hq',h1,h2⟩:=hq.kill M1
     grind
    rcases k3 with⟨k3,rfl⟩|⟨k3,k4⟩
    ·obtain rfl:da= .nil:=by
      cases ha with
      |gln=>rfl
      |gl g1 g2 g3=>exact absurd k3 g3
     simp only[List.nil_append,List.length_nil,Nat.zero_add]at hd' e4;simp only[sU,hel,Oz];rw[if_neg (by rw[bQ e3];simp)];by_cases hy:y.isEmpty=true
     ·rw[if_pos hy];have hy0:y= []:=List.isEmpty_iff.1 hy;subst hy0;exact⟨_,_,_,rfl,M2.tV F3 (t:= []) (g:= []) hd' rfl (.inl ⟨rfl,rfl,rfl⟩) fun q hq=>⟨Ne.symm hq.mem.choose_spec.2.1,fun h=>absurd rfl h⟩⟩
     ·rw[if_neg hy,if_pos e4];exact⟨_,_,_,rfl,M2.mQ F3 hd' e3 (M2.wf.new x _ _) rfl (fun n o' h hi=>by rw[cA,if_neg (M2.eo x h)]) (by rw[cA,if_pos rfl]) (mW (by first|exact M1.wf|exact M2.wf) x _ _) (fun y=>pb ..) (fun q hq=>⟨(M2.cg x hq).2,by rw[cA,if_neg (Ne.symm (M2.cg x hq).1)]⟩) (.inl rfl)⟩
    ·obtain rfl:da= .sl (ι n) s' 0 es.length none:=by
      cases ha with
      |gln g1 g2=>exact absurd g2 k3
      |gl g1 g2 g3=>
       rw[hf]at g1;cases g1;rw[k1]at g2;cases g2;rfl
     simp only[sU,hel,Oz];rw[if_neg (by rw[bQ e3];simp)];by_cases hy:y.isEmpty=true
     ·rw[if_pos hy];have hy0:y= []:=List.isEmpty_iff.1 hy;subst hy0;simp only[List.append_nil]at hd';exact⟨_,_,_,rfl,M2.tV F3 (t:=ι n) (g:=γ n) hd' k2 (.inr ⟨k3,k4,rfl,fun k o h=>hne k o h k3,fun k e sz c h hi=>hgr k3 k e sz c h hi,hold k3⟩) fun q hq=>HZ q hq k3⟩
     ·rw[if_neg hy];simp only[k4];rw[if_pos ⟨trivial,trivial,e4,by omega⟩];simp only[if_true,List.take_length]
      refine⟨_,_,_,rfl,M2.mQ F3 (g:=γ n) hd' (jK k2 e3) ((M2.wf.aG _ _).new x _ _) ?_ (fun k o' h hi=> ?_) ?_ (fun t q h=>mW (M2.wf.aG _ _) x _ _ t q (by simp only[St.aG];rw[h];rfl)) (fun y=>pb ..) (fun q hq=>⟨(HZ q hq k3).2 k3,by
       obtain⟨_,p1,_⟩:=hq.mem;have hnt:q.u≠(J.aG (γ n) es.length).tok x:=Ne.symm (M2.cg x hq).1;rw[cA,if_neg hnt]
       exact lz p1 (Ne.symm ((HZ q hq k3).2 k3))⟩) (.inr ⟨fun k e sz c h hi=>hgr k3 k e sz c h hi,hold k3⟩)⟩
      ·rw[List.length_append];rfl
      ·have hnt:ι k≠(J.aG (γ n) es.length).tok x:=M2.eo x h;rw[cA,if_neg hnt];simp only[St.aG];cases o' with
       |box vs'=>obtain⟨ds',_,e1,_⟩:=M2.box k vs' h;rw[e1];rfl
       |map c'=>obtain⟨_,_,_,e1⟩:=M2.mpo k c' h;rw[e1];rfl
       |mpl e' sz' c'=>obtain⟨_,_,_,e1,_⟩:=M2.own k e' sz' c' h;rw[e1];rfl
       |raw kk=>obtain⟨_,_,e1,_⟩:=M2.rwo k kk h;rw[e1];rfl
       |az e' sz' c'=>
        obtain⟨es',_,_,e1⟩:=M2.az k _ _ _ h;rcases e1 with⟨e1,_⟩|⟨_,e1⟩
        ·exact absurd e1 hi
        ·rw[e1];simp only[HO.ez];rw[if_neg fun hh=>hgr k3 k _ _ _ h hi hh.1]
      ·exact(cA ..).trans (if_pos rfl)
   ·cases hs
  ·cases hs
 ·cases hs
theorem Mt.I4(M:Mt Ω G E ι γ Y J){n e sz:Nat}{c c':X}{es:List (List D)}(hf:find Y.h n=some (.az e sz c))(hc:X.ev G E c=some (.list es))(hc':X.ev G E c'=some (.list es)):
  Mt Ω G E ι γ {Y with h:=cq n (.az e sz c') Y.h} J:=by
 have hf': ∀k,find (cq n (.az e sz c') Y.h) k=if k=n then some (.az e sz c')else find Y.h k:=fun k=>bB n k _ Y.h
 have L: ∀k,Lk G E E Y.h (cq n (.az e sz c') Y.h) k:=fun k o ho=>by
  by_cases hk:k=n
  ·rw[hk,hf]at ho;cases ho;exact⟨.az e sz c',by rw[hf',if_pos hk],(⟨rfl,rfl,fun es1 h1=>⟨es,hc',by rw[hc]at h1;cases h1;rfl⟩⟩:SO.cU G E E (.az e sz c) (.az e sz c'))⟩
  ·refine Lk.same (fun _ _ h=>h) ?_ o ho;rw[hf',if_neg hk]
 have V: ∀{v d},VR G E ι Y.h v d→VR G E ι (cq n (.az e sz c') Y.h) v d:=fun{v d} H=>H.mono (fun _ _ h=>h) fun k _=>⟨rfl,L k⟩;have old: ∀k o,find (cq n (.az e sz c') Y.h) k=some o→k≠n→find Y.h k=some o:=fun k o h hk=>by rw[hf',if_neg hk]at h;exact h
 have aR: ∀k o,find (cq n (.az e sz c') Y.h) k=some o→ ∃o0,find Y.h k=some o0:=fun k o h=>by
  by_cases hk:k=n
  ·exact⟨_,hk▸hf⟩
  ·exact⟨_,old k o h hk⟩
 have LF: ∀k e1 sz1 c1,find (cq n (.az e sz c') Y.h) k=some (.az e1 sz1 c1)→ ∃c0,find Y.h k=some (.az e1 sz1 c0):=fun k e1 sz1 c1 h=>by
  by_cases hk:k=n
  ·rw[hf',if_pos hk]at h;cases h;exact⟨c,hk▸hf⟩
  ·exact⟨_,old k _ h hk⟩
 have TH: ∀k e1 sz1 c1,find (cq n (.az e sz c') Y.h) k=some (.mpl e1 sz1 c1)→find Y.h k=some (.mpl e1 sz1 c1):=fun k e1 sz1 c1 h=>old k _ h fun hk=>by rw[hf',if_pos hk]at h;cases h
 refine⟨fun i v hv=>V (M.slot i v hv),fun k vs hk=> ?_,fun k e1 sz1 c1 hk=> ?_,fun k c1 hk=> ?_,fun k e1 sz1 c1 hk=> ?_,fun a b _ _ _ _ _ _ h1 h2=>M.one a b _ _ _ _ _ _ (TH _ _ _ _ h1) (TH _ _ _ _ h2),fun k q hk=> ?_,fun a b o o' h1 h2=> ?_,fun a b e1 e2 s1 s2 c1 c2 h1 h2=> ?_,M.wf,fun k e1 sz1 c1 hk=> ?_,M.nv,M.con⟩
 ·obtain⟨ds,h0,h1,h2,h3⟩:=M.box k vs (old k _ hk fun e1=>by rw[hf',if_pos e1]at hk;cases hk);exact⟨ds,h0,h1,h2,fun i v d hv hd=>V (h3 i v d hv hd)⟩
 ·by_cases hkn:k=n
  ·rw[hf',if_pos hkn]at hk;cases hk;obtain⟨es1,h1,h2,h3⟩:=M.az k _ _ _ (hkn▸hf);rw[hc]at h1;cases h1;exact⟨es,hc',h2,h3⟩
  ·exact M.az k _ _ _ (old k _ hk hkn)
 ·exact M.mpo k _ (old k _ hk fun e1=>by rw[hf',if_pos e1]at hk;cases hk)
 ·obtain⟨L1,h1,h2,h3,h4⟩:=M.own k _ _ _ (TH _ _ _ _ hk);exact⟨L1,h1,h2,h3,fun q hq=>(h4.1 q hq).lj rfl (fun j o hj=>let⟨o0,h0⟩:=aR j o hj;(h4.1 q hq).2.2.2.1 j o0 h0) (fun j e sz c hj=>let⟨c0,h0⟩:=LF j _ _ _ hj;(h4.1 q hq).2.2.2.2.1 j e sz c0 h0) fun _=>Nat.le_refl _,h4.2⟩
 ·exact M.rwo k _ (old k _ hk fun e1=>by rw[hf',if_pos e1]at hk;cases hk)
 ·obtain⟨o0,h0⟩:=aR a o h1;obtain⟨o1,h3⟩:=aR b o' h2;exact M.inj a b o0 o1 h0 h3
 ·obtain⟨c0,h0⟩:=LF a _ _ _ h1;obtain⟨c3,h3⟩:=LF b _ _ _ h2;exact M.gV a b _ _ _ _ c0 c3 h0 h3
 ·obtain⟨c0,h0⟩:=LF k _ _ _ hk;exact M.old k _ _ c0 h0
theorem IG{d:D}(h:d.Vb=true):d.eT=true:=by cases d<;>first|rfl|cases h
theorem ud{d:D}(h:d.nG=true):d.aO=true:=by
 cases d
 case clo f xs=>
  simp only[D.nG,D.aO,Tz]at h⊢;exact fun x hx=>IG (h x hx)
 all_goals first|rfl|cases h
theorem Mt.yA(M:Mt Ω G E ι γ Y J){n k' e sz lim:Nat}{c:X}{o':SO}(hf:find Y.h n=some (.az e sz c))(hfk:find Y.h k'=some o')(hk':k'≠n)(hik:ι k'≠ [])(g3:ι n≠ []):HO.ez (γ n) lim (J.m (ι k'))=J.m (ι k'):=by
 cases o' with
 |box vs=>obtain⟨ds,_,h1,_⟩:=M.box k' vs hfk;rw[h1];rfl
 |az e' sz' c'=>
  obtain⟨es1,_,_,h1⟩:=M.az k' _ _ _ hfk;rcases h1 with⟨h1,_⟩|⟨_,h1⟩
  ·grind
  ·rw[h1];simp only[HO.ez];rw[if_neg fun hh=>hk' (M.gV k' n _ _ _ _ _ _ hfk hf hik g3 hh.1)]
 |map c=>obtain⟨es,_,_,h1⟩:=M.mpo k' c hfk;rw[h1];rfl
 |mpl e' sz' c=>obtain⟨L,_,_,h1,_⟩:=M.own k' _ _ _ hfk;rw[h1];rfl
 |raw q=>obtain⟨_,_,h1,_⟩:=M.rwo k' q hfk;rw[h1];rfl
theorem uN(M:Mt Ω G E ι γ Y J){x k f n sz e:Nat}{args:List aL}{c:X}{xs:List X}(hk:(args.map (b6 Y))[k]?=some (.gl n sz))(hf:find Y.h n=some (.az e sz c))(hx:SV.nU ((args.map (b6 Y)).set k (.x c))=some xs)
  {d0 d1:D} (h0:X.ev G E (.mk (.pk (.ext 1)) [.mk (.ecall k f sz) xs])=some d1) (h1:X.ev G E (.mk (.pk (.ext 0)) [.mk (.ecall k f sz) xs])=some d0):
  ∃J',kY (bw G) x k f (args.map (aL.val J.s)) J=some J'∧Mt Ω G E ι γ (Sy.set {Y with h:=cq n (.az e sz (.mk (.pk (.ext 1)) [.mk (.ecall k f sz) xs])) Y.h} x (.x (.mk (.pk (.ext 0)) [.mk (.ecall k f sz) xs]))) J':=by
 have hvs:bA G E ι Y.h (args.map (b6 Y)) (args.map (aL.val J.s)):=⟨by simp,fun i v d hv hd=>by
  rw[Dz,Mz]at hv hd;obtain⟨g,hg,rfl⟩:=hv;obtain⟨g',hg',rfl⟩:=hd;rw[hg]at hg';cases hg'
  exact aJ M g⟩
 generalize args.map (aL.val J.s)=ds at hvs;generalize args.map (b6 Y)=vs at hk hx hvs;obtain⟨es,k1,k2,k3⟩:=M.az n e sz c hf;have hkl:=(Gz.1 hk).1;have hkd:k<ds.length:=by rw[←hvs.1];exact hkl
 have hdk:=Ez hkd;have hgl:=hvs.2 k _ _ hk hdk
 have acQ:bA G E ι Y.h (vs.set k (.x c)) (ds.set k (.list es)):=⟨by simp[hvs.1],fun i v d hv hd=>by
  by_cases hik:i=k
  ·subst hik;rw[List.getElem?_set_self hkl]at hv;rw[List.getElem?_set_self hkd]at hd;cases hv;cases hd;exact .x k1 rfl
  ·rw[List.getElem?_set_ne (Ne.symm hik)]at hv hd
   exact hvs.2 i v d hv hd⟩
 obtain⟨ts,a1,a2⟩:=bc h0;obtain⟨r,rfl,a3⟩:=jf a1;obtain⟨as,a4,a5⟩:=bc a3;obtain rfl:=gu acQ hx a4;obtain⟨ts',b1,b2⟩:=bc h1;obtain⟨r',rfl,b3⟩:=jf b1;rw[a3]at b3;cases b3;simp only[XK.run,List.set_set]at a5;split at a5
 rotate_left
 ·cases a5
 rename_i br;rw[List.getElem?_set_self hkd]at a5;simp only[]at a5;obtain⟨q,hq,a5⟩:=Bz.1 a5;split at a5
 rotate_left
 ·cases a5
 rename_i d es';split at a5<;>cases a5;rename_i hok;obtain⟨o1,o2,o3⟩:=hok
 have e1:d1= .list es':=by
  simp only[XK.run,Bz]at a2;obtain⟨y,hy,a2⟩:=a2;split at a2<;>cases a2;simpa[PK.run,Hu]using hy.symm
 have e0:d0=d:=by
  simp only[XK.run,Bz]at b2;obtain⟨y,hy,b2⟩:=b2;split at b2<;>cases b2;simpa[PK.run,Hu]using hy.symm
 subst e1 e0;have hq':(bw G).e k f (ds.set k (.list es))=some (.tup [d0, .list es']):=hq
 have bN:es.all (fun c=>c.all D.aO)=true:=Tz.2 fun c hc=>Tz.2 fun d hd=>ud (by
  have:=Tz.1 k2 c hc;simp only[Az]at this
  exact Tz.1 this.2 d hd)
 unfold kY;rw[if_pos br,hdk];generalize ds[k]=dk at hgl hdk;cases hgl with
 |gln g1 g2=>
  have hes:es= []:=by
   rcases k3 with⟨_,h⟩|⟨h,_⟩
   ·exact h
   ·exact absurd g2 h
  subst hes;have acy:es'= []:=List.length_eq_zero_iff.1 (by simpa using o2);subst acy;simp only[hq',Oz,if_pos o1];exact⟨_,rfl,(M.I4 hf k1 h0).set (.x h1 o1)⟩
 |gl g1 g2 g3=>
  rw[hf]at g1;cases g1;rw[k1]at g2;cases g2;rcases k3 with⟨k3,_⟩|⟨_,k3⟩
  ·exact absurd k3 g3
  simp only[k3,bN,and_self,if_true,hq',Oz,if_pos o1];refine⟨_,rfl,Mt.set (M.write (o:= .az e sz c) (o':= .az e sz (.mk (.pk (.ext 1)) [.mk (.ecall k f sz) xs])) (q:= .row (γ n) e es') (J':=(J.aG (γ n) 0).put (ι n) (some (.row (γ n) e es'))) hf g3 ?_ rfl rfl (by simp[St.put]) (fun k' o' hk' hfk hik=> ?_) (fun t q h hne=> ?_) (fun q h=>by rw[k3]at h;cases h) ⟨rfl,rfl,fun es1 h=>⟨es',h0,by rw[k1]at h;cases h;exact o2⟩⟩ (fun q hq=> ?_) ⟨es',h0,o3,rfl⟩) (.x h1 o1)⟩
  ·intro y k r hk;simp only[St.put];split
   ·rename_i e;rw[←e,M.wf y k r hk]at k3;cases k3
   ·exact M.wf.aG _ _ y k r hk
  ·have hne:ι k'≠ι n:=fun e=>hk' (M.inj k' n _ _ hfk hf e hik);simp only[St.put,if_neg hne];show HO.ez (γ n) 0 (J.m (ι k'))=J.m (ι k');cases o' with
   |box vs=>obtain⟨ds,_,h1,_⟩:=M.box k' vs hfk;rw[h1];rfl
   |az e' sz' c'=>
    obtain⟨es1,_,_,h1⟩:=M.az k' _ _ _ hfk;rcases h1 with⟨h1,_⟩|⟨_,h1⟩
    ·exact absurd h1 hik
    ·rw[h1];simp only[HO.ez];rw[if_neg fun hh=>hk' (M.gV k' n _ _ _ _ _ _ hfk hf hik g3 hh.1)]
   |map c=>obtain⟨es,_,_,h1⟩:=M.mpo k' c hfk;rw[h1];rfl
   |mpl e' sz' c=>obtain⟨L,_,_,h1,_⟩:=M.own k' _ _ _ hfk;rw[h1];rfl
   |raw q=>obtain⟨_,_,h1,_⟩:=M.rwo k' q hfk;rw[h1];rfl
  ·simp only[St.put,if_neg hne];show HO.ez (γ n) 0 (J.m t)=some (.raw q);rw[h];rfl
  ·simp only[St.put,if_neg (M.my hf hq)];obtain⟨e0,m1,_,_,m4,_⟩:=hq.mem;exact lz m1 (Ne.symm (m4 n _ _ _ hf g3))
theorem ahL(M:Mt Ω G E ι γ Y J){e:Eff}{Y':Sy}{O:List X}(hs:fZ e Y=some (Y',O))(hO: ∀e∈O,∃d,X.ev G E e=some d):
  ∃J' ι' γ',e.run (bw G) J=some J'∧Mt Ω G E ι' γ' Y' J':=by
 unfold fZ at hs;split at hs
 ·rename_i n g x a;obtain⟨M1,F⟩:=M.nw x;obtain⟨⟨vs,O'⟩,hc,he⟩:=Mz.1 hs;cases he;obtain⟨h1,h2,h3⟩:=il (aJ M1 a) hc hO;refine⟨_,_,_, ?_,M1.Ka F h3 (zM hc (Gi F a))⟩;simp only[Eff.run,aid]
  grind
 ·rename_i n g a v;obtain⟨J',h1,h2⟩:=uQ M (aJ M a) (aJ M v) hs hO;exact⟨J',ι,γ,h1,h2⟩
 ·rename_i x t size a b;obtain⟨M1,F⟩:=M.nw x;exact yJ M1 F (aJ M1 a) (aJ M1 b) hs hO
 ·rename_i x t size zero a b;obtain⟨M1,F⟩:=M.nw x;have ha:=aJ M1 a;have hb:=aJ M1 b;split at hs
  ·rename_i ea eb hva hvb;cases hs;rw[hva]at ha;rw[hvb]at hb;obtain⟨h1,_⟩:=ha.b7;obtain⟨h2,_⟩:=hb.b7;obtain⟨d',hd'⟩:=hO _ (List.mem_singleton.2 rfl);obtain⟨ds,a1,a2⟩:=bc hd';obtain⟨p,q,rfl,a3,a4⟩:=oN a1;rw[h1]at a3;cases a3;rw[h2]at a4;cases a4;simp only[XK.run]at a2;split at a2<;>try (cases a2;done)
   rename_i k1 l k2 c heq;simp only[List.cons.injEq,and_true]at heq;split at a2<;>cases a2;rename_i hc;simp only[Eff.run,CJ,heq.1,heq.2];rw[if_pos ⟨hc.1,hc.2.1,hc.2.2.1,hc.2.2.2.1⟩];have hlen:l.toNat=(List.replicate l.toNat zero).length:=by simp
   have hok:aQ size (List.replicate l.toNat zero)=true:=Tz.2 fun q hq=>by
    obtain⟨_,rfl⟩:=List.mem_replicate.1 hq;simp[hc.2.2.2.2.1,hc.2.2.2.2.2]
   refine⟨_,_,_,rfl,M1.mQ F hd' hok (M1.wf.new x _ _) ?_ (fun n o' h hi=>by rw[cA,if_neg (M1.eo x h)]) (by rw[cA,if_pos rfl]) (mW (by first|exact M1.wf|exact M2.wf) x _ _) (fun y=>pb ..) (fun q hq=>⟨(M1.cg x hq).2,by rw[cA,if_neg (Ne.symm (M1.cg x hq).1)]⟩) (.inl rfl)⟩;rw[←hlen]
  ·cases hs
 ·rename_i x t size len zero places args;obtain⟨M1,F⟩:=M.nw x;obtain⟨xs,hx,he⟩:=Mz.1 hs;cases he;obtain⟨d',hd'⟩:=hO _ (List.mem_singleton.2 rfl);obtain⟨ds,a1,a2⟩:=bc hd'
  have hvs:bA G E ι (Y.nw x).h (args.map (b6 (Y.nw x))) (args.map (aL.val J.s)):=⟨by simp,fun i v d hv hd=>by
   rw[Dz,Mz]at hv hd;obtain⟨g,hg,rfl⟩:=hv;obtain⟨g',hg',rfl⟩:=hd;rw[hg]at hg';cases hg'
   exact aJ M1 g⟩
  obtain rfl:=gu hvs hx a1;simp only[XK.run]at a2;split at a2
  ·rename_i bN;rw[Bz]at a2;obtain⟨cs,c1,c2⟩:=a2;split at c2<;>cases c2;rename_i hc;simp only[Eff.run,CF];rw[if_pos bN,c1];simp only[Oz];rw[if_pos hc.1];have hlen:(kV size len (cs.map D.nz)).length=len:=gK size len (cs.map D.nz);refine⟨_,_,_,rfl,M1.mQ F hd' hc.2 (M1.wf.new x _ _) ?_ (fun n o' h hi=>by rw[cA,if_neg (M1.eo x h)]) (by rw[cA,if_pos rfl]) (mW (by first|exact M1.wf|exact M2.wf) x _ _) (fun y=>pb ..) (fun q hq=>⟨(M1.cg x hq).2,by rw[cA,if_neg (Ne.symm (M1.cg x hq).1)]⟩) (.inl rfl)⟩;rw[hlen]
  ·cases a2
 ·rename_i x;obtain⟨M1,F⟩:=M.nw x;cases hs;exact⟨_,_,_,rfl,M1.LH F⟩
 ·rename_i x e sz;obtain⟨M1,F⟩:=M.nw x;split at hs<;>cases hs;rename_i bN;refine⟨_,_,_,rfl,M1.LQ e sz F fun k e' sz' c' hk=> ?_⟩;obtain⟨_,o,ho,h⟩:=bF hk;cases o<;>simp only[hU,reduceCtorEq]at h;have:=Tz.1 bN _ (oU ho);simp[SO.NJ]at this
 ·rename_i x a b;have ha:=aJ M a;have hb:=aJ M b;split at hs
  ·rename_i n o l m p l' hva hvb;rw[hva]at ha;rw[hvb]at hb;split at hs
   ·rename_i us vs hf hf';split at hs<;>cases hs;rename_i hc;obtain⟨c1,c2,c3,c4⟩:=hc;obtain⟨xs,k1,k2,k3⟩:=M.box n us hf;obtain⟨ys,j1,j2,j3⟩:=M.box m vs hf';generalize hda:a.val J.s=da at ha;generalize hdb:b.val J.s=db at hb;cases ha with
    |sb _ _=>
     cases hb with
     |sb _ _=>
      have hvl:((vs.drop p).take (min l' l)).length=min l' l:=by simp;omega
      have M2:=M.MU (o:=o) hf k1 k2 k3 ((j3.drop p).take (min l' l)) (by rw[hvl];omega);rw[hvl]at M2
      have ai: ∀(x:Option Nat) (lm lm':Option Nat),copyV x (.sl (ι n) 1 o l lm) (.sl (ι m) 1 p l' lm') J=some (match x with
        |some i=>(J.put (ι n) (some (.box (putAt xs o ((ys.drop p).take (min l' l)))))).set i (iv ((min l' l:Nat):Int))
        |none=>J.put (ι n) (some (.box (putAt xs o ((ys.drop p).take (min l' l)))))):=fun x lm lm'=>by
       simp only[copyV,k2,j2];rw[if_pos ⟨c1,c2,by rw[←k3.1];exact c3,by rw[←j3.1];exact c4⟩];cases x<;>rfl
      cases x with
      |none=>exact⟨_,ι,γ,by simp only[Eff.run,hda,hdb];exact ai none _ _,M2⟩
      |some i=>exact⟨_,ι,γ,by simp only[Eff.run,hda,hdb];exact ai (some i) _ _,M2.set (.x rfl rfl)⟩
   ·cases hs
  ·cases hs
 ·rename_i ks a k v;have ha:=aJ M a;split at hs
  ·rename_i n hva;rw[hva]at ha;split at hs
   ·rename_i c hf;simp only[Bz,Mz]at hs;obtain⟨kx,hkx,vx,hvx,he⟩:=hs;cases he;obtain⟨d',hd'⟩:=hO _ (List.mem_singleton.2 rfl);obtain⟨ds0,a1,a2⟩:=bc hd';simp only[X.bm,Bz,Mz]at a1;obtain⟨dc,b1,r1,⟨dk,b2,r2,⟨dv,b3,r3,b4,rfl⟩,rfl⟩,rfl⟩:=a1;cases b4;obtain⟨es,k1,k2,k3⟩:=M.mpo n c hf;rw[k1]at b1;cases b1;have hk:=b8 (aJ M k) hkx b2;have hv:=b8 (aJ M v) hvx b3;simp only[XK.run,bJ,Oz,Mz]at a2;obtain⟨es',g1,g2⟩:=a2;cases g2;generalize hda:a.val J.s=da at ha;cases ha with
    |mp _ _=>
     refine⟨J.put (ι n) (some (.map es')),ι,γ, ?_,M.write (o:= .map c) (q:= .map es') hf k2 (M.wf.put (by rw[k3];simp)) rfl rfl (by simp[St.put]) (fun k o' hk hfk hik=> ?_) (fun t q h hne=>by simp only[St.put,if_neg hne];exact h) (fun q h=>by rw[k3]at h;cases h) trivial (fun q hq=>by simp only[St.put,if_neg (M.my hf hq)]) ⟨es',hd',rfl⟩⟩
     ·simp only[Eff.run,hda,q9,k3,←hk,←hv];unfold ua at g1;split at g1
      ·rename_i hok;rw[if_pos hok];obtain⟨r,hr,g1⟩:=Bz.1 g1;rw[hr];simp only[Oz];cases r with
       |some i=>obtain⟨p,hp,rfl⟩:=Mz.1 g1;simp only[hp,Pz]
       |none=>
        simp only[]at g1⊢;split at g1<;>cases g1;rename_i hlt;rw[if_pos hlt]
      ·cases g1
     ·have:ι k≠ι n:=fun e=>hk (M.inj k n _ _ hfk hf e hik);simp[St.put,this]
   ·cases hs
  ·cases hs
 ·rename_i size zero a;have ha:=aJ M a;split at hs
  ·rename_i n sz k hva;rw[hva]at ha;split at hs
   ·rename_i e sz' c hf;split at hs<;>cases hs;rename_i br;obtain⟨⟨rfl,rfl⟩,hz⟩:=br;obtain⟨d',hd'⟩:=hO _ (List.mem_singleton.2 rfl);obtain⟨es,k1,k2,k3⟩:=M.az n _ _ c hf;obtain⟨ts,a1,a2⟩:=bc hd';obtain⟨q1,q2,rfl,c3,c4⟩:=oN a1;rw[k1]at c3;cases c3;simp only[XK.run]at a2;split at a2
    rotate_left
    ·cases a2
    rename_i es0 kd z heq;simp only[List.cons.injEq,D.list.injEq,and_true]at heq;obtain⟨rfl,rfl⟩:=heq;split at a2<;>cases a2;rename_i hr
    have AH:aQ size (es.take z.toNat++List.replicate (es.length-z.toNat) zero)=true:=by
     refine jK (Tz.2 fun c hc=>Tz.1 k2 c (List.mem_of_mem_take hc)) (Tz.2 fun c hc=> ?_);rw[List.eq_of_mem_replicate hc];exact hz
    have hln:(es.take z.toNat++List.replicate (es.length-z.toNat) zero).length=es.length:=by simp;omega
    generalize hda:a.val J.s=da at ha
    have same:es.length-z.toNat=0→es.take z.toNat++List.replicate (es.length-z.toNat) zero=es:=fun h=>by
     rw[h,List.replicate_zero,List.append_nil,List.take_of_length_le (by omega)]
    cases ha with
    |gtn g1 g2 g3=>
     have hes:es= []:=by
      rcases k3 with⟨_,h⟩|⟨h,_⟩
      ·exact h
      ·exact absurd g2 h
     subst hes;refine⟨J,ι,γ,by simp only[Eff.run,hda,zP],M.I4 hf k1 ?_⟩;rw[hd',same (by simp)]
    |gt g1 g2 g3 g4 g5 g6=>
     rw[hf]at g1;cases g1;rw[k1]at g2;cases g2;rw[c4]at g4;cases g4;by_cases h0:es.length-z.toNat=0
     ·refine⟨J,ι,γ,by simp only[Eff.run,hda,zP,if_pos h0],M.I4 hf k1 ?_⟩;rw[hd',same h0]
     rcases k3 with⟨k3,_⟩|⟨_,k3⟩
     ·exact absurd k3 g3
     have hzl:zero.length=size:=by simp only[Az,beq_iff_eq]at hz;exact hz.1
     have hdr:es.drop (z.toNat+(es.length-z.toNat))= []:=List.drop_eq_nil_of_le (by omega);refine⟨(J.aG (γ n) z.toNat).put (ι n) (some (.row (γ n) e (es.take z.toNat++List.replicate (es.length-z.toNat) zero))),ι,γ, ?_, ?_⟩
     ·simp only[Eff.run,hda,zP,if_neg h0,k3];rw[if_pos ⟨⟨trivial,hzl⟩,by omega,bQ k2⟩,hdr,List.append_nil]
     ·refine M.write (o:= .az e size c) (o':= .az e size (.mk (.clr zero) [c,k])) (q:= .row (γ n) e (es.take z.toNat++List.replicate (es.length-z.toNat) zero)) hf g3 ?_ rfl rfl (by simp[St.put]) (fun k' o' hk' hfk hik=> ?_) (fun t q h hne=> ?_) (fun q h=>by rw[k3]at h;cases h) ⟨rfl,rfl,fun es1 h=>⟨_,hd',by rw[k1]at h;cases h;exact hln⟩⟩ (fun q hq=> ?_) ⟨_,hd',AH,rfl⟩
      ·intro y k r hk;simp only[St.put];split
       ·rename_i e;rw[←e,M.wf y k r hk]at k3;cases k3
       ·exact M.wf.aG _ _ y k r hk
      ·have hne:ι k'≠ι n:=fun e=>hk' (M.inj k' n _ _ hfk hf e hik);simp only[St.put,if_neg hne];exact M.yA hf hfk hk' hik g3
      ·simp only[St.put,if_neg hne];show HO.ez (γ n) z.toNat (J.m t)=some (.raw q);rw[h];rfl
      ·simp only[St.put,if_neg (M.my hf hq)];obtain⟨e0,m1,_,_,m4,_⟩:=hq.mem;exact lz m1 (Ne.symm (m4 n _ _ _ hf g3))
   ·cases hs
  ·cases hs
 ·rename_i x k f args;split at hs
  ·rename_i n sz hk;split at hs
   ·rename_i e sz' c hf;split at hs
    ·rename_i hss;subst hss;obtain⟨xs,hx,he⟩:=Mz.1 hs;cases he;obtain⟨d1,h1⟩:=hO _ (List.mem_cons_self ..);obtain⟨d0,h0⟩:=hO _ (Cz _ (List.mem_singleton.2 rfl));obtain⟨J',g1,g2⟩:=uN (x:=x) M hk hf hx h1 h0;exact⟨J',ι,γ,g1,g2⟩
    ·cases hs
   ·cases hs
  ·cases hs
 ·rename_i x t size f args;split at hs
  rotate_left
  ·cases hs
  rename_i hf6;obtain⟨M1,F⟩:=M.nw x;obtain⟨xs,hx,he⟩:=Mz.1 hs;cases he;obtain⟨d',hd'⟩:=hO _ (List.mem_cons_self ..);have hd1:=hd';unfold acX at hd1;obtain⟨ts,a1,a2⟩:=bc hd1;obtain⟨p,q,rfl,b1,b2⟩:=oN a1;cases b1;obtain⟨ts2,c1,c2⟩:=bc b2;obtain⟨p2,q2,rfl,e1,e2⟩:=oN c1;cases e2;obtain⟨ds,f1,f2⟩:=bc e1
  have hvs:bA G E ι (Y.nw x).h (args.map (b6 (Y.nw x))) (args.map (aL.val J.s)):=⟨by simp,fun i v d hv hd=>by
   rw[Dz,Mz]at hv hd;obtain⟨g,hg,rfl⟩:=hv;obtain⟨g',hg',rfl⟩:=hd;rw[hg]at hg';cases hg'
   exact aJ M1 g⟩
  obtain rfl:=gu hvs hx f1
  have hno:(args.map (aL.val J.s)).all D.aF=true:=Tz.2 fun d hd=>by
   obtain⟨i,hi⟩:=List.getElem?_of_mem hd;have hil:i<xs.length:=by rw[←cY f1];exact(Gz.1 hi).1
   have hxi:=Ez hil;obtain⟨r,hr⟩:=hO (.mk .bt [xs[i]]) (Cz _ (List.mem_map.2 ⟨xs[i],List.getElem_mem hil,rfl⟩));obtain⟨us,g1,g2⟩:=bc hr;obtain⟨u,rfl,g3⟩:=jf g1;have:=fy f1 i _ d hxi hi;rw[g3]at this;cases this;simp only[XK.run]at g2;split at g2
   ·assumption
   ·cases g2
  simp only[XK.run]at c2 a2;split at c2
  rotate_left
  ·cases c2
  rename_i es k0 z heq;simp only[List.cons.injEq,and_true]at heq;obtain⟨rfl,hz⟩:=heq;cases hz;split at c2<;>cases c2;simp only[Int.toNat_zero,List.drop_zero,lN,Oz,List.nil_append]at a2;split at a2<;>cases a2;rename_i hok;simp only[XK.run,gn]at f2;obtain⟨r,hr,f3⟩:=Bz.1 f2
  have V6:r.bare= .list es:=by
   simp only[Bool.false_eq_true,if_false]at f3;by_cases hn:r.bare.aF=true
   ·rw[if_pos hn]at f3;exact Option.some.inj f3
   ·rw[if_neg hn]at f3;cases f3
  have hq:(bw G).q (1000000*t+f) (args.map (aL.val J.s))=some (.list es,dI):=by
   show(G (1000001000000+(1000000*t+f)) _).map _=_;rw[hr];simp[V6]
  have hes:es.all (fun c=>c.length==size)=true:=Tz.2 fun c hc=>by
   have:=Tz.1 hok.1 c hc;simp only[Az]at this;exact this.1
  simp only[Eff.run,nQ];rw[if_pos ⟨hno,hf6⟩,hq];simp only[Oz];rw[if_pos hes];exact⟨_,_,_,rfl,M1.mQ F hd' hok.1 (M1.wf.new x _ _) rfl (fun n o' h hi=>by rw[cA,if_neg (M1.eo x h)]) (by rw[cA,if_pos rfl]) (mW (by first|exact M1.wf|exact M2.wf) x _ _) (fun y=>pb ..) (fun q hq=>⟨(M1.cg x hq).2,by rw[cA,if_neg (Ne.symm (M1.cg x hq).1)]⟩) (.inl rfl)⟩
end
end
section
abbrev pF:X:= .q (.tup [])
def yB(gx e:X):SV:=match gx with
 | .mk (.gv w) [g]=>if eJ e g then .x (.q (.v (.bool w)))else .x e
 |_=> .x e
def strip(gx:X):SV→SV
 | .gd g v=>if eJ g gx then v else .gd g v
 | .x (.ite g e u)=>if eJ g gx then .x e else yB gx (.ite g e u)
 | .x e=>yB gx e
 |v=>v
def Sj(gx:X):SV→SV
 | .x e=> .x (.ite gx e pF)
 |v=> .gd gx v
def mF(st:au)(Y:Sy):Option (Sy×List X):=
 match st with
 | .op x k args none=>(uO Y.h k (args.map (b6 Y))).map fun q=>(Y.set x q.1,q.2)
 | .op x k args (some (j,w))=>match find Y.s j with
  |some (.x (.q (.v (.bool b))))=>if b=w then(uO Y.h k (args.map (b6 Y))).map fun q=>(Y.set x q.1,q.2)else some (Y.set x (.x pF),[])
  |some (.x g)=>(uO Y.h k (args.map fun a=>strip (.mk (.gv w) [g]) (b6 Y a))).map fun q=>(Y.set x (Sj (.mk (.gv w) [g]) q.1), .mk (.gv w) [g]::q.2.map fun e=> .ite (.mk (.gv w) [g]) e pF)
  |_=>none
 | .eff e none=>fZ e Y
 | .eff e (some (j,w))=>match find Y.s j with
  |some (.x (.q (.v (.bool b))))=>if b=w then fZ e Y else some (match e.dst with|some x=>(Y.set x (.x pF),[])|none=>(Y,[]))
  |_=>none
 |_=>none
def d_:List au→Sy→Option (Sy×List X)
 | [],Y=>some (Y,[])
 |st::r,Y=>(mF st Y).bind fun q=>(d_ r q.1).map fun p=>(p.1,q.2++p.2)
structure pL where
 x:Nat
 ks:List Nat
 i:Nat
 k:aL
 B:List au
 y:Nat
 e:Nat
 sz:Nat
 b:aL
 C:List au
 ks':List Nat
 i':Nat
 k':aL
def au.Cf:au→Bool
 | .op .. =>true
 |st=>st.news
def au.Cy:au→Bool
 | .op .. =>true
 |_=>false
def oR(f:List au→List Nat→Nat→aL→pL)(y:Nat):List au→List au→Option (pL×List au)
 |C, .eff (.mupd ks' (.t i') k' (.t y')) none::R=>if y'=y then some (f C.reverse ks' i' k',R)else none
 |C,st::r=>if st.Cy then oR f y (st::C) r else none
 |_,[]=>none
def oP(x:Nat)(ks:List Nat)(i:Nat)(k:aL):List au→List au→Option (pL×List au)
 |B, .eff (.app y e sz (.t x') b) none::R=>if x'=x then oR (fun C ks' i' k'=>⟨x,ks,i,k,B.reverse,y,e,sz,b,C,ks',i',k'⟩) y [] R else none
 |B,st::r=>if st.Cf then oP x ks i k (st::B) r else none
 |_,[]=>none
def H9:D→Bool
 | .nil=>true
 |_=>false
def mD:List au→Option (List au×pL×List au)
 | []=>none
 | .op x (.lkp ks z ok) [.t i,k] none::r=>match(if H9 z&& !ok then oP x ks i k [] r else none)with
  |some q=>some ([],q)
  |none=>(mD r).map fun p=>(.op x (.lkp ks z ok) [.t i,k] none::p.1,p.2)
 |st::r=>(mD r).map fun p=>(st::p.1,p.2)
def pL.S1(q:pL):au:= .op q.x (.lkp q.ks .nil false) [.t q.i,q.k] none
def pL.S2(q:pL):au:= .eff (.app q.y q.e q.sz (.t q.x) q.b) none
def pL.S3(q:pL):au:= .eff (.mupd q.ks' (.t q.i') q.k' (.t q.y)) none
def pL.all(q:pL):List au:=q.S1::(q.B++(q.S2::(q.C++ [q.S3])))
def pL.ok(q:pL):Bool:=
 q.B.all (fun st=>st.Cf&&match st.dst with|some d=> !([q.x,q.i]++q.k.reads).contains d|none=>true)&& !([q.i]++q.k.reads).contains q.x&& !([q.i']++q.k'.reads).contains q.y&&q.C.all (fun st=>st.Cy&&match st.dst with|some d=>d !=q.y|none=>true)&&(q.ks==q.ks')
def Sy.xf(Y:Sy)(x:Nat):Sy:=Y.set x .un
def Er(Y:Sy)(i:Nat):Bool:=match find Y.s i with
 |some (.mp n)=>match find Y.h n with
  |some (.mpl ..)=>true
  |_=>false
 |_=>false
def yH(q:pL)(Y0:Sy):Option (Sy×List X):=
 if q.ok&&Er Y0 q.i then(d_ q.B (Y0.xf q.x)).bind fun p=>(d_ q.C (p.1.xf q.y)).bind fun p3=>match find p.1.s q.i,find p3.1.s q.i' with
  |some (.mp n),some (.mp n')=>match find p.1.h n with
   |some (.mpl e sz c)=>(b6 p.1 q.k).oB.bind fun kx=>(b6 p3.1 q.k').oB.bind fun kx'=>(tj p.1.h (b6 p.1 q.b)).bind fun cb=>
    if(e=q.e∧sz=q.sz)∧n'=n∧eJ kx kx'=true then
     some ({p3.1 with s:=cq q.y .un p3.1.s,h:=cq n (.mpl e sz (.mk (.mapp q.ks sz) [c,kx,cb])) p3.1.h}, .mk (.mapp q.ks sz) [c,kx,cb]::(p.2++p3.2))else none
   |_=>none
  |_,_=>none
 else none
def lF(sts:List au)(Y:Sy):Option (Sy×List X):=
 match mD sts with
 |some (A,q,R)=>(d_ A Y).bind fun p=>(yH q p.1).bind fun p2=>(d_ R p2.1).map fun p3=>(p3.1,p.2++(p2.2++p3.2))
 |none=>d_ sts Y
mutual
def eO:SV→SV→Bool
 | .un, .un=>true
 | .x e, .x e'=>eJ e e'
 | .agg vs, .agg us=>lY vs us
 | .tup vs, .tup us=>lY vs us
 | .clo f vs, .clo g us=>f==g&&lY vs us
 | .ptr a b, .ptr a' b'=>a==a'&&b==b'
 | .gl a b, .gl a' b'=>a==a'&&b==b'
 | .ep a b i c, .ep a' b' i' c'=>a==a'&&b==b'&&eJ i i'&&c==c'
 | .dp a b c e i j, .dp a' b' c' e' i' j'=>(a==a'&&b==b'&&c==c'&&e==e'&&j==j')&&eJ i i'
 | .gs a b k, .gs a' b' k'=>(a==a'&&b==b')&&eJ k k'
 | .gc a b k, .gc a' b' k'=>(a==a'&&b==b')&&eJ k k'
 | .gt a b k, .gt a' b' k'=>(a==a'&&b==b')&&eJ k k'
 | .sb a b c, .sb a' b' c'=>a==a'&&b==b'&&c==c'
 | .rb a b, .rb a' b'=>a==a'&&b==b'
 | .mp a, .mp a'=>a==a'
 | .yl a, .yl a'=>a==a'
 | .gd g v, .gd g' v'=>eJ g g'&&eO v v'
 |_,_=>false
def lY:List SV→List SV→Bool
 | [],[]=>true
 |x::r,y::s=>eO x y&&lY r s
 |_,_=>false
end
mutual
theorem lX: ∀(a b:SV),eO a b=true→a=b
 | .un,b,h=>by cases b<;>simp[eO]at h;rfl
 | .x e,b,h=>by cases b<;>simp[eO]at h;rw[ba _ _ h]
 | .agg vs,b,h=>by cases b<;>simp[eO]at h;rw[j_ _ _ h]
 | .tup vs,b,h=>by cases b<;>simp[eO]at h;rw[j_ _ _ h]
 | .dp a c e s i j,b,h=>by cases b<;>simp[eO]at h;rw[h.1.1.1.1.1,h.1.1.1.1.2,h.1.1.1.2,h.1.1.2,h.1.2,ba _ _ h.2]
 | .gs a c k,b,h=>by cases b<;>simp[eO]at h;rw[h.1.1,h.1.2,ba _ _ h.2]
 | .gc a c k,b,h=>by cases b<;>simp[eO]at h;rw[h.1.1,h.1.2,ba _ _ h.2]
 | .gt a c k,b,h=>by cases b<;>simp[eO]at h;rw[h.1.1,h.1.2,ba _ _ h.2]
 | .sb a c k,b,h=>by cases b<;>simp[eO]at h;rw[h.1.1,h.1.2,h.2]
 | .rb a c,b,h=>by cases b<;>simp[eO]at h;rw[h.1,h.2]
 | .mp a,b,h=>by cases b<;>simp[eO]at h;rw[h]
 | .yl a,b,h=>by cases b<;>simp[eO]at h;rw[h]
 | .clo f vs,b,h=>by cases b<;>simp[eO]at h;rw[h.1,j_ _ _ h.2]
 | .ptr a o,b,h=>by cases b<;>simp[eO]at h;rw[h.1,h.2]
 | .gl a o,b,h=>by cases b<;>simp[eO]at h;rw[h.1,h.2]
 | .ep a o i c,b,h=>by cases b<;>simp[eO]at h;rw[h.1.1.1,h.1.1.2,ba _ _ h.1.2,h.2]
 | .gd g v,b,h=>by cases b<;>simp[eO]at h;rw[ba _ _ h.1,lX _ _ h.2]
theorem j_: ∀(a b:List SV),lY a b=true→a=b
 | [],b,h=>by cases b<;>simp[lY]at h;rfl
 |x::r,b,h=>by
  cases b<;>simp[lY]at h;rw[lX x _ h.1,j_ r _ h.2]
end
def DT:SO→SO→Bool
 | .box vs, .box us=>lY vs us
 | .az a b c, .az a' b' c'=>a==a'&&b==b'&&eJ c c'
 | .map c, .map c'=>eJ c c'
 | .mpl a b c, .mpl a' b' c'=>a==a'&&b==b'&&eJ c c'
 | .raw k, .raw k'=>decide (k=k')
 |_,_=>false
theorem zI{a b:SO}(h:DT a b=true):a=b:=by
 cases a<;>cases b<;>simp[DT]at h
 ·rw[j_ _ _ h]
 ·rw[h.1.1,h.1.2,ba _ _ h.2]
 ·rw[ba _ _ h]
 ·rw[h.1.1,h.1.2,ba _ _ h.2]
 ·rw[h]
def leA{α:Type}(eq:α→α→Bool)(a b:List (Nat×α)):Bool:=a.all fun p=>match find b p.1 with
 |some v=>match find a p.1 with
  |some u=>eq u v
  |none=>false
 |none=>false
theorem tR{α:Type}{eq:α→α→Bool}(he: ∀x y,eq x y=true→x=y){a b:List (Nat×α)}(h:leA eq a b=true){n:Nat}{v:α}(hf:find a n=some v):find b n=some v:=by
 have:=Tz.1 h _ (oU hf)
 grind
def subset(a b:List X):Bool:=a.all fun e=>b.any fun e'=>eJ e e'
def Ja(q p:Sy×List X):Bool:=leA eO q.1.s p.1.s&&leA DT q.1.h p.1.h&&leA DT p.1.h q.1.h&&subset p.2 q.2&&q.1.nv==p.1.nv
def gF(P:Program)(fr:pI)(n:Nat)(ops:Array Oper)(draw:Bool)(Y:Sy):Option (Sy×List X):=
 if draw then match CO P fr n ops with
  |some (s::ss)=>(lF s Y).bind fun q=>if ss.all (fun s'=>match lF s' Y with
   |some p=>Ja q p
   |none=>false)then some q else none
  |_=>none
 else lF (B3 P fr n ops) Y
section
variable {Ω : bM} {G : FP} {E : List D} {ι γ : Nat → Tok} {Y : Sy} {J : St}
theorem uH{h:List (Nat×SO)}{gx e:X}{d:D}(H:VR G E ι h (.x e) d)(hg:X.ev G E gx=some (bv true)):VR G E ι h (yB gx e) d:=by
 unfold yB;split
 ·rename_i w g;split
  ·rename_i he;obtain⟨h1,_⟩:=H.b7;rw[ba _ _ he]at h1;obtain⟨ds,a1,a2⟩:=bc hg;obtain⟨dj,rfl,a3⟩:=jf a1;rw[h1]at a3;cases a3;simp only[XK.run]at a2;split at a2
   ·rename_i b heq;simp only[List.cons.injEq,and_true]at heq;subst heq;have:b=w:=by cases b<;>cases w<;>simp_all [bv]
    subst this;exact .x rfl rfl
   ·cases a2
   ·cases a2
  ·exact H
 ·exact H
theorem wV{h:List (Nat×SO)}{gx:X}{v:SV}{d:D}(H:VR G E ι h v d)(hg:X.ev G E gx=some (bv true)):VR G E ι h (strip gx v) d:=by
 unfold strip;split
 ·split
  ·rename_i he;cases H with
   |gd h1 h2 h3=>
    rw[ba _ _ he]at h1
    grind
  ·exact H
 ·split
  ·rename_i he;obtain⟨h1,h2⟩:=H.b7;simp only[X.ev,ba _ _ he,hg]at h1;exact .x h1 h2
  ·exact uH H hg
 ·exact uH H hg
 ·exact H
theorem nL(M:Mt Ω G E ι γ Y J){st:au}{Y':Sy}{O:List X}(hs:mF st Y=some (Y',O))(hO: ∀e∈O,∃d,X.ev G E e=some d):
  ∃J' ι' γ',st.run (bw G) J=some J'∧Mt Ω G E ι' γ' Y' J'∧(st.Cy=true→ι'=ι∧γ'=γ∧Y'.h=Y.h):=by
 have uY: ∀(f:aL→SV) (args:List aL),(∀a,VR G E ι Y.h (f a) (a.val J.s))→bA G E ι Y.h (args.map f) (args.map (aL.val J.s)):=fun f args hf=>
  ⟨by simp,fun i v d hv hd=>by
   rw[Dz,Mz]at hv hd;obtain⟨g,hg,rfl⟩:=hv;obtain⟨g',hg',rfl⟩:=hd;rw[hg]at hg';cases hg'
   exact hf g⟩
 unfold mF at hs;split at hs
 ·rename_i x k args;obtain⟨⟨v,O'⟩,h1,h2⟩:=Mz.1 hs;cases h2;obtain⟨d,h3,h4⟩:=gT M (uY _ args (aJ M)) h1 hO;exact⟨J.set x d,ι,γ,by simp[au.run,bC,Pa,h3],M.set h4,fun _=>⟨rfl,rfl,rfl⟩⟩
 ·rename_i x k args j w;split at hs
  ·rename_i b hg;obtain⟨k1,_⟩:=(M.slot j _ hg).b7
   have hgd:bC J (some (j,w))=some (b==w):=by
    have:J.s j= .v (.bool b):=(Option.some.inj (show some (D.v (.bool b))=some (J.s j)from k1)).symm;simp[bC,this]
   split at hs
   ·rename_i hbw;subst hbw;obtain⟨⟨v,O'⟩,h1,h2⟩:=Mz.1 hs;cases h2;obtain⟨d,h3,h4⟩:=gT M (uY _ args (aJ M)) h1 hO;exact⟨J.set x d,ι,γ,by simp[au.run,hgd,Pa,h3],M.set h4,fun _=>⟨rfl,rfl,rfl⟩⟩
   ·rename_i hbw;cases hs;exact⟨J.set x (.tup []),ι,γ,by simp only[au.run,hgd,Oz];rw[show(b==w)=false by simpa using hbw];rfl,M.set (.x rfl rfl),fun _=>⟨rfl,rfl,rfl⟩⟩
  ·rename_i g hg;obtain⟨⟨v,O'⟩,h1,h2⟩:=Mz.1 hs;cases h2;obtain⟨db,hdb⟩:=hO _ (List.mem_cons_self ..);obtain⟨ds,a1,a2⟩:=bc hdb;obtain⟨dj,rfl,a3⟩:=jf a1;obtain⟨k1,k2⟩:=(M.slot j _ hg).b7;rw[k1]at a3;cases a3
   have hgd: ∃b,bC J (some (j,w))=some b∧db=bv b:=by
    simp only[XK.run]at a2;split at a2
    ·rename_i b heq;simp only[List.cons.injEq,and_true]at heq;cases a2;exact⟨_,by simp[bC,heq],rfl⟩
    ·rename_i heq;simp only[List.cons.injEq,and_true]at heq;cases a2;exact⟨_,by simp[bC,heq],rfl⟩
    ·cases a2
   obtain⟨b,hb,rfl⟩:=hgd;cases b
   ·refine⟨J.set x (.tup []),ι,γ,by simp[au.run,hb],M.set ?_,fun _=>⟨rfl,rfl,rfl⟩⟩;cases v with
    |x e=>exact .x (by simp only[X.ev]at hdb⊢;rw[hdb];rfl) rfl
    |_=>exact .gd hdb (fun h=>by cases h) fun _=>rfl
   ·have hO': ∀e∈O',∃d,X.ev G E e=some d:=fun e he=>by
     obtain⟨d,hd⟩:=hO _ (Cz _ (List.mem_map.2 ⟨e,he,rfl⟩));simp only[X.ev]at hd hdb;rw[hdb]at hd;exact⟨d,hd⟩
    obtain⟨d,h3,h4⟩:=gT M (uY _ args fun a=>wV (aJ M a) hdb) h1 hO';refine⟨J.set x d,ι,γ,by simp[au.run,hb,Pa,h3],M.set ?_,fun _=>⟨rfl,rfl,rfl⟩⟩;cases v with
    |x e=>
     obtain⟨h5,h6⟩:=h4.b7;exact .x (by simp only[X.ev]at hdb⊢;rw[hdb];exact h5) h6
    |_=>exact .gd hdb (fun _=>h4) fun h=>by cases h
  ·cases hs
 ·obtain⟨J',ι',γ',h1,h2⟩:=ahL M hs hO;exact⟨J',ι',γ',by simp[au.run,bC,h1],h2,fun h=>by cases h⟩
 ·rename_i e j w;split at hs
  ·rename_i b hg;obtain⟨k1,_⟩:=(M.slot j _ hg).b7
   have hgd:bC J (some (j,w))=some (b==w):=by
    have:J.s j= .v (.bool b):=(Option.some.inj (show some (D.v (.bool b))=some (J.s j)from k1)).symm;simp[bC,this]
   split at hs
   ·rename_i hbw;subst hbw;obtain⟨J',ι',γ',h1,h2⟩:=ahL M hs hO;exact⟨J',ι',γ',by simp[au.run,hgd,h1],h2,fun h=>by cases h⟩
   ·rename_i hbw;refine⟨J.void e.dst,ι,γ,by simp only[au.run,hgd,Oz];rw[show(b==w)=false by simpa using hbw];rfl, ?_,fun h=>by cases h⟩;cases hd:e.dst with
    |none=>rw[hd]at hs;cases hs;exact M
    |some x=>rw[hd]at hs;cases hs;exact M.set (.x rfl rfl)
  ·cases hs
 ·cases hs
theorem pE(M:Mt Ω G E ι γ Y J){st:au}{Y':Sy}{O:List X}(hs:mF st Y=some (Y',O))(hO: ∀e∈O,∃d,X.ev G E e=some d):
  ∃J' ι' γ',st.run (bw G) J=some J'∧Mt Ω G E ι' γ' Y' J':=let⟨J',ι',γ',h1,h2,_⟩:=nL M hs hO;⟨J',ι',γ',h1,h2⟩
theorem eV: ∀{sts:List au} {Y:Sy} {J:St} {ι γ:Nat→Tok} {Y':Sy} {O:List X},Mt Ω G E ι γ Y J→d_ sts Y=some (Y',O)→(∀e∈O,∃d,X.ev G E e=some d)→
  ∃J' ι' γ',runs (bw G) sts J=some J'∧Mt Ω G E ι' γ' Y' J'
 | [],Y,J,ι,γ,Y',O,M,hs,_=>by cases hs;exact⟨J,ι,γ,rfl,M⟩
 |st::r,Y,J,ι,γ,Y',O,M,hs,hO=>by
  simp only[d_,Bz,Mz]at hs;obtain⟨⟨Y1,O1⟩,h1,⟨Y2,O2⟩,h2,h3⟩:=hs;cases h3;obtain⟨J1,ι1,γ1,g1,M1⟩:=pE M h1 fun e he=>hO e (by simp[he]);obtain⟨J2,ι2,γ2,g2,M2⟩:=eV M1 h2 fun e he=>hO e (by simp[he]);exact⟨J2,ι2,γ2,by simp[runs,g1,g2],M2⟩
theorem Mt.sub(M:Mt Ω G E ι γ Y J){Z:Sy}(hs: ∀i v,find Z.s i=some v→find Y.s i=some v)(hh: ∀n,find Z.h n=find Y.h n)(hnv:Z.nv=Y.nv):Mt Ω G E ι γ Z J:=by
 have vr: ∀{v:SV} {d:D},VR G E ι Y.h v d→VR G E ι Z.h v d:=fun H=>H.mono (fun _ _ h=>h) fun n _=>⟨rfl,Lk.same (fun _ _ h=>h) (hh n)⟩
 refine⟨fun i v hv=>vr (M.slot i v (hs i v hv)),fun n vs hn=> ?_,fun n e sz c hn=>M.az n e sz c (by rw[←hh];exact hn),fun n c hn=>M.mpo n c (by rw[←hh];exact hn),fun n e sz c hn=> ?_,fun n n' _ _ _ _ _ _ h1 h2=>M.one n n' _ _ _ _ _ _ (by rw[←hh];exact h1) (by rw[←hh];exact h2),fun n k hn=>M.rwo n k (by rw[←hh];exact hn),
  fun a b o o' h1 h2=>M.inj a b o o' (by rw[←hh];exact h1) (by rw[←hh];exact h2),
  fun a b e e' sz sz' c c' h1 h2=>M.gV a b e e' sz sz' c c' (by rw[←hh];exact h1) (by rw[←hh];exact h2),M.wf,fun n e sz c hn=>M.old n e sz c (by rw[←hh];exact hn),by rw[hnv];exact M.nv,M.con⟩
 ·obtain⟨ds,h1,h2,h3⟩:=M.box n vs (by rw[←hh];exact hn);exact⟨ds,h1,h2,h3.1,fun i v d hv hd=>vr (h3.2 i v d hv hd)⟩
 ·obtain⟨L,h1,h2,h3,h4⟩:=M.own n e sz c (by rw[←hh];exact hn);exact⟨L,h1,h2,h3,fun q hq=>(h4.1 q hq).lj rfl (fun k o hk=>(h4.1 q hq).2.2.2.1 k o (by rw[←hh];exact hk)) (fun k e sz c hk=>(h4.1 q hq).2.2.2.2.1 k e sz c (by rw[←hh];exact hk)) fun _=>Nat.le_refl _,h4.2⟩
theorem iR{ks:List Nat}{k:D}: ∀{l l':List (D×D)} {i:Nat},l.map Prod.fst=l'.map Prod.fst→cG ks k l i=cG ks k l' i
 | [],[],_,_=>rfl
 |p::r,p'::r',i,h=>by
  simp only[List.map_cons,List.cons.injEq]at h;simp only[cG,h.1,iR h.2]
 | [],_::_,_,h=>by simp at h
 |_::_,[],_,h=>by simp at h
theorem F_{Γ:Env}{st:au}{J J':St}(h:st.run Γ J=some J')(hb:st.Cf=true){j:Nat}(hj:st.dst≠some j):J'.s j=J.s j:=by
 cases st with
 |op x k args g=>
  obtain⟨d,rfl,_⟩:=iA h;exact St.dg _ _ fun e=>hj (by simp[au.dst,e])
 |eff e g=>
  simp only[au.run]at h;rw[Bz]at h;obtain⟨c,hc,h⟩:=h;cases c
  ·simp only[cond_false,Jz]at h;subst h;cases hd:e.dst with
   |none=>rfl
   |some y=>exact St.dg _ _ fun e2=>hj (by simp[au.dst,hd,e2])
  ·simp only[cond_true]at h
   have fin: ∀{x o d},J.new x o d=J'→e.dst=some x→J'.s j=J.s j:=fun{x o d} h1 h2=>by
    subst h1;exact St.fc fun e3=>hj (by simp[au.dst,h2,e3])
   cases e with
   |box _ _ x a=>
    simp only[Eff.run,aid]at h;split at h
    ·exact fin (Option.some.inj h) rfl
    ·cases h
   |mks x e size zero a b=>
    simp only[Eff.run,CJ]at h;split at h
    ·split at h
     ·exact fin (Option.some.inj h) rfl
     ·cases h
    ·cases h
   |lit x e size len zero places args=>
    simp only[Eff.run,CF]at h;split at h
    ·rw[Bz]at h;obtain⟨cs,_,h⟩:=h;split at h
     ·exact fin (Option.some.inj h) rfl
     ·cases h
    ·cases h
   |acall x e sz f args=>
    simp only[Eff.run,nQ]at h;split at h
    ·rw[Bz]at h;obtain⟨q,_,h⟩:=h;split at h
     ·split at h
      ·exact fin (Option.some.inj h) rfl
      ·cases h
     ·cases h
    ·cases h
   |mkm x=>exact fin (Option.some.inj h) rfl
   |mkml x=>exact fin (Option.some.inj h) rfl
   |_=>simp[au.Cf,au.news,Eff.news]at hb
 |bad=>cases h
theorem jy{Γ:Env}: ∀{a b:List au} {J:St},runs Γ (a++b) J=(runs Γ a J).bind (runs Γ b)
 | [],b,J=>rfl
 |st::r,b,J=>by
  simp only[List.cons_append,runs];cases st.run Γ J with
  |none=>rfl
  |some J1=>simp only[Oz];exact jy
theorem ou{Γ:Env}: ∀{sts:List au} {J J':St},WF J→runs Γ sts J=some J'→(∀st∈sts,st.Cf=true)→lV J.m J'.m∧ ∀j,(∀st∈sts,st.dst≠some j)→J'.s j=J.s j
 | [],J,J',_,h,_=>by cases h;exact⟨fun _ _ h=>h,fun _ _=>rfl⟩
 |st::r,J,J',W,h,hf=>by
  simp only[runs,Bz]at h;obtain⟨J1,h1,h2⟩:=h;have hm:=sJ W h1;have hfs:=hf st (List.mem_cons_self ..);obtain⟨k1,k2⟩:=ou hm.1 h2 fun s hs=>hf s (Cz _ hs);refine⟨fun t o ht=>k1 t o ?_,fun j hj=> ?_⟩
  ·cases st with
   |op=>rw[hm.2.2 trivial];exact ht
   |eff e g=>exact hm.2.1 hfs t o ht
   |bad=>cases h1
  ·rw[k2 j fun s hs=>hj s (Cz _ hs)];exact F_ h1 hfs (hj st (List.mem_cons_self ..))
theorem Mt.apm(M:Mt Ω G E ι γ Y J){n e sz y:Nat}{c c':X}{L':List OE}{J':St}(hf:find Y.h n=some (.mpl e sz c))(hs: ∀j,j≠y→J'.s j=J.s j)(W:WF J')(hc: ∀y,J.c y≤J'.c y)
  (hm: ∀k o,k≠n→find Y.h k=some o→ι k≠ []→J'.m (ι k)=J.m (ι k)) (nk: ∀t q,J.m t=some (.raw q)→J'.m t=some (.raw q)) (hi:ι n≠ []) (he:X.ev G E c'=some (.list (aH (L'.map OE.pr))))
  (hmp:J'.m (ι n)=some (.map (L'.map (OE.en sz)))) (hL:JS Y.h ι γ J' e sz L'):Mt Ω G E ι γ {Y with s:=cq y .un Y.s,h:=cq n (.mpl e sz c') Y.h} J':=by
 have hf': ∀k,find (cq n (.mpl e sz c') Y.h) k=if k=n then some (.mpl e sz c')else find Y.h k:=fun k=>bB n k _ Y.h
 have vr: ∀{v:SV} {d:D},VR G E ι Y.h v d→VR G E ι (cq n (.mpl e sz c') Y.h) v d:=fun H=>H.write hf trivial
 have back: ∀{k:Nat} {o:SO},(∀a b d,o≠ .mpl a b d)→find (cq n (.mpl e sz c') Y.h) k=some o→k≠n∧find Y.h k=some o:=fun{k o} hq h=>by
  rw[hf']at h;by_cases hk:k=n
  ·rw[if_pos hk]at h;cases h;exact absurd rfl (hq _ _ _)
  ·rw[if_neg hk]at h;exact⟨hk,h⟩
 have vf: ∀{k:Nat} {o:SO},find (cq n (.mpl e sz c') Y.h) k=some o→ ∃o',find Y.h k=some o':=fun{k o} h=>by
  rw[hf']at h;by_cases hk:k=n
  ·rw[hk];exact⟨_,hf⟩
  ·rw[if_neg hk]at h;exact⟨_,h⟩
 have only: ∀{k a b:Nat} {d:X},find (cq n (.mpl e sz c') Y.h) k=some (.mpl a b d)→k=n:=fun{k a b d} h=>by
  rw[hf']at h;by_cases hk:k=n
  ·exact hk
  ·rw[if_neg hk]at h;exact M.one k n _ _ _ _ _ _ h hf
 refine⟨fun i v hv=> ?_,fun k vs hk=> ?_,fun k e sz c hk=> ?_,fun k c hk=> ?_,fun k a b d hk=> ?_,fun a b _ _ _ _ _ _ h1 h2=>(only h1).trans (only h2).symm,fun k kk hk=> ?_,fun a b o o' h1 h2=> ?_,fun a b e e' sz sz' c c' h1 h2=> ?_,W,fun k e sz c hk hne z j r hg=> ?_,M.nv,fun t ht=>nk t _ (M.con t ht)⟩
 ·simp only[bB]at hv;by_cases hiy:i=y
  ·rw[if_pos hiy]at hv;cases hv;exact .un
  ·rw[if_neg hiy]at hv;rw[hs i hiy];exact vr (M.slot i v hv)
 ·obtain⟨hne,hk⟩:=back (by simp) hk;obtain⟨ds,h1,h2,h3⟩:=M.box k vs hk;exact⟨ds,h1,by rw[hm k _ hne hk h1];exact h2,h3.1,fun i v d hv hd=>vr (h3.2 i v d hv hd)⟩
 ·obtain⟨hne,hk⟩:=back (by simp) hk;obtain⟨es,h1,h2,h3⟩:=M.az k _ _ _ hk;refine⟨es,h1,h2, ?_⟩;rcases h3 with h3|⟨h3,h4⟩
  ·exact .inl h3
  ·exact .inr ⟨h3,by rw[hm k _ hne hk h3];exact h4⟩
 ·obtain⟨hne,hk⟩:=back (by simp) hk;obtain⟨es,h1,h2,h3⟩:=M.mpo k c hk;exact⟨es,h1,h2,by rw[hm k _ hne hk h2];exact h3⟩
 ·obtain rfl:=only hk;rw[hf',if_pos rfl]at hk;cases hk;refine⟨L',he,hi,hmp,fun q hq=>(hL.1 q hq).lj rfl (fun k o ho=> ?_) (fun k e sz c ho=> ?_) fun _=>Nat.le_refl _,hL.2⟩
  ·obtain⟨o',ho'⟩:=vf ho;exact(hL.1 q hq).2.2.2.1 k o' ho'
  ·exact(hL.1 q hq).2.2.2.2.1 k _ _ _ (back (by simp) ho).2
 ·obtain⟨hne,hk⟩:=back (by simp) hk;obtain⟨h1,h2,h3,h4⟩:=M.rwo k kk hk;exact⟨h1,h2,by rw[hm k _ hne hk h2];exact h3,h4⟩
 ·obtain⟨_,g1⟩:=vf h1;obtain⟨_,g2⟩:=vf h2;exact M.inj a b _ _ g1 g2
 ·exact M.gV a b _ _ _ _ _ _ (back (by simp) h1).2 (back (by simp) h2).2
 ·exact Nat.lt_of_lt_of_le (M.old k _ _ _ (back (by simp) hk).2 hne z j r hg) (hc z)
theorem wK{α:Type}: ∀{l:List α} {i j:Nat} {a:α},l.Nodup→l[i]?=some a→l[j]?=some a→i=j
 | [],i,j,a,_,h,_=>by simp at h
 |b::r,i,j,a,hd,hi,hj=>by
  have hd:=List.nodup_cons.1 hd;cases i with
  |zero=>
   grind
  |succ i=>
   cases j with
   |zero=>simp at hi hj;subst hj;exact absurd (Lz hi) hd.1
   |succ j=>exact congrArg (· +1) (wK hd.2 (a:=a) (by simpa using hi) (by simpa using hj))
theorem Bx(s:Nat→D)(j:Nat):(aL.t j).val s=s j:=rfl
theorem keys_eq(L:List OE)(sz:Nat):(L.map (OE.en sz)).map Prod.fst=(L.map OE.pr).map Prod.fst:=by
 simp only[List.map_map];rfl
theorem E7(M:Mt Ω G E ι γ Y J){x y i i' n e sz:Nat}{k k' b:aL}{ks:List Nat}{c cb kx:X}(ha:find Y.s i=some (.mp n))(hf:find Y.h n=some (.mpl e sz c))
  (hk:(b6 Y k).oB=some kx) (hcb:tj Y.h (b6 Y b)=some cb) (hO: ∃d,X.ev G E (.mk (.mapp ks sz) [c,kx,cb])=some d)
  (hlk:og J.m ks .nil false [J.s i,k.val J.s]=some (J.s x)):
  ∃J2,(au.eff (.app y e sz (.t x) b) none).run (bw G) J=some J2∧Mt Ω G E ι γ (Y.xf y) J2∧(∀j,j≠y→J2.s j=J.s j)∧
   ∀(Y3:Sy) (J3:St),Mt Ω G E ι γ Y3 J3→J3.m=J2.m→J3.c=J2.c→J3.s y=J2.s y→(∀k,find Y3.h k=find Y.h k)→find Y3.s i'=some (.mp n)→(b6 Y3 k').oB=some kx→
    ∃J4,(au.eff (.mupd ks (.t i') k' (.t y)) none).run (bw G) J3=some J4∧Mt Ω G E ι γ {Y3 with s:=cq y .un Y3.s,h:=cq n (.mpl e sz (.mk (.mapp ks sz) [c,kx,cb])) Y3.h} J4:=by
 obtain⟨L,o1,o2,o3,o4,o5⟩:=M.own n e sz c hf;have hsi:J.s i= .mp (ι n):=by have:=M.slot i _ ha;generalize J.s i=d at this;cases this;rfl
 obtain⟨d',hd'⟩:=hO;obtain⟨ds0,a1,a2⟩:=bc hd';simp only[X.bm,Bz,Mz]at a1;obtain⟨dc,b1,r1,⟨dk,b2,r2,⟨db,b3,r3,b4,rfl⟩,rfl⟩,rfl⟩:=a1;cases b4;rw[o1]at b1;cases b1;have e1:=b8 (aJ M k) hk b2;simp only[XK.run,bJ,Oz,Bz,Mz]at a2;obtain⟨es2,g1,es',g2,rfl⟩:=a2;have hel:=kX M (aJ M b) hcb b3 g1;unfold tW at g2;split at g2
 rotate_left
 ·cases g2
 rename_i br;obtain⟨Cp,gi,hne⟩:=br;have gi:aQ sz es2=true:=gi;have bN: ¬(es2.all (fun c=>c.length==sz)=false):=by rw[bQ gi];simp
 obtain⟨r,hr,g2⟩:=Bz.1 g2;simp only[og,hsi,o3,←e1]at hlk;rw[if_pos Cp,iR (keys_eq L sz),hr,Oz]at hlk;have IU: ∀q,q∈L→iK Y.h ι γ J q:=fun q hq=>⟨n,e,sz,c,L,hf,o3,⟨o4,o5⟩,hq⟩;have hnt:ι n≠J.tok y:=M.eo y hf
 have lM: ∀k,find (cq n (.mpl e sz c) Y.h) k=find Y.h k:=fun k=>by
  rw[bB]
  grind
 cases r with
 |none=>
  simp only[Bool.false_eq_true,if_false,Jz]at hlk;simp only[]at g2;split at g2<;>cases g2;rename_i hlen;let v:=D.sl (J.tok y) sz 0 es2.length none;let J2:=J.new y (.row (J.tok y) e es2) v;have h2s: ∀j,j≠y→J2.s j=J.s j:=fun j hj=>St.fc hj;have h2y:J2.s y=v:=by simp[J2,St.new,St.set]
  have h2m: ∀t,J2.m t=if t=J.tok y then some (.row (J.tok y) e es2)else J.m t:=fun t=>cA ..
  have h2n:J2.m (ι n)=some (.map (L.map (OE.en sz))):=by rw[h2m,if_neg hnt];exact o3
  have hc2: ∀z,J2.c z=if z=y then J.c z+1 else J.c z:=fun z=>rfl
  have r2:(au.eff (.app y e sz (.t x) b) none).run (bw G) J=some J2:=by
   simp only[au.run,bC,Oz,cond_true,Eff.run,Bx,←hlk,sU,hel];rw[if_neg bN,if_neg (by simpa using hne),if_pos hlen.2]
  have AN: ∀q,q∈L→J2.m q.u=J.m q.u:=fun q hq=>by rw[h2m,if_neg (Ne.symm (M.cg y (IU q hq)).1)]
  have M2:=M.apm (y:=y) (c':=c) (L':=L) (J':=J2) hf h2s (M.wf.new y _ _) (fun z=>by rw[hc2];split<;>omega) (fun j o hj ho hi=>by rw[h2m,if_neg (M.eo y ho)]) (fun t q hq=>by rw[h2m,if_neg (fun e=>by rw[e,M.wf.tok y]at hq;cases hq)];exact hq) o2 o1 h2n
   ⟨fun q hq=>(o4 q hq).lj (AN q hq) (o4 q hq).2.2.2.1 (o4 q hq).2.2.2.2.1 (fun z=>by rw[hc2];split<;>omega),o5⟩
  refine⟨J2,r2,M2.sub (fun i v h=>h) (fun k=>(lM k).symm) rfl,h2s,fun Y3 J3 M3 k1 k2 k3 k4 k5 k6=> ?_⟩;have SL:J3.s i'= .mp (ι n):=by have:=M3.slot i' _ k5;generalize J3.s i'=d at this;cases this;rfl
  have e2:=b8 (aJ M3 k') k6 b2
  have r3:(au.eff (.mupd ks (.t i') k' (.t y)) none).run (bw G) J3=some (J3.put (ι n) (some (.map (L.map (OE.en sz)++ [(dk,v)])))):=by
   simp only[au.run,bC,Oz,cond_true,Eff.run,Bx,SL,←e2,k3,h2y,q9,k1,h2n];rw[if_pos ⟨rfl,Cp⟩,iR (keys_eq L sz),hr];simp only[Oz,List.length_map];rw[if_pos (by simpa using hlen.1)]
  refine⟨_,r3, ?_⟩;have hm3: ∀t,(J3.put (ι n) (some (.map (L.map (OE.en sz)++ [(dk,v)])))).m t=if t=ι n then some (.map (L.map (OE.en sz)++ [(dk,v)]))else J3.m t:=fun t=>rfl
  have hf3:find Y3.h n=some (.mpl e sz c):=by rw[k4];exact hf
  refine M3.apm (L':=L++ [⟨dk,J.tok y,J.tok y,es2⟩]) hf3 (fun j hj=>rfl) (M3.wf.put (by rw[k1,h2n];simp)) (fun z=>Nat.le_refl _) (fun j o hj ho hi=> ?_) (fun t q hq=> ?_) o2 ?_ ?_ ⟨fun q hq=> ?_, ?_⟩
  ·rw[hm3,if_neg (fun e=>hj (M3.inj j n _ _ ho hf3 e hi))]
  ·rw[hm3,if_neg (fun e=>by rw[e,k1,h2n]at hq;cases hq)];exact hq
  ·rw[List.map_append];exact hd'
  ·rw[hm3,if_pos rfl,List.map_append];rfl
  ·rcases List.mem_append.1 hq with hq|hq
   ·refine(o4 q hq).lj ?_ (fun k o ho=>(o4 q hq).2.2.2.1 k o (by rw[←k4];exact ho)) (fun k e sz c ho=>(o4 q hq).2.2.2.2.1 k e sz c (by rw[←k4];exact ho)) (fun z=> ?_)
    ·rw[hm3,if_neg (M.my hf (IU q hq)),k1];exact AN q hq
    ·show J.c z≤J3.c z;rw[k2,hc2];split<;>omega
   ·rw[List.mem_singleton]at hq;subst hq;refine⟨mG J y,gi, ?_,fun j o ho=>M.eo y (by rw[←k4];exact ho),fun j e sz c ho hi=>M.Ef y (by rw[←k4];exact ho) hi,fun z j rr hz=> ?_⟩
    ·rw[hm3,if_neg (Ne.symm hnt),k1,h2m,if_pos rfl]
    ·simp only[St.tok,List.cons.injEq]at hz;obtain⟨z1,z2,_⟩:=hz;have:z=y:=by omega
     subst this;show j<J3.c z;rw[k2,hc2,if_pos rfl];omega
  ·rw[List.map_append,List.nodup_append];refine⟨o5,by simp,fun a ha' b hb'=> ?_⟩;obtain⟨q,hq,rfl⟩:=List.mem_map.1 ha';simp only[List.map_cons,List.map_nil,List.mem_singleton]at hb';subst hb';exact Ne.symm (M.cg y (IU q hq)).2
 |some j=>
  obtain⟨p,hp,hpx⟩:=Mz.1 hlk;simp only[Bool.false_eq_true,if_false]at hpx;rw[Dz,Mz]at hp;obtain⟨q,hq,rfl⟩:=hp;simp only[OE.en]at hpx;simp only[Dz,hq,Pz,OE.pr]at g2;split at g2<;>cases g2;rename_i hlen;have hqm:=Lz hq;obtain⟨q1,q2,q3,q4,q5,q6⟩:=o4 q hqm;have hjl:=(Gz.1 hq).1;let v:=D.sl (J.tok y) sz 0 (q.es.length+es2.length) none;let J2:=(J.aG q.g q.es.length).new y (.row q.g e (q.es.take q.es.length++es2)) v;have h2s: ∀j,j≠y→J2.s j=J.s j:=fun j hj=>by simp only[J2];rw[St.fc hj];rfl
  have h2y:J2.s y=v:=by simp[J2,St.new,St.set]
  have htk:(J.aG q.g q.es.length).tok y=J.tok y:=rfl
  have h2m: ∀t,J2.m t=if t=J.tok y then some (.row q.g e (q.es++es2))else HO.ez q.g q.es.length (J.m t):=fun t=>by
   simp only[J2,cA,htk,List.take_length];rfl
  have h2n:J2.m (ι n)=some (.map (L.map (OE.en sz))):=by rw[h2m,if_neg hnt,o3];rfl
  have hc2: ∀z,J2.c z=if z=y then J.c z+1 else J.c z:=fun z=>rfl
  have r2:(au.eff (.app y e sz (.t x) b) none).run (bw G) J=some J2:=by
   simp only[au.run,bC,Oz,cond_true,Eff.run,Bx,←hpx,sU,hel];rw[if_neg bN];rw[if_neg (by simpa using hne)];simp only[q3];rw[if_pos ⟨trivial,trivial,hlen,by omega⟩];simp only[if_true];rfl
  have AN: ∀p,p∈L→J2.m p.u=J.m p.u:=fun p hp=>by
   rw[h2m,if_neg (Ne.symm (M.cg y (IU p hp)).1),(o4 p hp).2.2.1];simp only[HO.ez];by_cases hpg:p.g=q.g
   ·obtain⟨m,hm⟩:=List.getElem?_of_mem hp;have hmj:m=j:=wK o5 (a:=p.g) (by rw[Dz,hm];rfl) (by rw[Dz,hq,hpg];rfl);subst hmj;rw[hm]at hq;cases hq;rw[if_neg (by omega)]
   ·rw[if_neg fun hh=>hpg hh.1]
  have X4: ∀o:HO,(∀e es,o≠ .row q.g e es)→HO.ez q.g q.es.length (some o)=some o:=fun o ho=>by
   cases o with
   |row g' e' es'=>simp only[HO.ez];rw[if_neg fun hh=>ho e' es' (by rw[hh.1])]
   |_=>rfl
  have Xp: ∀j o,find Y.h j=some o→ι j≠ []→J2.m (ι j)=J.m (ι j):=fun j o ho hi=>by
   rw[h2m,if_neg (M.eo y ho)];cases o with
   |box vs=>obtain⟨_,_,h,_⟩:=M.box j vs ho;rw[h];rfl
   |map c=>obtain⟨_,_,_,h⟩:=M.mpo j c ho;rw[h];rfl
   |mpl e' sz' c=>obtain⟨_,_,_,h,_⟩:=M.own j e' sz' c ho;rw[h];rfl
   |raw kk=>obtain⟨_,_,h,_⟩:=M.rwo j kk ho;rw[h];rfl
   |az e' sz' c'=>
    obtain⟨es3,_,_,h⟩:=M.az j _ _ _ ho;rcases h with⟨h,_⟩|⟨_,h⟩
    ·exact absurd h hi
    ·rw[h];exact X4 _ fun e2 es4 h2=>q5 j _ _ _ ho hi (by injection h2)
  have M2:=M.apm (y:=y) (c':=c) (L':=L) (J':=J2) hf h2s ((M.wf.aG _ _).new y _ _) (fun z=>by rw[hc2];split<;>omega) (fun j o hj ho hi=>Xp j o ho hi) (fun t o ho=>by rw[h2m,if_neg (fun e=>by rw[e,M.wf.tok y]at ho;cases ho),ho];rfl) o2 o1 h2n
   ⟨fun q hq=>(o4 q hq).lj (AN q hq) (o4 q hq).2.2.2.1 (o4 q hq).2.2.2.2.1 (fun z=>by rw[hc2];split<;>omega),o5⟩
  refine⟨J2,r2,M2.sub (fun i v h=>h) (fun k=>(lM k).symm) rfl,h2s,fun Y3 J3 M3 k1 k2 k3 k4 k5 k6=> ?_⟩;have SL:J3.s i'= .mp (ι n):=by have:=M3.slot i' _ k5;generalize J3.s i'=d at this;cases this;rfl
  have e2:=b8 (aJ M3 k') k6 b2;let o4':HO:= .map ((L.map (OE.en sz)).set j (q.k,v))
  have r3:(au.eff (.mupd ks (.t i') k' (.t y)) none).run (bw G) J3=some (J3.put (ι n) (some o4')):=by
   simp only[au.run,bC,Oz,cond_true,Eff.run,Bx,SL,←e2,k3,h2y,q9,k1,h2n];rw[if_pos ⟨rfl,Cp⟩,iR (keys_eq L sz),hr];simp only[Oz,Dz,hq,Pz,OE.en];rfl
  refine⟨_,r3, ?_⟩;have hm3: ∀t,(J3.put (ι n) (some o4')).m t=if t=ι n then some o4' else J3.m t:=fun t=>rfl
  have hf3:find Y3.h n=some (.mpl e sz c):=by rw[k4];exact hf
  have fK:(L.set j ⟨q.k,J.tok y,q.g,q.es++es2⟩).map (OE.en sz)=(L.map (OE.en sz)).set j (q.k,v):=by
   rw[List.map_set];simp only[OE.en,v,List.length_append]
  have H2:(L.set j ⟨q.k,J.tok y,q.g,q.es++es2⟩).map OE.pr=(L.map OE.pr).set j (q.k, .list (q.es++es2)):=by
   rw[List.map_set];rfl
  have W_:(L.set j ⟨q.k,J.tok y,q.g,q.es++es2⟩).map OE.g=L.map OE.g:=by
   rw[List.map_set];refine List.ext_getElem? fun m=> ?_;rw[List.getElem?_set];by_cases hmj:j=m
   ·subst hmj;rw[if_pos rfl,if_pos (by simpa using hjl),Dz,hq];rfl
   ·rw[if_neg hmj]
  refine M3.apm (L':=L.set j ⟨q.k,J.tok y,q.g,q.es++es2⟩) hf3 (fun j hj=>rfl) (M3.wf.put (by rw[k1,h2n];simp)) (fun z=>Nat.le_refl _) (fun j o hj ho hi=> ?_) (fun t o ho=> ?_) o2 ?_ ?_ ⟨fun p hp=> ?_,by rw[W_];exact o5⟩
  ·rw[hm3,if_neg (fun e=>hj (M3.inj j n _ _ ho hf3 e hi))]
  ·rw[hm3,if_neg (fun e=>by rw[e,k1,h2n]at ho;cases ho)];exact ho
  ·rw[H2];exact hd'
  ·rw[hm3,if_pos rfl,fK]
  ·have hcz: ∀z,J.c z≤J3.c z:=fun z=>by rw[k2,hc2];split<;>omega
   obtain⟨m,hm⟩:=List.getElem?_of_mem hp;rw[List.getElem?_set]at hm;by_cases hmj:j=m
   ·rw[if_pos hmj,if_pos hjl]at hm;cases hm;refine⟨mG J y,jK q2 gi, ?_,fun j o ho=>M.eo y (by rw[←k4];exact ho),fun j e sz c ho=>q5 j e sz c (by rw[←k4];exact ho),fun z j rr hz=>Nat.lt_of_lt_of_le (q6 z j rr hz) (hcz z)⟩;rw[hm3,if_neg (Ne.symm hnt),k1,h2m,if_pos rfl]
   ·rw[if_neg hmj]at hm;have hpm:=Lz hm;refine(o4 p hpm).lj ?_ (fun k o ho=>(o4 p hpm).2.2.2.1 k o (by rw[←k4];exact ho)) (fun k e sz c ho=>(o4 p hpm).2.2.2.2.1 k e sz c (by rw[←k4];exact ho)) hcz;rw[hm3,if_neg (M.my hf (IU p hpm)),k1];exact AN p hpm
theorem JZ(M:Mt Ω G E ι γ Y J){i n e sz:Nat}{k:aL}{ks:List Nat}{c cb kx:X}(ha:find Y.s i=some (.mp n))(hf:find Y.h n=some (.mpl e sz c))
  (hk:(b6 Y k).oB=some kx) (hO: ∃d,X.ev G E (.mk (.mapp ks sz) [c,kx,cb])=some d): ∃d,og J.m ks .nil false [J.s i,k.val J.s]=some d:=by
 obtain⟨L,o1,o2,o3,o4,o5⟩:=M.own n e sz c hf;have hsi:J.s i= .mp (ι n):=by have:=M.slot i _ ha;generalize J.s i=d at this;cases this;rfl
 obtain⟨d',hd'⟩:=hO;obtain⟨ds0,a1,a2⟩:=bc hd';simp only[X.bm,Bz,Mz]at a1;obtain⟨dc,b1,r1,⟨dk,b2,r2,⟨db,b3,r3,b4,rfl⟩,rfl⟩,rfl⟩:=a1;cases b4;rw[o1]at b1;cases b1;have e1:=b8 (aJ M k) hk b2;simp only[XK.run,bJ,Oz,Bz,Mz]at a2;obtain⟨es2,g1,es',g2,rfl⟩:=a2;unfold tW at g2;split at g2
 rotate_left
 ·cases g2
 rename_i br;obtain⟨r,hr,g2⟩:=Bz.1 g2;simp only[og,hsi,o3,←e1];rw[if_pos br.1,iR (keys_eq L sz),hr,Oz];cases r with
 |none=>exact⟨_,rfl⟩
 |some j=>
  grind
theorem AX(M:Mt Ω G E ι γ Y J){i:Nat}(h:Er Y i=true): ∃t es,J.s i= .mp t∧J.m t=some (.map es):=by
 unfold Er at h;split at h
 ·rename_i n hs;split at h
  ·rename_i e sz c hf;obtain⟨L,_,_,o3,_⟩:=M.own n _ _ _ hf;have:=M.slot i _ hs;generalize J.s i=d at this;cases this;exact⟨_,_,rfl,o3⟩
  ·cases h
 ·cases h
theorem oS{f:List au→List Nat→Nat→aL→pL}{y:Nat}(hf: ∀C ks' i' k',(f C ks' i' k').C=C∧(f C ks' i' k').S3= .eff (.mupd ks' (.t i') k' (.t y)) none): ∀{r C:List au} {q:pL} {R:List au},oR f y C r=some (q,R)→
  (∃C' ks' i' k',q=f C' ks' i' k')∧C.reverse++r=q.C++ [q.S3]++R
 | [],C,q,R,h=>by cases C<;>simp[oR]at h
 |st::r,C,q,R,h=>by
  unfold oR at h;split at h
  ·grind
  ·rename_i heq;cases heq;split at h
   ·obtain⟨h1,h2⟩:=oS hf h
    grind
   ·cases h
  ·grind
theorem oQ{x:Nat}{ks:List Nat}{i:Nat}{k:aL}: ∀{r B:List au} {q:pL} {R:List au},oP x ks i k B r=some (q,R)→q.x=x∧q.ks=ks∧q.i=i∧q.k=k∧B.reverse++r=q.B++(q.S2::(q.C++ [q.S3]))++R
 | [],B,q,R,h=>by cases B<;>simp[oP]at h
 |st::r,B,q,R,h=>by
  unfold oP at h;split at h
  ·rename_i heq;cases heq;split at h
   ·rename_i hc;subst hc;obtain⟨⟨C',ks',i',k',rfl⟩,h2⟩:=oS (fun _ _ _ _=>⟨rfl,rfl⟩) h;simp only[List.reverse_nil,List.nil_append]at h2;rw[h2];simp[pL.S2]
   ·cases h
  ·rename_i heq;cases heq;split at h
   ·obtain⟨h1,h2,h3,h4,h5⟩:=oQ h
    grind
   ·cases h
  ·grind
theorem ahM: ∀{sts:List au} {Y:Sy} {J:St} {Y':Sy} {O:List X},Mt Ω G E ι γ Y J→sts.all au.Cy=true→d_ sts Y=some (Y',O)→(∀e∈O,∃d,X.ev G E e=some d)→
  ∃J',runs (bw G) sts J=some J'∧Mt Ω G E ι γ Y' J'∧J'.m=J.m∧J'.c=J.c∧Y'.h=Y.h
 | [],Y,J,Y',O,M,_,hs,_=>by cases hs;exact⟨J,rfl,M,rfl,rfl,rfl⟩
 |st::r,Y,J,Y',O,M,ho,hs,hO=>by
  simp only[List.all_cons,Az]at ho;simp only[d_,Bz,Mz]at hs;obtain⟨⟨Y1,O1⟩,h1,⟨Y2,O2⟩,h2,h3⟩:=hs;cases h3
  have one: ∃J1,st.run (bw G) J=some J1∧Mt Ω G E ι γ Y1 J1∧J1.m=J.m∧J1.c=J.c∧Y1.h=Y.h:=by
   obtain⟨J1,ι1,γ1,g1,g2,g3⟩:=nL M h1 fun e he=>hO e (by simp[he]);cases st with
   |op x k args g=>
    obtain⟨rfl,rfl,hh⟩:=g3 rfl;obtain⟨d,rfl,_⟩:=iA g1;exact⟨_,g1,g2,rfl,rfl,hh⟩
   |_=>simp[au.Cy]at ho
  obtain⟨J1,g1,M1,k1,k2,k3⟩:=one;obtain⟨J2,g2,M2,k4,k5,k6⟩:=ahM M1 ho.2 h2 fun e he=>hO e (by simp[he]);exact⟨J2,by simp[runs,g1,g2],M2,k4.trans k1,k5.trans k2,k6.trans k3⟩
theorem jM: ∀{sts A:List au} {q:pL} {R:List au},mD sts=some (A,q,R)→sts=A++(q.all++R)
 | [],A,q,R,h=>by cases h
 |st::r,A,q,R,h=>by
  unfold mD at h;split at h
  ·grind
  ·rename_i heq;cases heq;rename_i x ks z ok i k;split at h
   ·rename_i q' hq;cases h;split at hq
    ·rename_i hz;obtain⟨h1,h2,h3,h4,h5⟩:=oQ hq;simp only[Az,Bool.not_eq_true']at hz;have hz1:z= .nil:=by cases z<;>simp[H9]at hz;rfl
     obtain rfl:=hz.2;subst hz1;simp only[List.reverse_nil,List.nil_append]at h5;rw[h5];simp[pL.all,pL.S1,h1,h2,h3,h4]
    ·cases hq
   ·obtain⟨p,hp,h2⟩:=Mz.1 h;obtain⟨A',q',R'⟩:=p;cases h2;have:=jM hp;simp[this]
  ·rename_i heq;cases heq;obtain⟨p,hp,h2⟩:=Mz.1 h;obtain⟨A',q',R'⟩:=p;cases h2;have:=jM hp;simp[this]
theorem yI(M:Mt Ω G E ι γ Y J){q:pL}{Y':Sy}{O:List X}(hs:yH q Y=some (Y',O))(hO: ∀e∈O,∃d,X.ev G E e=some d):
  ∃J' ι' γ',runs (bw G) q.all J=some J'∧Mt Ω G E ι' γ' Y' J':=by
 unfold yH at hs;by_cases hok:(q.ok&&Er Y q.i)=true
 rotate_left
 ·grind
 rw[if_pos hok]at hs;rw[Bz]at hs;obtain⟨⟨Y1,O1⟩,h1,hs⟩:=hs;rw[Bz]at hs;obtain⟨⟨Y3,O3⟩,h3,hs⟩:=hs;simp only[]at hs h3;split at hs
 rotate_left
 ·cases hs
 rename_i n n' hi hi';split at hs
 rotate_left
 ·cases hs
 rename_i e sz c hf;simp only[Bz]at hs;obtain⟨kx,hk,kx',hk',cb,hcb,hs⟩:=hs;split at hs<;>cases hs;rename_i hc;obtain⟨⟨rfl,rfl⟩,rfl,hbe⟩:=hc;obtain rfl:=ba _ _ hbe;simp only[Az,pL.ok,beq_iff_eq]at hok;obtain⟨⟨⟨⟨⟨ok1,ok2⟩,ok3⟩,Vc⟩,ok4⟩,hat⟩:=hok
 have Yv:q.x≠q.i∧q.x∉q.k.reads:=by
  grind
 have VW: ∀st∈q.B,st.Cf=true:=fun st hst=>by
  have:=Tz.1 ok1 st hst
  grind
 have RX: ∀j,(j=q.x∨j=q.i∨j∈q.k.reads)→ ∀st∈q.B,st.dst≠some j:=fun j hj st hst hd=>by
  have:=Tz.1 ok1 st hst
  grind
 have opC:q.C.all au.Cy=true:=Tz.2 fun st hst=>by
  have:=Tz.1 Vc st hst;simp only[Az]at this;exact this.1
 have VX: ∀st∈q.C,st.Cf=true:=fun st hst=>by
  have:=Tz.1 opC st hst;cases st<;>first|rfl|(simp[au.Cy]at this;done)
 have abI: ∀st∈q.C,st.dst≠some q.y:=fun st hst hd=>by
  have:=Tz.1 Vc st hst;simp[hd]at this
 have hOm: ∃d,X.ev G E (.mk (.mapp q.ks q.sz) [c,kx,cb])=some d:=hO _ (by simp);obtain⟨t,es0,t1,t2⟩:=AX M hat;let d1:=(og J.m q.ks .nil false [J.s q.i,q.k.val J.s]).getD .undef;let J1:=J.set q.x d1;have M1:Mt Ω G E ι γ (Y.xf q.x) J1:=M.set .un;obtain⟨J2,ι2,γ2,g2,M2⟩:=eV M1 h1 fun e he=>hO e (by simp[he]);obtain⟨fm,fs⟩:=ou M1.wf g2 VW;have si:J2.s q.i=J.s q.i:=by rw[fs _ (RX _ (.inr (.inl rfl)))];exact St.dg _ _ (Ne.symm Yv.1)
 have sk:q.k.val J2.s=q.k.val J.s:=val_congr fun j hj=>by
  rw[fs _ (RX _ (.inr (.inr hj)))];exact St.dg _ _ fun e=>Yv.2 (e▸hj)
 have sx:J2.s q.x=d1:=by rw[fs _ (RX _ (.inl rfl))];exact St.uG _ _ _
 obtain⟨d,hd⟩:=JZ M2 hi hf hk hOm
 have hl:og J.m q.ks .nil false [J.s q.i,q.k.val J.s]=some d:=by
  rw[si,sk]at hd;have m2:J2.m t=some (.map es0):=fm t _ t2;rw[t1]at hd⊢;simp only[og,m2]at hd;simp only[og,t2];exact hd
 have hd1:d1=d:=by simp only[d1,hl,Option.getD_some]
 obtain⟨J3,r3,M3,fs3,fin⟩:=E7 M2 (x:=q.x) (y:=q.y) (i':=q.i') (k':=q.k') hi hf hk hcb hOm (by rw[hd,sx,hd1]);obtain⟨J4,r4,M4,m4,c4,hh4⟩:=ahM M3 opC h3 fun e he=>hO e (by simp[he]);obtain⟨_,fs4⟩:=ou M3.wf r4 VX;obtain⟨J5,r5,M5⟩:=fin Y3 J4 M4 m4 c4 (fs4 _ abI) (fun k=>by rw[hh4];rfl) hi' hk';refine⟨J5,ι2,γ2, ?_,M5⟩
 have r1:q.S1.run (bw G) J=some J1:=by
  simp only[pL.S1,au.run,bC,Oz,cond_true,Pa,List.map_cons,List.map_nil,Bx,PK.run,hl,Pz];simp only[J1,hd1]
 have e4:q.S3= .eff (.mupd q.ks (.t q.i') q.k' (.t q.y)) none:=by simp only[pL.S3,←ok4]
 have r2:q.S2.run (bw G) J2=some J3:=r3;simp only[pL.all,runs,r1,Oz,jy,g2,r2,r4];rw[e4,r5];rfl
theorem jP{sts:List au}{Y:Sy}{J:St}{ι γ:Nat→Tok}{Y':Sy}{O:List X}(M:Mt Ω G E ι γ Y J)(hs:lF sts Y=some (Y',O))(hO: ∀e∈O,∃d,X.ev G E e=some d):
  ∃J' ι' γ',runs (bw G) sts J=some J'∧Mt Ω G E ι' γ' Y' J':=by
 unfold lF at hs;split at hs
 ·rename_i A q R hsp;simp only[Bz,Mz]at hs;obtain⟨⟨Y1,O1⟩,h1,⟨Y2,O2⟩,h2,⟨Y3,O3⟩,h3,h4⟩:=hs;cases h4;obtain⟨J1,ι1,γ1,g1,M1⟩:=eV M h1 fun e he=>hO e (by simp[he]);obtain⟨J2,ι2,γ2,g2,M2⟩:=yI M1 h2 fun e he=>hO e (by simp[he]);obtain⟨J3,ι3,γ3,g3,M3⟩:=eV M2 h3 fun e he=>hO e (by simp[he]);exact⟨J3,ι3,γ3,by rw[jM hsp,jy,g1,Oz,jy,g2,Oz,g3],M3⟩
 ·exact eV M hs hO
end
section
variable {P : Program} {fr : pI} {B : fe} {n : Nat} {r : Option Nat} {Ω : bM} {G : FP} {E : List D}
theorem rU(hG:Sound P (bw G))(hm:P.follows .mixedOrders=true){id:Nat}{ops:Array Oper}{draw:Bool}{Y Y':Sy}{O:List X}{J:St}{ι γ:Nat→Tok}{a:Act}{w:World}{Q:Exit→Act→World→Prop}
  (hs:gF P fr n ops draw Y=some (Y',O)) (hO: ∀e∈O,∃d,X.ev G E e=some d) (M:Mt Ω G E ι γ Y J) (R:dm P B n w a.tmps J)
  (hQ: ∀a' w' J' ι' γ',a'.defers=a.defers→dm P B n w' a'.tmps J'→Mt Ω G E ι' γ' Y' J'→Q .normal a' w'):Code.vP r P (Code.region id ops draw) Q a w:=by
 unfold gF at hs;cases draw
 ·simp only[Bool.false_eq_true]at hs;obtain⟨J',ι',γ',h1,h2⟩:=jP M hs hO;exact yu hG R h1 fun a' w' hd R'=>hQ a' w' J' ι' γ' hd R' h2
 ·simp only[if_true]at hs;split at hs
  ·rename_i s ss ho;rw[Bz]at hs;obtain⟨q,h1,hs⟩:=hs;split at hs
   ·rename_i bN;cases hs;refine Af (K:=fun J'=> ∃ι' γ',Mt Ω G E ι' γ' Y' J') hG hm R ho (fun s' hs'=> ?_) fun a' w' J' hd R' ⟨ι',γ',M'⟩=>hQ a' w' J' ι' γ' hd R' M';rcases List.mem_cons.1 hs' with rfl|hs'
    ·obtain⟨J',ι',γ',g1,g2⟩:=jP M h1 hO
     grind
    ·have:=Tz.1 bN s' hs';split at this
     ·rename_i p hp;simp only[Ja,Az,beq_iff_eq]at this;obtain⟨⟨⟨⟨k1,k2⟩,k3⟩,k4⟩,k5⟩:=this
      obtain⟨J',ι',γ',g1,g2⟩:=jP M hp fun e he=>by
       obtain⟨e',he',hee⟩:=List.any_eq_true.1 (Tz.1 k4 e he);rw[ba _ _ hee];exact hO e' he'
      refine⟨J',g1,ι',γ',g2.sub (fun i v hv=>tR lX k1 hv) (fun m=> ?_) k5⟩;cases hz:find Y'.h m with
      |some o=>exact(tR (fun _ _=>zI) k2 hz).symm
      |none=>
       cases hy:find p.1.h m with
       |none=>rfl
       |some o=>have:=tR (fun _ _=>zI) k3 hy;rw[hz]at this;cases this
     ·grind
   ·cases hs
  ·cases hs
end
end
section
def tL{α:Type}(p:Nat→Bool):List (Nat×α)→List (Nat×α)
 | []=> []
 |(i,a)::r=>bif p i then(i,a)::tL p r else tL p r
theorem p7{α:Type}(p:Nat→Bool): ∀(l:List (Nat×α)) {k:Nat} {v:α},find (tL p l) k=some v→find l k=some v
 | [],_,_,h=>h
 |(i,a)::r,k,v,h=>by
  simp only[tL]at h;simp only[find];cases hi:i==k with
  |true=>
   have:i=k:=by simpa using hi
   subst this;cases hc:p i with
   |true=>rw[hc]at h;simp only[cond_true,find,beq_self_eq_true]at h;exact h
   |false=>
    have none: ∀l:List (Nat×α),find (tL p l) i=none:=by
     intro l
     induction l with
     |nil=>rfl
     |cons q l ih=>
      obtain⟨j,b⟩:=q;simp only[tL];cases hj:p j with
      |false=>simpa using ih
      |true=>
       simp only[cond_true,find]
       grind
    grind
  |false=>
   cases hc:p i with
   |true=>rw[hc]at h;simp only[cond_true,find,hi]at h;exact p7 p r h
   |false=>rw[hc]at h;exact p7 p r h
def LI:List Nat→Nat→Bool
 | [],_=>false
 |a::r,n=>bif Nat.beq a n then true else LI r n
def Sy.trim(n:Nat)(ks:List Nat)(Y:Sy):Sy:={Y with s:=tL (fun i=>Nat.ble n i||LI ks i) Y.s}
theorem Mt.trim{Ω:bM}{G:FP}{E:List D}{ι γ:Nat→Tok}{Y:Sy}{J:St}(M:Mt Ω G E ι γ Y J)(n:Nat)(ks:List Nat):Mt Ω G E ι γ (Y.trim n ks) J:=M.sub (fun _ _ h=>p7 _ _ h) (fun _=>rfl) rfl
def isAtom:X→Bool
 | .t _| .q _=>true
 | .mk (.cell _ _) [.t _]=>true
 |_=>false
def KY:List X→X→Nat→Option Nat
 | [],_,_=>none
 |a::r,e,i=>if eJ a e then some i else KY r e (i+1)
def s_(k:Nat)(acc:List X)(e:X):X×List X:=
 match e with
 | .t i=>(.t i,acc)
 |e=>match KY acc e 0 with
  |some i=>(.t (k+i),acc)
  |none=>(.t (k+acc.length),acc++ [e])
def jj(k:Nat)(acc:List X)(e:X):X×List X:=
 if isAtom e then(e,acc)else match e with
 | .mk (.cell j n) [e']=>(.mk (.cell j n) [(s_ k acc e').1],(s_ k acc e').2)
 |e=>s_ k acc e
mutual
def cw(k:Nat)(acc:List X):SV→SV×List X
 | .x e=>(.x (jj k acc e).1,(jj k acc e).2)
 | .agg vs=>(.agg (dP k acc vs).1,(dP k acc vs).2)
 | .tup vs=>(.tup (dP k acc vs).1,(dP k acc vs).2)
 | .clo f vs=>(.clo f (dP k acc vs).1,(dP k acc vs).2)
 |v=>(v,acc)
def dP(k:Nat)(acc:List X):List SV→List SV×List X
 | []=>([],acc)
 |v::r=>((cw k acc v).1::(dP k (cw k acc v).2 r).1,(dP k (cw k acc v).2 r).2)
end
def lL(k:Nat):List X→List (Nat×SV)→List (Nat×SV)×List X
 |acc,[]=>([],acc)
 |acc,(i,v)::r=>((i,(cw k acc v).1)::(lL k (cw k acc v).2 r).1,(lL k (cw k acc v).2 r).2)
def gJ(k:Nat)(acc:List X):SO→SO×List X
 | .box vs=>(.box (dP k acc vs).1,(dP k acc vs).2)
 | .az e sz c=>(.az e sz (jj k acc c).1,(jj k acc c).2)
 | .map c=>(.map (jj k acc c).1,(jj k acc c).2)
 | .mpl e sz c=>(.mpl e sz (jj k acc c).1,(jj k acc c).2)
 | .raw q=>(.raw q,acc)
def nu(k:Nat):List X→List (Nat×SO)→List (Nat×SO)×List X
 |acc,[]=>([],acc)
 |acc,(i,o)::r=>((i,(gJ k acc o).1)::(nu k (gJ k acc o).2 r).1,(nu k (gJ k acc o).2 r).2)
def Sy.atom(Y:Sy):Sy×List X:=
 ({Y with s:=(lL Y.nv [] Y.s).1,h:=(nu Y.nv (lL Y.nv [] Y.s).2 Y.h).1,nv:=Y.nv+(nu Y.nv (lL Y.nv [] Y.s).2 Y.h).2.length},(nu Y.nv (lL Y.nv [] Y.s).2 Y.h).2)
def oA(a b:List X):Prop:= ∃s,b=a++s
theorem oA.refl(a:List X):oA a a:=⟨[],by simp⟩
theorem oA.trans{a b c:List X}(h:oA a b)(k:oA b c):oA a c:=by
 obtain⟨s,rfl⟩:=h;obtain⟨t,rfl⟩:=k;exact⟨s++t,by simp⟩
theorem ah4: ∀{l:List X} {e:X} {i k:Nat},KY l e i=some k→i≤k∧l[k-i]?=some e
 | [],_,_,_,h=>by cases h
 |a::r,e,i,k,h=>by
  simp only[KY]at h;split at h
  ·rename_i he;rw[←ba _ _ he]
   grind
  ·obtain⟨h1,h2⟩:=ah4 h
   grind
section
variable {G : FP} {E ds : List D} {ι γ : Nat → Tok}
theorem nV{k:Nat}{acc:List X}{e:X}:oA acc (s_ k acc e).2∧ ∀{fin:List X} {d:D},oA (s_ k acc e).2 fin→X.bm G E fin=some ds→E.length=k→X.ev G E e=some d→X.ev G (E++ds) (s_ k acc e).1=some d:=by
 have look: ∀{fin:List X} {d:D} {i:Nat} {e:X},fin[i]?=some e→X.bm G E fin=some ds→E.length=k→X.ev G E e=some d→X.ev G (E++ds) (.t (k+i))=some d:=fun{fin d i e} hf he hk hd=>by
  have hl:=cY he;have hi:=(Gz.1 hf).1;have h1:=Ez (show i<ds.length by omega);have h2:=fy he i _ _ hf h1;simp only[X.ev]
  grind
 unfold s_;split
 ·exact⟨oA.refl _,fun _ _ _ hd=>bx _ _ hd⟩
 ·split
  ·rename_i i hi;refine⟨oA.refl _,fun{fin d} hp he hk hd=> ?_⟩;obtain⟨s,rfl⟩:=hp;have:=(ah4 hi).2
   grind
  ·refine⟨⟨_,rfl⟩,fun{fin d} hp he hk hd=> ?_⟩;obtain⟨s,rfl⟩:=hp
   grind
theorem fD{k:Nat}{acc:List X}{e:X}:oA acc (jj k acc e).2∧ ∀{fin:List X} {d:D},oA (jj k acc e).2 fin→X.bm G E fin=some ds→E.length=k→X.ev G E e=some d→X.ev G (E++ds) (jj k acc e).1=some d:=by
 unfold jj;split
 ·exact⟨oA.refl _,fun _ _ _ hd=>bx _ _ hd⟩
 ·split
  ·rename_i j n e';refine⟨nV (G:=G) (E:=E) (ds:=ds).1,fun{fin d} hp he hk hd=> ?_⟩;obtain⟨xs,h1,h2⟩:=bc hd;obtain⟨d0,rfl,h3⟩:=jf h1;have:=nV (G:=G) (E:=E) (ds:=ds).2 hp he hk h3;simp only[X.ev,X.bm,this,Oz,Pz,h2]
  ·exact nV
theorem VR.hp{E':List D}{h h':List (Nat×SO)}{v:SV}{d:D}(H:VR G E ι h v d)(hE: ∀e d,X.ev G E e=some d→X.ev G E' e=some d)(hh: ∀n,Lk G E E' h h' n):VR G E' ι h' v d:=
 H.mono hE fun n _=>⟨rfl,hh n⟩
theorem sY{k:Nat}: ∀{acc:List X} {vs:List SV},(dP k acc vs).1.length=vs.length
 |_,[]=>rfl
 |acc,v::r=>by simp only[dP,List.length_cons,sY]
mutual
theorem vT{k:Nat}: ∀(acc:List X) (v:SV),oA acc (cw k acc v).2
 |acc, .x e=>by simp only[cw];exact(fD (G:=fun _ _=>none) (E:= []) (ds:= [])).1
 |acc, .agg vs=>by simp only[cw];exact gw acc vs
 |acc, .tup vs=>by simp only[cw];exact gw acc vs
 |acc, .clo f vs=>by simp only[cw];exact gw acc vs
 |acc, .un|acc, .ptr .. |acc, .gl .. |acc, .ep .. |acc, .gd .. |acc, .dp .. |acc, .gs .. |acc, .gc .. |acc, .gt .. |acc, .sb .. |acc, .rb .. |acc, .mp .. |acc, .yl .. =>by simp only[cw];exact oA.refl _
theorem gw{k:Nat}: ∀(acc:List X) (vs:List SV),oA acc (dP k acc vs).2
 |acc,[]=>by simp only[dP];exact oA.refl _
 |acc,v::r=>by simp only[dP];exact(vT acc v).trans (gw _ r)
end
mutual
theorem qF{k:Nat}{h h':List (Nat×SO)}{fin:List X}(he:X.bm G E fin=some ds)(hk:E.length=k)(hh: ∀n,Lk G E (E++ds) h h' n): ∀(acc:List X) (v:SV),oA (cw k acc v).2 fin→ ∀{d:D},VR G E ι h v d→VR G (E++ds) ι h' (cw k acc v).1 d
 |acc, .x e,hp,d,H=>by
  simp only[cw]at hp⊢;obtain⟨h1,h2⟩:=H.b7;exact .x (fD.2 hp he hk h1) h2
 |acc, .agg vs,hp,d,H=>by
  simp only[cw]at hp⊢;cases H with
  |agg hl h2=>obtain⟨k1,k2⟩:=fM he hk hh acc vs hp ⟨hl,h2⟩;exact .agg k1 k2
 |acc, .clo f vs,hp,d,H=>by
  simp only[cw]at hp⊢;cases H with
  |clo hl h2=>obtain⟨k1,k2⟩:=fM he hk hh acc vs hp ⟨hl,h2⟩;exact .clo k1 k2
 |acc, .tup vs,hp,d,H=>by
  simp only[cw]at hp⊢;cases H with
  |tup hl h2=>obtain⟨k1,k2⟩:=fM he hk hh acc vs hp ⟨hl,h2⟩;exact .tup k1 k2
 |acc, .un,hp,d,H=>by simp only[cw];exact .un
 |acc, .ptr ..,hp,d,H=>by simp only[cw];exact H.hp (fun _ _ h=>bx _ _ h) hh
 |acc, .dp ..,hp,d,H=>by simp only[cw];exact H.hp (fun _ _ h=>bx _ _ h) hh
 |acc, .gt ..,hp,d,H=>by simp only[cw];exact H.hp (fun _ _ h=>bx _ _ h) hh
 |acc, .gs ..,hp,d,H=>by simp only[cw];exact H.hp (fun _ _ h=>bx _ _ h) hh
 |acc, .gc ..,hp,d,H=>by simp only[cw];exact H.hp (fun _ _ h=>bx _ _ h) hh
 |acc, .sb ..,hp,d,H=>by simp only[cw];exact H.hp (fun _ _ h=>bx _ _ h) hh
 |acc, .rb ..,hp,d,H=>by simp only[cw];exact H.hp (fun _ _ h=>bx _ _ h) hh
 |acc, .mp ..,hp,d,H=>by simp only[cw];exact H.hp (fun _ _ h=>bx _ _ h) hh
 |acc, .yl ..,hp,d,H=>by simp only[cw];exact H.hp (fun _ _ h=>bx _ _ h) hh
 |acc, .gl ..,hp,d,H=>by simp only[cw];exact H.hp (fun _ _ h=>bx _ _ h) hh
 |acc, .ep ..,hp,d,H=>by simp only[cw];exact H.hp (fun _ _ h=>bx _ _ h) hh
 |acc, .gd ..,hp,d,H=>by simp only[cw];exact H.hp (fun _ _ h=>bx _ _ h) hh
theorem fM{k:Nat}{h h':List (Nat×SO)}{fin:List X}(he:X.bm G E fin=some ds)(hk:E.length=k)(hh: ∀n,Lk G E (E++ds) h h' n): ∀(acc:List X) (vs:List SV),oA (dP k acc vs).2 fin→ ∀{xs:List D},bA G E ι h vs xs→bA G (E++ds) ι h' (dP k acc vs).1 xs
 |acc,[],hp,xs,H=>by
  simp only[dP];have h0:xs= []:=List.eq_nil_of_length_eq_zero H.1.symm;subst h0;exact bA.nil
 |acc,v::r,hp,xs,H=>by
  simp only[dP]at hp⊢;obtain⟨d,xs',rfl,h1,h2⟩:=H.cons;exact bA.mk (qF he hk hh acc v ((gw _ r).trans hp) h1) (fM he hk hh _ r hp h2)
end
theorem sX{k:Nat}{n:Nat}: ∀{acc:List X} {l:List (Nat×SV)} {v:SV},find (lL k acc l).1 n=some v→ ∃gI v0,find l n=some v0∧v=(cw k gI v0).1∧oA (cw k gI v0).2 (lL k acc l).2
 |acc,[],v,h=>by simp[lL,find]at h
 |acc,(i,u)::r,v,h=>by
  have tail: ∀{acc:List X} {l:List (Nat×SV)},oA acc (lL k acc l).2:=fun{acc l}=>by
   induction l generalizing acc with
   |nil=>exact oA.refl _
   |cons p l ih=>exact(vT _ _).trans ih
  simp only[lL,find]at h⊢;cases hi:i==n with
  |true=>rw[hi]at h;simp only[cond_true,Jz]at h;exact⟨acc,u,rfl,h.symm,tail⟩
  |false=>rw[hi]at h;exact sX h
theorem E8{k:Nat}{acc:List X}{o:SO}:oA acc (gJ k acc o).2:=by
 cases o with
 |box vs=>exact gw acc vs
 |az e sz c=>exact(fD (G:=fun _ _=>none) (E:= []) (ds:= [])).1
 |map c=>exact(fD (G:=fun _ _=>none) (E:= []) (ds:= [])).1
 |mpl e sz c=>exact(fD (G:=fun _ _=>none) (E:= []) (ds:= [])).1
 |raw=>exact oA.refl _
theorem pO{k:Nat}: ∀{acc:List X} {l:List (Nat×SO)},oA acc (nu k acc l).2
 |acc,[]=>oA.refl _
 |acc,(i,o)::r=>E8.trans pO
theorem sW{k:Nat}{n:Nat}: ∀{acc:List X} {l:List (Nat×SO)},(find (nu k acc l).1 n=none∧find l n=none)∨ ∃gI o0,find l n=some o0∧find (nu k acc l).1 n=some (gJ k gI o0).1∧oA (gJ k gI o0).2 (nu k acc l).2
 |acc,[]=> .inl ⟨rfl,rfl⟩
 |acc,(i,o)::r=>by
  simp only[nu,find];cases hi:i==n with
  |true=>exact .inr ⟨acc,o,rfl,rfl,pO⟩
  |false=>exact sW
theorem Mt.atom{Ω:bM}{Y:Sy}{J:St}(M:Mt Ω G E ι γ Y J)(he:X.bm G E Y.atom.2=some ds):Mt Ω G (E++ds) ι γ Y.atom.1 J:=by
 have hk:=M.nv
 have VV: ∀n,(find Y.atom.1.h n=none∧find Y.h n=none)∨ ∃gI o0,find Y.h n=some o0∧find Y.atom.1.h n=some (gJ Y.nv gI o0).1∧oA (gJ Y.nv gI o0).2 Y.atom.2:=fun n=>
  sW (k:=Y.nv) (n:=n) (acc:=(lL Y.nv [] Y.s).2) (l:=Y.h)
 have exprs: ∀{gI:List X} {c:X},oA (jj Y.nv gI c).2 Y.atom.2→ ∀d,X.ev G E c=some d→X.ev G (E++ds) (jj Y.nv gI c).1=some d:=fun h3 d hd=>fD.2 h3 he hk hd
 have hh: ∀n,Lk G E (E++ds) Y.h Y.atom.1.h n:=fun n o ho=>by
  rcases VV n with⟨_,h2⟩|⟨gI,o0,h1,h2,h3⟩
  ·grind
  ·rw[ho]at h1;cases h1;refine⟨_,h2, ?_⟩;cases o with
   |box vs=>simp only[gJ,SO.cU,sY]
   |az e sz c=>exact⟨rfl,rfl,fun es hes=>⟨es,exprs h3 _ hes,rfl⟩⟩
   |map c=>trivial
   |mpl=>trivial
   |raw=>trivial
 have back: ∀n o,find Y.atom.1.h n=some o→ ∃gI o0,find Y.h n=some o0∧o=(gJ Y.nv gI o0).1∧oA (gJ Y.nv gI o0).2 Y.atom.2:=fun n o ho=>by
  grind
 have hl: ∀n e sz c,find Y.atom.1.h n=some (.az e sz c)→ ∃c0,find Y.h n=some (.az e sz c0)∧ ∀d,X.ev G E c0=some d→X.ev G (E++ds) c=some d:=fun n e sz c hf=>by
  obtain⟨gI,o0,h1,h2,h3⟩:=back n _ hf;cases o0<;>simp only[gJ,reduceCtorEq,SO.az.injEq]at h2;obtain⟨rfl,rfl,rfl⟩:=h2;exact⟨_,h1,exprs h3⟩
 refine⟨fun i v hv=> ?_,fun n vs hn=> ?_,fun n e sz c hn=> ?_,fun n c hn=> ?_,fun n e sz c hn=> ?_,fun a b _ _ _ _ _ _ h1 h2=> ?_,fun n kk hn=> ?_,fun a b o o' h1 h2=> ?_,fun a b e e' sz sz' c c' h1 h2=> ?_,M.wf,fun n e sz c hn=> ?_, ?_,M.con⟩
 ·obtain⟨gI,v0,h1,rfl,h3⟩:=sX hv;exact qF he hk hh gI v0 (h3.trans pO) (M.slot i v0 h1)
 ·obtain⟨gI,o0,h1,h2,h3⟩:=back n _ hn;cases o0<;>simp only[gJ,reduceCtorEq,SO.box.injEq]at h2;subst h2;obtain⟨xs,k1,k2,k3⟩:=M.box n _ h1;exact⟨xs,k1,k2,fM he hk hh gI _ h3 k3⟩
 ·obtain⟨c0,h1,h2⟩:=hl n e sz c hn;obtain⟨es,k1,k2⟩:=M.az n e sz c0 h1
  grind
 ·obtain⟨gI,o0,h1,h2,h3⟩:=back n _ hn;cases o0<;>simp only[gJ,reduceCtorEq,SO.map.injEq]at h2;subst h2;obtain⟨es,k1,k2,k3⟩:=M.mpo n _ h1;exact⟨es,exprs h3 _ k1,k2,k3⟩
 ·obtain⟨gI,o0,h1,h2,h3⟩:=back n _ hn;cases o0<;>simp only[gJ,reduceCtorEq,SO.mpl.injEq]at h2;obtain⟨rfl,rfl,rfl⟩:=h2;obtain⟨L,k1,k2,k3,k4⟩:=M.own n _ _ _ h1;refine⟨L,exprs h3 _ k1,k2,k3,fun q hq=>(k4.1 q hq).lj rfl (fun k o hk=> ?_) (fun k e sz c hk=> ?_) fun _=>Nat.le_refl _,k4.2⟩
  ·obtain⟨_,o1,g1,_⟩:=back k o hk
   grind
  ·obtain⟨c0,g1,_⟩:=hl k e sz c hk;exact(k4.1 q hq).2.2.2.2.1 k e sz c0 g1
 ·have mp: ∀{n e sz c},find Y.atom.1.h n=some (.mpl e sz c)→ ∃c0,find Y.h n=some (.mpl e sz c0):=fun{n e sz c} h=>by
   obtain⟨gI,o0,h1,h2,h3⟩:=back n _ h;cases o0<;>simp only[gJ,reduceCtorEq,SO.mpl.injEq]at h2;obtain⟨rfl,rfl,rfl⟩:=h2;exact⟨_,h1⟩
  obtain⟨_,g1⟩:=mp h1;obtain⟨_,g2⟩:=mp h2;exact M.one a b _ _ _ _ _ _ g1 g2
 ·obtain⟨gI,o0,h1,h2,h3⟩:=back n _ hn;cases o0<;>simp only[gJ,reduceCtorEq,SO.raw.injEq]at h2;subst h2;exact M.rwo n _ h1
 ·obtain⟨_,o1,g1,_⟩:=back a o h1;obtain⟨_,o2,g2,_⟩:=back b o' h2;exact M.inj a b o1 o2 g1 g2
 ·obtain⟨c0,g1,_⟩:=hl a e sz c h1;obtain⟨c1,g2,_⟩:=hl b e' sz' c' h2;exact M.gV a b e e' sz sz' c0 c1 g1 g2
 ·obtain⟨c0,g1,_⟩:=hl n e sz c hn;exact M.old n e sz c0 g1
 ·rw[List.length_append,cY he,hk];rfl
end
mutual
def yD(e:X):X→Bool
 | .mk k xs=>eJ e (.mk k xs)||Bn e xs
 | .ite c a b=>eJ e (.ite c a b)||yD e c
 |x=>eJ e x
def Bn(e:X):List X→Bool
 | []=>false
 |x::r=>yD e x||Bn e r
end
def Ue(e x:X):Bool:=yD e x||match e,x with
 | .ite (.mk (.gv w) [c']) e' (.q _), .ite c a b=>eJ c' c&&yD e' (bif w then a else b)
 | .mk (.gv _) [c'], .ite c _ _=>eJ c' c
 |_,_=>false
def prune(es:List X):List X→List X
 | []=> []
 |e::r=>if(es++prune es r).any (Ue e)then prune es r else e::prune es r
section
variable {G : FP} {E : List D}
mutual
theorem i_{e:X}: ∀(x:X),yD e x=true→(∃d,X.ev G E x=some d)→ ∃d,X.ev G E e=some d
 | .t i,h,k=>by simp only[yD]at h;rw[ba _ _ h];exact k
 | .q i,h,k=>by simp only[yD]at h;rw[ba _ _ h];exact k
 | .mk kk xs,h,k=>by
  simp only[yD,Bool.or_eq_true]at h;rcases h with h|h
  ·rw[ba _ _ h];exact k
  ·obtain⟨d,hd⟩:=k;obtain⟨ds,h1,_⟩:=bc hd;exact rm xs h ⟨ds,h1⟩
 | .ite c a b,h,k=>by
  simp only[yD,Bool.or_eq_true]at h;rcases h with h|h
  ·rw[ba _ _ h];exact k
  ·obtain⟨d,hd⟩:=k;simp only[X.ev,Bz]at hd;obtain⟨v,h1,_⟩:=hd;exact i_ c h ⟨v,h1⟩
theorem rm{e:X}: ∀(xs:List X),Bn e xs=true→(∃ds,X.bm G E xs=some ds)→ ∃d,X.ev G E e=some d
 | [],h,_=>by simp[Bn]at h
 |x::r,h,k=>by
  simp only[Bn,Bool.or_eq_true]at h;obtain⟨ds,hd⟩:=k;simp only[X.bm,Bz,Mz]at hd;obtain⟨d,h1,ds',h2,_⟩:=hd;rcases h with h|h
  ·exact i_ x h ⟨d,h1⟩
  ·exact rm r h ⟨ds',h2⟩
end
theorem C8{e x:X}(h:Ue e x=true)(k: ∃d,X.ev G E x=some d): ∃d,X.ev G E e=some d:=by
 unfold Ue at h;rw[Bool.or_eq_true]at h;rcases h with h|h
 ·exact i_ x h k
 ·split at h
  ·rename_i w c' e' q c a b;rw[Az]at h;obtain⟨h1,h2⟩:=h;obtain rfl:=ba _ _ h1;obtain⟨d,hd⟩:=k;simp only[X.ev,Bz]at hd;obtain⟨v,g1,y,g2,g3⟩:=hd
   have hv:v= .v (.bool y):=by
    cases v<;>simp only[D.asBool]at g2<;>try (cases g2;done)
    grind
   subst hv;simp only[X.ev,X.bm,g1,Oz,Pz,XK.run,bv,D.asBool];cases w<;>cases y<;>simp only[show(false==false)=true from rfl,show(false==true)=false from rfl,show(true==false)=false from rfl,show(true==true)=true from rfl,cond_true,cond_false]at h2 g3⊢
   ·exact i_ _ h2 ⟨d,g3⟩
   ·grind
   ·grind
   ·exact i_ _ h2 ⟨d,g3⟩
  ·rename_i w c' c a b;obtain rfl:=ba _ _ h;obtain⟨d,hd⟩:=k;simp only[X.ev,Bz]at hd;obtain⟨v,g1,y,g2,g3⟩:=hd
   have hv:v= .v (.bool y):=by
    cases v<;>simp only[D.asBool]at g2<;>try (cases g2;done)
    grind
   subst hv;exact⟨_,by simp only[X.ev,X.bm,g1,Oz,Pz,XK.run];rfl⟩
  ·cases h
theorem mz{es:List X}(he: ∀e∈es,∃d,X.ev G E e=some d): ∀{O:List X},(∀e∈prune es O,∃d,X.ev G E e=some d)→ ∀e∈O,∃d,X.ev G E e=some d
 | [],_,e,h=>by cases h
 |a::r,hO,e,h=>by
  simp only[prune]at hO;split at hO
  ·rename_i hs;have ih:=mz he hO;rcases List.mem_cons.1 h with rfl|h
   ·obtain⟨x,hx,hsx⟩:=List.any_eq_true.1 hs;refine C8 hsx ?_
    grind
   ·grind
  ·have ih:=mz he (O:=r) fun x hx=>hO x (Cz _ hx);rcases List.mem_cons.1 h with rfl|h
   ·exact hO _ (List.mem_cons_self ..)
   ·grind
theorem so{xs:List X}{ds:List D}(h:X.bm G E xs=some ds): ∀e∈xs,∃d,X.ev G E e=some d:=fun e he=>by
 obtain⟨i,hi⟩:=List.getElem?_of_mem he;have hl:=cY h;have:=(Gz.1 hi).1;have hd:=Ez (show i<ds.length by omega);exact⟨_,fy h i e _ hi hd⟩
end
end
section
inductive zr where
 |drop
 |same (v:SV)
 |var
 |az (e sz:Nat)
 deriving Inhabited
abbrev Row:=List (Nat×zr)
def eC:Nat→Row→List SV
 |_,[]=> []
 |k,(_, .drop)::r=> .un::eC k r
 |k,(_, .same v)::r=>v::eC k r
 |k,(_, .var)::r=> .x (.t k)::eC (k+1) r
 |k,(nm, .az _ sz)::r=> .gl nm sz::eC (k+1) r
def bP:Nat→Row→List (Nat×SO)
 |_,[]=> []
 |k,(_, .drop)::r=>bP k r
 |k,(_, .same _)::r=>bP k r
 |k,(_, .var)::r=>bP (k+1) r
 |k,(nm, .az e sz)::r=>(nm, .az e sz (.t k))::bP (k+1) r
abbrev Ren:=List (Nat×Option Nat)
def mR(h:List (Nat×SO))(nm:Nat):zr→SV→Option (List X×Ren)
 | .drop,_=>some ([],[])
 | .same v',v=>if eO v' v then some ([],[])else none
 | .var,v=>v.oB.map fun x=>([x],[])
 | .az e sz, .gl n sz'=>match find h n with
  |some (.az e' Z8 c)=>if e'=e∧sz'=sz∧Z8=sz then some ([c],[(nm,some n)])else none
  |_=>none
 | .az _ _, .x (.q .nil)=>some ([.q (.list [])],[(nm,none)])
 | .az _ _,_=>none
def gp(h:List (Nat×SO)):Row→List SV→Option (List X×Ren)
 | [],[]=>some ([],[])
 |(nm,p)::r,v::vs=>(mR h nm p v).bind fun a=>(gp h r vs).map fun b=>(a.1++b.1,a.2++b.2)
 |_,_=>none
inductive Sk where
 |box (l:Nat)
 |az (e sz:Nat)
 |map
 |mpl (e sz:Nat)
 |raw (k:RS)
 deriving DecidableEq,Inhabited
def Sk.len:Sk→Nat
 | .box l=>l
 | .az .. | .map| .mpl .. =>1
 | .raw _=>0
def SO.sk:SO→Sk
 | .box vs=> .box vs.length
 | .az e sz _=> .az e sz
 | .map _=> .map
 | .mpl e sz _=> .mpl e sz
 | .raw k=> .raw k
def SO.cells:SO→List SV
 | .box vs=>vs
 | .az _ _ c| .map c| .mpl _ _ c=> [.x c]
 | .raw _=> []
def Sk.TF:Sk→List SV→Option SO
 | .box l,vs=>if vs.length=l then some (.box vs)else none
 | .az e sz,[.x c]=>some (.az e sz c)
 | .map,[.x c]=>some (.map c)
 | .mpl e sz,[.x c]=>some (.mpl e sz c)
 | .raw k,[]=>some (.raw k)
 |_,_=>none
structure Hd where
 ids:List Nat
 ts:List (Nat×Nat)
 os:List (Nat×Sk)
 row:Row
def Hd.ns(hd:Hd):List Nat:=hd.os.map (·.1)
def sr(Y:Sy):List Nat→List SV
 | []=> []
 |i::r=>(find Y.s i).getD .un::sr Y r
def oY(Y:Sy):List (Nat×Nat)→Option (List SV)
 | []=>some []
 |(i,l)::r=>match find Y.s i with
  |some (.tup vs)=>if vs.length=l then(oY Y r).map fun b=>vs++b else none
  |_=>none
def oX(Y:Sy):List (Nat×Sk)→Option (List SV)
 | []=>some []
 |(n,k)::r=>(find Y.h n).bind fun o=>if o.sk=k then(oX Y r).map fun b=>o.cells++b else none
def MZ:List Nat→List SV→List (Nat×SV)
 |i::r,v::s=>(i,v)::MZ r s
 |_,_=> []
def Dw:List (Nat×Nat)→List SV→List (Nat×SV)
 | [],_=> []
 |(i,l)::r,s=>(i, .tup (s.take l))::Dw r (s.drop l)
def JI:List (Nat×Sk)→List SV→Option (List (Nat×SO))
 | [],_=>some []
 |(n,k)::r,s=>(k.TF (s.take k.len)).bind fun o=>(JI r (s.drop k.len)).map fun l=>(n,o)::l
def wH:List Nat→Bool
 | []=>true
 |a::r=> !r.contains a&&wH r
mutual
def cN(k:Nat)(ns:List Nat):SV→Bool
 | .un=>true
 | .x e=>e.lt k
 | .ptr n _| .gl n _| .sb n _ _| .rb n _| .mp n| .yl n=>ns.contains n
 | .dp n _ _ _ i _=>ns.contains n&&i.lt k
 | .gs n _ q=>ns.contains n&&q.lt k
 | .gc n _ q=>ns.contains n&&q.lt k
 | .gt n _ q=>ns.contains n&&q.lt k
 | .ep n _ i _=>ns.contains n&&i.lt k
 | .agg vs| .tup vs=>mU k ns vs
 | .clo _ vs=>mU k ns vs
 | .gd g v=>g.lt k&&cN k ns v
def mU(k:Nat)(ns:List Nat):List SV→Bool
 | []=>true
 |v::r=>cN k ns v&&mU k ns r
end
theorem jv{k:Nat}{bs:List Nat}: ∀{vs:List SV} {i:Nat} {v:SV},mU k bs vs=true→vs[i]?=some v→cN k bs v=true
 |u::r,0,v,h,hv=>by simp only[mU,Az]at h;simp at hv;subst hv;exact h.1
 |u::r,i+1,v,h,hv=>by simp only[mU,Az]at h;exact jv h.2 (by simpa using hv)
def AR:List (Nat×Nat)→Nat
 | []=>0
 |(_,l)::r=>l+AR r
def LA:List (Nat×Sk)→Nat
 | []=>0
 |(_,k)::r=>k.len+LA r
def Hd.cT(hd:Hd)(k:Nat):List SV:=(eC k hd.row).drop hd.ids.length
def Hd.cO(hd:Hd)(k:Nat):List SV:=(hd.cT k).drop (AR hd.ts)
def Hd.ok(hd:Hd)(k:Nat):Bool:=
 hd.row.all (fun p=>match p.2 with
  | .same v=>cN k hd.ns v
  |_=>true)&&wH (hd.row.map (·.1))&&hd.row.all (fun p=> !hd.ns.contains p.1)&&hd.row.length==hd.ids.length+(AR hd.ts+LA hd.os)&&wH hd.ns&&(JI hd.os (hd.cO k)).isSome
def Hd.mt(hd:Hd)(Y:Sy):Option (List X×Ren):=if Y.pd.isNone then(oY Y hd.ts).bind fun t=>(oX Y hd.os).bind fun b=>(gp Y.h hd.row (sr Y hd.ids++(t++b))).bind fun q=>if wH (q.2.filterMap (·.2)++hd.ns)then some q else none else none
def Hd.mk'(hd:Hd)(k m d nx:Nat):Sy:=
 {s:=MZ hd.ids ((eC k hd.row).take hd.ids.length)++Dw hd.ts (hd.cT k),h:=(JI hd.os (hd.cO k)).getD []++bP k hd.row,nv:=k+m,d:=d,nx:=nx,pd:=none}
theorem eQ{α:Type}: ∀(a b:List (Nat×α)) (n:Nat),find (a++b) n=(find a n).or (find b n)
 | [],_,_=>rfl
 |(i,v)::r,b,n=>by
  simp only[List.cons_append,find,eQ r b n]
  grind
theorem kG: ∀{k:Nat} {r:Row},(eC k r).length=r.length
 |_,[]=>rfl
 |_,(_, .drop)::r=>by simp[eC,kG]
 |_,(_, .same _)::r=>by simp[eC,kG]
 |_,(_, .var)::r=>by simp[eC,kG]
 |_,(_, .az ..)::r=>by simp[eC,kG]
section
variable {Ω : bM} {G : FP} {E E2 : List D} {ι ι2 γ γ2 : Nat → Tok} {Y : Sy} {J : St} {h2 : List (Nat × SO)}
def Kp(G:FP)(E E2:List D)(ι ι2:Nat→Tok)(h h2:List (Nat×SO))(ns:List Nat):Prop:= ∀n,ns.contains n=true→ι2 n=ι n∧Lk G E E2 h h2 n
theorem ym{k:Nat}{ns:List Nat}{v:SV}{d:D}(H:VR G E ι Y.h v d)(ho:cN k ns v=true)(hE: ∀i,i<k→E[i]?=E2[i]?)(hb:Kp G E E2 ι ι2 Y.h h2 ns):VR G E2 ι2 h2 v d:=by
 have ex: ∀{e:X} {d:D},e.lt k=true→X.ev G E e=some d→X.ev G E2 e=some d:=fun he h=>by rw[←wa hE _ he];exact h
 induction H with
 |un=>exact .un
 |x h1 h2=>simp only[cN]at ho;exact .x (ex ho h1) h2
 |agg hl hh ih=>
  exact .agg hl fun i v d hv hd=>ih i v d hv hd (jv ho hv)
 |tup hl hh ih=>
  exact .tup hl fun i v d hv hd=>ih i v d hv hd (jv ho hv)
 |clo hl hh ih=>
  exact .clo hl fun i v d hv hd=>ih i v d hv hd (jv ho hv)
 | @ptr n o vs hf=>
  obtain⟨h1,L⟩:=hb n ho;obtain⟨vs',h3,_⟩:=L.box hf;rw[←h1];exact .ptr h3
 | @dp n o cnt s j i vs k z hf hv h0 hz hl=>
  simp only[cN,Az]at ho;obtain⟨h1,L⟩:=hb n ho.1;obtain⟨vs',h3,h4⟩:=L.box hf;rw[←h1];exact .dp h3 (ex ho.2 hv) h0 hz (by rw[h4];exact hl)
 | @gln n sz e c hf hi=>
  obtain⟨h1,L⟩:=hb n ho;obtain⟨c',h3,_⟩:=L.az hf;exact .gln h3 (h1.trans hi)
 | @gl n sz e c es hf hc hi=>
  obtain⟨h1,L⟩:=hb n ho;obtain⟨c',h3,h4⟩:=L.az hf;obtain⟨es',h5,h6⟩:=h4 _ hc;rw[←h1,←h6];exact .gl h3 h5 (by rw[h1];exact hi)
 | @gsn n sz e c k q hf hi hk=>
  simp only[cN,Az]at ho;obtain⟨h1,L⟩:=hb n ho.1;obtain⟨c',h3,_⟩:=L.az hf;exact .gsn h3 (h1.trans hi) (ex ho.2 hk)
 | @gs n sz e c k es q z hf hc hi hk h0 hz=>
  simp only[cN,Az]at ho;obtain⟨h1,L⟩:=hb n ho.1;obtain⟨c',h3,h4⟩:=L.az hf;obtain⟨es',h5,h6⟩:=h4 _ hc;rw[←h1];exact .gs h3 h5 (by rw[h1];exact hi) (ex ho.2 hk) h0 (by rw[h6];exact hz)
 | @gcn n sz e c k q hf hi hk=>
  simp only[cN,Az]at ho;obtain⟨h1,L⟩:=hb n ho.1;obtain⟨c',h3,_⟩:=L.az hf;exact .gcn h3 (h1.trans hi) (ex ho.2 hk)
 | @gc n sz e c k es q z m hf hc hi hk h0 hz=>
  simp only[cN,Az]at ho;obtain⟨h1,L⟩:=hb n ho.1;obtain⟨c',h3,h4⟩:=L.az hf;obtain⟨es',h5,h6⟩:=h4 _ hc;rw[←h1];exact .gc h3 h5 (by rw[h1];exact hi) (ex ho.2 hk) h0 (by rw[h6];exact hz)
 | @gtn n sz e c k q hf hi hk=>
  simp only[cN,Az]at ho;obtain⟨h1,L⟩:=hb n ho.1;obtain⟨c',h3,_⟩:=L.az hf;exact .gtn h3 (h1.trans hi) (ex ho.2 hk)
 | @gt n sz e c k es q z hf hc hi hk h0 hz=>
  simp only[cN,Az]at ho;obtain⟨h1,L⟩:=hb n ho.1;obtain⟨c',h3,h4⟩:=L.az hf;obtain⟨es',h5,h6⟩:=h4 _ hc;rw[←h1,←h6];exact .gt h3 h5 (by rw[h1];exact hi) (ex ho.2 hk) h0 (by rw[h6];exact hz)
 | @ep n sz e j c i k z es hf hc hi hv h0 hz=>
  simp only[cN,Az]at ho;obtain⟨h1,L⟩:=hb n ho.1;obtain⟨c',h3,h4⟩:=L.az hf;obtain⟨es',h5,h6⟩:=h4 _ hc;rw[←h1];exact .ep h3 h5 (by rw[h1];exact hi) (ex ho.2 hv) h0 (by rw[h6];exact hz)
 | @sb n o len lim vs hf hl=>
  obtain⟨h1,L⟩:=hb n ho;obtain⟨vs',h3,h4⟩:=L.box hf;rw[←h1];exact .sb h3 (by rw[h4];exact hl)
 | @rb n o vs hf hl=>
  obtain⟨h1,L⟩:=hb n ho;obtain⟨vs',h3,h4⟩:=L.box hf;rw[←h1];exact .rb h3 (by rw[h4];exact hl)
 | @mp n o hf hmp=>
  obtain⟨h1,L⟩:=hb n ho;obtain⟨o',h3,h4⟩:=L.map hf hmp;rw[←h1];exact .mp h3 h4
 | @yl n k hf=>
  obtain⟨h1,L⟩:=hb n ho;obtain⟨k',h3⟩:=L.raw hf;rw[←h1];exact .yl h3
 |gd hg h1 h2 ih=>
  simp only[cN,Az]at ho;exact .gd (ex ho.1 hg) (fun e=>ih e ho.2) h2
def Ren.at(ι:Nat→Tok):Option Nat→Tok
 |some n=>ι n
 |none=> []
theorem wS(M:Mt Ω G E ι γ Y J){k0:Nat}{bs:List Nat}(hE: ∀i,i<k0→E[i]?=E2[i]?)(hb:Kp G E E2 ι ι2 Y.h h2 bs):
  ∀{r:Row} {q:Nat} {vs:List SV} {dt ds:List D} {xs:List X} {rn:Ren},bA G E ι Y.h vs dt→gp Y.h r vs=some (xs,rn)→X.bm G E xs=some ds→(∀j,j<ds.length→E2[q+j]?=ds[j]?)→
   (∀p∈r,(match p.2 with| .same v=>cN k0 bs v|_=>true)=true)→(∀p∈bP q r,find h2 p.1=some p.2)→(∀p∈rn,ι2 p.1=Ren.at ι p.2)→
   bA G E2 ι2 h2 (eC q r) dt∧
   ∀p∈bP q r,∃nm e sz i,p=(nm,SO.az e sz (.t i))∧(((nm,none)∈rn∧E2[i]?=some (.list []))∨ ∃n c d,(nm,some n)∈rn∧find Y.h n=some (.az e sz c)∧E2[i]?=some d∧X.ev G E c=some d)
 | [],q,vs,dt,ds,xs,rn,hv,hm,_,_,_,_,_=>by
  cases vs with
  |cons=>simp[gp]at hm
  |nil=>
   have h0:dt= []:=List.eq_nil_of_length_eq_zero hv.1.symm;subst h0;exact⟨bA.nil,fun p hp=>by simp[bP]at hp⟩
 |(nm,p)::r,q,vs,dt,ds,xs,rn,hv,hm,he,hq,hok,hL,hI=>by
  cases vs with
  |nil=>simp[gp]at hm
  |cons v vs=>
   simp only[gp,Bz,Mz]at hm;obtain⟨⟨xs1,T'⟩,h1,⟨xs2,T_⟩,h3,h4⟩:=hm;cases h4;simp only[]at he hI;obtain⟨d,dt',rfl,H,K⟩:=hv.cons
   have Cu: ∃ds1 ds2,ds=ds1++ds2∧X.bm G E xs1=some ds1∧X.bm G E xs2=some ds2:=by
    have hl:=cY he;refine⟨ds.take xs1.length,ds.drop xs1.length,(List.take_append_drop ..).symm, ?_, ?_⟩
    ·refine tv (by simp at hl⊢;omega) fun i x dd hx hd=> ?_;have hi:=(Gz.1 hx).1;rw[List.getElem?_take_of_lt hi]at hd;exact fy he i x dd (by rw[Yz hi];exact hx) hd
    ·refine tv (by simp at hl⊢;omega) fun i x dd hx hd=> ?_;rw[List.getElem?_drop]at hd;exact fy he (xs1.length+i) x dd (by rw[Xz (by omega)];simpa using hx) hd
   obtain⟨ds1,ds2,rfl,e1,e2⟩:=Cu;have hI1:=fun p hp=>hI p (List.mem_append_left _ hp);have hI2:=fun p hp=>hI p (List.mem_append_right _ hp);have yb: ∀p∈r,(match p.2 with| .same v=>cN k0 bs v|_=>true)=true:=fun p hp=>hok p (Cz _ hp);have rest: ∀{q':Nat},(∀j,j<ds2.length→E2[q'+j]?=ds2[j]?)→(∀p∈bP q' r,find h2 p.1=some p.2)→_:=fun{q'} g1 g2=>wS M hE hb K h3 e2 g1 yb g2 hI2
   have BG: ∀{q':Nat},(∀p∈bP q' r,∃nm e sz i,p=(nm,SO.az e sz (.t i))∧(((nm,none)∈T_∧E2[i]?=some (.list []))∨ ∃n c d,(nm,some n)∈T_∧find Y.h n=some (.az e sz c)∧E2[i]?=some d∧X.ev G E c=some d))→
     ∀p∈bP q' r,∃nm e sz i,p=(nm,SO.az e sz (.t i))∧(((nm,none)∈T'++T_∧E2[i]?=some (.list []))∨ ∃n c d,(nm,some n)∈T'++T_∧find Y.h n=some (.az e sz c)∧E2[i]?=some d∧X.ev G E c=some d):=fun{q'} hh p hp=>by
    obtain⟨nm',e',sz',i',rfl,hc⟩:=hh p hp;refine⟨nm',e',sz',i',rfl, ?_⟩;rcases hc with⟨a1,a2⟩|⟨n,c,d,a1,a2⟩
    ·exact .inl ⟨List.mem_append_right _ a1,a2⟩
    ·exact .inr ⟨n,c,d,List.mem_append_right _ a1,a2⟩
   cases p with
   |drop=>
    simp only[mR]at h1;cases h1;cases e1;obtain⟨g1,g2⟩:=rest (q':=q) (fun j hj=>by simpa using hq j (by simpa using hj)) (by simpa only[bP]using hL);exact⟨bA.mk .un g1,by simpa only[bP]using BG g2⟩
   |same v'=>
    simp only[mR]at h1;split at h1<;>cases h1;rename_i hbe;obtain rfl:=lX _ _ hbe;cases e1;obtain⟨g1,g2⟩:=rest (q':=q) (fun j hj=>by simpa using hq j (by simpa using hj)) (by simpa only[bP]using hL);exact⟨bA.mk (ym H (hok _ (List.mem_cons_self ..)) hE hb) g1,by simpa only[bP]using BG g2⟩
   |var=>
    simp only[mR]at h1;obtain⟨x,hx,h5⟩:=Mz.1 h1;cases h5;obtain⟨dx,rfl,hdx⟩:=jf e1;obtain rfl:=b8 H hx hdx;obtain⟨g1,g2⟩:=rest (q':=q+1) (fun j hj=>by have:=hq (j+1) (by simpa using hj);simpa[Nat.add_assoc,Nat.add_comm 1 j]using this) (by simpa only[bP]using hL);refine⟨bA.mk (.x ?_ (xn H hx hdx)) g1,by simpa only[bP]using BG g2⟩;have:=hq 0 (by simp);simpa[X.ev]using this
   |az e sz=>
    have hLs:=hL (nm, .az e sz (.t q)) (by simp[bP]);have hLr:=fun p hp=>hL p (by simp only[bP];exact Cz _ hp);cases v
    case gl n sz'=>
     simp only[mR]at h1;split at h1
     ·rename_i e' Z8 c hf;split at h1<;>cases h1;rename_i hc;obtain⟨rfl,rfl,rfl⟩:=hc;obtain⟨dx,rfl,hdx⟩:=jf e1;have hq0:E2[q]?=some dx:=by have:=hq 0 (by simp);simpa using this
      have hi:=hI1 (nm,some n) (by simp);obtain⟨es,k1,k2,k3⟩:=M.az _ _ _ _ hf;rw[hdx]at k1;cases k1;obtain⟨g1,g2⟩:=rest (q':=q+1) (fun j hj=>by have:=hq (j+1) (by simpa using hj);simpa[Nat.add_assoc,Nat.add_comm 1 j]using this) hLr;refine⟨bA.mk ?_ g1,fun p hp=> ?_⟩
      ·cases H with
       |gln a1 a2=>exact .gln hLs (hi.trans a2)
       |gl a1 a2 a3=>
        rw[hf]at a1;cases a1;rw[hdx]at a2;cases a2;have:=VR.gl (G:=G) (E:=E2) (ι:=ι2) hLs (es:=es) (by simpa[X.ev]using hq0) (by rw[hi];exact a3);rw[hi]at this;exact this
      ·simp only[bP,List.mem_cons]at hp;rcases hp with rfl|hp
       ·exact⟨nm,_,_,q,rfl, .inr ⟨n,c,_,by simp,hf,hq0,hdx⟩⟩
       ·exact BG g2 p hp
     ·cases h1
    case x ex=>
     cases ex
     case q dq=>
      cases dq
      case nil=>
       simp only[mR]at h1;cases h1;obtain⟨dx,rfl,hdx⟩:=jf e1;cases hdx;have hq0:E2[q]?=some (.list []):=by have:=hq 0 (by simp);simpa using this
       have hi:=hI1 (nm,none) (by simp);obtain⟨g1,g2⟩:=rest (q':=q+1) (fun j hj=>by have:=hq (j+1) (by simpa using hj);simpa[Nat.add_assoc,Nat.add_comm 1 j]using this) hLr;refine⟨bA.mk ?_ g1,fun p hp=> ?_⟩
       ·obtain⟨a1,_⟩:=H.b7;cases a1;exact .gln hLs hi
       ·simp only[bP,List.mem_cons]at hp;rcases hp with rfl|hp
        ·exact⟨nm,_,_,q,rfl, .inl ⟨by simp,hq0⟩⟩
        ·exact BG g2 p hp
      all_goals (simp[mR]at h1;done)
     all_goals (simp[mR]at h1;done)
    all_goals (simp[mR]at h1;done)
end
end
end Go.Proofs.YtkcfpgaepmllhaaGreatDoor
