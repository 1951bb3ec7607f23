/- Part of the proof: symbolic execution of the program, its soundness, and the closing lemmas. No condition. -/
import Derived.WalkKit
import Derived.WalkSpells
import Derived.WalkLawsBesides
import Derived.ChangeKeysEq
import Derived.Great.BuildSlice
import Derived.Maps.RangeRun
import Derived.WideKeyRuns
namespace Go.Proofs.YtkcfpgaepmllhaaGreatDoor
open Go.RowKit
set_option maxRecDepth 100000
set_option linter.all false
theorem Bz {α β : Type _} {b : β} {o : Option α} {f : α → Option β} : o.bind f = some b ↔ ∃ a, o = some a ∧ f a = some b := Option.bind_eq_some_iff
theorem Mz {α β : Type _} {b : β} {o : Option α} {f : α → β} : o.map f = some b ↔ ∃ a, o = some a ∧ f a = b := Option.map_eq_some_iff
theorem Gz {α : Type _} {i : Nat} {a : α} {l : List α} : l[i]? = some a ↔ ∃ h : i < l.length, l[i] = a := List.getElem?_eq_some_iff
theorem Oz {α β : Type _} (a : α) (f : α → Option β) : (some a).bind f = f a := Option.bind_some a f
theorem Ez {α : Type _} {l : List α} {i : Nat} (h : i < l.length) : l[i]? = some l[i] := List.getElem?_eq_getElem h
theorem Lz {α : Type _} {l : List α} {i : Nat} {a : α} (e : l[i]? = some a) : a ∈ l := List.mem_of_getElem? e
theorem Jz {α : Type _} (a b : α) : (some a = some b) = (a = b) := Option.some.injEq a b
theorem Az (a b : Bool) : ((a && b) = true) = (a = true ∧ b = true) := Bool.and_eq_true a b
theorem Pz {α β : Type _} (a : α) (f : α → β) : (some a).map f = some (f a) := Option.map_some a f
theorem Tz {α : Type _} {p : α → Bool} {l : List α} : l.all p = true ↔ ∀ x, x ∈ l → p x = true := List.all_eq_true
theorem Rz {α : Type _} {xs : Array α} {i : Nat} (h : i < xs.size) : xs[i]? = some xs[i] := Array.getElem?_eq_getElem h
theorem Yz {α : Type _} {l r : List α} {i : Nat} (h : i < l.length) : (l ++ r)[i]? = l[i]? := List.getElem?_append_left h
theorem Xz {α : Type _} {l r : List α} {i : Nat} (h : l.length ≤ i) : (l ++ r)[i]? = r[i - l.length]? := List.getElem?_append_right h
theorem Cz {α : Type _} (y : α) {a : α} {l : List α} (h : a ∈ l) : a ∈ y :: l := List.mem_cons_of_mem y h
theorem Dz {α β : Type _} {f : α → β} {l : List α} {i : Nat} : (l.map f)[i]? = (l[i]?).map f := List.getElem?_map
section
abbrev Tok:=List Nat
inductive D where
 |undef
 |v (x:Value)
 |nil
 |mt
 |list (es:List (List D))
 |agg (xs:List D)
 |tup (xs:List D)
 |lptr (xs:List D)
 |clo (f:Nat) (eM:List D)
 |sl (t:Tok) (size off len:Nat) (lim:Option Nat)
 |ptr (t:Tok) (off:Nat)
 |rptr (t:Tok) (size i j:Nat)
 |mp (t:Tok)
 |nilmap
 |fm (rows:List (List D))
 deriving Inhabited
def ao(es:List (D×D)):List (List D):=es.map fun p=> [p.1,p.2]
def ax:List (List D)→Option (List (D×D))
 | []=>some []
 | [a,b]::r=>(ax r).map ((a,b):: ·)
 |_=>none
theorem aH: ∀(es:List (D×D)),ax (ao es)=some es
 | []=>rfl
 |(a,b)::r=>by simp only[ao,List.map_cons,ax];rw[show ax (List.map (fun p=> [p.1,p.2]) r)=some r from aH r];rfl
inductive HO where
 |box (xs:List D)
 |row (g:Tok) (e:Nat) (es:List (List D))
 |map (es:List (D×D))
 |iter (t:Tok) (n:Nat) (seen:List Nat)
 |raw (o:Obj)
instance:Inhabited HO:=⟨.box []⟩
def HO.gZ:HO→Option Tok
 | .row g _ _=>some g
 |_=>none
abbrev Mem:=Tok→Option HO
structure St where
 s:Nat→D
 m:Mem
 c:Nat→Nat
def St.set(J:St)(i:Nat)(d:D):St:=⟨fun j=>if j=i then d else J.s j,J.m,J.c⟩
def St.put(J:St)(t:Tok)(o:Option HO):St:=⟨J.s,fun τ=>if τ=t then o else J.m τ,J.c⟩
def St.inc(J:St)(x:Nat):St:=⟨J.s,J.m,fun y=>if y=x then J.c y+1 else J.c y⟩
def HO.eB(g:Tok)(k:Nat):Option HO→Option HO
 |some (.row g' e es)=>if g'=g∧k<es.length then none else some (.row g' e es)
 |o=>o
def St.aG(J:St)(g:Tok)(k:Nat):St:=⟨J.s,fun τ=>HO.eB g k (J.m τ),J.c⟩
def St.tok(J:St)(x:Nat):Tok:= [x+1,J.c x]
def St.new(J:St)(x:Nat)(o:HO)(d:D):St:=((J.put (J.tok x) (some o)).set x d).inc x
@[simp] theorem St.jD(J:St)(i:Nat)(d:D):(J.set i d).m=J.m:=rfl
@[simp] theorem St.PM(J:St)(i:Nat)(d:D):(J.set i d).c=J.c:=rfl
@[simp] theorem St.Z5(J:St)(t:Tok)(o:Option HO):(J.put t o).s=J.s:=rfl
@[simp] theorem St.PF(J:St)(t:Tok)(o:Option HO):(J.put t o).c=J.c:=rfl
@[simp] theorem St.IQ(J:St)(x:Nat):(J.inc x).s=J.s:=rfl
@[simp] theorem St.N3(J:St)(x:Nat):(J.inc x).m=J.m:=rfl
@[simp] theorem St.ϖ(J:St)(g:Tok)(k:Nat):(J.aG g k).s=J.s:=rfl
@[simp] theorem St.ϕ(J:St)(g:Tok)(k:Nat):(J.aG g k).c=J.c:=rfl
theorem St.vj(J:St)(i:Nat)(d:D):(J.set i d).s i=d:=by simp[St.set]
theorem St.cN(J:St){i j:Nat}(d:D)(h:j≠i):(J.set i d).s j=J.s j:=by simp[St.set,h]
def qR:Value→Bool
 | .bool _| .int _ _| .string _| .nilIface| .nilFunc| .pointer none=>true
 | .func (.yield _) a b=>a.isEmpty&&b.isEmpty
 |_=>false
theorem eU{x:Value}(h:qR x=true):x.oneCell'=true:=by
 cases x<;>simp_all [qR,Value.oneCell']
abbrev aV:=Nat→Nat→Prop
abbrev ai:=Tok→Option (Nat×Nat)
abbrev aA:ai:=fun _=>none
inductive aj(w:World)(pr:aV):ai→Value→D→Prop
 |undef {tk:ai} {v:Value}:aj w pr tk v .undef
 |v {tk:ai} {x:Value} (h:qR x=true):aj w pr tk x (.v x)
 |nil {tk:ai}:aj w pr tk (.slice none 0 0) .nil
 |nil' {tk:ai}:aj w pr tk (.slice none 0 0) (.list [])
 |mt {tk:ai} {a:Addr} {cap:Nat}:aj w pr tk (.slice (some a) 0 cap) .mt
 |emp {tk:ai} {a:Addr} {cap:Nat}:aj w pr tk (.slice (some a) 0 cap) (.list [])
 |list {tk:ai} {b off cap size:Nat} {es:List (List D)} (us:Nat→Value) (hes: ∀e∈es,e.length=size) (kM:es.length≤cap)
   (hc: ∀j,j<es.length*size→w.cell? ⟨b,off+j,none⟩=some (us j)∧pr b (off+j)∧(us j).oneCell'=true)
   (hr: ∀(i:Nat) (e:List D),es[i]?=some e→ ∀(j:Nat) (d:D),e[j]?=some d→aj w pr aA (us (i*size+j)) d):
   aj w pr tk (.slice (some ⟨b,off,none⟩) es.length cap) (.list es)
 |agg {tk:ai} {cs:Array Value} {xs:List D} (hs:cs.size=xs.length) (h1: ∀(i:Nat) (c:Value),cs[i]?=some c→c.oneCell'=true)
   (hr: ∀(i:Nat) (c:Value) (x:D),cs[i]?=some c→xs[i]?=some x→aj w pr tk c x):aj w pr tk (.agg cs) (.agg xs)
 |tup {tk:ai} {cs:Array Value} {xs:List D} (hs:cs.size=xs.length)
   (hr: ∀(i:Nat) (c:Value) (x:D),cs[i]?=some c→xs[i]?=some x→aj w pr tk c x):aj w pr tk (.tuple cs) (.tup xs)
 |lptr {tk:ai} {b off:Nat} {xs:List D} (us:Nat→Value)
   (hc: ∀j,j<xs.length→w.cell? ⟨b,off+j,none⟩=some (us j)∧pr b (off+j)∧(us j).oneCell'=true)
   (hr: ∀(j:Nat) (d:D),xs[j]?=some d→aj w pr aA (us j) d):aj w pr tk (.pointer (some ⟨b,off,none⟩)) (.lptr xs)
 |clo {tk:ai} {f:Nat} {cv:Array Value} {eM:List D} (hf:f<1000000) (hs:cv.size=eM.length)
   (hr: ∀(i:Nat) (c:Value) (x:D),cv[i]?=some c→eM[i]?=some x→aj w pr tk c x):aj w pr tk (.func (.func f) #[] cv) (.clo f eM)
 |bclo {tk:ai} {f:Nat} {cv:Array Value} {eM:List D} (hs:cv.size=eM.length)
   (hr: ∀(i:Nat) (c:Value) (x:D),cv[i]?=some c→eM[i]?=some x→aj w pr tk c x):aj w pr tk (.func (.func f) cv #[]) (.clo (f+1000000) eM)
 |sl {tk:ai} {t:Tok} {b cap size off len c o:Nat} {lim:Option Nat} (ht:tk t=some (b,cap)) (hc:c=lim.getD (cap-off)) (hl:len≤c) (ho:o=off*size∨(c=0∧0<off)):
   aj w pr tk (.slice (some ⟨b,o,none⟩) len c) (.sl t size off len lim)
 |ptr {tk:ai} {t:Tok} {b cap off:Nat} (ht:tk t=some (b,cap)):aj w pr tk (.pointer (some ⟨b,off,none⟩)) (.ptr t off)
 |rptr {tk:ai} {t:Tok} {b cap size i j:Nat} (ht:tk t=some (b,cap)):aj w pr tk (.pointer (some ⟨b,i*size+j,none⟩)) (.rptr t size i j)
 |mp {tk:ai} {t:Tok} {b cap:Nat} (ht:tk t=some (b,cap)):aj w pr tk (.map (some b)) (.mp t)
 |nilmap {tk:ai}:aj w pr tk (.map none) .nilmap
 |fm {tk:ai} {b:Nat} {bB:Array MapEntry} {es:List (D×D)} (hb:w.heap[b]?=some (.map bB es.length)) (hp:pr b 0) (hs:bB.size=es.length) (hl:es.length≤maxLen)
   (hn: ∀(i:Nat) (en:MapEntry),bB[i]?=some en→en.born=i)
   (hk: ∀(i:Nat) (en:MapEntry) (p:D×D),bB[i]?=some en→es[i]?=some p→aj w pr aA en.key p.1)
   (hv: ∀(i:Nat) (en:MapEntry) (p:D×D),bB[i]?=some en→es[i]?=some p→aj w pr aA en.val p.2):aj w pr tk (.map (some b)) (.fm (ao es))
structure dz(w w':World)(pr pr':aV)(tk tk':ai):Prop where
 cell: ∀b o,pr b o→w'.heap[b]?=w.heap[b]?∧pr' b o
 tok: ∀t p,tk t=some p→tk' t=some p
theorem dz.refl(w:World)(pr:aV)(tk:ai):dz w w pr pr tk tk:=⟨fun _ _ h=>⟨rfl,h⟩,fun _ _ h=>h⟩
theorem aj.keeps{w w':World}{pr pr':aV}{tk tk':ai}{v:Value}{d:D}(h:aj w pr tk v d)(K:dz w w' pr pr' tk tk'):aj w' pr' tk' v d:=by
 have hc:=K.cell;have ht:=K.tok;clear K
 induction h generalizing tk' with
 |undef=>exact .undef
 |v h=>exact .v h
 |nil=>exact .nil
 |nil'=>exact .nil'
 |mt=>exact .mt
 |emp=>exact .emp
 |list us hes kM fJ hr ih=>
  exact .list us hes kM (fun j hj=>let⟨h1,h2,h3⟩:=fJ j hj;⟨(World.cell?_of_block (w:=w) (hc _ _ h2).1).trans h1,(hc _ _ h2).2,h3⟩) (fun i e he j d hd=>ih i e he j d hd (fun _ _ h=>h))
 |agg hs h1 hr ih=>exact .agg hs h1 (fun i c x h1 h2=>ih i c x h1 h2 ht)
 |tup hs hr ih=>exact .tup hs (fun i c x h1 h2=>ih i c x h1 h2 ht)
 |lptr us fJ hr ih=>
  exact .lptr us (fun j hj=>let⟨h1,h2,h3⟩:=fJ j hj;⟨(World.cell?_of_block (w:=w) (hc _ _ h2).1).trans h1,(hc _ _ h2).2,h3⟩) (fun j d hd=>ih j d hd (fun _ _ h=>h))
 |clo hf hs hr ih=>exact .clo hf hs (fun i c x h1 h2=>ih i c x h1 h2 ht)
 |bclo hs hr ih=>exact .bclo hs (fun i c x h1 h2=>ih i c x h1 h2 ht)
 |sl h hc' hl ho=>exact .sl (ht _ _ h) hc' hl ho
 |ptr h=>exact .ptr (ht _ _ h)
 |rptr h=>exact .rptr (ht _ _ h)
 |mp h=>exact .mp (ht _ _ h)
 |nilmap=>exact .nilmap
 |fm hb hp hs hl hn hk hv ihk ihv=>exact .fm ((hc _ _ hp).1.trans hb) (hc _ _ hp).2 hs hl hn (fun i en p h1 h2=>ihk i en p h1 h2 (fun _ _ h=>h)) (fun i en p h1 h2=>ihv i en p h1 h2 (fun _ _ h=>h))
def D.gK:D→Bool
 | .agg _| .tup _| .undef=>false
 |_=>true
theorem aj.Mx{w:World}{pr:aV}{tk:ai}{v:Value}{d:D}(h:aj w pr tk v d)(hd:d.gK=true):v.oneCell'=true:=by
 cases h<;>first|rfl|(simp[D.gK]at hd;done)|(rename_i h;exact eU h)
def cw(w:World)(pr:aV)(tk:ai)(cs:Array Value)(xs:List D):Prop:=
 cs.size=xs.length∧(∀(i:Nat) (c:Value),cs[i]?=some c→c.oneCell'=true)∧ ∀(i:Nat) (c:Value) (x:D),cs[i]?=some c→xs[i]?=some x→aj w pr tk c x
theorem cw.keeps{w w':World}{pr pr':aV}{tk tk':ai}{cs:Array Value}{xs:List D}(h:cw w pr tk cs xs)(K:dz w w' pr pr' tk tk'):cw w' pr' tk' cs xs:=
 ⟨h.1,h.2.1,fun i c x hc hx=>(h.2.2 i c x hc hx).keeps K⟩
theorem dF{w:World}{pr:aV}{tk:ai}{v:Value}{xs:List D}:aj w pr tk v (.agg xs)↔ ∃cs,v= .agg cs∧cw w pr tk cs xs:=by
 constructor
 ·intro h;cases h with|agg a b c=>exact⟨_,rfl,a,b,c⟩
 ·rintro⟨cs,rfl,a,b,c⟩;exact .agg a b c
def bg(P:Program)(w:World)(pr:aV)(tk:ai)(C:Array Value)(e:Nat)(es:List (List D)):Prop:=
 (∀c∈es,c.length=P.cellsOf e)∧ ∀(i:Nat) (c:List D),es[i]?=some c→ ∀(j:Nat) (d:D),c[j]?=some d→ ∃u,C[i*P.cellsOf e+j]?=some u∧u.oneCell'=true∧aj w pr tk u d
theorem bg.keeps{P:Program}{w w':World}{pr pr':aV}{tk tk':ai}{C:Array Value}{e:Nat}{es:List (List D)}(h:bg P w pr tk C e es)(K:dz w w' pr pr' tk tk'):bg P w' pr' tk' C e es:=
 ⟨h.1,fun i c hc j d hd=>let⟨u,h1,h2,h3⟩:=h.2 i c hc j d hd;⟨u,h1,h2,h3.keeps K⟩⟩
def nE(P:Program)(w:World)(pr:aV)(tk:ai)(t:Tok):HO→Prop
 | .box xs=> ∃b cap C ty,tk t=some (b,cap)∧w.heap[b]?=some (.cells C ty (0,0))∧cw w pr tk C xs
 | .row _ e es=> ∃b cap C,tk t=some (b,cap)∧w.heap[b]?=some (.cells C e (0,0))∧es.length≤cap∧cap≤maxLen∧C.size=cap*P.cellsOf e∧bg P w pr tk C e es
 | .map es=> ∃b cap bB,tk t=some (b,cap)∧w.heap[b]?=some (.map bB es.length)∧bB.size=es.length∧es.length≤maxLen∧
   ∀(i:Nat) (en:MapEntry) (p:D×D),bB[i]?=some en→es[i]?=some p→en.born=i∧aj w pr tk en.key p.1∧aj w pr tk en.val p.2
 | .iter u n seen=> ∃b cap b' mf,tk t=some (b,cap)∧tk u=some (b',mf)∧w.heap[b]?=some (.mapIter (some b') n seen.toArray n)
 | .raw o=> ∃b cap,tk t=some (b,cap)∧w.heap[b]?=some o
theorem nE.keeps{P:Program}{w w':World}{pr pr':aV}{tk tk':ai}{t:Tok}{o:HO}(h:nE P w pr tk t o)(K:dz w w' pr pr' tk tk')(hb: ∀b cap,tk t=some (b,cap)→w'.heap[b]?=w.heap[b]?):nE P w' pr' tk' t o:=by
 cases o with
 |box xs=>
  obtain⟨b,cap,C,ty,h1,h2,h3⟩:=h;exact⟨b,cap,C,ty,K.tok _ _ h1,(hb b cap h1).trans h2,h3.keeps K⟩
 |row g e es=>
  obtain⟨b,cap,C,h1,h2,h3,h4,h5,h6⟩:=h;exact⟨b,cap,C,K.tok _ _ h1,(hb b cap h1).trans h2,h3,h4,h5,h6.keeps K⟩
 |map es=>
  obtain⟨b,cap,bB,h1,h2,h3,h4,h5⟩:=h;exact⟨b,cap,bB,K.tok _ _ h1,(hb b cap h1).trans h2,h3,h4,fun i en p he hp=>let⟨g1,g2,g3⟩:=h5 i en p he hp;⟨g1,g2.keeps K,g3.keeps K⟩⟩
 |iter u n seen=>
  obtain⟨b,cap,b',mf,h1,h2,h3⟩:=h;exact⟨b,cap,b',mf,K.tok _ _ h1,K.tok _ _ h2,(hb b cap h1).trans h3⟩
 |raw o=>obtain⟨b,cap,h1,h2⟩:=h;exact⟨b,cap,K.tok _ _ h1,(hb b cap h1).trans h2⟩
theorem nE.place{P:Program}{w:World}{pr:aV}{tk:ai}{t:Tok}{o:HO}(h:nE P w pr tk t o): ∃b cap,tk t=some (b,cap)∧b<w.heap.size:=by
 have lt: ∀{b:Nat} {x:Obj},w.heap[b]?=some x→b<w.heap.size:=fun h=>(Array.getElem?_eq_some_iff.1 h).1;cases o with
 |box xs=>obtain⟨b,cap,C,ty,h1,h2,_⟩:=h;exact⟨b,cap,h1,lt h2⟩
 |row g e es=>obtain⟨b,cap,C,h1,h2,_⟩:=h;exact⟨b,cap,h1,lt h2⟩
 |map es=>obtain⟨b,cap,bB,h1,h2,_⟩:=h;exact⟨b,cap,h1,lt h2⟩
 |iter u n seen=>obtain⟨b,cap,b',mf,h1,_,h2⟩:=h;exact⟨b,cap,h1,lt h2⟩
 |raw o=>obtain⟨b,cap,h1,h2⟩:=h;exact⟨b,cap,h1,lt h2⟩
structure dQ(P:Program)(w:World)(pr:aV)(tk:ai)(m:Mem):Prop where
 obj: ∀t o,m t=some o→nE P w pr tk t o
 inj: ∀t t' o o' b c c',m t=some o→m t'=some o'→tk t=some (b,c)→tk t'=some (b,c')→t=t'∨(o.gZ.isSome=true∧o.gZ=o'.gZ)
theorem dQ.keeps{P:Program}{w w':World}{pr pr':aV}{tk tk':ai}{m:Mem}(M:dQ P w pr tk m)(K:dz w w' pr pr' tk tk')(hb: ∀t o b c,m t=some o→tk t=some (b,c)→w'.heap[b]?=w.heap[b]?):dQ P w' pr' tk' m:=by
 refine⟨fun t o h=>(M.obj t o h).keeps K fun b c hc=>hb t o b c h hc,fun t t' o o' b c c' h h' ht ht'=> ?_⟩;obtain⟨b1,c1,h1,_⟩:=(M.obj t o h).place;obtain⟨b2,c2,h2,_⟩:=(M.obj t' o' h').place;have e1:=K.tok _ _ h1;have e2:=K.tok _ _ h2;rw[ht]at e1;rw[ht']at e2;cases e1;cases e2;exact M.inj t t' o o' b c c' h h' h1 h2
def b8(tk:ai)(m:Mem)(b:Nat):Prop:= ∃t o c,m t=some o∧tk t=some (b,c)
structure dP(A:Nat→Prop)(w w':World):Prop where
 os:w'.os=w.os
 tape:w'.tape=w.tape
 output:w'.output=w.output
 size:w.heap.size≤w'.heap.size
 block: ∀k,k<w.heap.size→ ¬A k→w'.heap[k]?=w.heap[k]?
 drawn:w.drawn≤w'.drawn
theorem dP.refl(A:Nat→Prop)(w:World):dP A w w:=⟨rfl,rfl,rfl,Nat.le_refl _,fun _ _ _=>rfl,Nat.le_refl _⟩
theorem dP.trans{A B:Nat→Prop}{a b c:World}(h:dP A a b)(k:dP B b c)(hB: ∀x,x<a.heap.size→B x→A x):dP A a c:=
 ⟨k.os.trans h.os,k.tape.trans h.tape,k.output.trans h.output,Nat.le_trans h.size k.size,fun x hx hA=>
  (k.block x (Nat.lt_of_lt_of_le hx h.size) fun hb=>hA (hB x hx hb)).trans (h.block x hx hA),Nat.le_trans h.drawn k.drawn⟩
theorem dP.mono{A B:Nat→Prop}{a b:World}(h:dP A a b)(hB: ∀x,x<a.heap.size→A x→B x):dP B a b:=
 ⟨h.os,h.tape,h.output,h.size,fun x hx hb=>h.block x hx fun ha=>hb (hB x hx ha),h.drawn⟩
theorem dP.alloc(A:Nat→Prop)(w:World)(o:Obj):dP A w (w.alloc o):=
 ⟨rfl,rfl,rfl,by simp,fun k hk _=>(Go.MapKept.heap_alloc w o).2 k hk,Nat.le_refl _⟩
theorem dP.cell{A:Nat→Prop}{w w':World}(h:dP A w w'){b:Nat}(o:Nat)(hb:b<w.heap.size)(hA: ¬A b):w'.cell? ⟨b,o,none⟩=w.cell? ⟨b,o,none⟩:=World.cell?_of_block (w:=w) (h.block b hb hA)
end
section
structure p8 where
 fr:Nat→Nat
 fz:Nat→Bool
inductive PK where
 |mv
 |pick
 |ibin (op:BinOp)
 |ishift (op:BinOp)
 |beq (neg:Bool)
 |seq (neg:Bool)
 |aeq (neg:Bool) (ks:List Nat)
 |snil (neg:Bool)
 |sop (op:BinOp)
 |inot
 |ineg
 |llen
 |slen
 |load (n:Nat) (agg:Bool)
 |fld (off:Nat)
 |idx (e size:Nat)
 |aidx (n size:Nat)
 |ext (k:Nat)
 |conv (k:IntKind)
 |afld (off n:Nat) (agg:Bool)
 |build (zero:List D) (places:List (Nat×Nat))
 |clo (f:Nat)
 |mx2 (mx:Bool)
 |mx3 (mx:Bool)
 |aix (n size:Nat) (agg:Bool)
 |fM
 |slc (size:Nat) (lo hi mx:Bool)
 |sla (n size:Nat) (lo hi:Bool)
 |fbox (n:Nat)
 |lkp (ks:List Nat) (zero:D) (ok:Bool)
 |ent
 |call (f:Nat)
 |ccall
 deriving Inhabited
def D.asBool:D→Option Bool
 | .v (.bool b)=>some b
 |_=>none
def D.elems(m:Mem):D→Option (List (List D))
 | .list es=>some es
 | .nil| .mt=>some []
 | .sl t size off len _=>match m t with
  |some (.row _ _ es)=>if off+len≤es.length∧es.all (fun c=>c.length==size)=true then some ((es.drop off).take len)else none
  |some (.box xs)=>if size=1∧off+len≤xs.length then some (((xs.drop off).take len).map fun d=> [d])else none
  |_=>none
 |_=>none
def D.uu:D→Option Nat
 | .list es=>some es.length
 | .nil| .mt=>some 0
 | .sl _ _ _ len _=>some len
 |_=>none
abbrev bv(b:Bool):D:= .v (.bool b)
abbrev iv(n:Int):D:= .v (.int .i64 n)
def dm(op:BinOp)(k:IntKind)(a b:Int):Option D:=
 match op with
 | .add=>some (.v (.int k (k.wrap (a+b))))
 | .sub=>some (.v (.int k (k.wrap (a-b))))
 | .mul=>some (.v (.int k (k.wrap (a*b))))
 | .quo=>if b=0 then none else some (.v (.int k (k.wrap (a.tdiv b))))
 | .rem=>if b=0 then none else some (.v (.int k (a.tmod b)))
 | .eql=>some (bv (a==b))
 | .neq=>some (bv (a !=b))
 | .lss=>some (bv (decide (a<b)))
 | .leq=>some (bv (decide (a≤b)))
 | .gtr=>some (bv (decide (a>b)))
 | .geq=>some (bv (decide (a≥b)))
 | .and| .or| .xor| .andNot=>some (.v (.int k (bits op k a b)))
 |_=>none
def EX(op:BinOp)(k:IntKind)(a b:Int):Option D:=
 if b<0 then none else
 match op with
 | .shl=>some (.v (.int k (k.wrap (a*2^(min b.toNat k.bits)))))
 | .shr=>some (.v (.int k (a.fdiv (2^(min b.toNat k.bits)))))
 |_=>none
def D.aW:D→Bool
 | .v _=>true
 |_=>false
def D.flat:D→Bool
 | .agg xs=>xs.all D.aW
 | .tup xs=>xs.all fun d=>match d with
  | .agg ys=>ys.all D.aW
  |d=>d.aW
 |d=>d.aW
def D.eT:D→Bool
 | .v _| .nil| .mt| .list _| .lptr _| .nilmap| .fm _=>true
 |_=>false
def D.aM:D→Bool
 | .clo _ xs=>xs.all D.eT
 |d=>d.eT
def D.aF:D→Bool
 | .agg xs=>xs.all D.aM
 | .clo _ xs=>xs.all D.aM
 | .tup xs=>xs.all fun d=>match d with
  | .agg ys=>ys.all D.aM
  |d=>d.aM
 |d=>d.aM
def D.own(d:D):D:= .tup [.undef,d]
def D.eD:D→Bool
 | .tup [.undef,_]=>true
 |_=>false
def D.bare:D→D
 | .tup [.undef,d]=>d
 |d=>d
def D.nz:D→D
 | .nil| .mt=> .list []
 |d=>d
def aU(f:D→Option D)(c:List D):Option (List D):=if c.all D.aW then some c else c.mapM f
def cQ(f:D→Option D)(es:List (List D)):Option (List (List D)):=if es.all (fun c=>c.all D.aW)then some es else es.mapM (aU f)
def aq(m:Mem):Nat→D→Option D
 |0,_=>none
 |n+1,d=>match d with
  | .v x=>some (.v x)
  | .nil| .mt=>some (.list [])
  | .list es=>some (.list es)
  | .lptr xs=>some (.lptr xs)
  | .nilmap=>some .nilmap
  | .fm es=>some (.fm es)
  | .mp t=>match m t with
   |some (.map es)=>if es.all (fun p=>p.1.aF&&p.2.aF)then some (.fm (ao es))else none
   |_=>none
  | .sl t size off len lim=>((D.sl t size off len lim).elems m).bind fun es=>(cQ (aq m n) es).map .list
  | .ptr t off=>match m t with
   |some (.box xs)=>if off≤xs.length then(aU (aq m n) (xs.drop off)).map .lptr else none
   |_=>none
  | .rptr t size i j=>match m t with
   |some (.row _ _ es)=>(es[i]?).bind fun c=>if c.length=size∧j≤size then(aU (aq m n) (c.drop j)).map .lptr else none
   |_=>none
  | .clo f xs=>(aU (aq m n) xs).map (.clo f)
  |_=>none
def bo(m:Mem):D→Option D
 | .agg xs=>(aU (aq m 6) xs).map .agg
 |d=>aq m 6 d
def putAt(cells:List D)(off:Nat)(xs:List D):List D:=cells.take off++xs++cells.drop (off+xs.length)
def D.cells:D→List D
 | .agg xs=>xs
 |d=> [d]
def nP:List D→List (Nat×Nat)→List D→Option (List D)
 |cells,[],[]=>some cells
 |cells,(off,n)::ps,d::ds=>if d.cells.length=n∧off+n≤cells.length then nP (putAt cells off d.cells) ps ds else none
 |_,_,_=>none
def lj(size:Nat):Nat→List D→List (List D)
 |0,_=> []
 |n+1,l=>l.take size::lj size n (l.drop size)
def aC:Nat:=1048576
structure Env where
 p:Nat→List D→Option D
 q:Nat→List D→Option (D×Mem)
 m:Nat→Mem→List D→Option (D×Mem)
 e:Nat→Nat→List D→Option D
section
variable (Γ : Env) (m : Mem)
def me(f:Nat)(ds:List D):Option D:=
 (ds.mapM (bo m)).bind fun as=>(Γ.p f as).bind fun r=>if(r.bare.flat||r.eD&&r.bare.aF)||ds.all D.aF&&r.bare.aF then some r.bare else none
def mvV:List D→Option D| [d]=>some d|_=>none
def Fi:List D→Option D| [c,a,b]=>c.asBool.bind fun x=>some (bif x then a else b)|_=>none
def jc(op:BinOp):List D→Option D| [.v (.int k a), .v (.int k' b)]=>if k=k' then dm op k a b else none|_=>none
def DG(op:BinOp):List D→Option D| [.v (.int k a), .v (.int _ b)]=>EX op k a b|_=>none
def Sa(neg:Bool):List D→Option D| [.v (.bool a), .v (.bool b)]=>some (bv (if neg then !(a==b)else a==b))|_=>none
def UI(neg:Bool):List D→Option D| [.v (.string a), .v (.string b)]=>some (bv (if neg then !(a.toList==b.toList)else a.toList==b.toList))|_=>none
def Ud:List D→Option D| [.v (.bool a)]=>some (bv (!a))|_=>none
def Yp:List D→Option D| [.v (.int k a)]=>some (.v (.int k (k.wrap (0-a))))|_=>none
def yL:List D→Option D| [d]=>d.uu.bind fun n=>some (iv n)|_=>none
def PN:List D→Option D| [.v (.string a)]=>some (iv a.size)|_=>none
def iU(n:Nat)(agg:Bool):List D→Option D
 | [.lptr xs]=>if n≤xs.length then(if agg then some (.agg (xs.take n))else xs[0]?)else none
 | [.ptr t off]=>match m t with
  |some (.box xs)=>if off+n≤xs.length then(if agg then some (.agg ((xs.drop off).take n))else xs[off]?)else none
  |_=>none
 | [.rptr t size i j]=>match m t with
  |some (.row _ _ es)=>(es[i]?).bind fun c=>if c.length=size∧j+n≤size then(if agg then some (.agg ((c.drop j).take n))else c[j]?)else none
  |some (.box xs)=>if size=1∧i+j+n≤xs.length then(if agg then some (.agg ((xs.drop (i+j)).take n))else xs[i+j]?)else none
  |_=>none
 |_=>none
def H8(n:Nat):List D→Option D
 | [d]=>if d.cells.length=n∧d.cells.all D.gK=true∧d.cells.all D.aM=true then some (.lptr d.cells)else none
 |_=>none
def Ie(off:Nat):List D→Option D
 | [.lptr xs]=>some (.lptr (xs.drop off))
 | [.ptr t o]=>some (.ptr t (o+off))
 | [.rptr t size i j]=>some (.rptr t size i (j+off))
 |_=>none
def sA(e size:Nat):List D→Option D
 | [.list es, .v (.int _ n)]=>if n<0 then none else(es[n.toNat]?).bind fun c=>if c.length=size then some (.lptr c)else none
 | [.sl t kY off len _, .v (.int _ n)]=>if n<0 then none else if kY=size∧n.toNat<len then some (.rptr t size (off+n.toNat) 0)else none
 |_=>none
def wM(n size:Nat):List D→Option D
 | [.lptr xs, .v (.int _ i)]=>if 0≤i∧i<n then some (.lptr (xs.drop (i.toNat*size)))else none
 | [.ptr t o, .v (.int _ i)]=>if 0≤i∧i<n then some (.ptr t (o+i.toNat*size))else none
 | [.rptr t sz k j, .v (.int _ i)]=>if 0≤i∧i<n then some (.rptr t sz k (j+i.toNat*size))else none
 |_=>none
def H7(k:Nat):List D→Option D| [.tup xs]=>xs[k]?|_=>none
def NJ(k:IntKind):List D→Option D| [.v (.int _ a)]=>some (.v (.int k (k.wrap a)))|_=>none
def Hi(off n:Nat)(agg:Bool):List D→Option D
 | [.agg xs]=>if off+n≤xs.length then(if agg then some (.agg ((xs.drop off).take n))else xs[off]?)else none
 |_=>none
def xW(zero:List D)(places:List (Nat×Nat))(ds:List D):Option D:=if ds.all (fun d=>d.cells.all D.gK)then(nP zero places ds).map .agg else none
def D.EW:D→Bool
 | .undef=>false
 |_=>true
def K6(f:Nat)(ds:List D):Option D:=if ds.all D.EW then some (.clo f ds)else none
def T_(mx:Bool):List D→Option D| [.v (.int k a), .v (.int _ b)]=>some (.v (.int k (if mx then(if b>a then b else a)else(if b<a then b else a))))|_=>none
def Ua(mx:Bool):List D→Option D
 | [.v (.int k a), .v (.int _ b), .v (.int _ c)]=>some (.v (.int k (if mx then(if c>(if b>a then b else a)then c else(if b>a then b else a))else(if c<(if b<a then b else a)then c else(if b<a then b else a)))))
 |_=>none
def KS(n size:Nat)(agg:Bool):List D→Option D
 | [.agg xs, .v (.int _ i)]=>if 0≤i∧i<n∧i.toNat*size+size≤xs.length then(if agg then some (.agg ((xs.drop (i.toNat*size)).take size))else xs[i.toNat*size]?)else none
 |_=>none
def bj:IntKind→Nat
 | .i8=>0| .i16=>1| .i32=>2| .i64=>3| .u8=>4| .u16=>5| .u32=>6| .u64=>7
def aa:List Nat→List D→List D→Option Bool
 | [],[],[]=>some true
 |n::ks, .v (.int k a)::xs, .v (.int k' b)::ys=>if n=bj k∧n=bj k' then(aa ks xs ys).map fun r=>(a==b)&&r else none
 |8::ks, .v (.bool a)::xs, .v (.bool b)::ys=>(aa ks xs ys).map fun r=>(a==b)&&r
 |9::ks, .v (.string a)::xs, .v (.string b)::ys=>(aa ks xs ys).map fun r=>(a.toList==b.toList)&&r
 |_,_,_=>none
def KR(neg:Bool)(ks:List Nat):List D→Option D
 | [.agg xs, .agg ys]=>(aa ks xs ys).map fun r=>bv (if neg then !r else r)
 |_=>none
def FB(neg:Bool):List D→Option D
 | [d, .nil]=>match d with
  | .nil=>some (bv (!neg))
  | .mt=>some (bv neg)
  | .list (_::_)=>some (bv neg)
  | .sl .. =>some (bv neg)
  |_=>none
 |_=>none
def Sh:List D→Option D
 | [.ptr t o]=>some (.ptr t o)
 | [.rptr t size i j]=>some (.rptr t size i j)
 | [.lptr xs]=>some (.lptr xs)
 | [.clo f cs]=>some (.clo f cs)
 |_=>none
def tQ(es:List (List D))(lo hi:Int):Option D:=
 if 0≤lo∧lo≤hi∧hi≤es.length then some (.list ((es.drop lo.toNat).take (hi.toNat-lo.toNat)))else none
def e_:List D→Option (List Int)
 | []=>some []
 | .v (.int _ n)::r=>(e_ r).map (n:: ·)
 |_=>none
def b7(n:Nat)(lo hi mx:Bool)(l:List Int):Option (Int×Int×Option Int):=
 match lo,hi,mx,l with
 |false,false,false,[]=>some (0,n,none)
 |true,false,false,[a]=>some (a,n,none)
 |false,true,false,[b]=>some (0,b,none)
 |true,true,false,[a,b]=>some (a,b,none)
 |false,true,true,[b,c]=>some (0,b,some c)
 |true,true,true,[a,b,c]=>some (a,b,some c)
 |_,_,_,_=>none
def Fu(t:Tok)(off:Nat)(lim:Option Nat)(h:Int):Bool:=
 match lim,m t with
 |none,some (.row _ _ es)=>decide ((off:Int)+h≤es.length)
 |_,_=>false
def oN(size:Nat)(lo hi mx:Bool):List D→Option D
 | .sl t kY off len lim::r=>(e_ r).bind fun l=>(b7 len lo hi mx l).bind fun q=>
  if 0≤q.1∧q.1≤q.2.1∧(q.2.1≤len∨Fu m t off lim q.2.1=true)∧kY=size then
   match q.2.2 with
   |none=>some (.sl t size (off+q.1.toNat) (q.2.1.toNat-q.1.toNat) (lim.map (· -q.1.toNat)))
   |some c=>if q.2.1≤c∧c≤len then some (.sl t size (off+q.1.toNat) (q.2.1.toNat-q.1.toNat) (some (c.toNat-q.1.toNat)))else none
  else none
 |d::r=>(match d with| .list es=>some es| .mt=>some []| .nil=>some []|_=>none).bind fun es=>
  if es.all (fun c=>c.length==size)=false then none else(e_ r).bind fun l=>(b7 es.length lo hi mx l).bind fun q=>
   match q.2.2 with
   |none=>tQ es q.1 q.2.1
   |some c=>if q.2.1≤c∧c≤es.length then tQ es q.1 q.2.1 else none
 |_=>none
def MT(n size:Nat)(lo hi:Bool):List D→Option D
 | .ptr t off::r=>(e_ r).bind fun l=>(b7 n lo hi false l).bind fun q=>
  if 0≤q.1∧q.1≤q.2.1∧q.2.1≤n∧size=1 then some (.sl t 1 (off+q.1.toNat) (q.2.1.toNat-q.1.toNat) (some (n-q.1.toNat)))else none
 | .lptr xs::r=>(e_ r).bind fun l=>(b7 n lo hi false l).bind fun q=>
  if 0≤q.1∧q.1≤q.2.1∧q.2.1≤n∧n*size≤xs.length then some (.list (lj size (q.2.1.toNat-q.1.toNat) (xs.drop (q.1.toNat*size))))else none
 |_=>none
def D.uL:D→Bool
 | .tup _| .undef| .clo .. =>false
 | .agg xs=>xs.all D.gK
 |_=>true
def bR:List Nat→D→D→Option Bool
 |99::ks, .agg xs, .agg ys=>aa ks xs ys
 | [n],x,y=>aa [n] [x] [y]
 |_,_,_=>none
def bu(ks:List Nat)(k:D):List (D×D)→Nat→Option (Option Nat)
 | [],_=>some none
 |p::r,i=>(bR ks k p.1).bind fun b=>if b then some (some i)else bu ks k r (i+1)
def oF(ks:List Nat)(zero:D)(ok:Bool):List D→Option D
 | [.mp t,k]=>match m t with
  |some (.map es)=>if k.uL=true∧bR ks k k=some true then(bu ks k es 0).bind fun r=>match r with
   |none=>some (if ok then .tup [zero,bv false]else zero)
   |some i=>(es[i]?).map fun p=>if ok then .tup [p.2,bv true]else p.2
   else none
  |_=>none
 | [.fm rows,k]=>(ax rows).bind fun es=>if k.uL=true∧bR ks k k=some true then(bu ks k es 0).bind fun r=>match r with
   |none=>some (if ok then .tup [zero,bv false]else zero)
   |some i=>(es[i]?).map fun p=>if ok then .tup [p.2,bv true]else p.2
   else none
 |_=>none
def Ll:List D→Option D
 | [.ptr t 0]=>match m t with
  |some (.iter u n seen)=>match m u with
   |some (.map es)=>if es.length=n then(seen.getLast?).bind fun i=>(es[i]?).map fun p=> .tup [p.1,p.2]else none
   |_=>none
  |_=>none
 |_=>none
def tJ:List D→Option D| .clo f eM::ds=>if f<1000000 then me Γ m f (ds++eM)else none|_=>none
def PK.run:PK→List D→Option D
 | .mv=>mvV
 | .pick=>Fi
 | .ibin op=>jc op
 | .ishift op=>DG op
 | .beq neg=>Sa neg
 | .seq neg=>UI neg
 | .inot=>Ud
 | .ineg=>Yp
 | .llen=>yL
 | .slen=>PN
 | .load n agg=>iU m n agg
 | .fld off=>Ie off
 | .idx e size=>sA e size
 | .aidx n size=>wM n size
 | .ext k=>H7 k
 | .conv k=>NJ k
 | .afld off n agg=>Hi off n agg
 | .build zero places=>xW zero places
 | .clo f=>K6 f
 | .mx2 mx=>T_ mx
 | .mx3 mx=>Ua mx
 | .aix n size agg=>KS n size agg
 | .aeq neg ks=>KR neg ks
 | .snil neg=>FB neg
 | .fM=>Sh
 | .slc size lo hi mx=>oN m size lo hi mx
 | .sla n size lo hi=>MT n size lo hi
 | .fbox n=>H8 n
 | .lkp ks zero ok=>oF m ks zero ok
 | .ent=>Ll m
 | .call f=>me Γ m f
 | .ccall=>tJ Γ m
 | .sop _=>fun _=>none
end
def dM(P:Program)(t:Nat):Option Bool:=
 match P.underlying t with
 |some (.struct _)|some (.array _ _)=>some true
 |some _=>some false
 |none=>none
def iO(P:Program)(t f:Nat):Option (Nat×Nat×Bool):=
 match P.underlying t with
 |some (.struct fs)=>(fs[f]?).bind fun x=>(dM P x.type).bind fun g=>if P.cellsOf x.type=0 then none else some (x.offset,P.cellsOf x.type,g)
 |_=>none
def AO:Value→Option D
 | .slice none 0 0=>some .nil
 | .bool b=>some (.v (.bool b))
 | .int k n=>some (.v (.int k n))
 | .string s=>some (.v (.string s))
 | .nilIface=>some (.v .nilIface)
 | .nilFunc=>some (.v .nilFunc)
 | .pointer none=>some (.v (.pointer none))
 | .map none=>some .nilmap
 |_=>none
def wX(P:Program)(t:Nat):Option (List D):=((P.info? t).bind (·.zero)).bind fun z=>z.cells.toList.mapM AO
def HQ(P:Program)(t:Nat)(idx:List Nat):Option (List D×List (Nat×Nat)):=
 (wX P t).bind fun z=>match P.underlying t with
 |some (.struct fs)=>(fs.toList.mapM (fun f=>(P.info? f.type).map fun i=>(f.offset,i.size))).bind fun pl=>(idx.mapM (fun i=>pl.toArray[i]?)).map fun ps=>(z,ps)
 |some (.array _ e)=>(P.info? e).map fun i=>(z,idx.map (fun k=>(k*i.size,i.size)))
 |_=>none
def yg(P:Program)(t len:Nat)(idx:List Nat):Option (Nat×Nat×List D×List (Nat×Nat)):=
 match P.underlying t with
 |some (.slice e)=>(P.info? e).bind fun i=>if len*i.size≤65536∧0<i.size then
   (wX P e).bind fun z=>if z.length=i.size then
    some (e,i.size,(List.range (len*i.size)).map fun j=>z.getD (j%i.size) .undef,idx.map fun k=>(k*i.size,i.size))else none
  else none
 |_=>none
def qn(P:Program)(t:Nat):Option D:=
 ((P.info? t).bind (·.zero)).bind fun z=>match z with
  | .agg cs=>(cs.toList.mapM AO).map .agg
  |v=>AO v
def cq(P:Program)(t:Nat):Option Nat:=
 match P.underlying t with
 |some (.int k)=>some (bj k)
 |some .bool=>some 8
 |some .string=>some 9
 |_=>none
mutual
def lF(P:Program):Nat→Nat→Option (List Nat)
 |0,_=>none
 |f+1,t=>match P.underlying t with
  |some (.struct fs)=>if P.stoodInHeld t=false then(eF P f 0 fs.toList).bind fun ks=>if(P.info? t).map (·.size)=some ks.length∧0<ks.length then some ks else none else none
  |some (.array n e)=>(lF P f e).bind fun ks=>if(P.info? e).map (·.size)=some ks.length∧(P.info? t).map (·.size)=some (List.replicate n ks).flatten.length∧0<(List.replicate n ks).flatten.length then some ((List.replicate n ks).flatten)else none
  |_=>(cq P t).map fun k=> [k]
def eF(P:Program):Nat→Nat→List Field→Option (List Nat)
 |_,_,[]=>some []
 |0,_,_::_=>none
 | f + 1, i, g :: gs => if g.name ≠ "_" ∧ g.offset = i then (lF P f g.type).bind fun ks => (eF P f (i + ks.length) gs).map (ks ++ ·) else none
end
def fA(P:Program)(t:Nat):Option (List Nat):=
 match P.underlying t with
 |some (.struct fs)=>if P.stoodInHeld t then none else eF P 40 0 fs.toList
 |some (.array n e)=>(lF P 40 e).bind fun ks=>if(P.info? e).map (·.size)=some ks.length then some ((List.replicate n ks).flatten)else none
 |_=>none
def AK(P:Program)(t:Nat):Option (List Nat×Nat):=
 match P.underlying t with
 |some (.map k e)=>match cq P k with
  |some n=>some ([n],e)
  |none=>match P.underlying k with
   |some (.struct fs)=>if fs.toList.all (fun g=>(cq P g.type).isSome)=true∧P.stoodInHeld k=false then(eF P 40 0 fs.toList).map fun ks=>(99::ks,e)else none
   |some (.array _ el)=>if(cq P el).isSome=true∧(P.info? el).map (·.size)=some 1 then(fA P k).map fun ks=>(99::ks,e)else none
   |_=>none
 |_=>none
def HL(P:Program)(op:BinOp)(t:Nat):Option PK:=
 if P.eqGuardType P.depth t then none else
 match op with
 | .eql=>(fA P t).map (.aeq false)
 | .neq=>(fA P t).map (.aeq true)
 |_=>none
def AN(P:Program)(op:BinOp)(t:Nat):Option PK:=
 match P.underlying t,op with
 |some (.slice _), .eql=>some (.snil false)
 |some (.slice _), .neq=>some (.snil true)
 |_,_=>none
def HN(P:Program)(t:Nat):Option PK:=
 match P.underlying t with
 |some (.array n e)=>(dM P e).bind fun g=>if(P.info? e).isSome∧(g=true∨P.cellsOf e=1)then some (.aix n (P.cellsOf e) g)else none
 |_=>none
def HW(P:Program)(t:Nat)(x:Operand)(lo hi mx:Option Operand):Option (PK×List Operand):=
 match P.underlying t with
 |some (.array n e)=>if(P.info? e).isSome∧mx.isSome=false then some (.sla n (P.cellsOf e) lo.isSome hi.isSome,x::(lo.toList++hi.toList))else none
 |some (.slice e)=>if(P.info? e).isSome then some (.slc (P.cellsOf e) lo.isSome hi.isSome mx.isSome,x::(lo.toList++hi.toList++mx.toList))else none
 |_=>none
def HP(P:Program)(op:BinOp)(t:Nat):Option PK:=
 match P.underlying t with
 |some (.int _)=>match op with
  | .shl| .shr=>some (.ishift op)
  |_=>some (.ibin op)
 |some .bool=>match op with
  | .eql=>some (.beq false)
  | .neq=>some (.beq true)
  |_=>none
 |some .string=>match op with
  | .eql=>some (.seq false)
  | .neq=>some (.seq true)
  |_=>none
 |_=>none
def Lb(P:Program)(t:Nat):Option PK:=
 match P.underlying t with
 |some (.slice e)=>if(P.info? e).isSome then some (.idx e (P.cellsOf e))else none
 |some (.array n e)=>if(P.info? e).isSome then some (.aidx n (P.cellsOf e))else none
 |_=>none
def We:UnOp→Option PK
 | .not=>some .inot
 | .neg=>some .ineg
 |_=>none
def AH(P:Program)(src dst:Nat):Option PK:=
 match P.underlying src,P.underlying dst with
 |some (.int _),some (.int k)=>some (.conv k)
 |_,_=>none
def HV(P:Program)(t:Nat):Option PK:=
 (dM P t).bind fun g=>if(P.info? t).isSome∧(g=true∨P.cellsOf t=1)then some (.load (P.cellsOf t) g)else none
def mn(P:Program)(b:Builtin)(ts:List Nat)(n:Nat):Option PK:=
 match b,ts,n with
 | .len,[t],1=>match P.underlying t with
  |some (.slice _)=>some .llen
  |some .string=>some .slen
  |_=>none
 | .max,_,2=>some (.mx2 true)
 | .min,_,2=>some (.mx2 false)
 | .max,_,3=>some (.mx3 true)
 | .min,_,3=>some (.mx3 false)
 |_,_,_=>none
def HR(P:Program)(fr:p8)(c:Call):Option (PK×List Operand):=
 match c.callee with
 | .builtin b=>(mn P b c.argTypes.toList c.args.size).map fun k=>(k,c.args.toList)
 | .value (.func f)=>if fr.fr f=0∧f<1000000 then some (.call f,c.args.toList)else none
 | .value (.tmp t)=>some (.ccall, .tmp t::c.args.toList)
 |_=>none
def o6(P:Program)(fr:p8):Op→Option (PK×List Operand)
 | .move x=>some (.mv,[x])
 | .assign x=>some (.mv,[x])
 | .pick c a b=>some (.pick,[c,a,b])
 | .load t a=>(HV P t).map fun k=>(k,[a])
 | .fieldAddr t x f=>(iO P t f).map fun q=>(.fld q.1,[x])
 | .indexAddr t x i=>(Lb P t).map fun k=>(k,[x,i])
 | .binOp op t x y _=>(((HP P op t).or (AN P op t)).or (HL P op t)).map fun k=>(k,[x,y])
 | .unOp op _ x=>(We op).map fun k=>(k,[x])
 | .convert src dst x=>(AH P src dst).map fun k=>(k,[x])
 | .extract t k=>some (.ext k,[t])
 | .call c=>HR P fr c
 | .build t parts=>(HQ P t (parts.toList.map (·.1))).map fun q=>(.build q.1 q.2,parts.toList.map (·.2))
 | .makeFunc (.func f) first captured=>if first.size=0∧f<1000000 then some (.clo f,captured.toList)else if captured.size=0 then some (.clo (f+1000000),first.toList)else none
 | .nilCheck x=>some (.fM,[x])
 | .index t x i=>(HN P t).map fun k=>(k,[x,i])
 | .field t x f=>(iO P t f).bind fun q=>if q.2.2=true∨q.2.1=1 then some (.afld q.1 q.2.1 q.2.2,[x])else none
 | .slice t x lo hi mx=>HW P t x lo hi mx
 | .lookup t x k ok=>(AK P t).bind fun q=>(qn P q.2).map fun z=>(.lkp q.1 z ok,[x,k])
 | .entry x=>some (.ent,[x])
 |_=>none
end
section
theorem dU(b off j:Nat):(⟨b,off,none⟩:Addr).add j=⟨b,off+j,none⟩:=by unfold Addr.add;split<;>simp_all
section
variable {P : Program} {w : World} {pr : aV} {tk : ai} {m : Mem}
theorem aj.oi{v:Value}{d:D}(h:aj w pr aA v d):aj w pr tk v d:=h.keeps ⟨fun _ _ h=>⟨rfl,h⟩,fun _ _ h=>by cases h⟩
theorem nA{t:Nat}{g:Bool}(h:dM P t=some g):(isAgg t).run P w= .ok g w:=by
 unfold dM at h;cases hu:P.underlying t with
 |none=>simp[hu]at h
 |some d=>cases d<;>simp[hu]at h<;>subst h<;>simp[isAgg,run_underlying hu]
theorem bm{e:Nat}(hi:(P.info? e).isSome):(sizeOf e).run P w= .ok (P.cellsOf e) w:=by
 obtain⟨i,hi⟩:=Option.isSome_iff_exists.1 hi;simp[sizeOf,typeInfo,hi,Program.cellsOf]
theorem DF{t:Nat}{g:Bool}{b off:Nat}{us:Nat→Value}(hg:dM P t=some g)(hi:(P.info? t).isSome)(h1:g=true∨P.cellsOf t=1)
  (hc: ∀j,j<P.cellsOf t→w.cell? ⟨b,off+j,none⟩=some (us j)):
  (Instr.loadAt t (.pointer (some ⟨b,off,none⟩))).run P w= .ok (if g then .agg ((List.range (P.cellsOf t)).map us).toArray else us 0) w:=by
 have hs:=bm (P:=P) (w:=w) hi;have hl:=run_loadCells (P:=P) w ⟨b,off,none⟩ (P.cellsOf t) us (fun j hj=>by rw[dU];exact hc j hj);cases g
 ·have h1:P.cellsOf t=1:=by simpa using h1
  have h0:=hc 0 (by omega);simp only[Nat.add_zero]at h0;simp[Instr.loadAt,Instr.sureAddr,loadVar,nA hg,h0]
 ·simp[Instr.loadAt,Instr.sureAddr,loadVar,nA hg,hs,hl]
def lg(w:World)(pr:aV)(tk:ai)(b off:Nat)(xs:List D):Prop:=
 ∃us:Nat→Value,(∀j,j<xs.length→w.cell? ⟨b,off+j,none⟩=some (us j)∧(us j).oneCell'=true)∧ ∀j x,xs[j]?=some x→aj w pr tk (us j) x
theorem lg.drop{b off k:Nat}{xs:List D}(h:lg w pr tk b off xs):lg w pr tk b (off+k) (xs.drop k):=by
 obtain⟨us,h1,h2⟩:=h;refine⟨fun j=>us (k+j),fun j hj=> ?_,fun j x hx=>h2 (k+j) x (by simpa using hx)⟩
 grind
theorem yb{b off:Nat}{xs:List D}(h:aj w pr tk (.pointer (some ⟨b,off,none⟩)) (.lptr xs)):lg w pr tk b off xs:=by
 cases h with
 |lptr us hc hr=>exact⟨us,fun j hj=>⟨(hc j hj).1,(hc j hj).2.2⟩,fun j x hx=>(hr j x hx).oi⟩
theorem lG{t:Nat}{g:Bool}{b off:Nat}{xs:List D}{d:D}(hg:dM P t=some g)(hi:(P.info? t).isSome)(h1:g=true∨P.cellsOf t=1)
  (h:lg w pr tk b off xs) (hn:P.cellsOf t≤xs.length) (hd:(if g then some (.agg (xs.take (P.cellsOf t)))else xs[0]?)=some d):
  ∃v,(Instr.loadAt t (.pointer (some ⟨b,off,none⟩))).run P w= .ok v w∧aj w pr tk v d:=by
 obtain⟨us,hc,hr⟩:=h;refine⟨_,DF hg hi h1 (fun j hj=>(hc j (by omega)).1), ?_⟩;cases g
 ·grind
 ·have hx:d= .agg (xs.take (P.cellsOf t)):=by simpa using hd.symm
  subst hx;refine .agg (by simp;omega) (fun i c hic=> ?_) fun i c x hic hx=> ?_
  ·grind
  ·grind
theorem jl(M:dQ P w pr tk m){t:Tok}{xs:List D}(hm:m t=some (.box xs)){b cap:Nat}(ht:tk t=some (b,cap))(off:Nat):lg w pr tk b off (xs.drop off):=by
 obtain⟨b',mf,C,ty,h1,h3,h4,h5,h6⟩:=M.obj t _ hm;rw[ht]at h1;cases h1;refine⟨fun j=>C.getD (off+j) undef,fun j hj=> ?_,fun j x hx=> ?_⟩
 ·have hlt:off+j<C.size:=by simp at hj;omega
  rw[cell_of_row w b (off+j) C ty (0,0) h3];simp only[Rz hlt,Array.getD,hlt];exact⟨rfl,h5 _ _ (Rz hlt)⟩
 ·rw[List.getElem?_drop]at hx
  have hlt:off+j<C.size:=by
   grind
  have:=h6 (off+j) C[off+j] x (Rz hlt) hx;simpa[Array.getD,hlt]using this
theorem u'(M:dQ P w pr tk m){t:Tok}{g:Tok}{e:Nat}{es:List (List D)}(hm:m t=some (.row g e es)){b cap:Nat}(ht:tk t=some (b,cap)){i j:Nat}{c:List D}{d:D}(hc:es[i]?=some c)(hd:c[j]?=some d):
  ∃u,w.cell? ⟨b,i*P.cellsOf e+j,none⟩=some u∧u.oneCell'=true∧aj w pr tk u d:=by
 obtain⟨b',mf,C,h1,h3,_,_,_,_,h6⟩:=M.obj t _ hm;rw[ht]at h1;cases h1;obtain⟨u,hu,h7,h8⟩:=h6 i c hc j d hd;exact⟨u,by rw[cell_of_row w b _ C e (0,0) h3,hu],h7,h8⟩
theorem BX(M:dQ P w pr tk m){t:Tok}{g:Tok}{e:Nat}{es:List (List D)}(hm:m t=some (.row g e es)): ∀c∈es,c.length=P.cellsOf e:=by
 obtain⟨b',mf,C,h1,h3,_,_,_,h5,h6⟩:=M.obj t _ hm;exact h5
theorem mg(M:dQ P w pr tk m){t:Tok}{g:Tok}{e:Nat}{es:List (List D)}(hm:m t=some (.row g e es)){b cap:Nat}(ht:tk t=some (b,cap)){i:Nat}{c:List D}(hc:es[i]?=some c)(j:Nat):
  lg w pr tk b (i*c.length+j) (c.drop j):=by
 have hsz:=BX M hm c (Lz hc)
 have key: ∀k,k<(c.drop j).length→ ∃u,w.cell? ⟨b,i*P.cellsOf e+j+k,none⟩=some u∧u.oneCell'=true∧ ∀x,(c.drop j)[k]?=some x→aj w pr tk u x:=fun k hk=>by
  simp only[List.length_drop]at hk;have hjk:j+k<c.length:=by omega
  obtain⟨u,h1,h2,h3⟩:=u' M hm ht hc (j:=j+k) (d:=c[j+k]) (Ez hjk)
  grind
 refine⟨fun k=>((w.cell? ⟨b,i*P.cellsOf e+j+k,none⟩).getD undef),fun k hk=> ?_,fun k x hx=> ?_⟩
 ·grind
 ·grind
theorem uy(M:dQ P w pr tk m){t:Nat}{g:Bool}{v:Value}{x d:D}(hg:dM P t=some g)(hi:(P.info? t).isSome)(h1:g=true∨P.cellsOf t=1)
  (h:aj w pr tk v x) (hr:iU m (P.cellsOf t) g [x]=some d): ∃u,(Instr.loadAt t v).run P w= .ok u w∧aj w pr tk u d:=by
 cases x<;>simp only[iU]at hr<;>try (cases hr;done)
 case lptr xs=>
  split at hr
  ·cases h with
   |lptr us hc hrr=>exact lG hg hi h1 (yb (.lptr us hc hrr)) ‹_› hr
  ·cases hr
 case ptr τ off=>
  split at hr
  ·rename_i xs hm;split at hr
   ·cases h with
    |ptr ht=>exact lG hg hi h1 (jl M hm ht off) (by simp;omega) (by simpa using hr)
   ·cases hr
  ·cases hr
 case rptr τ size i j=>
  split at hr
  ·rename_i gg e es hm;rw[Bz]at hr;obtain⟨c,hc,hr⟩:=hr;split at hr
   ·rename_i bc;obtain⟨rfl,hlen⟩:=bc;cases h with
    |rptr ht=>exact lG hg hi h1 (mg M hm ht hc j) (by simp;omega) (by simpa using hr)
   ·cases hr
  ·rename_i xs hm;split at hr
   ·rename_i bc;obtain⟨rfl,hlen⟩:=bc;cases h with
    |rptr ht=>rw[Nat.mul_one];exact lG hg hi h1 (jl M hm ht (i+j)) (by simp;omega) (by simpa using hr)
   ·cases hr
  ·cases hr
theorem F6{t f o n:Nat}{g:Bool}{v:Value}{x d:D}(hf:iO P t f=some (o,n,g))(h:aj w pr tk v x)(hr:Ie o [x]=some d):
  ∃u,(Instr.fieldAt t v f).run P w= .ok u w∧aj w pr tk u d:=by
 unfold iO at hf;cases hu:P.underlying t with
 |none=>simp[hu]at hf
 |some ds=>
  cases ds<;>simp only[hu]at hf<;>try (cases hf;done)
  rename_i fs;cases hfs:fs[f]? with
  |none=>simp[hfs]at hf
  |some fl=>
   simp only[hfs]at hf;cases hg:dM P fl.type with
   |none=>simp[hg]at hf
   |some gg=>
    simp only[hg,Oz]at hf;split at hf
    ·cases hf
    ·rename_i hsz;obtain⟨rfl,_,_⟩:=hf
     have ID: ∃i,P.info? fl.type=some i:=by
      cases hi:P.info? fl.type with
      |none=>simp[Program.cellsOf,hi]at hsz
      |some i=>exact⟨i,rfl⟩
     obtain⟨i,hi⟩:=ID;have hi0:i.size≠0:=by simpa[Program.cellsOf,hi]using hsz
     have run: ∀b off,(Instr.fieldAt t (.pointer (some ⟨b,off,none⟩)) f).run P w= .ok (.pointer (some ⟨b,off+fl.offset,none⟩)) w:=fun b off=>by
      simp[Instr.fieldAt,run_underlying hu,hfs,Instr.sureAddr,fieldPlace,sizeOf,typeInfo,hi,hi0,dU]
     cases x<;>simp only[Ie]at hr<;>try (cases hr;done)
     case lptr xs=>
      cases h with
      |lptr us hc hrr=>
       cases hr;rename_i b off;refine⟨_,run b off, .lptr (fun j=>us (fl.offset+j)) (fun j hj=> ?_) fun j y hy=>hrr _ y (by simpa using hy)⟩
       grind
     case ptr τ off=>
      cases hr;cases h with
      |ptr ht=>exact⟨_,run _ off, .ptr ht⟩
     case rptr τ size m j=>
      cases hr;cases h with
      |rptr ht=>exact⟨_,run _ _,by rw[Nat.add_assoc];exact .rptr ht⟩
theorem Gf{t e:Nat}{v u:Value}{x y d:D}(hu:P.underlying t=some (.slice e))(hi:(P.info? e).isSome)
  (h:aj w pr tk v x) (hy:aj w pr tk u y) (hr:sA e (P.cellsOf e) [x,y]=some d): ∃z,(Instr.indexAt t v u).run P w= .ok z w∧aj w pr tk z d:=by
 cases x<;>cases y<;>simp only[sA]at hr<;>try (cases hr;done)
 case list.v es yv=>
  cases yv<;>simp only[]at hr<;>try (cases hr;done)
  rename_i k n;cases hy;split at hr
  ·cases hr
  ·rename_i hn;cases hc:es[n.toNat]? with
   |none=>simp[hc]at hr
   |some c=>
    simp only[hc,Oz]at hr;split at hr
    ·rename_i hsz;cases hr;have hlt:=(Gz.1 hc).1;cases h with
     |nil'=>simp at hlt
     |emp=>simp at hlt
     |list us hes kM fJ hrr=>
      rename_i b off cap size;have ue:size=P.cellsOf e:=by rw[←hes c (Lz hc),hsz]
      subst ue;refine⟨.pointer (some ⟨b,off+n.toNat*P.cellsOf e,none⟩), ?_, .lptr (fun j=>us (n.toNat*P.cellsOf e+j)) (fun j hj=> ?_) fun j z hz=>hrr _ c hc j z hz⟩
      ·simp[Instr.indexAt,run_underlying hu,asIntOf,bm hi,dU,show 0≤n∧n<(es.length:Int) by omega]
      ·have hlen:n.toNat*P.cellsOf e+j<es.length*P.cellsOf e:=by
        have:(n.toNat+1)*P.cellsOf e≤es.length*P.cellsOf e:=Nat.mul_le_mul_right _ hlt
        grind
       grind
    ·cases hr
 case sl.v τ kY off len lim yv=>
  cases yv<;>simp only[]at hr<;>try (cases hr;done)
  rename_i k n;cases hy;split at hr
  ·cases hr
  ·rename_i hn;split at hr
   ·rename_i bc;obtain⟨rfl,hlt⟩:=bc;cases hr;cases h with
    |sl ht hc hl ho=>
     rename_i b cap c o
     have ho:o=off*P.cellsOf e:=by
      grind
     subst ho;refine⟨.pointer (some ⟨b,(off+n.toNat)*P.cellsOf e+0,none⟩), ?_, .rptr ht⟩;simp[Instr.indexAt,run_underlying hu,asIntOf,bm hi,dU,Nat.add_mul,show 0≤n∧n<(len:Int) by omega]
   ·cases hr
theorem CB{t e k:Nat}{v u:Value}{x y d:D}(hu:P.underlying t=some (.array k e))(hi:(P.info? e).isSome)
  (h:aj w pr tk v x) (hy:aj w pr tk u y) (hr:wM k (P.cellsOf e) [x,y]=some d): ∃z,(Instr.indexAt t v u).run P w= .ok z w∧aj w pr tk z d:=by
 have run: ∀b off (q:IntKind) (n:Int),0≤n∧n<(k:Int)→(Instr.indexAt t (.pointer (some ⟨b,off,none⟩)) (.int q n)).run P w= .ok (.pointer (some ⟨b,off+n.toNat*P.cellsOf e,none⟩)) w:=fun b off q n hn=>by
  simp[Instr.indexAt,run_underlying hu,asIntOf,Instr.sureAddr,bm hi,dU,hn]
 cases x<;>cases y<;>simp only[wM]at hr<;>try (cases hr;done)
 all_goals
  rename_i yv;cases yv<;>simp only[]at hr<;>try (cases hr;done)
  rename_i q n;cases hy;split at hr<;>try (cases hr;done)
  rename_i hn;cases hr
 case lptr.v.int=>
  cases h with
  |lptr us hc hrr=>
   rename_i b off;refine⟨_,run b off q n hn, .lptr (fun j=>us (n.toNat*P.cellsOf e+j)) (fun j hj=> ?_) fun j y hy=>hrr _ y (by simpa using hy)⟩
   grind
 case ptr.v.int=>
  cases h with
  |ptr ht=>exact⟨_,run _ _ q n hn, .ptr ht⟩
 case rptr.v.int=>
  cases h with
  |rptr ht=>exact⟨_,run _ _ q n hn,by rw[Nat.add_assoc];exact .rptr ht⟩
end
end
section
section
variable {P : Program} {w : World} {pr : aV} {tk : ai} {m : Mem}
theorem qm{v:Value}{d:D}(h:AO v=some d):aj w pr tk v d∧v.oneCell'=true:=by
 unfold AO at h;split at h<;>cases h<;>exact⟨by first|exact aj.nil|exact aj.v rfl|exact aj.nilmap,rfl⟩
theorem vP{l:List Value}{z:List D}(h:l.mapM AO=some z):cw w pr tk l.toArray z:=by
 have key: ∀(l:List Value) (z:List D),l.mapM AO=some z→l.length=z.length∧(∀(i:Nat) (c:Value),l[i]?=some c→c.oneCell'=true)∧ ∀(i:Nat) (c:Value) (x:D),l[i]?=some c→z[i]?=some x→aj w pr tk c x:=by
  intro l
  induction l with
  |nil=>intro z h;simp at h;subst h;simp
  |cons v l ih=>
   intro z h;simp only[List.mapM_cons,Option.bind_eq_bind,Bz,Option.pure_def,Jz]at h;obtain⟨d,hd,z',hz',rfl⟩:=h;have hv:=qm (w:=w) (pr:=pr) (tk:=tk) hd
   grind
 obtain⟨h1,h2,h3⟩:=key l z h;exact⟨by simpa using h1,fun i c hc=>h2 i c (by simpa using hc),fun i c x hc hx=>h3 i c x (by simpa using hc) hx⟩
theorem iN{t:Nat}{z:List D}(h:wX P t=some z): ∃i zv,P.info? t=some i∧i.zero=some zv∧cw w pr tk zv.cells z:=by
 obtain⟨zv,hzv,hz⟩:=Bz.1 h;obtain⟨i,hi,hzi⟩:=Bz.1 hzv;exact⟨i,zv,hi,hzi,by have:=vP (w:=w) (pr:=pr) (tk:=tk) hz;simpa using this⟩
theorem fR{v:Value}{d:D}(h:aj w pr tk v d)(hd:d.cells.all D.gK=true):cw w pr tk v.cells d.cells:=by
 have one:d.gK=true→d.cells= [d]→cw w pr tk v.cells d.cells:=fun hk he=>by
  have h1:v.oneCell'=true:=h.Mx hk;have hv:v.cells= #[v]:=by cases v<;>first|rfl|(simp[Value.oneCell']at h1)
  rw[hv,he];refine⟨rfl,fun i c hc=> ?_,fun i c x hc hx=> ?_⟩
  ·match i,hc with
   |0,hc=>simp at hc;subst hc;exact h1
   |i+1,hc=>simp at hc
  ·match i,hc,hx with
   |0,hc,hx=>simp at hc hx;subst hc;subst hx;exact h
   |i+1,hc,_=>simp at hc
 cases d
 case agg xs=>
  obtain⟨cs,rfl,h2⟩:=dF.1 h;exact h2
 case undef=>simp[D.cells,D.gK]at hd
 case tup=>simp[D.cells,D.gK]at hd
 all_goals exact one rfl rfl
theorem AW(off:Nat): ∀(l:List Value) (k:Nat) (C:Array Value) (i:Nat),((l.zipIdx k).foldl (fun cs (p:Value×Nat)=>cs.setIfInBounds (off+p.2) p.1) C)[i]?=
  if off+k≤i∧i<off+k+l.length∧i<C.size then l[i-(off+k)]? else C[i]?
 | [],k,C,i=>by
  simp only[List.zipIdx_nil]
  grind
 |v::l,k,C,i=>by
  simp only[List.zipIdx_cons,List.foldl_cons];rw[AW off l (k+1)]
  grind
theorem wZ(off:Nat): ∀(l:List (Value×Nat)) (C:Array Value),(l.foldl (fun cs (p:Value×Nat)=>cs.setIfInBounds (off+p.2) p.1) C).size=C.size
 | [],_=>rfl
 |_::l,C=>by simp only[List.foldl_cons];rw[wZ off l];simp
theorem gG{zs xs:List D}{off i:Nat}(h:off+xs.length≤zs.length):(putAt zs off xs)[i]?=if off≤i∧i<off+xs.length then xs[i-off]? else zs[i]?:=by
 unfold putAt;by_cases h1:i<off
 ·grind
 ·by_cases h2:i<off+xs.length
  ·grind
  ·rw[Xz (by simp;omega),List.getElem?_drop]
   grind
theorem eX{zs xs:List D}{off:Nat}(h:off+xs.length≤zs.length):(putAt zs off xs).length=zs.length:=by
 unfold putAt;simp;omega
theorem MC{C:Array Value}{zs:List D}(h:cw w pr tk C zs){V:Array Value}{xs:List D}(hv:cw w pr tk V xs){off:Nat}(ho:off+xs.length≤zs.length):
  cw w pr tk (V.zipIdx.foldl (fun cs (p:Value×Nat)=>cs.setIfInBounds (off+p.2) p.1) C) (putAt zs off xs):=by
 have e:V.zipIdx.foldl (fun cs (p:Value×Nat)=>cs.setIfInBounds (off+p.2) p.1) C=(V.toList.zipIdx 0).foldl (fun cs (p:Value×Nat)=>cs.setIfInBounds (off+p.2) p.1) C:=by
  rw[←Array.foldl_toList,Array.toList_zipIdx]
 rw[e];have hg:=fun i=>AW off V.toList 0 C i;simp only[Array.length_toList]at hg;refine⟨by rw[wZ,eX ho];exact h.1,fun i c hc=> ?_,fun i c x hc hx=> ?_⟩
 ·rw[hg]at hc;split at hc
  ·exact hv.2.1 (i-off) c (by simpa using hc)
  ·exact h.2.1 i c hc
 ·rw[hg]at hc;rw[gG ho]at hx;have h1:=hv.1;split at hc
  ·rw[if_pos (by omega)]at hx;exact hv.2.2 (i-off) c x (by simpa using hc) hx
  ·rename_i hn;by_cases hin:off≤i∧i<off+xs.length
   ·grind
   ·rw[if_neg hin]at hx;exact h.2.2 i c x hc hx
def aX(w:World)(pr:aV)(tk:ai):List Value→List D→Prop
 | [],[]=>True
 |v::vs,d::ds=>aj w pr tk v d∧aX w pr tk vs ds
 |_,_=>False
theorem tY{place:Nat→Option (Nat×Nat)}: ∀(parts:List (Nat×Value)) (ps:List (Nat×Nat)) (ds:List D) (C:Array Value) (zs out:List D),cw w pr tk C zs→
  parts.mapM (fun p=>place p.1)=some ps→aX w pr tk (parts.map (·.2)) ds→(ds.all fun d=>d.cells.all D.gK)=true→nP zs ps ds=some out→
  ∃C',Instr.fill place C parts=some C'∧cw w pr tk C' out
 | [],ps,ds,C,zs,out,h,hp,hr,hok,hf=>by
  simp at hp;subst hp;cases ds with
  |nil=>cases hf;exact⟨C,rfl,h⟩
  |cons=>cases hf
 |(i,v)::parts,ps,ds,C,zs,out,h,hp,hr,hok,hf=>by
  simp only[List.mapM_cons,Option.bind_eq_bind,Bz,Option.pure_def,Jz]at hp;obtain⟨q,hq,ps',Th,rfl⟩:=hp;obtain⟨off,n⟩:=q;cases ds with
  |nil=>exact absurd hr (by simp[aX])
  |cons d ds=>
   simp only[List.all_cons,Az]at hok;simp only[nP]at hf;split at hf
   ·rename_i hc;have hv:cw w pr tk v.cells d.cells:=fR hr.1 hok.1;have h1:=MC h hv (off:=off) (by omega);obtain⟨C',g1,g2⟩:=tY parts ps' ds _ _ out h1 Th hr.2 hok.2 hf;have hvs:=hv.1;have hcs:=h.1;simp only[Instr.fill]
    grind
   ·cases hf
theorem As{t:Nat}{idx:List Nat}{zs:List D}{ps:List (Nat×Nat)}{parts:List (Nat×Value)}{ds:List D}{d:D}(hd:HQ P t idx=some (zs,ps))(C5:parts.map (·.1)=idx)
  (hr:aX w pr tk (parts.map (·.2)) ds) (ah:xW zs ps ds=some d): ∃C,P.built t parts=some C∧aj w pr tk (.agg C) d:=by
 unfold xW at ah;split at ah
 ·rename_i hok;obtain⟨out,ho,rfl⟩:=Mz.1 ah;obtain⟨z,hz,hd⟩:=Bz.1 hd;obtain⟨i,zv,hi,hzv,bh⟩:=iN (w:=w) (pr:=pr) (tk:=tk) hz
  have fin: ∀(place:Nat→Option (Nat×Nat)),z=zs→idx.mapM place=some ps→(P.built t parts=Instr.fill place zv.cells parts)→ ∃C,P.built t parts=some C∧aj w pr tk (.agg C) (.agg out):=by
   intro place he hp hb;subst he
   have hp':parts.mapM (fun p=>place p.1)=some ps:=by
    rw[←hp,←C5,List.mapM_map];rfl
   obtain⟨C,g1,g2⟩:=tY parts ps ds zv.cells z out bh hp' hr hok ho;exact⟨C,hb.trans g1,dF.2 ⟨C,rfl,g2⟩⟩
  split at hd
  ·rename_i fs hu;obtain⟨pl,hpl,hd⟩:=Bz.1 hd;obtain⟨ps',hps,he⟩:=Mz.1 hd;cases he;exact fin _ rfl hps (by simp only[Program.built,hi,hu,hzv,hpl])
  ·rename_i m e hu;obtain⟨ie,hie,he⟩:=Mz.1 hd;cases he
   have: ∀(l:List Nat),l.mapM (fun k=>some (k*ie.size,ie.size))=some (l.map fun k=>(k*ie.size,ie.size)):=by
    intro l
    induction l with
    |nil=>rfl
    |cons a l ih=>simp[ih]
   exact fin _ rfl (this idx) (by simp only[Program.built,hi,hu,hzv,hie])
  ·cases hd
 ·grind
theorem mi: ∀(size n:Nat) (l:List D) (i:Nat),i<n→(lj size n l)[i]?=some ((l.drop (i*size)).take size)
 |size,0,l,i,h=>by omega
 |size,n+1,l,0,_=>by simp[lj]
 |size,n+1,l,i+1,h=>by
  simp only[lj,List.getElem?_cons_succ];rw[mi size n _ i (by omega),List.drop_drop]
  grind
theorem gO: ∀(size n:Nat) (l:List D),(lj size n l).length=n
 |_,0,_=>rfl
 |size,n+1,l=>by simp[lj,gO size n]
theorem Uy{v:Value}{d:D}(h:aj w pr tk v d):aj w pr tk v d.nz:=by
 cases d<;>first|exact h|skip
 ·cases h;exact .nil'
 ·cases h;exact .emp
theorem JM{C:Array Value}{out:List D}(h:cw w pr tk C out):cw w pr tk C (out.map D.nz):=
 ⟨by rw[List.length_map];exact h.1,h.2.1,fun i c x hc hx=>by
  rw[Dz,Mz]at hx;obtain⟨d,hd,rfl⟩:=hx
  exact Uy (h.2.2 i c d hc hd)⟩
theorem zh{e n:Nat}{C:Array Value}{out:List D}(h:cw w pr tk C out)(hl:out.length=n*P.cellsOf e):bg P w pr tk C e (lj (P.cellsOf e) n out):=by
 have hlen:=gO (P.cellsOf e) n out;refine⟨fun c hc=> ?_,fun i c hc j d hd=> ?_⟩
 ·obtain⟨i,hi,rfl⟩:=List.getElem_of_mem hc;have hi':i<n:=by rw[hlen]at hi;exact hi
  have hg:=mi (P.cellsOf e) n out i hi';have:(i+1)*P.cellsOf e≤n*P.cellsOf e:=Nat.mul_le_mul_right _ hi'
  grind
 ·have hi:i<n:=by have:=(Gz.1 hc).1;omega
  rw[mi (P.cellsOf e) n out i hi]at hc;cases hc;have hj:j<P.cellsOf e:=by have:=(Gz.1 hd).1;simp at this;omega
  rw[List.getElem?_take_of_lt hj,List.getElem?_drop]at hd;have hlt:i*P.cellsOf e+j<C.size:=by rw[h.1];exact(Gz.1 hd).1
  exact⟨_,Rz hlt,h.2.1 _ _ (Rz hlt),h.2.2 _ _ d (Rz hlt) hd⟩
end
end
section
section
variable {P : Program} {w : World} {pr : aV} {tk : ai} {m : Mem}
theorem aX.length: ∀{vs:List Value} {ds:List D},aX w pr tk vs ds→vs.length=ds.length
 | [],[],_=>rfl
 |_::_,_::_,h=>by simp[aX.length h.2]
 | [],_::_,h=>absurd h (by simp[aX])
 |_::_,[],h=>absurd h (by simp[aX])
theorem aX.one{v:Value}{ds:List D}(h:aX w pr tk [v] ds): ∃d,ds= [d]∧aj w pr tk v d:=by
 match ds,h with
 | [d],h=>exact⟨d,rfl,h.1⟩
 |_::_::_,h=>exact absurd h.2 (by simp[aX])
theorem aX.two{v u:Value}{ds:List D}(h:aX w pr tk [v,u] ds): ∃d e,ds= [d,e]∧aj w pr tk v d∧aj w pr tk u e:=by
 match ds,h with
 | [d,e],h=>exact⟨d,e,rfl,h.1,h.2.1⟩
 | [_],h=>exact absurd h.2 (by simp[aX])
 |_::_::_::_,h=>exact absurd h.2.2 (by simp[aX])
theorem aX.three{v u z:Value}{ds:List D}(h:aX w pr tk [v,u,z] ds): ∃d e f,ds= [d,e,f]∧aj w pr tk v d∧aj w pr tk u e∧aj w pr tk z f:=by
 match ds,h with
 | [d,e,f],h=>exact⟨d,e,f,rfl,h.1,h.2.1,h.2.2.1⟩
 | [_],h=>exact absurd h.2 (by simp[aX])
 | [_,_],h=>exact absurd h.2.2 (by simp[aX])
 |_::_::_::_::_,h=>exact absurd h.2.2.2 (by simp[aX])
theorem aT{v:Value}{x:Value}:aj w pr tk v (.v x)↔v=x∧qR x=true:=by
 constructor
 ·intro h;cases h;exact⟨rfl,‹_›⟩
 ·rintro⟨rfl,h⟩;exact .v h
theorem C_{t:Nat}{op:BinOp}{k:IntKind}{a b:Int}{d:D}(h:dm op k a b=some d):
  ∃v,(binOp op t (.int k a) (.int k b)).run P w= .ok v w∧aj w pr tk v d:=by
 cases op<;>simp only[dm]at h<;>try (cases h;done)
 case quo=>split at h<;>cases h;rename_i hb;exact⟨_,by simp[binOp,Op.intDiv,hb],aT.2 ⟨rfl,rfl⟩⟩
 case rem=>split at h<;>cases h;rename_i hb;exact⟨_,by simp[binOp,Op.intDiv,hb],aT.2 ⟨rfl,rfl⟩⟩
 case and=>cases h;exact⟨_,by simp[binOp,intBits_and],aT.2 ⟨rfl,rfl⟩⟩
 case or=>cases h;exact⟨_,by simp[binOp,intBits_or],aT.2 ⟨rfl,rfl⟩⟩
 case xor=>cases h;exact⟨_,by simp[binOp,intBits_xor],aT.2 ⟨rfl,rfl⟩⟩
 case andNot=>cases h;exact⟨_,by simp[binOp];rfl,aT.2 ⟨rfl,rfl⟩⟩
 all_goals (cases h;exact⟨_,by simp[binOp,Op.intArith,Op.intCmp],aT.2 ⟨rfl,rfl⟩⟩)
theorem rC{op:BinOp}{t:Nat}{x y:Operand}{k k':IntKind}{a b:Int}:(eqGuard op t x y (.int k a) (.int k' b)).run P w= .ok () w:=by
 cases op<;>simp[eqGuard]
theorem yp{op:BinOp}{t:Nat}{x y:Operand}{a b:Bool}:(eqGuard op t x y (.bool a) (.bool b)).run P w= .ok () w:=by
 cases op<;>simp[eqGuard]
theorem tU{op:BinOp}{t:Nat}{x y:Operand}{a b:ByteArray}:(eqGuard op t x y (.string a) (.string b)).run P w= .ok () w:=by
 cases op<;>simp[eqGuard]
theorem B6{op:BinOp}{t:Nat}{x y:Operand}{a b:Value}{p q d:D}(hp:aj w pr tk a p)(hq:aj w pr tk b q)
  (hop:op= .shl∨op= .shr) (ah:DG op [p,q]=some d): ∃v,(do eqGuard op t x y a b;binOp op t a b:Sem Value).run P w= .ok v w∧aj w pr tk v d:=by
 cases p<;>cases q<;>simp only[DG]at ah<;>try (cases ah;done)
 rename_i pv qv;cases pv<;>cases qv<;>simp only[]at ah<;>try (cases ah;done)
 obtain⟨rfl,_⟩:=aT.1 hp;obtain⟨rfl,_⟩:=aT.1 hq;simp only[EX]at ah;split at ah
 ·cases ah
 ·rename_i hb;rcases hop with rfl|rfl<;>cases ah<;>exact⟨_,by simp[rC,binOp,Op.shift,hb],aT.2 ⟨rfl,rfl⟩⟩
theorem Al{op:BinOp}{t:Nat}{x y:Operand}{a b:Value}{p q d:D}(hp:aj w pr tk a p)(hq:aj w pr tk b q)
  (ah:jc op [p,q]=some d): ∃v,(do eqGuard op t x y a b;binOp op t a b:Sem Value).run P w= .ok v w∧aj w pr tk v d:=by
 cases p<;>cases q<;>simp only[jc]at ah<;>try (cases ah;done)
 rename_i pv qv;cases pv<;>cases qv<;>simp only[]at ah<;>try (cases ah;done)
 split at ah<;>try (cases ah;done)
 rename_i hk;subst hk;obtain⟨rfl,_⟩:=aT.1 hp;obtain⟨rfl,_⟩:=aT.1 hq;obtain⟨v,h3,h4⟩:=C_ (P:=P) (w:=w) (pr:=pr) (tk:=tk) (t:=t) ah;exact⟨v,by simp[rC,h3],h4⟩
theorem FR{Γ:Env}{op:BinOp}{t:Nat}{k:PK}{x y:Operand}{a b:Value}{p q d:D}(hd:HP P op t=some k)
  (hp:aj w pr tk a p) (hq:aj w pr tk b q) (ah:k.run Γ m [p,q]=some d): ∃v,(do eqGuard op t x y a b;binOp op t a b:Sem Value).run P w= .ok v w∧aj w pr tk v d:=by
 unfold HP at hd;cases hu:P.underlying t with
 |none=>simp[hu]at hd
 |some dsc=>
  cases dsc<;>simp only[hu]at hd<;>try (cases hd;done)
  case int ik=>
   cases op<;>simp only[]at hd<;>cases hd<;>first|exact Al hp hq ah|exact B6 hp hq (by simp) ah
  case bool=>
   cases op<;>simp only[]at hd<;>cases hd
   all_goals
    cases p<;>cases q<;>simp only[PK.run,Sa]at ah<;>try (cases ah;done)
    rename_i pv qv;cases pv<;>cases qv<;>simp only[]at ah<;>try (cases ah;done)
    cases ah;obtain⟨rfl,_⟩:=aT.1 hp;obtain⟨rfl,_⟩:=aT.1 hq;refine⟨_,by simp only[Sem.run_bind,yp,Result.andThen_ok];first|exact run_eql_bool _ _ _ _ hu|exact run_neq_bool _ _ _ _ hu,aT.2 ⟨rfl,rfl⟩⟩
  case string=>
   cases op<;>simp only[]at hd<;>cases hd
   all_goals
    cases p<;>cases q<;>simp only[PK.run,UI]at ah<;>try (cases ah;done)
    rename_i pv qv;cases pv<;>cases qv<;>simp only[]at ah<;>try (cases ah;done)
    cases ah;obtain⟨rfl,_⟩:=aT.1 hp;obtain⟨rfl,_⟩:=aT.1 hq;refine⟨_,by simp only[Sem.run_bind,tU,Result.andThen_ok];simp[binOp,Op.stringOp],aT.2 ⟨rfl,rfl⟩⟩
theorem F5{v:Value}{x d:D}{i:Nat}(h:aj w pr tk v x)(hr:H7 i [x]=some d): ∃u,(Instr.extract v i).run P w= .ok u w∧aj w pr tk u d:=by
 cases x<;>simp only[H7]at hr<;>try (cases hr;done)
 rename_i ys;cases h with
 |tup h2 h3=>
  rename_i cs;have hlt:i<cs.size:=by have:=(Gz.1 hr).1;omega
  exact⟨cs[i],by simp[Instr.extract,Rz hlt],h3 i cs[i] d (Rz hlt) hr⟩
theorem CE{Γ:Env}{src dst:Nat}{k:PK}{v:Value}{x d:D}(hd:AH P src dst=some k)(h:aj w pr tk v x)(hr:k.run Γ m [x]=some d):
  ∃u,(convert src dst v).run P w= .ok u w∧aj w pr tk u d:=by
 unfold AH at hd;split at hd
 ·rename_i k1 k2 hs ht;cases hd;cases x<;>simp only[PK.run,NJ]at hr<;>try (cases hr;done)
  rename_i pv;cases pv<;>simp only[]at hr<;>try (cases hr;done)
  cases hr;obtain⟨rfl,_⟩:=aT.1 h;exact⟨_,by simp[convert,run_underlying hs,run_underlying ht,Conv.intToInt],aT.2 ⟨rfl,rfl⟩⟩
 ·cases hd
theorem Kj{Γ:Env}{op:UnOp}{k:PK}{v:Value}{x d:D}(hd:We op=some k)(h:aj w pr tk v x)(hr:k.run Γ m [x]=some d):
  ∃u,(Op.unary op v).run P w= .ok u w∧aj w pr tk u d:=by
 cases op<;>simp only[We]at hd<;>cases hd
 all_goals
  cases x<;>simp only[PK.run,Ud,Yp]at hr<;>try (cases hr;done)
  rename_i pv;cases pv<;>simp only[]at hr<;>try (cases hr;done)
  cases hr;obtain⟨rfl,_⟩:=aT.1 h;exact⟨_,by simp[Op.unary,Op.intArith],aT.2 ⟨rfl,rfl⟩⟩
theorem Dh{v:Value}{x:D}{n:Nat}(h:aj w pr tk v x)(he:x.uu=some n): ∃a c,v= .slice a n c:=by
 cases x<;>simp only[D.uu]at he<;>cases he
 case nil=>cases h;exact⟨_,_,rfl⟩
 case mt=>cases h;exact⟨_,_,rfl⟩
 case list=>cases h<;>exact⟨_,_,rfl⟩
 case sl=>cases h;exact⟨_,_,rfl⟩
theorem xr{mx:Bool}{a b c:Value}{x y z d:D}{ts:Array Nat}{ty:Nat}{cn:Array Bool}(hx:aj w pr tk a x)(hy:aj w pr tk b y)(hz:aj w pr tk c z)(hr:Ua mx [x,y,z]=some d):
  ∃u,(builtin (if mx then .max else .min) ts ty cn #[a,b,c]).run P w= .ok (.value u) w∧aj w pr tk u d:=by
 cases x<;>cases y<;>cases z<;>simp only[Ua]at hr<;>try (cases hr;done)
 rename_i pv qv rv;cases pv<;>cases qv<;>cases rv<;>simp only[]at hr<;>try (cases hr;done)
 cases hr;obtain⟨rfl,_⟩:=aT.1 hx;obtain⟨rfl,_⟩:=aT.1 hy;obtain⟨rfl,_⟩:=aT.1 hz;cases mx
 ·exact⟨_,by simp[builtin,Builtin.min_,Builtin.min2],aT.2 ⟨rfl,rfl⟩⟩
 ·exact⟨_,by simp[builtin,Builtin.max_,Builtin.max2],aT.2 ⟨rfl,rfl⟩⟩
theorem V2{α:Type}{vs:Array α}(h:vs.size=3): ∃v u z,vs= #[v,u,z]:=by
 obtain⟨l⟩:=vs
 match l,h with
 | [v,u,z],_=>exact⟨v,u,z,rfl⟩
theorem abG{α:Type}{vs:Array α}(h:vs.size=1): ∃v,vs= #[v]:=by
 obtain⟨l⟩:=vs
 match l,h with
 | [v],_=>exact⟨v,rfl⟩
theorem V1{α:Type}{vs:Array α}(h:vs.size=2): ∃v u,vs= #[v,u]:=by
 obtain⟨l⟩:=vs
 match l,h with
 | [v,u],_=>exact⟨v,u,rfl⟩
theorem vS{Γ:Env}{b:Builtin}{ts:Array Nat}{k:PK}{ty:Nat}{cn:Array Bool}{vs:Array Value}{ds:List D}{d:D}(hd:mn P b ts.toList vs.size=some k)
  (h:aX w pr tk vs.toList ds) (hr:k.run Γ m ds=some d): ∃u,(builtin b ts ty cn vs).run P w= .ok (.value u) w∧aj w pr tk u d:=by
 obtain⟨ts⟩:=ts;unfold mn at hd;split at hd
 ·rename_i t hts hn;simp only[]at hts;subst hts;obtain⟨v,rfl⟩:=abG hn;clear hn;obtain⟨x,rfl,hx⟩:=h.one;clear h;split at hd<;>cases hd
  ·rename_i e hu;simp only[PK.run,yL]at hr;cases he:x.uu with
   |none=>simp[he]at hr
   |some n=>
    simp only[he,Oz,Jz]at hr;subst hr;obtain⟨a,c,rfl⟩:=Dh hx he;exact⟨_,by simp[builtin,Builtin.len_,run_underlying hu,goInt],aT.2 ⟨rfl,rfl⟩⟩
  ·rename_i hu;cases x<;>simp only[PK.run,PN]at hr<;>try (cases hr;done)
   rename_i pv;cases pv<;>simp only[]at hr<;>try (cases hr;done)
   cases hr;obtain⟨rfl,_⟩:=aT.1 hx;exact⟨_,by simp[builtin,Builtin.len_,run_underlying hu,goInt],aT.2 ⟨rfl,rfl⟩⟩
 ·rename_i hn;cases hd;obtain⟨v,u,rfl⟩:=V1 hn;clear hn;obtain⟨x,y,rfl,hx,hy⟩:=h.two;clear h;cases x<;>cases y<;>simp only[PK.run,T_]at hr<;>try (cases hr;done)
  rename_i pv qv;cases pv<;>cases qv<;>simp only[]at hr<;>try (cases hr;done)
  cases hr;obtain⟨rfl,_⟩:=aT.1 hx;obtain⟨rfl,_⟩:=aT.1 hy;exact⟨_,by simp[builtin,Builtin.max_,Builtin.max2],aT.2 ⟨rfl,rfl⟩⟩
 ·rename_i hn;cases hd;obtain⟨v,u,rfl⟩:=V1 hn;clear hn;obtain⟨x,y,rfl,hx,hy⟩:=h.two;clear h;cases x<;>cases y<;>simp only[PK.run,T_]at hr<;>try (cases hr;done)
  rename_i pv qv;cases pv<;>cases qv<;>simp only[]at hr<;>try (cases hr;done)
  cases hr;obtain⟨rfl,_⟩:=aT.1 hx;obtain⟨rfl,_⟩:=aT.1 hy;exact⟨_,by simp[builtin,Builtin.min_,Builtin.min2],aT.2 ⟨rfl,rfl⟩⟩
 ·rename_i hn;cases hd;obtain⟨v,u,z,rfl⟩:=V2 hn;clear hn;obtain⟨x,y,q,rfl,hx,hy,hq⟩:=h.three;clear h;exact xr (mx:=true) hx hy hq hr
 ·rename_i hn;cases hd;obtain⟨v,u,z,rfl⟩:=V2 hn;clear hn;obtain⟨x,y,q,rfl,hx,hy,hq⟩:=h.three;clear h;exact xr (mx:=false) hx hy hq hr
 ·cases hd
theorem FU{v:Value}{x d:D}(h:aj w pr tk v x)(hr:Sh [x]=some d):x=d∧((∃a,v= .pointer (some a))∨ ∃f bv cv,v= .func (.func f) bv cv):=by
 cases x<;>simp only[Sh]at hr<;>try (cases hr;done)
 case lptr xs=>
  cases hr;cases h;exact⟨rfl, .inl ⟨_,rfl⟩⟩
 case clo f cs=>
  cases hr;cases h<;>exact⟨rfl, .inr ⟨_,_,_,rfl⟩⟩
 case ptr τ o=>
  cases hr;cases h;exact⟨rfl, .inl ⟨_,rfl⟩⟩
 case rptr τ e i j=>
  cases hr;cases h;exact⟨rfl, .inl ⟨_,rfl⟩⟩
theorem ve{t:Nat}{g:Bool}(hg:dM P t=some g)(hi:(P.info? t).isSome){cs:Array Value}{off:Nat}(hl:off+P.cellsOf t≤cs.size)(h1:g=true∨P.cellsOf t=1):
  (part t cs off).run P w= .ok (if g then .agg (cs.extract off (off+P.cellsOf t))else cs.getD off undef) w:=by
 cases g
 ·have h1:P.cellsOf t=1:=by simpa using h1
  have hlt:off<cs.size:=by omega
  simp[part,nA hg,hlt]
 ·simp[part,nA hg,bm hi]
theorem kj{cs:Array Value}{xs:List D}(h:cw w pr tk cs xs)(off n:Nat):cw w pr tk (cs.extract off (off+n)) ((xs.drop off).take n):=by
 refine⟨by simp[h.1];omega,fun i c hc=> ?_,fun i c x hc hx=> ?_⟩
 ·simp only[Array.getElem?_extract]at hc;split at hc
  ·exact h.2.1 _ c hc
  ·cases hc
 ·simp only[Array.getElem?_extract]at hc;split at hc
  ·rename_i hlt;rw[List.getElem?_take_of_lt (by omega),List.getElem?_drop]at hx;exact h.2.2 _ c x hc hx
  ·cases hc
theorem FJ{Γ:Env}{t:Nat}{k:PK}{v u:Value}{x y d:D}(hd:HN P t=some k)(hx:aj w pr tk v x)(hy:aj w pr tk u y)(hr:k.run Γ m [x,y]=some d):
  ∃z,(Instr.index t v u).run P w= .ok z w∧aj w pr tk z d:=by
 unfold HN at hd;split at hd
 ·rename_i n e hu;obtain⟨g,hg,hd⟩:=Bz.1 hd;split at hd<;>cases hd;rename_i hc;cases x<;>cases y<;>simp only[PK.run,KS]at hr<;>try (cases hr;done)
  rename_i xs yv;cases yv<;>simp only[]at hr<;>try (cases hr;done)
  rename_i ik q;obtain⟨rfl,_⟩:=aT.1 hy;split at hr
  ·rename_i hb;obtain⟨h0,hn,hl⟩:=hb;obtain⟨cs,rfl,hcs⟩:=dF.1 hx;have hlc:q.toNat*P.cellsOf e+P.cellsOf e≤cs.size:=by rw[hcs.1];exact hl
   refine⟨_,by simp only[Instr.index,asIntOf,Sem.run_bind,Sem.run_pure,Result.andThen_ok,run_underlying hu];simp only[h0,hn,and_self,if_true,Sem.run_bind,bm hc.1,Result.andThen_ok];exact ve hg hc.1 hlc hc.2, ?_⟩;cases g
   ·have h1:P.cellsOf e=1:=by simpa using hc.2
    have hlt:q.toNat*P.cellsOf e<cs.size:=by omega
    simp only[Bool.false_eq_true,if_false]at hr⊢;have:=hcs.2.2 _ _ d (Rz hlt) hr;have hgd:cs.getD (q.toNat*P.cellsOf e) undef=cs[q.toNat*P.cellsOf e]:=by simp[Array.getD,hlt]
    rw[hgd];exact this
   ·simp only[if_true,Jz]at hr⊢;subst hr;exact dF.2 ⟨_,rfl,kj hcs _ _⟩
  ·cases hr
 ·cases hd
theorem LW{n:Nat}{t:Nat}{x y:D}{a b:Value}{r:Bool}(hk:cq P t=some n)(hx:aj w pr tk a x)(hy:aj w pr tk b y)(hr:aa [n] [x] [y]=some r)(dd:Nat):
  (Op.equalIn (dd+1) t a b).run P w= .ok r w:=by
 unfold cq at hk;unfold aa at hr;split at hr
 ·rename_i hh _ _;cases hh
 ·rename_i n' ks k u xs k' v ys hh1 hh2 hh3;cases hh1;cases hh2;cases hh3;split at hr
  ·rename_i hc;obtain⟨c1,c2⟩:=hc;simp only[aa,Pz,Bool.and_true,Jz]at hr;subst hr;cases hx;cases hy;have inj: ∀p q:IntKind,bj p=bj q→p=q:=by intro p q;cases p<;>cases q<;>simp[bj]
   have hkk:k=k':=inj _ _ (c1.symm.trans c2);subst hkk;have lt8: ∀p:IntKind,bj p<8:=by intro p;cases p<;>simp[bj]
   split at hk
   ·rename_i k0 hu;exact run_equalIn_int w dd t k k0 u v hu
   ·have:=lt8 k;simp at hk;omega
   ·have:=lt8 k;simp at hk;omega
   ·cases hk
  ·cases hr
 ·rename_i ks u xs v ys hh1 hh2 hh3;cases hh1;cases hh2;cases hh3;simp only[aa,Pz,Bool.and_true,Jz]at hr;subst hr;cases hx;cases hy;have lt8: ∀p:IntKind,bj p<8:=by intro p;cases p<;>simp[bj]
  split at hk
  ·rename_i k0 hu;have:=lt8 k0;simp at hk;omega
  ·rename_i hu;exact run_equalIn_bool' w dd t u v hu
  ·simp at hk
  ·cases hk
 ·rename_i ks u xs v ys hh1 hh2 hh3;cases hh1;cases hh2;cases hh3;simp only[aa,Pz,Bool.and_true,Jz]at hr;subst hr;cases hx;cases hy;have lt8: ∀p:IntKind,bj p<8:=by intro p;cases p<;>simp[bj]
  split at hk
  ·rename_i k0 hu;have:=lt8 k0;simp at hk;omega
  ·simp at hk
  ·rename_i hu;exact run_equalIn_string w dd t u v hu
  ·cases hk
 ·cases hr
theorem iq{n:Nat}{ks:List Nat}{xs ys:List D}{r:Bool}(h:aa (n::ks) xs ys=some r): ∃x xs' y ys' r1 r2,xs=x::xs'∧ys=y::ys'∧aa [n] [x] [y]=some r1∧aa ks xs' ys'=some r2∧r=(r1&&r2):=by
 unfold aa at h;split at h
 ·rename_i h1;cases h1
 ·rename_i n' ks' k a xs' k' b ys' hh1;cases hh1;split at h
  ·rename_i hc;obtain⟨r',hr',rfl⟩:=Mz.1 h;exact⟨_,_,_,_,a==b,r',rfl,rfl,by unfold aa;rw[if_pos hc];simp[aa],hr',rfl⟩
  ·cases h
 ·rename_i ks' a xs' b ys' hh1;cases hh1;obtain⟨r',hr',rfl⟩:=Mz.1 h;exact⟨_,_,_,_,a==b,r',rfl,rfl,by simp[aa],hr',rfl⟩
 ·rename_i ks' a xs' b ys' hh1;cases hh1;obtain⟨r',hr',rfl⟩:=Mz.1 h;exact⟨_,_,_,_,a.toList==b.toList,r',rfl,rfl,by simp[aa],hr',rfl⟩
 ·cases h
theorem iu{t n:Nat}(hk:cq P t=some n){xs:Array Value}{off:Nat}{v:Value}(hx:xs[off]?=some v):(part t xs off).run P w= .ok v w:=by
 unfold cq at hk;split at hk
 ·rename_i hu;simp[part,isAgg,run_underlying hu,hx]
 ·rename_i hu;simp[part,isAgg,run_underlying hu,hx]
 ·rename_i hu;simp[part,isAgg,run_underlying hu,hx]
 ·cases hk
theorem CL{n:Nat}{ks:List Nat}{x y:D}{xs ys:List D}{r1 r2:Bool}(h1:aa [n] [x] [y]=some r1)(h2:aa ks xs ys=some r2):aa (n::ks) (x::xs) (y::ys)=some (r1&&r2):=by
 unfold aa at h1⊢;split at h1
 ·rename_i hh _ _;cases hh
 ·rename_i n' ks' k a xs' k' b ys' hh1 hh2 hh3;cases hh1;cases hh2;cases hh3;split at h1
  ·rename_i hc;simp only[aa,Pz,Jz,Bool.and_true]at h1;simp only[if_pos hc,h2,Pz,h1]
  ·cases h1
 ·rename_i ks' a xs' b ys' hh1 hh2 hh3;cases hh1;cases hh2;cases hh3;simp only[aa,Pz,Jz,Bool.and_true]at h1;simp only[h2,Pz,h1]
 ·rename_i ks' a xs' b ys' hh1 hh2 hh3;cases hh1;cases hh2;cases hh3;simp only[aa,Pz,Jz,Bool.and_true]at h1;simp only[h2,Pz,h1]
 ·cases h1
theorem ry: ∀{k1 k2:List Nat} {xs ys:List D} {r:Bool},aa (k1++k2) xs ys=some r→
  ∃r1 r2,aa k1 (xs.take k1.length) (ys.take k1.length)=some r1∧aa k2 (xs.drop k1.length) (ys.drop k1.length)=some r2∧r=(r1&&r2)
 | [],k2,xs,ys,r,h=>⟨true,r,by simp[aa],by simpa using h,by simp⟩
 |n::k1,k2,xs,ys,r,h=>by
  obtain⟨x,xs',y,ys',r1,r2,rfl,rfl,h1,h2,rfl⟩:=iq h;obtain⟨r3,r4,h3,h4,rfl⟩:=ry h2;exact⟨r1&&r3,r4,by simpa using CL h1 h3,by simpa using h4,by simp[Bool.and_assoc]⟩
theorem dR: ∀{ks:List Nat} {xs ys:List D} {r:Bool},aa ks xs ys=some r→xs.length=ks.length∧ys.length=ks.length
 | [],xs,ys,r,h=>by cases xs<;>cases ys<;>simp[aa]at h⊢
 |n::ks,xs,ys,r,h=>by
  obtain⟨x,xs',y,ys',r1,r2,rfl,rfl,h1,h2,rfl⟩:=iq h;have:=dR h2;simp[this.1,this.2]
theorem mX{l:List D}{i a b:Nat}:((l.drop i).take (a+b)).take a=(l.drop i).take a∧((l.drop i).take (a+b)).drop a=(l.drop (i+a)).take b:=by
 refine⟨by rw[List.take_take,Nat.min_eq_left (by omega)], ?_⟩;rw[List.drop_take,List.drop_drop,Nat.add_sub_cancel_left]
theorem rz{k1 k2:List Nat}{xs ys:List D}{i:Nat}{r:Bool}(h:aa (k1++k2) ((xs.drop i).take (k1++k2).length) ((ys.drop i).take (k1++k2).length)=some r):
  ∃r1 r2,aa k1 ((xs.drop i).take k1.length) ((ys.drop i).take k1.length)=some r1∧aa k2 ((xs.drop (i+k1.length)).take k2.length) ((ys.drop (i+k1.length)).take k2.length)=some r2∧r=(r1&&r2):=by
 obtain⟨r1,r2,h1,h2,h3⟩:=ry h;simp only[List.length_append]at h1 h2;rw[mX.1,mX.1]at h1;rw[mX.2,mX.2]at h2;exact⟨r1,r2,h1,h2,h3⟩
def VT(P:Program)(w:World)(pr:aV)(tk:ai)(f t:Nat)(ks:List Nat):Prop:=
 ∀(A B:Array Value) (xs ys:List D) (off d:Nat) (r:Bool),cw w pr tk A xs→cw w pr tk B ys→f≤d→aa ks ((xs.drop off).take ks.length) ((ys.drop off).take ks.length)=some r→
  ∃va vb,(part t A off).run P w= .ok va w∧(part t B off).run P w= .ok vb w∧(Op.equalIn d t va vb).run P w= .ok r w
theorem js{f e:Nat}{ks:List Nat}(ih:VT P w pr tk f e ks)(hc:P.cellsOf e=ks.length){A B:Array Value}{xs ys:List D}{d:Nat}(hA:cw w pr tk A xs)(hB:cw w pr tk B ys)(hd:f≤d):
  ∀(m j:Nat) (r:Bool),aa (List.replicate m ks).flatten ((xs.drop (j*ks.length)).take (List.replicate m ks).flatten.length) ((ys.drop (j*ks.length)).take (List.replicate m ks).flatten.length)=some r→
   (Op.eqItems d e (P.cellsOf e) A B (List.range' j m)).run P w= .ok r w
 |0,j,r,h=>by simp[aa]at h;subst h;simp[Op.eqItems]
 |m+1,j,r,h=>by
  rw[show(List.replicate (m+1) ks).flatten=ks++(List.replicate m ks).flatten by simp[List.replicate_succ]]at h;obtain⟨r1,r2,h1,h2,rfl⟩:=rz h;obtain⟨va,vb,p1,p2,p3⟩:=ih A B xs ys _ d r1 hA hB hd h1;have i2:=js ih hc hA hB hd m (j+1) r2 (by rw[Nat.succ_mul];exact h2);simp only[List.range'_succ,Op.eqItems,Sem.run_bind,hc,p1,p2,p3,Result.andThen_ok];rw[←hc];cases r1
  ·simp
  ·simpa using i2
theorem gT: ∀f:Nat,(∀(t:Nat) (ks:List Nat),lF P f t=some ks→VT P w pr tk f t ks)∧
  (∀(i:Nat) (fs:List Field) (ks:List Nat),eF P f i fs=some ks→ ∀(A B:Array Value) (xs ys:List D) (d:Nat) (r:Bool),cw w pr tk A xs→cw w pr tk B ys→f≤d→
   aa ks ((xs.drop i).take ks.length) ((ys.drop i).take ks.length)=some r→(Op.eqFields d A B fs).run P w= .ok r w)
 |0=>⟨fun t ks h=>by simp[lF]at h,fun i fs ks h A B xs ys d r hA hB hd he=>by
   cases fs with
   |nil=>simp[eF]at h;subst h;simp[aa]at he;subst he;simp[Op.eqFields]
   |cons g gs=>simp[eF]at h⟩
 |f+1=>by
  obtain⟨ihT,ihF⟩:=gT f;refine⟨fun t ks h A B xs ys off d r hA hB hd he=> ?_,fun i fs ks h A B xs ys d r hA hB hd he=> ?_⟩
  ·obtain⟨d,rfl⟩: ∃d',d=d'+1:=⟨d-1,by omega⟩;have hl:=dR he;simp only[List.length_take,List.length_drop]at hl
   have Fh: ∀{C:Array Value} {zs:List D},cw w pr tk C zs→min ks.length (zs.length-off)=ks.length→(P.info? t).map (·.size)=some ks.length→dM P t=some true→0<ks.length→
     (part t C off).run P w= .ok (.agg (C.extract off (off+ks.length))) w:=fun{C zs} hC hz hi hg h0=>by
    obtain⟨i,hi1,hi2⟩:=Mz.1 hi;have hc:P.cellsOf t=ks.length:=by simp[Program.cellsOf,hi1,hi2]
    rw[ve hg (by simp[hi1]) (by rw[hc,hC.1];omega) (.inl rfl),hc];rfl
   simp only[lF]at h;split at h
   ·rename_i fs hu;split at h
    ·rename_i hst;obtain⟨ks',hk,h⟩:=Bz.1 h;split at h<;>cases h;rename_i hi;have hg:dM P t=some true:=by simp[dM,hu]
     refine⟨_,_,Fh hA hl.1 hi.1 hg hi.2,Fh hB hl.2 hi.1 hg hi.2, ?_⟩;have hf:P.fieldsOf t=fs:=by simp[Program.fieldsOf,hu]
     rw[run_equalIn_struct w d t _ _ (by rw[hf];exact hu) hst,hf];refine ihF 0 fs.toList ks hk _ _ _ _ d r (kj hA off ks.length) (kj hB off ks.length) (by omega) ?_;simpa[List.take_take]using he
    ·cases h
   ·rename_i n e hu;obtain⟨k1,hk,h⟩:=Bz.1 h;split at h<;>cases h;rename_i hi;have hg:dM P t=some true:=by simp[dM,hu]
    refine⟨_,_,Fh hA hl.1 hi.2.1 hg hi.2.2,Fh hB hl.2 hi.2.1 hg hi.2.2, ?_⟩;obtain⟨ie,hi1,hi2⟩:=Mz.1 hi.1;have hc:P.cellsOf e=k1.length:=by simp[Program.cellsOf,hi1,hi2]
    rw[run_equalIn_array w d _ _ hu hi1,List.range_eq_range'];refine js (ihT _ _ hk) hc (kj hA off _) (kj hB off _) (by omega) n 0 r ?_;simpa[List.take_take]using he
   ·obtain⟨k,hk,rfl⟩:=Mz.1 h;obtain⟨x,xs',y,ys',r1,r2,hx,hy,h1,h2,rfl⟩:=iq he
    have gx:xs[off]?=some x:=by
     have:=congrArg (·[0]?) hx;simpa[List.getElem?_take,List.getElem?_drop]using this
    have gy:ys[off]?=some y:=by
     have:=congrArg (·[0]?) hy;simpa[List.getElem?_take,List.getElem?_drop]using this
    have ex:=Rz (show off<A.size by rw[hA.1];exact(Gz.1 gx).1);have ey:=Rz (show off<B.size by rw[hB.1];exact(Gz.1 gy).1)
    have hr2:r2=true:=by
     have:=dR h2;cases xs'<;>cases ys'<;>simp[aa]at h2<;>simp[h2]
    subst hr2;exact⟨_,_,iu hk ex,iu hk ey,by rw[Bool.and_true];exact LW hk (hA.2.2 off _ x ex gx) (hB.2.2 off _ y ey gy) h1 d⟩
  ·cases fs with
   |nil=>simp[eF]at h;subst h;simp[aa]at he;subst he;simp[Op.eqFields]
   |cons g gs=>
    simp only[eF]at h;split at h
    ·rename_i hc;obtain⟨k1,h1,h⟩:=Bz.1 h;obtain⟨k2,h2,rfl⟩:=Mz.1 h;obtain⟨r1,r2,e1,e2,rfl⟩:=rz he;obtain⟨va,vb,p1,p2,p3⟩:=ihT _ _ h1 A B xs ys i d r1 hA hB (by omega) e1;have i2:=ihF _ _ _ h2 A B xs ys d r2 hA hB (by omega) e2;simp only[Op.eqFields,hc.1,ne_eq,not_false_eq_true,if_true,Sem.run_bind,hc.2,p1,p2,p3,Result.andThen_ok];cases r1
     ·simp
     ·simpa using i2
    ·cases h
theorem Aj{t:Nat}{ks:List Nat}{a b:Value}{xs ys:List D}{r:Bool}(hk:fA P t=some ks)(hp:aj w pr tk a (.agg xs))(hq:aj w pr tk b (.agg ys))(he:aa ks xs ys=some r):
  ∃A B,a= .agg A∧b= .agg B∧(Op.equalIn 10000 t (.agg A) (.agg B)).run P w= .ok r w:=by
 obtain⟨A,rfl,hA⟩:=dF.1 hp;obtain⟨B,rfl,hB⟩:=dF.1 hq;refine⟨A,B,rfl,rfl, ?_⟩;have ful: ∀(zs:List D),zs.length=ks.length→(zs.drop 0).take ks.length=zs:=fun zs hz=>by simp[←hz]
 have hl:=dR he;unfold fA at hk;split at hk
 ·rename_i fs hu;split at hk
  ·cases hk
  ·rename_i hst;have hst:P.stoodInHeld t=false:=by simpa using hst
   have hf:P.fieldsOf t=fs:=by simp[Program.fieldsOf,hu]
   rw[run_equalIn_struct w 9999 t A B (by rw[hf];exact hu) hst,hf];exact(gT 40).2 0 fs.toList ks hk A B xs ys 9999 r hA hB (by omega) (by rw[ful xs hl.1,ful ys hl.2];exact he)
 ·rename_i n e hu;obtain⟨k1,hk1,hk⟩:=Bz.1 hk;split at hk<;>cases hk;rename_i hi;obtain⟨ie,hi1,hi2⟩:=Mz.1 hi;have hc:P.cellsOf e=k1.length:=by simp[Program.cellsOf,hi1,hi2]
  rw[run_equalIn_array w 9999 _ _ hu hi1,List.range_eq_range'];exact js ((gT 40).1 _ _ hk1) hc hA hB (by omega) n 0 r (by rw[Nat.zero_mul,ful xs hl.1,ful ys hl.2];exact he)
 ·cases hk
theorem FI{Γ:Env}{op:BinOp}{t:Nat}{k:PK}{x y:Operand}{a b:Value}{p q d:D}(hd:HL P op t=some k)
  (hp:aj w pr tk a p) (hq:aj w pr tk b q) (ah:k.run Γ m [p,q]=some d): ∃v,(do eqGuard op t x y a b;binOp op t a b:Sem Value).run P w= .ok v w∧aj w pr tk v d:=by
 unfold HL at hd;split at hd
 ·cases hd
 rename_i yD;have yD:P.eqGuardType P.depth t=false:=by simpa using yD
 have key: ∀neg ks,fA P t=some ks→KR neg ks [p,q]=some d→ ∃A B r,a= .agg A∧b= .agg B∧d=bv (if neg then !r else r)∧(Op.equalIn 10000 t (.agg A) (.agg B)).run P w= .ok r w:=by
  intro neg ks hk hr;cases p<;>cases q<;>simp only[KR]at hr<;>try (cases hr;done)
  rename_i xs ys;obtain⟨r,he,rfl⟩:=Mz.1 hr;obtain⟨A,rfl,hA⟩:=dF.1 hp;obtain⟨B,rfl,hB⟩:=dF.1 hq;refine⟨A,B,r,rfl,rfl,rfl, ?_⟩;have ful: ∀(zs:List D),zs.length=ks.length→(zs.drop 0).take ks.length=zs:=fun zs hz=>by simp[←hz]
  have hl:=dR he;unfold fA at hk;split at hk
  ·rename_i fs hu;split at hk
   ·cases hk
   ·rename_i hst;have hst:P.stoodInHeld t=false:=by simpa using hst
    have hf:P.fieldsOf t=fs:=by simp[Program.fieldsOf,hu]
    rw[run_equalIn_struct w 9999 t A B (by rw[hf];exact hu) hst,hf];exact(gT 40).2 0 fs.toList ks hk A B xs ys 9999 r hA hB (by omega) (by rw[ful xs hl.1,ful ys hl.2];exact he)
  ·rename_i n e hu;obtain⟨k1,hk1,hk⟩:=Bz.1 hk;split at hk<;>cases hk;rename_i hi;obtain⟨ie,hi1,hi2⟩:=Mz.1 hi;have hc:P.cellsOf e=k1.length:=by simp[Program.cellsOf,hi1,hi2]
   rw[run_equalIn_array w 9999 _ _ hu hi1,List.range_eq_range'];exact js ((gT 40).1 _ _ hk1) hc hA hB (by omega) n 0 r (by rw[Nat.zero_mul,ful xs hl.1,ful ys hl.2];exact he)
  ·cases hk
 split at hd
 ·obtain⟨ks,hks,rfl⟩:=Mz.1 hd;obtain⟨A,B,r,rfl,rfl,rfl,he⟩:=key false ks hks ah;exact⟨.bool r,by simp only[Sem.run_bind,run_eqGuard_agg w _ _ _ _ _ _ yD,Result.andThen_ok,run_eql_struct,he],aT.2 ⟨rfl,rfl⟩⟩
 ·obtain⟨ks,hks,rfl⟩:=Mz.1 hd;obtain⟨A,B,r,rfl,rfl,rfl,he⟩:=key true ks hks ah;exact⟨.bool (!r),by simp only[Sem.run_bind,run_eqGuard_agg w _ _ _ _ _ _ yD,Result.andThen_ok,run_neq_struct,he],aT.2 ⟨rfl,rfl⟩⟩
 ·cases hd
theorem DI{Γ:Env}{op:BinOp}{t:Nat}{k:PK}{x y:Operand}{a b:Value}{p q d:D}(hd:AN P op t=some k)
  (hp:aj w pr tk a p) (hq:aj w pr tk b q) (ah:k.run Γ m [p,q]=some d): ∃v,(do eqGuard op t x y a b;binOp op t a b:Sem Value).run P w= .ok v w∧aj w pr tk v d:=by
 have key: ∀neg,FB neg [p,q]=some d→b= .slice none 0 0∧ ∃o n c,a= .slice o n c∧d=bv (if neg then !o.isNone else o.isNone):=by
  intro neg hr;unfold FB at hr;split at hr
  ·rename_i d0 hh;simp only[List.cons.injEq,and_true]at hh;obtain⟨rfl,rfl⟩:=hh;cases hq;refine⟨rfl, ?_⟩;split at hr
   ·cases hr;cases hp;exact⟨none,0,0,rfl,by cases neg<;>rfl⟩
   ·cases hr;cases hp;exact⟨_,_,_,rfl,by cases neg<;>rfl⟩
   ·cases hr;cases hp;exact⟨_,_,_,rfl,by cases neg<;>rfl⟩
   ·cases hr;cases hp;exact⟨_,_,_,rfl,by cases neg<;>rfl⟩
   ·cases hr
  ·cases hr
 unfold AN at hd;split at hd
 ·rename_i e hu;cases hd;obtain⟨rfl,o,n,c,rfl,rfl⟩:=key false ah;exact⟨.bool o.isNone,by simp only[Sem.run_bind];simp[eqGuard,Lib.run_eql_slice_nil w t e o n c 0 0 hu],aT.2 ⟨rfl,rfl⟩⟩
 ·rename_i e hu;cases hd;obtain⟨rfl,o,n,c,rfl,rfl⟩:=key true ah;exact⟨.bool (!o.isNone),by simp only[Sem.run_bind];simp[eqGuard,run_neq_slice_nil_any w t e o n c 0 0 hu],aT.2 ⟨rfl,rfl⟩⟩
 ·cases hd
theorem sY{v:Value}(h:aj w pr tk v .mt):aj w pr tk v (.list []):=by
 cases h;exact .emp
theorem La{e b off cap l h k:Nat}{es:List (List D)}(hr:aj w pr tk (.slice (some ⟨b,off,none⟩) es.length cap) (.list es))(hsz: ∀c∈es,c.length=P.cellsOf e)(h1:l≤h)(h2:h≤es.length)(h3:h≤k):
  aj w pr tk (.slice (some (if k=l then⟨b,off,none⟩else(⟨b,off,none⟩:Addr).add (l*P.cellsOf e))) (h-l) (k-l)) (.list ((es.drop l).take (h-l))):=by
 have hlen:((es.drop l).take (h-l)).length=h-l:=by simp;omega
 generalize hq:Value.slice (some ⟨b,off,none⟩) es.length cap=q at hr;cases hr with
 |nil'=>simp at hq
 |emp=>
  have e1:h=0:=by simpa using h2
  have e2:l=0:=by omega
  subst e1;subst e2;exact .emp
 |list us hes kM fJ hrr=>
  rename_i b' ahc mf size;simp only[Value.slice.injEq,Jz,Addr.mk.injEq,and_true,true_and]at hq;obtain⟨⟨rfl,rfl⟩,rfl⟩:=hq
  have key: ∀(Mw:Nat),(l<h→Mw=off+l*size)→aj w pr tk (.slice (some ⟨b,Mw,none⟩) (h-l) (k-l)) (.list ((es.drop l).take (h-l))):=by
   intro Mw ho;have:=aj.list (w:=w) (pr:=pr) (tk:=tk) (b:=b) (off:=Mw) (cap:=k-l) (es:=(es.drop l).take (h-l)) (size:=size) (fun j=>us (l*size+j)) (fun c hc=>hes c (List.mem_of_mem_drop (List.mem_of_mem_take hc))) (by rw[hlen];omega) (fun j hj=> ?_) (fun i c hc j d hd=> ?_)
   ·rw[hlen]at this;exact this
   ·rw[hlen]at hj
    have su:l<h:=by
     rcases Nat.lt_or_ge l h with h0|h0
     ·exact h0
     ·have:h-l=0:=by omega
      rw[this]at hj;simp at hj
    rw[ho su,Nat.add_assoc];refine fJ _ ?_;have e1:(h-l)*size+l*size≤es.length*size:=by rw[←Nat.add_mul];exact Nat.mul_le_mul_right _ (by omega)
    omega
   ·have hi:i<h-l:=by have:=(Gz.1 hc).1;omega
    rw[List.getElem?_take_of_lt hi,List.getElem?_drop]at hc;have:=hrr (l+i) c hc j d hd;rw[Nat.add_mul]at this;rw[←Nat.add_assoc];exact this
  have ue:l<h→size=P.cellsOf e:=fun hlt=>by
   have hm:es[l]'(by omega)∈es:=List.getElem_mem _;rw[←hes _ hm,hsz _ hm]
  split
  ·exact key off (fun hlt=>by omega)
  ·rw[dU];exact key _ (fun hlt=>by rw[ue hlt])
def fN:List Value→List Int→Prop
 | [],[]=>True
 |v::vs,n::ns=>(∃k,v= .int k n)∧fN vs ns
 |_,_=>False
theorem fN.nil_eq{l:List Int}(h:fN [] l):l= []:=by cases l with|nil=>rfl|cons=>exact absurd h (by simp[fN])
theorem fN.eW{v:Value}{vs:List Value}{l:List Int}(h:fN (v::vs) l): ∃k n r,v= .int k n∧l=n::r∧fN vs r:=by
 cases l with
 |nil=>exact absurd h (by simp[fN])
 |cons n r=>obtain⟨⟨k,hk⟩,h2⟩:=h;exact⟨k,n,r,hk,rfl,h2⟩
theorem iS: ∀{vs:List Value} {ds:List D} {l:List Int},aX w pr tk vs ds→e_ ds=some l→fN vs l
 | [],[],l,_,h=>by simp only[e_,Jz]at h;subst h;trivial
 |v::vs,d::ds,l,hr,h=>by
  unfold e_ at h;split at h
  ·rename_i hh;cases hh
  ·rename_i k n r hh;cases hh;obtain⟨l',h1,rfl⟩:=Mz.1 h;exact⟨⟨_,(aT.1 hr.1).1⟩,iS hr.2 h1⟩
  ·cases h
 | [],_::_,_,h,_=>absurd h (by simp[aX])
 |_::_,[],_,h,_=>absurd h (by simp[aX])
theorem pK{t e:Nat}{x:Operand}{lo hi mx:Option Operand}{E:Operand→Value}{a:Option Addr}{n cap:Nat}{is:List Int}{l h:Int}{mo:Option Int}(hu:P.underlying t=some (.slice e))(hi':(P.info? e).isSome)(hx:E x= .slice a n cap)
  (hI:fN ((lo.toList++hi.toList++mx.toList).map E) is) (hb:b7 n lo.isSome hi.isSome mx.isSome is=some (l,h,mo)) (h0:0≤l) (h1:l≤h) (h2:h≤cap) (kM:n≤cap) (hm: ∀c,mo=some c→h≤c∧c≤n):
  (Instr.sliceAt t (E x) (lo.map E) (hi.map E) (mx.map E)).run P w= .ok (.slice (if(mo.map Int.toNat).getD cap=l.toNat then a else a.map (·.add (l.toNat*P.cellsOf e))) (h.toNat-l.toNat) ((mo.map Int.toNat).getD cap-l.toNat)) w:=by
 have bound: ∀(k:IntKind) (i:Int) (y:Nat) (code:BoundsCode),0≤i→i≤y→(Instr.sliceBound (.int k i) y code).run P w= .ok i.toNat w:=fun k i y code h0 h1=>run_sliceBound w k i y code h0 h1;cases lo<;>cases hi<;>cases mx<;>simp only[b7,Option.isSome_none,Option.isSome_some,Option.toList,List.map_nil,List.map_cons,List.nil_append,List.cons_append,List.append_nil]at hb hI
 case none.none.none=>
  obtain rfl:=hI.nil_eq;cases hb;simp[Instr.sliceAt,Instr.slice,run_underlying hu,Instr.sliceBounds,bm hi',hx]
 case some.none.none lo=>
  obtain⟨kk,a1,_,e1,rfl,hI1⟩:=hI.eW;obtain rfl:=hI1.nil_eq;cases hb;simp[Instr.sliceAt,Instr.slice,run_underlying hu,Instr.sliceBounds,e1,bound kk l n .sliceB h0 h1,bm hi',hx]
 case none.some.none hi=>
  obtain⟨kk,a1,_,e1,rfl,hI1⟩:=hI.eW;obtain rfl:=hI1.nil_eq;cases hb;simp[Instr.sliceAt,Instr.slice,run_underlying hu,Instr.sliceBounds,e1,bound kk h cap .sliceAcap h1 (by omega),bm hi',hx]
 case some.some.none lo hi=>
  obtain⟨kk,a1,_,e1,rfl,hI1⟩:=hI.eW;obtain⟨kk',b1,_,e2,rfl,hI2⟩:=hI1.eW;obtain rfl:=hI2.nil_eq;cases hb;simp[Instr.sliceAt,Instr.slice,run_underlying hu,Instr.sliceBounds,e1,e2,bound kk' h cap .sliceAcap (by omega) (by omega),bound kk l h.toNat .sliceB h0 (by omega),bm hi',hx]
 case none.some.some hi mx=>
  obtain⟨kk,a1,_,e1,rfl,hI1⟩:=hI.eW;obtain⟨kk',b1,_,e2,rfl,hI2⟩:=hI1.eW;obtain rfl:=hI2.nil_eq;cases hb;obtain⟨g1,g2⟩:=hm _ rfl;simp[Instr.sliceAt,Instr.slice,run_underlying hu,Instr.sliceBounds,e1,e2,bound kk' b1 cap .slice3Acap (by omega) (by omega),bound kk h b1.toNat .slice3B (by omega) (by omega),bm hi',hx]
 case some.some.some lo hi mx=>
  obtain⟨k1,a1,_,e1,rfl,hI1⟩:=hI.eW;obtain⟨k2,b1,_,e2,rfl,hI2⟩:=hI1.eW;obtain⟨k3,c1,_,e3,rfl,hI3⟩:=hI2.eW;obtain rfl:=hI3.nil_eq;cases hb;obtain⟨g1,g2⟩:=hm _ rfl
  simp[Instr.sliceAt,Instr.slice,run_underlying hu,Instr.sliceBounds,e1,e2,e3,bound k3 c1 cap .slice3Acap (by omega) (by omega),bound k2 h c1.toNat .slice3B (by omega) (by omega),
   bound k1 l h.toNat .slice3C h0 (by omega),bm hi',hx]
 all_goals cases hb
theorem Fx{t e n:Nat}{x:Operand}{lo hi:Option Operand}{E:Operand→Value}{a:Addr}{is:List Int}{l h:Int}{mo:Option Int}(hu:P.underlying t=some (.array n e))(hi':(P.info? e).isSome)(hx:E x= .pointer (some a))
  (hI:fN ((lo.toList++hi.toList).map E) is) (hb:b7 n lo.isSome hi.isSome false is=some (l,h,mo)) (h0:0≤l) (h1:l≤h) (h2:h≤n):
  (Instr.sliceAt t (E x) (lo.map E) (hi.map E) none).run P w= .ok (.slice (some (if n=l.toNat then a else a.add (l.toNat*P.cellsOf e))) (h.toNat-l.toNat) (n-l.toNat)) w:=by
 have bound: ∀(k:IntKind) (i:Int) (y:Nat) (code:BoundsCode),0≤i→i≤y→(Instr.sliceBound (.int k i) y code).run P w= .ok i.toNat w:=fun k i y code h0 h1=>run_sliceBound w k i y code h0 h1;cases lo<;>cases hi<;>simp only[b7,Option.isSome_none,Option.isSome_some,Option.toList,List.map_nil,List.map_cons,List.nil_append,List.cons_append,List.append_nil]at hb hI
 case none.none=>
  obtain rfl:=hI.nil_eq;cases hb;simp[Instr.sliceAt,run_underlying hu,Instr.sliceBounds,bm hi',hx,Instr.sureAddr]
 case some.none lo=>
  obtain⟨kk,a1,_,e1,rfl,hI1⟩:=hI.eW;obtain rfl:=hI1.nil_eq;cases hb;simp[Instr.sliceAt,run_underlying hu,Instr.sliceBounds,e1,bound kk l n .sliceB h0 h1,bm hi',hx,Instr.sureAddr]
 case none.some hi=>
  obtain⟨kk,a1,_,e1,rfl,hI1⟩:=hI.eW;obtain rfl:=hI1.nil_eq;cases hb;simp[Instr.sliceAt,run_underlying hu,Instr.sliceBounds,e1,bound kk h n .sliceAlen h1 (by omega),bm hi',hx,Instr.sureAddr]
 case some.some lo hi=>
  obtain⟨kk,a1,_,e1,rfl,hI1⟩:=hI.eW;obtain⟨kk',b1,_,e2,rfl,hI2⟩:=hI1.eW;obtain rfl:=hI2.nil_eq;cases hb;simp[Instr.sliceAt,run_underlying hu,Instr.sliceBounds,e1,e2,bound kk' h n .sliceAlen (by omega) (by omega),bound kk l h.toNat .sliceB h0 (by omega),bm hi',hx,Instr.sureAddr]
theorem GY(M:dQ P w pr tk m){t:Nat}{x:Operand}{lo hi mx:Option Operand}{k:PK}{xs:List Operand}{E:Operand→Value}{ds:List D}{d:D}{Γ:Env}(hd:HW P t x lo hi mx=some (k,xs))
  (bh:aX w pr tk (xs.map E) ds) (hr:k.run Γ m ds=some d): ∃z,(Instr.sliceAt t (E x) (lo.map E) (hi.map E) (mx.map E)).run P w= .ok z w∧aj w pr tk z d:=by
 unfold HW at hd;split at hd
 ·rename_i n e hu;split at hd<;>cases hd;rename_i po;obtain⟨hi',hmx⟩:=po;have hmx:mx=none:=by cases mx<;>simp_all
  subst hmx;cases ds with
  |nil=>exact absurd bh (by simp[aX])
  |cons dx r=>
   simp only[List.map_cons]at bh;obtain⟨hx,iR⟩:=bh;simp only[PK.run]at hr;unfold MT at hr;split at hr
   ·rename_i τ off r' hh;cases hh;rw[Bz]at hr;obtain⟨is,his,hr⟩:=hr;rw[Bz]at hr;obtain⟨⟨l,h,mo⟩,hb,hr⟩:=hr;have hI:=iS iR his;split at hr<;>cases hr;rename_i hc;obtain⟨h0,h1,h2,sr⟩:=hc;simp only[]at h0 h1 h2;generalize hq:E x=q at hx;cases hx with
    |ptr ht=>
     rename_i b cap;refine⟨_,by rw[←hq];exact Fx hu hi' hq hI hb h0 h1 h2, ?_⟩;simp only[dU,sr,Nat.mul_one];rw[show(some (if n=l.toNat then(⟨b,off,none⟩:Addr)else⟨b,off+l.toNat,none⟩))=some ⟨b,if n=l.toNat then off else off+l.toNat,none⟩ by split<;>rfl];refine .sl ht (by simp) (by omega) ?_;by_cases hcl:n=l.toNat
     ·rw[if_pos hcl];by_cases hl0:l.toNat=0
      ·left;rw[hl0];omega
      ·right;omega
     ·left;rw[if_neg hcl];omega
   ·rename_i zs r' hh;cases hh;rw[Bz]at hr;obtain⟨is,his,hr⟩:=hr;rw[Bz]at hr;obtain⟨⟨l,h,mo⟩,hb,hr⟩:=hr;have hI:=iS iR his;split at hr<;>cases hr;rename_i hc;obtain⟨h0,h1,h2,nI⟩:=hc;simp only[]at h0 h1 h2;generalize hq:E x=q at hx;cases hx with
    |lptr us fJ hrr=>
     rename_i b off;refine⟨_,by rw[←hq];exact Fx hu hi' hq hI hb h0 h1 h2, ?_⟩;simp only[dU];have hlen:(lj (P.cellsOf e) (h.toNat-l.toNat) (zs.drop (l.toNat*P.cellsOf e))).length=h.toNat-l.toNat:=gO ..;by_cases hlh:h.toNat-l.toNat=0
     ·rw[hlh];simp only[lj];split<;>exact .emp
     ·rw[if_neg (by omega)]
      have Ga:(h.toNat-l.toNat)*P.cellsOf e+l.toNat*P.cellsOf e≤n*P.cellsOf e:=by
       rw[←Nat.add_mul];exact Nat.mul_le_mul_right _ (by omega)
      have:=aj.list (w:=w) (pr:=pr) (tk:=tk) (b:=b) (off:=off+l.toNat*P.cellsOf e) (cap:=n-l.toNat) (es:=lj (P.cellsOf e) (h.toNat-l.toNat) (zs.drop (l.toNat*P.cellsOf e))) (size:=P.cellsOf e) (fun j=>us (l.toNat*P.cellsOf e+j)) (fun c hc=>by
        obtain⟨i,hi2,rfl⟩:=List.getElem_of_mem hc;have hil:i<h.toNat-l.toNat:=by rw[hlen]at hi2;exact hi2
        have hg:=mi (P.cellsOf e) (h.toNat-l.toNat) (zs.drop (l.toNat*P.cellsOf e)) i hil;rw[Ez hi2]at hg;rw[Option.some.inj hg];have:(i+1)*P.cellsOf e≤(h.toNat-l.toNat)*P.cellsOf e:=Nat.mul_le_mul_right _ (by omega);rw[Nat.add_mul]at this;simp;omega) (by rw[hlen];omega) (fun j hj=>by
        rw[hlen]at hj;have:=fJ (l.toNat*P.cellsOf e+j) (by omega);rw[←Nat.add_assoc]at this;exact this) (fun i c hc j d hd=>by
        have hil:i<h.toNat-l.toNat:=by have:=(Gz.1 hc).1;omega
        rw[mi (P.cellsOf e) _ _ i hil]at hc;cases hc;have hjl:j<P.cellsOf e:=by have:=(Gz.1 hd).1;simp at this;omega
        rw[List.getElem?_take_of_lt hjl,List.getElem?_drop,List.getElem?_drop]at hd
        exact hrr _ d hd)
      rw[hlen]at this;exact this
   ·cases hr
 ·rename_i e hu;split at hd<;>cases hd;rename_i hi';cases ds with
  |nil=>exact absurd bh (by simp[aX])
  |cons dx r=>
   simp only[List.map_cons]at bh;obtain⟨hx,iR⟩:=bh;simp only[PK.run]at hr;unfold oN at hr;split at hr
   ·rename_i τ kY off len lim r' hh;cases hh;rw[Bz]at hr;obtain⟨is,his,hr⟩:=hr;rw[Bz]at hr;obtain⟨⟨l,h,mo⟩,hb,hr⟩:=hr;have hI:=iS iR his;split at hr
    ·rename_i hc;obtain⟨h0,h1,h2,rfl⟩:=hc;generalize hq:E x=q at hx;cases hx with
     |sl ht hcc hl ho=>
      rename_i b cap c o;simp only[]at hr h0 h1 h2
      have h2c:h≤c∧(off*P.cellsOf e=o∨(c=0∧0<off)):=by
       refine⟨?_,ho.imp Eq.symm id⟩;rcases h2 with h2|h2
       ·omega
       ·unfold Fu at h2;split at h2
        ·rename_i g e' es hm;obtain⟨b2,tH,C,k1,k3,k5,_⟩:=M.obj _ _ hm;rw[ht]at k1;cases k1;have h2:(off:Int)+h≤es.length:=by simpa using h2
         simp only[Option.getD_none]at hcc;omega
        ·cases h2
      split at hr
      ·cases hr;refine⟨_,by rw[←hq];exact pK hu hi' hq hI hb h0 h1 h2c.1 hl (by simp), ?_⟩;simp only[Option.map_none,Option.getD_none,Pz,dU];have:(if c=l.toNat then some (⟨b,o,none⟩:Addr)else some ⟨b,o+l.toNat*P.cellsOf e,none⟩)=some ⟨b,if c=l.toNat then o else o+l.toNat*P.cellsOf e,none⟩:=by split<;>rfl
       rw[this];refine .sl ht ?_ (by omega) ?_
       ·cases lim<;>simp at hcc⊢ <;>omega
       ·rcases ho with ho|ho
        ·by_cases hcl:c=l.toNat
         ·by_cases hl0:l.toNat=0
          ·left;rw[if_pos hcl,ho,hl0,Nat.add_zero]
          ·exact .inr (by omega)
         ·left;rw[if_neg hcl,ho,Nat.add_mul]
        ·exact .inr (by omega)
      ·rename_i c';split at hr<;>cases hr;rename_i hc';refine⟨_,by rw[←hq];exact pK hu hi' hq hI hb h0 h1 h2c.1 hl (by intro q hq;cases hq;exact hc'), ?_⟩;simp only[Pz,Option.getD_some,dU];have:(if c'.toNat=l.toNat then some (⟨b,o,none⟩:Addr)else some ⟨b,o+l.toNat*P.cellsOf e,none⟩)=some ⟨b,if c'.toNat=l.toNat then o else o+l.toNat*P.cellsOf e,none⟩:=by split<;>rfl
       rw[this];refine .sl ht (by simp) (by omega) ?_;rcases ho with ho|ho
       ·by_cases hcl:c'.toNat=l.toNat
        ·by_cases hl0:l.toNat=0
         ·left;rw[if_pos hcl,ho,hl0,Nat.add_zero]
         ·exact .inr (by omega)
        ·left;rw[if_neg hcl,ho,Nat.add_mul]
       ·exact .inr (by omega)
    ·cases hr
   ·rename_i d0 r' hns hh;cases hh;rw[Bz]at hr;obtain⟨es,hes,hr⟩:=hr;split at hr
    ·cases hr
    rename_i bQ
    have hsz: ∀c∈es,c.length=P.cellsOf e:=fun c hc=>by
     have bQ:es.all (fun c=>c.length==P.cellsOf e)=true:=by simpa only[Bool.not_eq_false]using bQ
     simpa using Tz.1 bQ c hc
    rw[Bz]at hr;obtain⟨is,his,hr⟩:=hr;rw[Bz]at hr;obtain⟨⟨l,h,mo⟩,hb,hr⟩:=hr;have hI:=iS iR his
    have Iz:(0≤l∧l≤h∧h≤es.length∧d= .list ((es.drop l.toNat).take (h.toNat-l.toNat)))∧ ∀c,mo=some c→h≤c∧c≤es.length:=by
     have cut:tQ es l h=some d→0≤l∧l≤h∧h≤es.length∧d= .list ((es.drop l.toNat).take (h.toNat-l.toNat)):=by
      intro hc;unfold tQ at hc;split at hc
      ·rename_i hcc;exact⟨hcc.1,hcc.2.1,hcc.2.2,(Option.some.inj hc).symm⟩
      ·cases hc
     simp only[]at hr;split at hr
     ·exact⟨cut hr,by simp⟩
     ·split at hr
      ·rename_i hcc;exact⟨cut hr,by intro q hq;cases hq;exact hcc⟩
      ·cases hr
    obtain⟨⟨h0,h1,h2,hde⟩,hm⟩:=Iz;generalize hq:E x=q at hx
    have hv:((q= .slice none 0 0∧es= [])∨ ∃a cap,q= .slice (some a) 0 cap∧es= [])∨ ∃b off cap,q= .slice (some ⟨b,off,none⟩) es.length cap∧es.length≤cap∧aj w pr tk (.slice (some ⟨b,off,none⟩) es.length cap) (.list es):=by
     have fin:aj w pr tk q (.list es)→((q= .slice none 0 0∧es= [])∨ ∃a cap,q= .slice (some a) 0 cap∧es= [])∨ ∃b off cap,q= .slice (some ⟨b,off,none⟩) es.length cap∧es.length≤cap∧aj w pr tk (.slice (some ⟨b,off,none⟩) es.length cap) (.list es):=by
      intro h;cases h with
      |nil'=>exact .inl (.inl ⟨rfl,rfl⟩)
      |emp=>exact .inl (.inr ⟨_,_,rfl,rfl⟩)
      |list us a b c dd=>exact .inr ⟨_,_,_,rfl,b, .list us a b c dd⟩
     split at hes<;>cases hes
     ·exact fin hx
     ·exact fin (sY hx)
     ·cases hx;exact .inl (.inl ⟨rfl,rfl⟩)
    rcases hv with(⟨rfl,rfl⟩|⟨a,cap,rfl,rfl⟩)|⟨b,off,cap,rfl,kM,bh⟩
    ·refine⟨_,by rw[←hq];exact pK hu hi' hq hI hb h0 h1 h2 (Nat.le_refl _) hm, ?_⟩;simp only[List.length_nil]at h2;have e1:h.toNat=0:=by omega
     have e2:l.toNat=0:=by omega
     have e3:(mo.map Int.toNat).getD 0=0:=by
      cases mo with
      |none=>rfl
      |some c=>have:=hm c rfl;simp at this⊢;omega
     rw[hde,e1,e2,e3];exact .nil'
    ·simp only[List.length_nil]at h2;have e1:h.toNat=0:=by omega
     have e2:l.toNat=0:=by omega
     refine⟨_,by rw[←hq];exact pK hu hi' hq hI hb h0 h1 (by omega) (Nat.zero_le _) hm, ?_⟩;rw[hde,e1,e2];split<;>exact .emp
    ·refine⟨_,by rw[←hq];exact pK hu hi' hq hI hb h0 h1 (by omega) kM hm, ?_⟩
     have hhm:h.toNat≤(mo.map Int.toNat).getD cap:=by
      cases mo with
      |none=>simp;omega
      |some c=>have:=hm c rfl;simp;omega
     have:=La (P:=P) (e:=e) (l:=l.toNat) (h:=h.toNat) (k:=(mo.map Int.toNat).getD cap) bh hsz (by omega) (by omega) hhm;rw[hde];split
     ·rename_i hml;rw[if_pos hml]at this;exact this
     ·rename_i hml;rw[if_neg hml]at this;exact this
   ·cases hr
 ·cases hd
def PK.simple:PK→Bool
 | .call _| .ccall| .fbox _=>false
 |_=>true
theorem or3{α:Type}{a b c:Option α}{k:α}(h:(a.or b).or c=some k):a=some k∨b=some k∨c=some k:=by
 cases a<;>cases b<;>simp_all
theorem kU: ∀{vs:List Value} {ds:List D},aX w pr tk vs ds→ ∀(i:Nat) (c:Value) (x:D),vs[i]?=some c→ds[i]?=some x→aj w pr tk c x
 | [],[],_,i,c,x,h,_=>by simp at h
 |v::vs,d::ds,h,0,c,x,hc,hx=>by simp at hc hx;subst hc;subst hx;exact h.1
 |v::vs,d::ds,h,i+1,c,x,hc,hx=>kU h.2 i c x (by simpa using hc) (by simpa using hx)
 | [],_::_,h,_,_,_,_,_=>absurd h (by simp[aX])
 |_::_,[],h,_,_,_,_,_=>absurd h (by simp[aX])
theorem CA{Γ:Env}{t f:Nat}{q:Nat×Nat×Bool}{v:Value}{x d:D}(hf:iO P t f=some q)(hc:q.2.2=true∨q.2.1=1)(h:aj w pr tk v x)(hr:(PK.afld q.1 q.2.1 q.2.2).run Γ m [x]=some d):
  ∃u,(Instr.field t v f).run P w= .ok u w∧aj w pr tk u d:=by
 unfold iO at hf;cases hu:P.underlying t with
 |none=>simp[hu]at hf
 |some ds=>
  cases ds<;>simp only[hu]at hf<;>try (cases hf;done)
  rename_i fs;rw[Bz]at hf;obtain⟨fl,hfl,hf⟩:=hf;rw[Bz]at hf;obtain⟨g,hg,hf⟩:=hf;split at hf<;>cases hf;rename_i hsz
  have ID:(P.info? fl.type).isSome:=by
   cases hi:P.info? fl.type with
   |none=>simp[Program.cellsOf,hi]at hsz
   |some i=>rfl
  cases x<;>simp only[PK.run,Hi]at hr<;>try (cases hr;done)
  rename_i xs;split at hr
  ·rename_i hl;obtain⟨cs,rfl,hcs⟩:=dF.1 h;have hlc:fl.offset+P.cellsOf fl.type≤cs.size:=by rw[hcs.1];exact hl
   refine⟨_,by simp[Instr.field,run_underlying hu,hfl];exact ve hg ID hlc hc, ?_⟩;cases g
   ·have h1:P.cellsOf fl.type=1:=by simpa using hc
    have hlt:fl.offset<cs.size:=by omega
    simp only[Bool.false_eq_true,if_false]at hr⊢;have:=hcs.2.2 _ _ d (Rz hlt) hr;have hgd:cs.getD fl.offset undef=cs[fl.offset]:=by simp[Array.getD,hlt]
    rw[hgd];exact this
   ·simp only[if_true,Jz]at hr⊢;subst hr;exact dF.2 ⟨_,rfl,kj hcs _ _⟩
  ·cases hr
theorem sn{t:Nat}{z:D}(h:qn P t=some z): ∃v,(zeroValue t).run P w= .ok v w∧aj w pr tk v z:=by
 unfold qn at h;rw[Bz]at h;obtain⟨v,hv,h⟩:=h;rw[Bz]at hv;obtain⟨i,hi,hzi⟩:=hv;refine⟨v,by simp[zeroValue,typeInfo,hi,hzi], ?_⟩;split at h
 ·rename_i cs;obtain⟨xs,hxs,rfl⟩:=Mz.1 h;exact dF.2 ⟨cs,rfl,by have:=vP (w:=w) (pr:=pr) (tk:=tk) hxs;simpa using this⟩
 ·exact(qm h).1
theorem qo{n:Nat}{x y:D}{r:Bool}(h:bR [n] x y=some r):aa [n] [x] [y]=some r∨(n=99∧ ∃xs ys,x= .agg xs∧y= .agg ys∧aa [] xs ys=some r):=by
 by_cases hn:n=99
 ·subst hn;cases x<;>cases y<;>first|exact .inr ⟨rfl,_,_,rfl,rfl,h⟩|exact .inl (by simpa only[bR]using h)
 ·left;unfold bR at h;split at h
  ·rename_i h1;simp only[List.cons.injEq]at h1;exact absurd h1.1 hn
  ·rename_i hh _;cases hh;exact h
  ·cases h
theorem De{k n:Nat}(hk:cq P k=some n):n≠99:=fun e=>by
 subst e;unfold cq at hk;have lt8: ∀p:IntKind,bj p<8:=by intro p;cases p<;>simp[bj]
 split at hk
 ·rename_i k0 _;have:=lt8 k0;simp at hk;omega
 ·simp at hk
 ·simp at hk
 ·cases hk
theorem wo{k n:Nat}{kd:TypeDesc}(hu:P.underlying k=some kd)(hk:cq P k=some n){a b:Value}{x y:D}{r:Bool}(hx:aj w pr tk a x)(hy:aj w pr tk b y)(hr:bR [n] x y=some r):Instr.sameNow kd a b=some r:=by
 unfold cq at hk
 have hn:n≠99:=fun e=>by
  subst e;have lt8: ∀p:IntKind,bj p<8:=by intro p;cases p<;>simp[bj]
  split at hk
  ·rename_i k0 _;have:=lt8 k0;simp at hk;omega
  ·simp at hk
  ·simp at hk
  ·cases hk
 rcases qo hr with hr|⟨h99,_⟩
 ·unfold aa at hr;have inj: ∀p q:IntKind,bj p=bj q→p=q:=by intro p q;cases p<;>cases q<;>simp[bj]
  have lt8: ∀p:IntKind,bj p<8:=by intro p;cases p<;>simp[bj]
  split at hr
  ·rename_i hh _ _;cases hh
  ·rename_i n' ks q u xs q' v ys hh1 hh2 hh3;cases hh1;cases hh2;cases hh3;split at hr
   ·rename_i hc;obtain⟨c1,c2⟩:=hc;simp only[aa,Pz,Bool.and_true,Jz]at hr;subst hr;cases hx;cases hy;have hkk:q=q':=inj _ _ (c1.symm.trans c2);subst hkk;rw[hu]at hk;split at hk
    ·rename_i k0 e;cases e;simp[Instr.sameNow]
    ·have:=lt8 q;simp at hk;omega
    ·have:=lt8 q;simp at hk;omega
    ·cases hk
   ·cases hr
  ·rename_i ks u xs v ys hh1 hh2 hh3;cases hh1;cases hh2;cases hh3;simp only[aa,Pz,Bool.and_true,Jz]at hr;subst hr;cases hx;cases hy;rw[hu]at hk;split at hk
   ·rename_i k0 _;have:=lt8 k0;simp at hk;omega
   ·rename_i e;cases e;simp[Instr.sameNow]
   ·simp at hk
   ·cases hk
  ·rename_i ks u xs v ys hh1 hh2 hh3;cases hh1;cases hh2;cases hh3;simp only[aa,Pz,Bool.and_true,Jz]at hr;subst hr;cases hx;cases hy;rw[hu]at hk;split at hk
   ·rename_i k0 _;have:=lt8 k0;simp at hk;omega
   ·simp at hk
   ·rename_i e;cases e;simp[Instr.sameNow,beq_toListBytes]
   ·cases hk
  ·cases hr
 ·exact absurd h99 hn
theorem sameKey_eq{n:Nat}(hn:n≠99){a b:Value}{x y:D}(hx:aj w pr tk a x)(hy:aj w pr tk b y)(hr:bR [n] x y=some true):a=b∧ ∀i,Instr.sameBits i a a=true:=by
 have hr':=qo hr;clear hr;rcases hr' with hr|⟨h99,_⟩
 ·unfold aa at hr;split at hr
  ·rename_i hh _ _;cases hh
  ·rename_i n' ks q u xs q' v ys hh1 hh2 hh3;cases hh1;cases hh2;cases hh3;split at hr
   ·rename_i hc;obtain⟨c1,c2⟩:=hc;have inj: ∀p q:IntKind,bj p=bj q→p=q:=by intro p q;cases p<;>cases q<;>simp[bj]
    have hkk:q=q':=inj _ _ (c1.symm.trans c2);subst hkk;simp only[aa,Pz,Bool.and_true,Jz,beq_iff_eq]at hr;subst hr;cases hx;cases hy;exact⟨rfl,fun i=>by cases i<;>simp[Instr.sameBits]⟩
   ·cases hr
  ·rename_i ks u xs v ys hh1 hh2 hh3;cases hh1;cases hh2;cases hh3;simp only[aa,Pz,Bool.and_true,Jz,beq_iff_eq]at hr;subst hr;cases hx;cases hy;exact⟨rfl,fun i=>by cases i<;>simp[Instr.sameBits]⟩
  ·rename_i ks u xs v ys hh1 hh2 hh3;cases hh1;cases hh2;cases hh3;simp only[aa,Pz,Bool.and_true,Jz]at hr;rw[←beq_toListBytes,MapKept.bytes_beq]at hr;subst hr;cases hx;cases hy;exact⟨rfl,fun i=>by cases i<;>simp[Instr.sameBits,MapKept.bytes_beq]⟩
  ·cases hr
 ·exact absurd h99 hn
theorem nQ{k n:Nat}{kd:TypeDesc}(hu:P.underlying k=some kd)(hk:cq P k=some n){a:Value}{x:D}(hx:aj w pr tk a x): ∀(l:List MapEntry) (es:List (D×D)) (i:Nat) (r:Option Nat),l.length=es.length→
  (∀(j:Nat) (en:MapEntry) (p:D×D),l[j]?=some en→es[j]?=some p→aj w pr tk en.key p.1)→bu [n] x es i=some r→
  match r with
  |none=>Instr.findNow kd a l i=some none
  |some q=>i≤q∧ ∃en,l[q-i]?=some en∧Instr.findNow kd a l i=some (some (q,en.val))∧a=en.key∧ ∀z,Instr.sameBits z a a=true
 | [],[],i,r,_,_,h=>by
  simp only[bu,Jz]at h;subst h;rfl
 |en::l,p::es,i,r,hl,bh,h=>by
  simp only[bu]at h;rw[Bz]at h;obtain⟨b,hb,h⟩:=h;have h0:=bh 0 en p (by simp) (by simp);have hs:=wo hu hk hx h0 hb;cases b
  ·simp only[Bool.false_eq_true,if_false]at h;have ih:=nQ hu hk hx l es (i+1) r (by simpa using hl) (fun j en p he hp=>bh (j+1) en p (by simpa using he) (by simpa using hp)) h;cases r with
   |none=>simpa[Instr.findNow,hs]using ih
   |some q=>
    obtain⟨g1,en',g2,g3,g4⟩:=ih;refine⟨by omega,en', ?_,by simpa[Instr.findNow,hs]using g3,g4⟩;rw[show q-i=(q-(i+1))+1 by omega];simpa using g2
  ·simp only[if_true,Jz]at h;subst h;exact⟨Nat.le_refl _,en,by simp,by simp[Instr.findNow,hs],sameKey_eq (De hk) hx h0 hb⟩
 | [],_::_,_,_,h,_,_=>by simp at h
 |_::_,[],_,_,h,_,_=>by simp at h
theorem o7(nn:Nat): ∀{ks:List Nat} {xs ys:List D},aa ks xs ys=some true→ ∀{A B:List Value},A.length=xs.length→B.length=ys.length→(∀(i:Nat) (c:Value) (x:D),A[i]?=some c→xs[i]?=some x→aj w pr tk c x)→
  (∀(i:Nat) (c:Value) (x:D),B[i]?=some c→ys[i]?=some x→aj w pr tk c x)→A=B∧(A.zip A).all (fun(x,y)=>Instr.sameBits nn x y)=true
 | [],xs,ys,h,A,B,hA,hB,_,_=>by
  have hl:=dR h;have h1:A= []:=List.eq_nil_of_length_eq_zero (by simp[hA,hl.1]);have h2:B= []:=List.eq_nil_of_length_eq_zero (by simp[hB,hl.2]);subst h1;subst h2;exact⟨rfl,rfl⟩
 |k::ks,xs,ys,h,A,B,hA,hB,rA,rB=>by
  obtain⟨x,xs',y,ys',r1,r2,rfl,rfl,h1,h2,h3⟩:=iq h;have hr:r1=true∧r2=true:=by first|simpa using h3|simpa using h3.symm
  obtain⟨rfl,rfl⟩:=hr;cases A with
  |nil=>simp at hA
  |cons a A=>
   cases B with
   |nil=>simp at hB
   |cons b B=>
    have ha:=rA 0 a x rfl rfl;have hb:=rB 0 b y rfl rfl
    have sr:a=b∧ ∀i,Instr.sameBits i a a=true:=by
     unfold aa at h1;split at h1
     ·rename_i hh _ _;cases hh
     ·rename_i n' kk q u us q' v vs hh1 hh2 hh3;cases hh1;cases hh2;cases hh3;split at h1
      ·rename_i hc;obtain⟨c1,c2⟩:=hc;have inj: ∀p q:IntKind,bj p=bj q→p=q:=by intro p q;cases p<;>cases q<;>simp[bj]
       have hkk:q=q':=inj _ _ (c1.symm.trans c2);subst hkk;simp only[aa,Pz,Bool.and_true,Jz,beq_iff_eq]at h1;subst h1;cases ha;cases hb;exact⟨rfl,fun i=>by cases i<;>simp[Instr.sameBits]⟩
      ·cases h1
     ·rename_i kk u us v vs hh1 hh2 hh3;cases hh1;cases hh2;cases hh3;simp only[aa,Pz,Bool.and_true,Jz,beq_iff_eq]at h1;subst h1;cases ha;cases hb;exact⟨rfl,fun i=>by cases i<;>simp[Instr.sameBits]⟩
     ·rename_i kk u us v vs hh1 hh2 hh3;cases hh1;cases hh2;cases hh3;simp only[aa,Pz,Bool.and_true,Jz]at h1;rw[←beq_toListBytes,MapKept.bytes_beq]at h1;subst h1;cases ha;cases hb;exact⟨rfl,fun i=>by cases i<;>simp[Instr.sameBits,MapKept.bytes_beq]⟩
     ·cases h1
    obtain⟨rfl,hs⟩:=sr;obtain⟨e1,e2⟩:=o7 nn (A:=A) (B:=B) h2 (by simpa using hA) (by simpa using hB) (fun i c z hc hz=>rA (i+1) c z (by simpa using hc) (by simpa using hz)) (fun i c z hc hz=>rB (i+1) c z (by simpa using hc) (by simpa using hz));subst e1;refine⟨rfl, ?_⟩;simp only[List.zip_cons_cons,List.all_cons,hs nn,Bool.true_and];exact e2
structure wL(P:Program)(k:Nat)(ks:List Nat):Prop where
 check: ∀{w:World} {pr:aV} {tk:ai} {a:Value} {x:D},aj w pr tk a x→bR ks x x=some true→ ∀em,(Instr.checkKey em 10000 k a).run P w= .ok () w
 find: ∀{w:World} {pr:aV} {tk:ai} {a:Value} {x:D},aj w pr tk a x→ ∀{l:List MapEntry} {es:List (D×D)} {r:Option Nat},l.length=es.length→
  (∀(j:Nat) (en:MapEntry) (p:D×D),l[j]?=some en→es[j]?=some p→aj w pr tk en.key p.1)→bu ks x es 0=some r→
  match r with
  |none=>(Instr.findKey k a l).run P w= .ok none w
  |some q=> ∃en,l[q]?=some en∧(Instr.findKey k a l).run P w= .ok (some (q,en.val)) w∧a=en.key∧Instr.sameBits 10000 a a=true
theorem gD{t n:Nat}(hk:cq P t=some n)(w:World)(em:Bool)(i:Nat)(v:Value):(Instr.checkKey em (i+1) t v).run P w= .ok () w:=by
 unfold cq at hk;split at hk
 ·rename_i q hq;unfold Instr.checkKey;simp[run_underlying hq]
 ·rename_i hq;unfold Instr.checkKey;simp[run_underlying hq]
 ·rename_i hq;unfold Instr.checkKey;simp[run_underlying hq]
 ·cases hk
theorem rR {f : Nat} : ∀ {fs : List Field} {i : Nat} {ks : List Nat}, eF P f i fs = some ks → (∀ g ∈ fs, (cq P g.type).isSome = true) → ks.length = fs.length ∧ ∀ (j : Nat) (g : Field), fs[j]? = some g → g.name ≠ "_" ∧ g.offset = i + j
 | [],i,ks,h,_=>by cases f<;>simp[eF]at h<;>subst h<;>exact⟨rfl,fun j g hg=>by simp at hg⟩
 |g::gs,i,ks,h,hp=>by
  cases f with
  |zero=>simp[eF]at h
  |succ f=>
   simp only[eF]at h;split at h
   ·rename_i hc;obtain⟨k1,h1,h2⟩:=Bz.1 h;obtain⟨k2,h3,rfl⟩:=Mz.1 h2;obtain⟨n,hn⟩:=Option.isSome_iff_exists.1 (hp g (List.mem_cons_self ..))
    have hk1:k1= [n]:=by
     have hn':=hn;unfold cq at hn';cases f with
     |zero=>simp[lF]at h1
     |succ f=>
      unfold lF at h1;split at h1
      ·rename_i hu;rw[hu]at hn';simp at hn'
      ·rename_i hu;rw[hu]at hn';simp at hn'
      ·rw[hn]at h1;simpa using h1.symm
    subst hk1;obtain⟨e1,e2⟩:=rR h3 fun q hq=>hp q (Cz _ hq);refine⟨by simp[e1],fun j q hq=> ?_⟩;cases j with
    |zero=>simp at hq;subst hq;exact⟨hc.1,by simpa using hc.2⟩
    |succ j=>
     obtain⟨a1,a2⟩:=e2 j q (by simpa using hq);exact⟨a1,by rw[a2];simp;omega⟩
   ·cases h
theorem uq{ks:List Nat}{x y:D}{r:Bool}(h:bR (99::ks) x y=some r): ∃xs ys,x= .agg xs∧y= .agg ys∧aa ks xs ys=some r:=by
 cases ks with
 |nil=>
  rcases qo h with h1|⟨_,xs,ys,rfl,rfl,h1⟩
  ·exfalso;have lt8: ∀p:IntKind,bj p<8:=by intro p;cases p<;>simp[bj]
   unfold aa at h1;split at h1
   ·rename_i hh _ _;cases hh
   ·rename_i n' kk q u us q' v vs hh1 hh2 hh3;cases hh1;split at h1
    ·rename_i hc;have:=lt8 q;omega
    ·cases h1
   ·rename_i hh _ _;simp at hh
   ·rename_i hh _ _;simp at hh
   ·cases h1
  ·exact⟨xs,ys,rfl,rfl,h1⟩
 |cons k0 r0=>cases x<;>cases y<;>first|exact⟨_,_,rfl,rfl,h⟩|(simp[bR]at h;done)
theorem uo{k:Nat}{ks:List Nat}(hko:fA P k=some ks)(hw:(match P.underlying k with|some (.array _ _)|some (.struct _)=>true|_=>false)=true)
  (hck: ∀{w:World} {pr:aV} {tk:ai} {a:Value} {x:D},aj w pr tk a x→bR (99::ks) x x=some true→ ∀em,(Instr.checkKey em 10000 k a).run P w= .ok () w):wL P k (99::ks):=by
 refine⟨fun hx cB em=>hck hx cB em,fun{w pr tk a x} hx {l es r} hl bh hf=> ?_⟩;have hfk:=run_findKey_eq (P:=P) (w:=w) (k:=k) hw a l
 have key: ∀(l:List MapEntry) (es:List (D×D)) (i:Nat) (r:Option Nat),l.length=es.length→(∀(j:Nat) (en:MapEntry) (p:D×D),l[j]?=some en→es[j]?=some p→aj w pr tk en.key p.1)→bu (99::ks) x es i=some r→
   match r with
   |none=>(Instr.findAsking k a l i).run P w= .ok none w
   |some q=>i≤q∧ ∃en,l[q-i]?=some en∧(Instr.findAsking k a l i).run P w= .ok (some (q,en.val)) w∧a=en.key∧Instr.sameBits 10000 a a=true:=by
  intro l
  induction l with
  |nil=>
   intro es i r hl _ h;cases es with
   |nil=>simp only[bu,Jz]at h;subst h;simp[Instr.findAsking]
   |cons=>simp at hl
  |cons en l ih=>
   intro es i r hl bh h;cases es with
   |nil=>simp at hl
   |cons p es=>
    simp only[bu,Bz]at h;obtain⟨b,hb,h⟩:=h;obtain⟨xs,ys,rfl,hp1,he⟩:=uq hb;have hy:=bh 0 en p rfl rfl;rw[hp1]at hy;obtain⟨A,B,rfl,hB,ah⟩:=Aj hko hx hy he;have IJ:(Op.equal k (.agg A) en.key).run P w= .ok b w:=by rw[hB];exact ah
    cases b
    ·simp only[Bool.false_eq_true,if_false]at h;have:=ih es (i+1) r (by simpa using hl) (fun j en' p' h1 h2=>bh (j+1) en' p' (by simpa using h1) (by simpa using h2)) h;cases r with
     |none=>simpa[Instr.findAsking,IJ]using this
     |some q=>
      obtain⟨g1,en',g2,g3,g4⟩:=this;refine⟨by omega,en', ?_,by simpa[Instr.findAsking,IJ]using g3,g4⟩;rw[show q-i=(q-(i+1))+1 by omega];simpa using g2
    ·simp only[if_true,Jz]at h;subst h;obtain⟨A',hA',hAr⟩:=dF.1 hx;cases hA';obtain⟨B',hB',hBr⟩:=dF.1 hy;rw[hB]at hB';cases hB';obtain⟨e1,e2⟩:=o7 (w:=w) (pr:=pr) (tk:=tk) 9999 he (A:=A.toList) (B:=B.toList) (by simpa using hAr.1) (by simpa using hBr.1) (fun i c z hc hz=>hAr.2.2 i c z (by simpa using hc) hz) (fun i c z hc hz=>hBr.2.2 i c z (by simpa using hc) hz);have hAB:A=B:=Array.toList_inj.1 e1;refine⟨Nat.le_refl _,en,by simp,by simp[Instr.findAsking,IJ],by rw[hB,hAB], ?_⟩;simp only[Instr.sameBits,beq_self_eq_true,Bool.true_and];exact e2
 have:=key l es 0 r hl bh hf;cases r with
 |none=>exact hfk.trans this
 |some q=>
  obtain⟨_,en,g1,g2,g3⟩:=this;exact⟨en,by simpa using g1,hfk.trans g2,g3⟩
theorem yI{k:Nat}{fs:Array Field}{ks:List Nat}(hu:P.underlying k=some (.struct fs))(hp: ∀g∈fs.toList,(cq P g.type).isSome=true)(hst:P.stoodInHeld k=false)(hk:eF P 40 0 fs.toList=some ks):wL P k (99::ks):=by
 have hko:fA P k=some ks:=by unfold fA;rw[hu];simp[hst,hk]
 obtain⟨hlen,hfs⟩:=rR hk hp;refine uo hko (by rw[hu]) fun{w pr tk a x} hx cB em=> ?_;obtain⟨xs,_,rfl,_,he⟩:=uq cB;obtain⟨A,rfl,hA⟩:=dF.1 hx;have hxl:=(dR he).1;rw[show(10000:Nat)=9999+1 from rfl,Instr.checkKey];simp only[Sem.run_bind,run_underlying hu,Result.andThen_ok];rw[←Array.forIn_toList]
 have each : ∀ g ∈ fs.toList, g.name ≠ "_" ∧ ∃ v, (part g.type A g.offset).run P w = .ok v w ∧ (Instr.checkKey em 9999 g.type v).run P w = .ok () w := fun g hg => by
  obtain⟨j,hj⟩:=List.getElem?_of_mem hg;obtain⟨h1,h2⟩:=hfs j g hj;obtain⟨n,hn⟩:=Option.isSome_iff_exists.1 (hp g hg);have hjl:j<fs.toList.length:=(Gz.1 hj).1
  have hA1:A[g.offset]?=some A[g.offset]!:=by
   have:g.offset<A.size:=by rw[hA.1,hxl,hlen];omega
   simp[this]
  exact⟨h1,_,iu hn hA1,gD hn w em 9998 _⟩
 generalize fs.toList=L at each
 induction L with
 |nil=>simp
 |cons g L ih=>
  obtain⟨h1,v,h2,h3⟩:=each g (List.mem_cons_self ..);simp only[List.forIn_cons,Sem.run_bind,ne_eq,h1,not_false_eq_true,if_true,h2,h3,Result.andThen_ok,Sem.run_pure];exact ih fun q hq=>each q (Cz _ hq)
theorem Bp{k n e q:Nat}{ks:List Nat}(hu:P.underlying k=some (.array n e))(hq:cq P e=some q)(hsz:(P.info? e).map (·.size)=some 1)(hko:fA P k=some ks):wL P k (99::ks):=by
 obtain⟨i,hi,hi1⟩:=Mz.1 hsz
 have hlen:ks.length=n:=by
  have LC:=hko;unfold fA at LC;rw[hu]at LC;simp only at LC;obtain⟨k1,h1,h2⟩:=Bz.1 LC
  have hk1:k1= [q]:=by
   have hq':=hq;unfold cq at hq';unfold lF at h1;split at h1
   ·rename_i hh;rw[hh]at hq';simp at hq'
   ·rename_i hh;rw[hh]at hq';simp at hq'
   ·rw[hq]at h1;simpa using h1.symm
  subst hk1;split at h2
  ·cases h2;simp
  ·cases h2
 refine uo hko (by rw[hu]) fun{w pr tk a x} hx cB em=> ?_;obtain⟨xs,_,rfl,_,he⟩:=uq cB;obtain⟨A,rfl,hA⟩:=dF.1 hx;have hxl:=(dR he).1;rw[show(10000:Nat)=9999+1 from rfl,Instr.checkKey];simp only[Sem.run_bind,run_underlying hu,Result.andThen_ok];simp only[Std.Legacy.Range.forIn_eq_forIn_range',Std.Legacy.Range.size,Nat.sub_zero,Nat.add_one_sub_one,Nat.div_one];have fJ:P.cellsOf e=1:=by simp[Program.cellsOf,hi,hi1]
 have each: ∀j∈List.range' 0 n,∃v,(part e A (j*P.cellsOf e)).run P w= .ok v w∧(Instr.checkKey em 9999 e v).run P w= .ok () w:=fun j hj=>by
  have hjn:j<n:=by simpa using(List.mem_range'_1.1 hj).2
  have hA1:A[j]?=some A[j]!:=by
   have:j<A.size:=by rw[hA.1,hxl,hlen];exact hjn
   simp[this]
  exact⟨_,iu hq (by rw[fJ,Nat.mul_one];exact hA1),gD hq w em 9998 _⟩
 generalize List.range' 0 n=is at each
 induction is with
 |nil=>simp
 |cons j is ih=>
  obtain⟨v,p1,p2⟩:=each j (List.mem_cons_self ..);simp only[List.forIn_cons,Sem.run_bind,run_sizeOf w hi,Result.andThen_ok,p1,p2,Sem.run_pure];exact ih fun y hy=>each y (Cz _ hy)
theorem ql{t e:Nat}{ks:List Nat}(h:AK P t=some (ks,e)): ∃k,P.underlying t=some (.map k e)∧wL P k ks:=by
 unfold AK at h;split at h
 ·rename_i k e' hu;split at h
  ·rename_i n hn;cases h;refine⟨k,hu,fun{w pr tk a x} hx cB em=>gD hn w em 9999 a,fun{w pr tk a x} hx {l es r} hl bh hf=> ?_⟩
   obtain⟨kd,hkd⟩: ∃kd,P.underlying k=some kd:=by
    have hn':=hn;unfold cq at hn';cases hh:P.underlying k with
    |none=>rw[hh]at hn';cases hn'
    |some kd=>exact⟨kd,rfl⟩
   have:=nQ hkd hn hx l es 0 r hl bh hf;cases r with
   |none=>exact MapKept.run_findKey hkd this
   |some q=>
    obtain⟨_,en,g1,g2,g3,g4⟩:=this;exact⟨en,by simpa using g1,MapKept.run_findKey hkd g2,g3,g4 _⟩
  ·split at h
   ·rename_i fs hfs;split at h
    ·rename_i hc;obtain⟨k',hk',h⟩:=Mz.1 h;cases h;exact⟨k,hu,yI hfs (fun g hg=>Tz.1 hc.1 g hg) hc.2 hk'⟩
    ·cases h
   ·rename_i m el hfs;split at h
    ·rename_i hc;obtain⟨k',hk',h⟩:=Mz.1 h;cases h;obtain⟨q,hq⟩:=Option.isSome_iff_exists.1 hc.1;exact⟨k,hu,Bp hfs hq hc.2 hk'⟩
    ·cases h
   ·cases h
 ·cases h
def FKr(P:Program)(w:World)(k:Nat)(a:Value)(bB:Array MapEntry)(es:List (D×D)):Option Nat→Prop
 |none=>(Instr.findKey k a bB.toList).run P w= .ok none w
 |some q=> ∃en p,bB[q]?=some en∧es[q]?=some p∧(Instr.findKey k a bB.toList).run P w= .ok (some (q,en.val)) w∧a=en.key∧Instr.sameBits 10000 a a=true
theorem jL(M:dQ P w pr tk m){k:Nat}{ks:List Nat}(L:wL P k ks){t:Tok}{b cap:Nat}{es:List (D×D)}(hm:m t=some (.map es))(ht:tk t=some (b,cap)){a:Value}{x:D}(hx:aj w pr tk a x){r:Option Nat}(hf:bu ks x es 0=some r):
  ∃bB,w.heap[b]?=some (.map bB es.length)∧bB.size=es.length∧es.length≤maxLen∧(∀(i:Nat) (en:MapEntry) (p:D×D),bB[i]?=some en→es[i]?=some p→en.born=i∧aj w pr tk en.key p.1∧aj w pr tk en.val p.2)∧
   FKr P w k a bB es r:=by
 obtain⟨b',mf,bB,h1,h2,h3,h4,h5⟩:=M.obj _ _ hm;rw[ht]at h1;cases h1;refine⟨bB,h2,h3,h4,h5, ?_⟩;have:=L.find hx (l:=bB.toList) (by simpa using h3) (fun j en p he hp=>(h5 j en p (by simpa using he) hp).2.1) hf;cases r with
 |none=>exact this
 |some q=>
  obtain⟨en,g1,g2,g3⟩:=this;simp only[Array.getElem?_toList]at g1;have hq:q<es.length:=by have:=(Array.getElem?_eq_some_iff.1 g1).1;omega
  exact⟨en,es[q],g1,Ez hq,g2,g3⟩
theorem CQ{k:Nat}{ks:List Nat}(L:wL P k ks){b:Nat}{rows:List (List D)}{es:List (D×D)}(hu:ax rows=some es){v:Value}(hr:aj w pr tk v (.fm rows))(hv:v= .map (some b)){a:Value}{x:D}(hx:aj w pr tk a x){r:Option Nat}(hf:bu ks x es 0=some r):
  ∃bB,w.heap[b]?=some (.map bB es.length)∧bB.size=es.length∧es.length≤maxLen∧(∀(i:Nat) (en:MapEntry) (p:D×D),bB[i]?=some en→es[i]?=some p→en.born=i∧aj w pr tk en.key p.1∧aj w pr tk en.val p.2)∧
   FKr P w k a bB es r:=by
 subst hv;cases hr with
 | @fm _ _ bB es hb hp hs hl hn hk hv=>
  rw[aH]at hu;cases hu;have h5: ∀(i:Nat) (en:MapEntry) (p:D×D),_→_→en.born=i∧aj w pr tk en.key p.1∧aj w pr tk en.val p.2:=fun i en p he hpp=>⟨hn i en he,(hk i en p he hpp).oi,(hv i en p he hpp).oi⟩;refine⟨_,hb,hs,hl,h5, ?_⟩;have:=L.find hx (l:=bB.toList) (by simpa using hs) (fun j en p he hp=>(h5 j en p (by simpa using he) hp).2.1) hf;cases r with
  |none=>exact this
  |some q=>
   obtain⟨en,g1,g2,g3⟩:=this;simp only[Array.getElem?_toList]at g1;have hq:q<es.length:=by have:=(Array.getElem?_eq_some_iff.1 g1).1;omega
   exact⟨en,es[q],g1,Ez hq,g2,g3⟩
theorem Gv(M:dQ P w pr tk m){t e:Nat}{ks:List Nat}{z:D}{ok:Bool}{v u:Value}{x y d:D}(hk:AK P t=some (ks,e))(hz:qn P e=some z)(hx:aj w pr tk v x)(hy:aj w pr tk u y)(hr:oF m ks z ok [x,y]=some d):
  ∃q,(Instr.lookup t v u ok).run P w= .ok q w∧aj w pr tk q d:=by
 obtain⟨k,hu,L⟩:=ql hk
 have core: ∀{b:Nat} {es:List (D×D)} {r:Option Nat},y.uL=true∧bR ks y y=some true→
   (∃bB,w.heap[b]?=some (.map bB es.length)∧bB.size=es.length∧es.length≤maxLen∧(∀(i:Nat) (en:MapEntry) (p:D×D),bB[i]?=some en→es[i]?=some p→en.born=i∧aj w pr tk en.key p.1∧aj w pr tk en.val p.2)∧
   FKr P w k u bB es r)→
   (match r with
    |none=>some (if ok then .tup [z,bv false]else z)
    |some i=>(es[i]?).map fun p=>if ok then D.tup [p.2,bv true]else p.2)=some d→ ∃q,(Instr.lookup t (.map (some b)) u ok).run P w= .ok q w∧aj w pr tk q d:=by
  intro b es r po S5 hr;have vW:=L.check hy po.2;obtain⟨bB,h2,h3,h4,h5,h6⟩:=S5;obtain⟨zv,hzr,Bi⟩:=sn (w:=w) (pr:=pr) (tk:=tk) hz
  have aaS: ∀{p:Value} {dd:D} {bb:Bool},aj w pr tk p dd→aj w pr tk (.tuple #[p, .bool bb]) (.tup [dd,bv bb]):=fun{p dd bb} h=>
   .tup (by simp) fun i c xx hc hxx=>by
    match i,hc,hxx with
    |0,hc,hxx=>simp at hc hxx;subst hc;subst hxx;exact h
    |1,hc,hxx=>simp at hc hxx;subst hc;subst hxx;exact .v rfl
    |_+2,hc,hxx=>simp at hc
  split at hr
  ·cases hr;refine⟨if ok then .tuple #[zv, .bool false]else zv, ?_, ?_⟩
   ·have h6:(Instr.findKey k u bB.toList).run P w= .ok none w:=h6;simp[Instr.lookup,run_underlying hu,MapKept.run_getObj_map h2,vW,h6,hzr,Result.andThen]
   ·cases ok
    ·exact Bi
    ·exact aaS Bi
  ·rename_i q;obtain⟨p,hp,rfl⟩:=Mz.1 hr;obtain⟨en,p',g1,g2,g3,_⟩:=h6;rw[hp]at g2;cases g2;have hv:=(h5 q en p g1 hp).2.2;refine⟨if ok then .tuple #[en.val, .bool true]else en.val, ?_, ?_⟩
   ·simp[Instr.lookup,run_underlying hu,MapKept.run_getObj_map h2,vW,g3,Result.andThen]
   ·cases ok
    ·exact hv
    ·exact aaS hv
 unfold oF at hr;split at hr
 ·rename_i t' k' hh;cases hh;split at hr
  ·rename_i es hm;split at hr
   rotate_left
   ·cases hr
   rename_i po;rw[Bz]at hr;obtain⟨r,hf,hr⟩:=hr;cases hx with
   |mp ht=>exact core po (jL M L hm ht hy hf) hr
  ·cases hr
 ·rename_i rows k' hh;cases hh;rw[Bz]at hr;obtain⟨es,hue,hr⟩:=hr;split at hr
  rotate_left
  ·cases hr
  rename_i po;rw[Bz]at hr;obtain⟨r,hf,hr⟩:=hr;obtain⟨b,hvb⟩: ∃b,v= .map (some b):=by cases hx;exact⟨_,rfl⟩
  have hfk:=CQ (P:=P) L hue hx hvb hy hf;subst hvb;exact core po hfk hr
 ·cases hr
theorem F4(M:dQ P w pr tk m){v:Value}{x d:D}(hx:aj w pr tk v x)(hr:Ll m [x]=some d): ∃q,(Instr.entry v).run P w= .ok q w∧aj w pr tk q d:=by
 unfold Ll at hr;split at hr
 ·rename_i t hh;cases hh;split at hr
  ·rename_i u n seen hm;split at hr
   ·rename_i es hm2;split at hr
    ·rename_i hn;rw[Bz]at hr;obtain⟨i,hi,hr⟩:=hr;obtain⟨p,hp,rfl⟩:=Mz.1 hr;cases hx with
     |ptr ht=>
      rename_i b cap;obtain⟨b1,c1,b2,c2,g1,g2,g3⟩:=M.obj _ _ hm;rw[ht]at g1;cases g1;obtain⟨b3,c3,bB,h1,h2,h3,h4,h5⟩:=M.obj _ _ hm2;rw[g2]at h1;cases h1;have hil:i<es.length:=(Gz.1 hp).1;have hen:bB[i]?=some bB[i]:=Rz (by omega);obtain⟨k1,k2,k3⟩:=h5 i bB[i] p hen hp;have Wv:seen.toArray.back?=some i:=by simp[hi]
      have Xo:bB.find? (·.born==i)=some bB[i]:=by
       rw[Array.find?_eq_some_iff_getElem];refine⟨by simpa using k1,i,by omega,rfl,fun j hj=> ?_⟩;have hjl:j<bB.size:=by omega
       have:=(h5 j bB[j] es[j] (Rz hjl) (Ez (by omega))).1;simp[this];omega
      refine⟨.tuple #[bB[i].key,bB[i].val], ?_, ?_⟩
      ·simp only[Instr.entry,getObj,Sem.run_bind,Sem.run,g3,h2,Result.andThen,Wv,hn,bne_self_eq_false,Bool.false_eq_true,if_false,Xo];rfl
      ·exact .tup (by simp) fun j c xx hc hxx=>by
        match j,hc,hxx with
        |0,hc,hxx=>simp at hc hxx;subst hc;subst hxx;exact k2
        |1,hc,hxx=>simp at hc hxx;subst hc;subst hxx;exact k3
        |_+2,hc,hxx=>simp at hc
    ·cases hr
   ·cases hr
  ·cases hr
 ·cases hr
theorem Dw(M:dQ P w pr tk m){fr:p8}{Γ:Env}{o:Oper}{k:PK}{xs:List Operand}{E:Operand→Value}{ds:List D}{d:D}
  (hd:o6 P fr o.op=some (k,xs)) (hk:k.simple=true) (bh:aX w pr tk (xs.map E) ds) (ah:k.run Γ m ds=some d):
  ∃v,(execOp E o).run P w= .ok (.value v) w∧aj w pr tk v d:=by
 have one: ∀(e:Sem Value),(execOp E o=do pure (.value (←e)))→(∃u,e.run P w= .ok u w∧aj w pr tk u d)→
   ∃v,(execOp E o).run P w= .ok (.value v) w∧aj w pr tk v d:=fun e he ⟨u,hr,hu⟩=>
  ⟨u,by rw[he];simp[hr],hu⟩
 generalize ho:o.op=op at hd;cases op<;>simp only[o6]at hd<;>try (cases hd;done)
 case move x=>
  cases hd;obtain⟨y,rfl,hy⟩:=bh.one;cases ah;exact⟨E x,by simp[execOp,ho],hy⟩
 case assign x=>
  cases hd;obtain⟨y,rfl,hy⟩:=bh.one;cases ah;exact⟨E x,by simp[execOp,ho],hy⟩
 case pick c a b=>
  cases hd;obtain⟨y,z,z',rfl,h1,h2,h3⟩:=bh.three;simp only[PK.run,Fi]at ah;cases y<;>simp only[D.asBool]at ah<;>try (cases ah;done)
  rename_i yv;cases yv<;>simp only[]at ah<;>try (cases ah;done)
  rename_i bb;obtain⟨h1,_⟩:=aT.1 h1;simp only[Oz,Jz]at ah;subst ah;refine⟨if bb then E a else E b,by simp[execOp,ho,h1,asBool], ?_⟩;cases bb
  ·exact h3
  ·exact h2
 case load t a=>
  unfold HV at hd;cases hg:dM P t with
  |none=>simp[hg]at hd
  |some g=>
   simp only[hg,Oz]at hd;split at hd<;>cases hd;rename_i hc;obtain⟨y,rfl,hy⟩:=bh.one;exact one _ (by simp[execOp,ho]) (uy M hg hc.1 hc.2 hy ah)
 case fieldAddr t x f=>
  cases hf:iO P t f with
  |none=>simp[hf]at hd
  |some q=>
   obtain⟨o',n,g⟩:=q;simp only[hf,Pz]at hd;cases hd;obtain⟨y,rfl,hy⟩:=bh.one;exact one _ (by simp[execOp,ho]) (F6 hf hy ah)
 case indexAddr t x i=>
  unfold Lb at hd;cases hu:P.underlying t with
  |none=>simp[hu]at hd
  |some dsc=>
   cases dsc<;>simp only[hu]at hd<;>try (cases hd;done)
   all_goals
    split at hd<;>cases hd;rename_i hi;obtain⟨y,z,rfl,hy,hz⟩:=bh.two;exact one (Instr.indexAt t (E x) (E i)) (by simp[execOp,ho]) (by first|exact Gf hu hi hy hz ah|exact CB hu hi hy hz ah)
 case binOp op t x y yt=>
  obtain⟨k',hk',hd⟩:=Mz.1 hd;cases hd;obtain⟨p,q,rfl,hp,hq⟩:=bh.two;rcases or3 hk' with hk'|hk'|hk'
  ·exact one _ (by simp[execOp,ho];rfl) (FR hk' hp hq ah)
  ·exact one _ (by simp[execOp,ho];rfl) (DI hk' hp hq ah)
  ·exact one _ (by simp[execOp,ho];rfl) (FI hk' hp hq ah)
 case build t parts=>
  obtain⟨q,hq,hd⟩:=Mz.1 hd;cases hd;have C5:(parts.toList.map fun p=>(p.1,E p.2)).map (·.1)=parts.toList.map (·.1):=by simp[List.map_map,Function.comp_def]
  obtain⟨C,h1,h2⟩:=As (w:=w) (pr:=pr) (tk:=tk) (parts:=parts.toList.map fun p=>(p.1,E p.2)) hq C5 (by simpa[List.map_map,Function.comp_def]using bh) ah;exact one _ (by simp[execOp,ho];rfl) ⟨.agg C,run_build w t _ C (by simpa using h1),h2⟩
 case makeFunc fn first captured=>
  cases fn<;>simp only[]at hd<;>try (cases hd;done)
  rename_i f;split at hd
  ·cases hd;rename_i hf;simp only[PK.run,K6]at ah;split at ah<;>cases ah;refine one (Instr.makeFunc (.func f) (first.map E) (captured.map E)) (by simp[execOp,ho]) ⟨_,rfl, ?_⟩;have hf0:first.map E= #[]:=by rw[Array.map_eq_empty_iff];exact Array.eq_empty_of_size_eq_zero hf.1
   rw[hf0];have hl:=bh.length;exact .clo hf.2 (by simpa using hl) fun i c x hc hx=>kU bh i c x (by simpa using hc) hx
  ·split at hd<;>cases hd;rename_i hf;simp only[PK.run,K6]at ah;split at ah<;>cases ah;refine one (Instr.makeFunc (.func f) (first.map E) (captured.map E)) (by simp[execOp,ho]) ⟨_,rfl, ?_⟩;have hf0:captured.map E= #[]:=by rw[Array.map_eq_empty_iff];exact Array.eq_empty_of_size_eq_zero hf
   rw[hf0];have hl:=bh.length;exact .bclo (by simpa using hl) fun i c x hc hx=>kU bh i c x (by simpa using hc) hx
 case nilCheck x=>
  cases hd;obtain⟨y,rfl,hy⟩:=bh.one;obtain⟨rfl,hv⟩:=FU hy ah;refine⟨E x, ?_,hy⟩;rcases hv with⟨a,hv⟩|⟨f,bv,cv,hv⟩<;>simp[execOp,ho,hv]
 case index t x i=>
  obtain⟨k',hk',hd⟩:=Mz.1 hd;cases hd;obtain⟨p,q,rfl,hp,hq⟩:=bh.two;exact one _ (by simp[execOp,ho]) (FJ hk' hp hq ah)
 case field t x f=>
  obtain⟨q,hq,hd⟩:=Bz.1 hd;split at hd<;>cases hd;rename_i hc;obtain⟨p,rfl,hp⟩:=bh.one;exact one _ (by simp[execOp,ho]) (CA hq hc hp ah)
 case slice t x lo hi mx=>
  exact one _ (by simp[execOp,ho]) (GY M hd bh ah)
 case lookup t x i ok=>
  rw[Bz]at hd;obtain⟨⟨ks,e⟩,hq,hd⟩:=hd;obtain⟨z,hz,hd⟩:=Mz.1 hd;cases hd;obtain⟨p,q,rfl,hp,hq'⟩:=bh.two;exact one _ (by simp[execOp,ho]) (Gv M hq hz hp hq' ah)
 case entry x=>
  cases hd;obtain⟨p,rfl,hp⟩:=bh.one;exact one _ (by simp[execOp,ho]) (F4 M hp ah)
 case unOp op t x=>
  obtain⟨k',hk',hd⟩:=Mz.1 hd;cases hd;obtain⟨p,rfl,hp⟩:=bh.one;exact one _ (by simp[execOp,ho]) (Kj hk' hp ah)
 case convert src dst x=>
  obtain⟨k',hk',hd⟩:=Mz.1 hd;cases hd;obtain⟨p,rfl,hp⟩:=bh.one;exact one _ (by simp[execOp,ho]) (CE hk' hp ah)
 case extract x i=>
  cases hd;obtain⟨p,rfl,hp⟩:=bh.one;exact one _ (by simp[execOp,ho]) (F5 hp ah)
 case call c=>
  unfold HR at hd;split at hd
  ·rename_i b hc;obtain⟨k',hk',hd⟩:=Mz.1 hd;cases hd;have hk2:mn P b c.argTypes.toList (c.args.map E).size=some k:=by simpa using hk'
   have e: ∃cn,(execOp E o).run P w=(builtin b c.argTypes o.type cn (c.args.map E)).run P w:=⟨_,by simp[execOp,ho,resolve,hc,invoke];rfl⟩;obtain⟨cn,e⟩:=e;obtain⟨u,h1,h2⟩:=vS (P:=P) (w:=w) (pr:=pr) (tk:=tk) (m:=m) (ty:=o.type) (cn:=cn) hk2 (by simpa using bh) ah;exact⟨u,by rw[e,h1],h2⟩
  ·split at hd<;>cases hd;simp[PK.simple]at hk
  ·cases hd;simp[PK.simple]at hk
  ·cases hd
end
end
section
def A2(l:List Int):List D:=l.map fun n=> .v (.int .i64 n)
def EP:Nat→Option (List D):=fun g=>match g with
 |2=>some (A2 [0,1,2])
 |3=>some (A2 [20,20,30,30,30])
 |4=>some (A2 [1,2,4])
 |5=>some (A2 [0,0,100,200,200,400])
 |6=>some (A2 [0,50,100])
 |_=>none
end
end Go.Proofs.YtkcfpgaepmllhaaGreatDoor
