/- Part of the proof: symbolic execution of the program, its soundness, and the closing lemmas. No condition. -/
import Derived.WalkKit
import Derived.WalkSpells
import Derived.WalkLawsBesides
import Derived.ChangeKeysEq
import Derived.Great.BuildSlice
import Derived.Maps.RangeRun
import Derived.WideKeyRuns
namespace Go.Proofs.YtdepmampjnlgiaaGreatDoor
open Go.RowKit
set_option maxRecDepth 100000
set_option linter.all false
theorem Bz {α β : Type _} {b : β} {o : Option α} {f : α → Option β} : o.bind f = some b ↔ ∃ a, o = some a ∧ f a = some b := Option.bind_eq_some_iff
theorem Mz {α β : Type _} {b : β} {o : Option α} {f : α → β} : o.map f = some b ↔ ∃ a, o = some a ∧ f a = b := Option.map_eq_some_iff
theorem Gz {α : Type _} {i : Nat} {a : α} {l : List α} : l[i]? = some a ↔ ∃ h : i < l.length, l[i] = a := List.getElem?_eq_some_iff
theorem Oz {α β : Type _} (a : α) (f : α → Option β) : (some a).bind f = f a := Option.bind_some a f
theorem Ez {α : Type _} {l : List α} {i : Nat} (h : i < l.length) : l[i]? = some l[i] := List.getElem?_eq_getElem h
theorem Lz {α : Type _} {l : List α} {i : Nat} {a : α} (e : l[i]? = some a) : a ∈ l := List.mem_of_getElem? e
theorem Jz {α : Type _} (a b : α) : (some a = some b) = (a = b) := Option.some.injEq a b
theorem Az (a b : Bool) : ((a && b) = true) = (a = true ∧ b = true) := Bool.and_eq_true a b
theorem Pz {α β : Type _} (a : α) (f : α → β) : (some a).map f = some (f a) := Option.map_some a f
theorem Tz {α : Type _} {p : α → Bool} {l : List α} : l.all p = true ↔ ∀ x, x ∈ l → p x = true := List.all_eq_true
theorem Rz {α : Type _} {xs : Array α} {i : Nat} (h : i < xs.size) : xs[i]? = some xs[i] := Array.getElem?_eq_getElem h
theorem Yz {α : Type _} {l r : List α} {i : Nat} (h : i < l.length) : (l ++ r)[i]? = l[i]? := List.getElem?_append_left h
theorem Xz {α : Type _} {l r : List α} {i : Nat} (h : l.length ≤ i) : (l ++ r)[i]? = r[i - l.length]? := List.getElem?_append_right h
theorem Cz {α : Type _} (y : α) {a : α} {l : List α} (h : a ∈ l) : a ∈ y :: l := List.mem_cons_of_mem y h
theorem Dz {α β : Type _} {f : α → β} {l : List α} {i : Nat} : (l.map f)[i]? = (l[i]?).map f := List.getElem?_map
section
abbrev Tok:=List Nat
inductive D where
 |undef
 |v (x:Value)
 |nil
 |mt
 |list (es:List (List D))
 |agg (xs:List D)
 |tup (xs:List D)
 |lptr (xs:List D)
 |clo (f:Nat) (eT:List D)
 |sl (t:Tok) (size off len:Nat) (lim:Option Nat)
 |ptr (t:Tok) (off:Nat)
 |rptr (t:Tok) (size i j:Nat)
 |mp (t:Tok)
 |nilmap
 |fm (rows:List (List D))
 deriving Inhabited
def aG(es:List (D×D)):List (List D):=es.map fun p=> [p.1,p.2]
def aB:List (List D)→Option (List (D×D))
 | []=>some []
 | [a,b]::r=>(aB r).map ((a,b):: ·)
 |_=>none
theorem aQ: ∀(es:List (D×D)),aB (aG es)=some es
 | []=>rfl
 |(a,b)::r=>by simp only[aG,List.map_cons,aB];rw[show aB (List.map (fun p=> [p.1,p.2]) r)=some r from aQ r];rfl
inductive HO where
 |box (xs:List D)
 |row (g:Tok) (e:Nat) (es:List (List D))
 |map (es:List (D×D))
 |iter (t:Tok) (n:Nat) (seen:List Nat)
 |raw (o:Obj)
instance:Inhabited HO:=⟨.box []⟩
def HO.gJ:HO→Option Tok
 | .row g _ _=>some g
 |_=>none
abbrev Mem:=Tok→Option HO
structure St where
 s:Nat→D
 m:Mem
 c:Nat→Nat
def St.set(J:St)(i:Nat)(d:D):St:=⟨fun j=>if j=i then d else J.s j,J.m,J.c⟩
def St.put(J:St)(t:Tok)(o:Option HO):St:=⟨J.s,fun τ=>if τ=t then o else J.m τ,J.c⟩
def St.inc(J:St)(x:Nat):St:=⟨J.s,J.m,fun y=>if y=x then J.c y+1 else J.c y⟩
def HO.cE(g:Tok)(k:Nat):Option HO→Option HO
 |some (.row g' e es)=>if g'=g∧k<es.length then none else some (.row g' e es)
 |o=>o
def St.aL(J:St)(g:Tok)(k:Nat):St:=⟨J.s,fun τ=>HO.cE g k (J.m τ),J.c⟩
def St.tok(J:St)(x:Nat):Tok:= [x+1,J.c x]
def St.new(J:St)(x:Nat)(o:HO)(d:D):St:=((J.put (J.tok x) (some o)).set x d).inc x
@[simp] theorem St.jw(J:St)(i:Nat)(d:D):(J.set i d).m=J.m:=rfl
@[simp] theorem St.MU(J:St)(i:Nat)(d:D):(J.set i d).c=J.c:=rfl
@[simp] theorem St.Xe(J:St)(t:Tok)(o:Option HO):(J.put t o).s=J.s:=rfl
@[simp] theorem St.MQ(J:St)(t:Tok)(o:Option HO):(J.put t o).c=J.c:=rfl
@[simp] theorem St.G'(J:St)(x:Nat):(J.inc x).s=J.s:=rfl
@[simp] theorem St.L8(J:St)(x:Nat):(J.inc x).m=J.m:=rfl
@[simp] theorem St.XF(J:St)(g:Tok)(k:Nat):(J.aL g k).s=J.s:=rfl
@[simp] theorem St.XE(J:St)(g:Tok)(k:Nat):(J.aL g k).c=J.c:=rfl
theorem St.ub(J:St)(i:Nat)(d:D):(J.set i d).s i=d:=by simp[St.set]
theorem St.cQ(J:St){i j:Nat}(d:D)(h:j≠i):(J.set i d).s j=J.s j:=by simp[St.set,h]
def p8:Value→Bool
 | .bool _| .int _ _| .string _| .nilIface| .nilFunc| .pointer none=>true
 | .func (.yield _) a b=>a.isEmpty&&b.isEmpty
 |_=>false
theorem eG{x:Value}(h:p8 x=true):x.oneCell'=true:=by
 cases x<;>simp_all [p8,Value.oneCell']
abbrev aT:=Nat→Nat→Prop
abbrev ag:=Tok→Option (Nat×Nat)
abbrev aI:ag:=fun _=>none
inductive ai(w:World)(pr:aT):ag→Value→D→Prop
 |undef {tk:ag} {v:Value}:ai w pr tk v .undef
 |v {tk:ag} {x:Value} (h:p8 x=true):ai w pr tk x (.v x)
 |nil {tk:ag}:ai w pr tk (.slice none 0 0) .nil
 |nil' {tk:ag}:ai w pr tk (.slice none 0 0) (.list [])
 |mt {tk:ag} {a:Addr} {cap:Nat}:ai w pr tk (.slice (some a) 0 cap) .mt
 |emp {tk:ag} {a:Addr} {cap:Nat}:ai w pr tk (.slice (some a) 0 cap) (.list [])
 |list {tk:ag} {b off cap size:Nat} {es:List (List D)} (us:Nat→Value) (hes: ∀e∈es,e.length=size) (jB:es.length≤cap)
   (hc: ∀j,j<es.length*size→w.cell? ⟨b,off+j,none⟩=some (us j)∧pr b (off+j)∧(us j).oneCell'=true)
   (hr: ∀(i:Nat) (e:List D),es[i]?=some e→ ∀(j:Nat) (d:D),e[j]?=some d→ai w pr aI (us (i*size+j)) d):
   ai w pr tk (.slice (some ⟨b,off,none⟩) es.length cap) (.list es)
 |agg {tk:ag} {cs:Array Value} {xs:List D} (hs:cs.size=xs.length) (h1: ∀(i:Nat) (c:Value),cs[i]?=some c→c.oneCell'=true)
   (hr: ∀(i:Nat) (c:Value) (x:D),cs[i]?=some c→xs[i]?=some x→ai w pr tk c x):ai w pr tk (.agg cs) (.agg xs)
 |tup {tk:ag} {cs:Array Value} {xs:List D} (hs:cs.size=xs.length)
   (hr: ∀(i:Nat) (c:Value) (x:D),cs[i]?=some c→xs[i]?=some x→ai w pr tk c x):ai w pr tk (.tuple cs) (.tup xs)
 |lptr {tk:ag} {b off:Nat} {xs:List D} (us:Nat→Value)
   (hc: ∀j,j<xs.length→w.cell? ⟨b,off+j,none⟩=some (us j)∧pr b (off+j)∧(us j).oneCell'=true)
   (hr: ∀(j:Nat) (d:D),xs[j]?=some d→ai w pr aI (us j) d):ai w pr tk (.pointer (some ⟨b,off,none⟩)) (.lptr xs)
 |clo {tk:ag} {f:Nat} {cv:Array Value} {eT:List D} (hf:f<1000000) (hs:cv.size=eT.length)
   (hr: ∀(i:Nat) (c:Value) (x:D),cv[i]?=some c→eT[i]?=some x→ai w pr tk c x):ai w pr tk (.func (.func f) #[] cv) (.clo f eT)
 |bclo {tk:ag} {f:Nat} {cv:Array Value} {eT:List D} (hs:cv.size=eT.length)
   (hr: ∀(i:Nat) (c:Value) (x:D),cv[i]?=some c→eT[i]?=some x→ai w pr tk c x):ai w pr tk (.func (.func f) cv #[]) (.clo (f+1000000) eT)
 |sl {tk:ag} {t:Tok} {b cap size off len c o:Nat} {lim:Option Nat} (ht:tk t=some (b,cap)) (hc:c=lim.getD (cap-off)) (hl:len≤c) (ho:o=off*size∨(c=0∧0<off)):
   ai w pr tk (.slice (some ⟨b,o,none⟩) len c) (.sl t size off len lim)
 |ptr {tk:ag} {t:Tok} {b cap off:Nat} (ht:tk t=some (b,cap)):ai w pr tk (.pointer (some ⟨b,off,none⟩)) (.ptr t off)
 |rptr {tk:ag} {t:Tok} {b cap size i j:Nat} (ht:tk t=some (b,cap)):ai w pr tk (.pointer (some ⟨b,i*size+j,none⟩)) (.rptr t size i j)
 |mp {tk:ag} {t:Tok} {b cap:Nat} (ht:tk t=some (b,cap)):ai w pr tk (.map (some b)) (.mp t)
 |nilmap {tk:ag}:ai w pr tk (.map none) .nilmap
 |fm {tk:ag} {b:Nat} {a7:Array MapEntry} {es:List (D×D)} (hb:w.heap[b]?=some (.map a7 es.length)) (hp:pr b 0) (hs:a7.size=es.length) (hl:es.length≤maxLen)
   (hn: ∀(i:Nat) (en:MapEntry),a7[i]?=some en→en.born=i)
   (hk: ∀(i:Nat) (en:MapEntry) (p:D×D),a7[i]?=some en→es[i]?=some p→ai w pr aI en.key p.1)
   (hv: ∀(i:Nat) (en:MapEntry) (p:D×D),a7[i]?=some en→es[i]?=some p→ai w pr aI en.val p.2):ai w pr tk (.map (some b)) (.fm (aG es))
structure cY(w w':World)(pr pr':aT)(tk tk':ag):Prop where
 cell: ∀b o,pr b o→w'.heap[b]?=w.heap[b]?∧pr' b o
 tok: ∀t p,tk t=some p→tk' t=some p
theorem cY.refl(w:World)(pr:aT)(tk:ag):cY w w pr pr tk tk:=⟨fun _ _ h=>⟨rfl,h⟩,fun _ _ h=>h⟩
theorem ai.keeps{w w':World}{pr pr':aT}{tk tk':ag}{v:Value}{d:D}(h:ai w pr tk v d)(K:cY w w' pr pr' tk tk'):ai w' pr' tk' v d:=by
 have hc:=K.cell;have ht:=K.tok;clear K
 induction h generalizing tk' with
 |undef=>exact .undef
 |v h=>exact .v h
 |nil=>exact .nil
 |nil'=>exact .nil'
 |mt=>exact .mt
 |emp=>exact .emp
 |list us hes jB ff hr ih=>
  exact .list us hes jB (fun j hj=>let⟨h1,h2,h3⟩:=ff j hj;⟨(World.cell?_of_block (w:=w) (hc _ _ h2).1).trans h1,(hc _ _ h2).2,h3⟩) (fun i e he j d hd=>ih i e he j d hd (fun _ _ h=>h))
 |agg hs h1 hr ih=>exact .agg hs h1 (fun i c x h1 h2=>ih i c x h1 h2 ht)
 |tup hs hr ih=>exact .tup hs (fun i c x h1 h2=>ih i c x h1 h2 ht)
 |lptr us ff hr ih=>
  exact .lptr us (fun j hj=>let⟨h1,h2,h3⟩:=ff j hj;⟨(World.cell?_of_block (w:=w) (hc _ _ h2).1).trans h1,(hc _ _ h2).2,h3⟩) (fun j d hd=>ih j d hd (fun _ _ h=>h))
 |clo hf hs hr ih=>exact .clo hf hs (fun i c x h1 h2=>ih i c x h1 h2 ht)
 |bclo hs hr ih=>exact .bclo hs (fun i c x h1 h2=>ih i c x h1 h2 ht)
 |sl h hc' hl ho=>exact .sl (ht _ _ h) hc' hl ho
 |ptr h=>exact .ptr (ht _ _ h)
 |rptr h=>exact .rptr (ht _ _ h)
 |mp h=>exact .mp (ht _ _ h)
 |nilmap=>exact .nilmap
 |fm hb hp hs hl hn hk hv ihk ihv=>exact .fm ((hc _ _ hp).1.trans hb) (hc _ _ hp).2 hs hl hn (fun i en p h1 h2=>ihk i en p h1 h2 (fun _ _ h=>h)) (fun i en p h1 h2=>ihv i en p h1 h2 (fun _ _ h=>h))
def D.gE:D→Bool
 | .agg _| .tup _| .undef=>false
 |_=>true
theorem ai.KC{w:World}{pr:aT}{tk:ag}{v:Value}{d:D}(h:ai w pr tk v d)(hd:d.gE=true):v.oneCell'=true:=by
 cases h<;>first|rfl|(simp[D.gE]at hd;done)|(rename_i h;exact eG h)
def cq(w:World)(pr:aT)(tk:ag)(cs:Array Value)(xs:List D):Prop:=
 cs.size=xs.length∧(∀(i:Nat) (c:Value),cs[i]?=some c→c.oneCell'=true)∧ ∀(i:Nat) (c:Value) (x:D),cs[i]?=some c→xs[i]?=some x→ai w pr tk c x
theorem cq.keeps{w w':World}{pr pr':aT}{tk tk':ag}{cs:Array Value}{xs:List D}(h:cq w pr tk cs xs)(K:cY w w' pr pr' tk tk'):cq w' pr' tk' cs xs:=
 ⟨h.1,h.2.1,fun i c x hc hx=>(h.2.2 i c x hc hx).keeps K⟩
theorem dA{w:World}{pr:aT}{tk:ag}{v:Value}{xs:List D}:ai w pr tk v (.agg xs)↔ ∃cs,v= .agg cs∧cq w pr tk cs xs:=by
 constructor
 ·intro h;cases h with|agg a b c=>exact⟨_,rfl,a,b,c⟩
 ·rintro⟨cs,rfl,a,b,c⟩;exact .agg a b c
def bf(P:Program)(w:World)(pr:aT)(tk:ag)(C:Array Value)(e:Nat)(es:List (List D)):Prop:=
 (∀c∈es,c.length=P.cellsOf e)∧ ∀(i:Nat) (c:List D),es[i]?=some c→ ∀(j:Nat) (d:D),c[j]?=some d→ ∃u,C[i*P.cellsOf e+j]?=some u∧u.oneCell'=true∧ai w pr tk u d
theorem bf.keeps{P:Program}{w w':World}{pr pr':aT}{tk tk':ag}{C:Array Value}{e:Nat}{es:List (List D)}(h:bf P w pr tk C e es)(K:cY w w' pr pr' tk tk'):bf P w' pr' tk' C e es:=
 ⟨h.1,fun i c hc j d hd=>let⟨u,h1,h2,h3⟩:=h.2 i c hc j d hd;⟨u,h1,h2,h3.keeps K⟩⟩
def mX(P:Program)(w:World)(pr:aT)(tk:ag)(t:Tok):HO→Prop
 | .box xs=> ∃b cap C ty,tk t=some (b,cap)∧w.heap[b]?=some (.cells C ty (0,0))∧cq w pr tk C xs
 | .row _ e es=> ∃b cap C,tk t=some (b,cap)∧w.heap[b]?=some (.cells C e (0,0))∧es.length≤cap∧cap≤maxLen∧C.size=cap*P.cellsOf e∧bf P w pr tk C e es
 | .map es=> ∃b cap a7,tk t=some (b,cap)∧w.heap[b]?=some (.map a7 es.length)∧a7.size=es.length∧es.length≤maxLen∧
   ∀(i:Nat) (en:MapEntry) (p:D×D),a7[i]?=some en→es[i]?=some p→en.born=i∧ai w pr tk en.key p.1∧ai w pr tk en.val p.2
 | .iter u n seen=> ∃b cap b' lR,tk t=some (b,cap)∧tk u=some (b',lR)∧w.heap[b]?=some (.mapIter (some b') n seen.toArray n)
 | .raw o=> ∃b cap,tk t=some (b,cap)∧w.heap[b]?=some o
theorem mX.keeps{P:Program}{w w':World}{pr pr':aT}{tk tk':ag}{t:Tok}{o:HO}(h:mX P w pr tk t o)(K:cY w w' pr pr' tk tk')(hb: ∀b cap,tk t=some (b,cap)→w'.heap[b]?=w.heap[b]?):mX P w' pr' tk' t o:=by
 cases o with
 |box xs=>
  obtain⟨b,cap,C,ty,h1,h2,h3⟩:=h;exact⟨b,cap,C,ty,K.tok _ _ h1,(hb b cap h1).trans h2,h3.keeps K⟩
 |row g e es=>
  obtain⟨b,cap,C,h1,h2,h3,h4,h5,h6⟩:=h;exact⟨b,cap,C,K.tok _ _ h1,(hb b cap h1).trans h2,h3,h4,h5,h6.keeps K⟩
 |map es=>
  obtain⟨b,cap,a7,h1,h2,h3,h4,h5⟩:=h;exact⟨b,cap,a7,K.tok _ _ h1,(hb b cap h1).trans h2,h3,h4,fun i en p he hp=>let⟨g1,g2,g3⟩:=h5 i en p he hp;⟨g1,g2.keeps K,g3.keeps K⟩⟩
 |iter u n seen=>
  obtain⟨b,cap,b',lR,h1,h2,h3⟩:=h;exact⟨b,cap,b',lR,K.tok _ _ h1,K.tok _ _ h2,(hb b cap h1).trans h3⟩
 |raw o=>obtain⟨b,cap,h1,h2⟩:=h;exact⟨b,cap,K.tok _ _ h1,(hb b cap h1).trans h2⟩
theorem mX.place{P:Program}{w:World}{pr:aT}{tk:ag}{t:Tok}{o:HO}(h:mX P w pr tk t o): ∃b cap,tk t=some (b,cap)∧b<w.heap.size:=by
 have lt: ∀{b:Nat} {x:Obj},w.heap[b]?=some x→b<w.heap.size:=fun h=>(Array.getElem?_eq_some_iff.1 h).1;cases o with
 |box xs=>obtain⟨b,cap,C,ty,h1,h2,_⟩:=h;exact⟨b,cap,h1,lt h2⟩
 |row g e es=>obtain⟨b,cap,C,h1,h2,_⟩:=h;exact⟨b,cap,h1,lt h2⟩
 |map es=>obtain⟨b,cap,a7,h1,h2,_⟩:=h;exact⟨b,cap,h1,lt h2⟩
 |iter u n seen=>obtain⟨b,cap,b',lR,h1,_,h2⟩:=h;exact⟨b,cap,h1,lt h2⟩
 |raw o=>obtain⟨b,cap,h1,h2⟩:=h;exact⟨b,cap,h1,lt h2⟩
structure dI(P:Program)(w:World)(pr:aT)(tk:ag)(m:Mem):Prop where
 obj: ∀t o,m t=some o→mX P w pr tk t o
 inj: ∀t t' o o' b c c',m t=some o→m t'=some o'→tk t=some (b,c)→tk t'=some (b,c')→t=t'∨(o.gJ.isSome=true∧o.gJ=o'.gJ)
theorem dI.keeps{P:Program}{w w':World}{pr pr':aT}{tk tk':ag}{m:Mem}(M:dI P w pr tk m)(K:cY w w' pr pr' tk tk')(hb: ∀t o b c,m t=some o→tk t=some (b,c)→w'.heap[b]?=w.heap[b]?):dI P w' pr' tk' m:=by
 refine⟨fun t o h=>(M.obj t o h).keeps K fun b c hc=>hb t o b c h hc,fun t t' o o' b c c' h h' ht ht'=> ?_⟩;obtain⟨b1,c1,h1,_⟩:=(M.obj t o h).place;obtain⟨b2,c2,h2,_⟩:=(M.obj t' o' h').place;have e1:=K.tok _ _ h1;have e2:=K.tok _ _ h2;rw[ht]at e1;rw[ht']at e2;cases e1;cases e2;exact M.inj t t' o o' b c c' h h' h1 h2
def bX(tk:ag)(m:Mem)(b:Nat):Prop:= ∃t o c,m t=some o∧tk t=some (b,c)
structure cW(A:Nat→Prop)(w w':World):Prop where
 os:w'.os=w.os
 tape:w'.tape=w.tape
 output:w'.output=w.output
 size:w.heap.size≤w'.heap.size
 block: ∀k,k<w.heap.size→ ¬A k→w'.heap[k]?=w.heap[k]?
 drawn:w.drawn≤w'.drawn
theorem cW.refl(A:Nat→Prop)(w:World):cW A w w:=⟨rfl,rfl,rfl,Nat.le_refl _,fun _ _ _=>rfl,Nat.le_refl _⟩
theorem cW.trans{A B:Nat→Prop}{a b c:World}(h:cW A a b)(k:cW B b c)(hB: ∀x,x<a.heap.size→B x→A x):cW A a c:=
 ⟨k.os.trans h.os,k.tape.trans h.tape,k.output.trans h.output,Nat.le_trans h.size k.size,fun x hx hA=>
  (k.block x (Nat.lt_of_lt_of_le hx h.size) fun hb=>hA (hB x hx hb)).trans (h.block x hx hA),Nat.le_trans h.drawn k.drawn⟩
theorem cW.mono{A B:Nat→Prop}{a b:World}(h:cW A a b)(hB: ∀x,x<a.heap.size→A x→B x):cW B a b:=
 ⟨h.os,h.tape,h.output,h.size,fun x hx hb=>h.block x hx fun ha=>hb (hB x hx ha),h.drawn⟩
theorem cW.alloc(A:Nat→Prop)(w:World)(o:Obj):cW A w (w.alloc o):=
 ⟨rfl,rfl,rfl,by simp,fun k hk _=>(Go.MapKept.heap_alloc w o).2 k hk,Nat.le_refl _⟩
theorem cW.cell{A:Nat→Prop}{w w':World}(h:cW A w w'){b:Nat}(o:Nat)(hb:b<w.heap.size)(hA: ¬A b):w'.cell? ⟨b,o,none⟩=w.cell? ⟨b,o,none⟩:=World.cell?_of_block (w:=w) (h.block b hb hA)
end
section
structure mZ where
 fr:Nat→Nat
 fz:Nat→Bool
inductive PK where
 |mv
 |pick
 |ibin (op:BinOp)
 |ishift (op:BinOp)
 |beq (neg:Bool)
 |seq (neg:Bool)
 |aeq (neg:Bool) (ks:List Nat)
 |snil (neg:Bool)
 |pnil (neg:Bool)
 |sop (op:BinOp)
 |inot
 |ineg
 |llen
 |slen
 |load (n:Nat) (agg:Bool)
 |fld (off:Nat)
 |idx (e size:Nat)
 |aidx (n size:Nat)
 |ext (k:Nat)
 |conv (k:IntKind)
 |afld (off n:Nat) (agg:Bool)
 |build (zero:List D) (places:List (Nat×Nat))
 |clo (f:Nat)
 |mx2 (mx:Bool)
 |mx3 (mx:Bool)
 |aix (n size:Nat) (agg:Bool)
 |bm
 |slc (size:Nat) (lo hi mx:Bool)
 |sla (n size:Nat) (lo hi:Bool)
 |fbox (n:Nat)
 |lkp (ks:List Nat) (zero:D) (ok:Bool)
 |ent
 |call (f:Nat)
 |ccall
 deriving Inhabited
def D.asBool:D→Option Bool
 | .v (.bool b)=>some b
 |_=>none
def D.elems(m:Mem):D→Option (List (List D))
 | .list es=>some es
 | .nil| .mt=>some []
 | .sl t size off len _=>match m t with
  |some (.row _ _ es)=>if off+len≤es.length∧es.all (fun c=>c.length==size)=true then some ((es.drop off).take len)else none
  |some (.box xs)=>if size=1∧off+len≤xs.length then some (((xs.drop off).take len).map fun d=> [d])else none
  |_=>none
 |_=>none
def D.th:D→Option Nat
 | .list es=>some es.length
 | .nil| .mt=>some 0
 | .sl _ _ _ len _=>some len
 |_=>none
abbrev bv(b:Bool):D:= .v (.bool b)
abbrev iv(n:Int):D:= .v (.int .i64 n)
def cN(op:BinOp)(k:IntKind)(a b:Int):Option D:=
 match op with
 | .add=>some (.v (.int k (k.wrap (a+b))))
 | .sub=>some (.v (.int k (k.wrap (a-b))))
 | .mul=>some (.v (.int k (k.wrap (a*b))))
 | .quo=>if b=0 then none else some (.v (.int k (k.wrap (a.tdiv b))))
 | .rem=>if b=0 then none else some (.v (.int k (a.tmod b)))
 | .eql=>some (bv (a==b))
 | .neq=>some (bv (a !=b))
 | .lss=>some (bv (decide (a<b)))
 | .leq=>some (bv (decide (a≤b)))
 | .gtr=>some (bv (decide (a>b)))
 | .geq=>some (bv (decide (a≥b)))
 | .and| .or| .xor| .andNot=>some (.v (.int k (bits op k a b)))
 |_=>none
def Di(op:BinOp)(k:IntKind)(a b:Int):Option D:=
 if b<0 then none else
 match op with
 | .shl=>some (.v (.int k (k.wrap (a*2^(min b.toNat k.bits)))))
 | .shr=>some (.v (.int k (a.fdiv (2^(min b.toNat k.bits)))))
 |_=>none
def D.bB:D→Bool
 | .v _=>true
 |_=>false
def D.flat:D→Bool
 | .agg xs=>xs.all D.bB
 | .tup xs=>xs.all fun d=>match d with
  | .agg ys=>ys.all D.bB
  |d=>d.bB
 |d=>d.bB
def D.eF:D→Bool
 | .v _| .nil| .mt| .list _| .lptr _| .nilmap| .fm _=>true
 |_=>false
def D.aN:D→Bool
 | .clo _ xs=>xs.all D.eF
 |d=>d.eF
def D.aK:D→Bool
 | .agg xs=>xs.all D.aN
 | .clo _ xs=>xs.all D.aN
 | .tup xs=>xs.all fun d=>match d with
  | .agg ys=>ys.all D.aN
  |d=>d.aN
 |d=>d.aN
def D.own(d:D):D:= .tup [.undef,d]
def D.eD:D→Bool
 | .tup [.undef,_]=>true
 |_=>false
def D.bare:D→D
 | .tup [.undef,d]=>d
 |d=>d
def D.nz:D→D
 | .nil| .mt=> .list []
 |d=>d
def aS(f:D→Option D)(c:List D):Option (List D):=if c.all D.bB then some c else c.mapM f
def cR(f:D→Option D)(es:List (List D)):Option (List (List D)):=if es.all (fun c=>c.all D.bB)then some es else es.mapM (aS f)
def az(m:Mem):Nat→D→Option D
 |0,_=>none
 |n+1,d=>match d with
  | .v x=>some (.v x)
  | .nil| .mt=>some (.list [])
  | .list es=>some (.list es)
  | .lptr xs=>some (.lptr xs)
  | .nilmap=>some .nilmap
  | .fm es=>some (.fm es)
  | .mp t=>match m t with
   |some (.map es)=>if es.all (fun p=>p.1.aK&&p.2.aK)then some (.fm (aG es))else none
   |_=>none
  | .sl t size off len lim=>((D.sl t size off len lim).elems m).bind fun es=>(cR (az m n) es).map .list
  | .ptr t off=>match m t with
   |some (.box xs)=>if off≤xs.length then(aS (az m n) (xs.drop off)).map .lptr else none
   |_=>none
  | .rptr t size i j=>match m t with
   |some (.row _ _ es)=>(es[i]?).bind fun c=>if c.length=size∧j≤size then(aS (az m n) (c.drop j)).map .lptr else none
   |_=>none
  | .clo f xs=>(aS (az m n) xs).map (.clo f)
  |_=>none
def bD(m:Mem):D→Option D
 | .agg xs=>(aS (az m 6) xs).map .agg
 |d=>az m 6 d
def putAt(cells:List D)(off:Nat)(xs:List D):List D:=cells.take off++xs++cells.drop (off+xs.length)
def D.cells:D→List D
 | .agg xs=>xs
 |d=> [d]
def nb:List D→List (Nat×Nat)→List D→Option (List D)
 |cells,[],[]=>some cells
 |cells,(off,n)::ps,d::ds=>if d.cells.length=n∧off+n≤cells.length then nb (putAt cells off d.cells) ps ds else none
 |_,_,_=>none
def kL(size:Nat):Nat→List D→List (List D)
 |0,_=> []
 |n+1,l=>l.take size::kL size n (l.drop size)
def bx:Nat:=1048576
structure Env where
 p:Nat→List D→Option D
 q:Nat→List D→Option (D×Mem)
 m:Nat→Mem→List D→Option (D×Mem)
 e:Nat→Nat→List D→Option D
section
variable (Γ : Env) (m : Mem)
def lQ(f:Nat)(ds:List D):Option D:=
 (ds.mapM (bD m)).bind fun as=>(Γ.p f as).bind fun r=>if(r.bare.flat||r.eD&&r.bare.aK)||ds.all D.aK&&r.bare.aK then some r.bare else none
def mvV:List D→Option D| [d]=>some d|_=>none
def DB:List D→Option D| [c,a,b]=>c.asBool.bind fun x=>some (bif x then a else b)|_=>none
def g_(op:BinOp):List D→Option D| [.v (.int k a), .v (.int k' b)]=>if k=k' then cN op k a b else none|_=>none
def B8(op:BinOp):List D→Option D| [.v (.int k a), .v (.int _ b)]=>Di op k a b|_=>none
def Pb(neg:Bool):List D→Option D| [.v (.bool a), .v (.bool b)]=>some (bv (if neg then !(a==b)else a==b))|_=>none
def RC(neg:Bool):List D→Option D| [.v (.string a), .v (.string b)]=>some (bv (if neg then !(a.toList==b.toList)else a.toList==b.toList))|_=>none
def QZ:List D→Option D| [.v (.bool a)]=>some (bv (!a))|_=>none
def Vp:List D→Option D| [.v (.int k a)]=>some (.v (.int k (k.wrap (0-a))))|_=>none
def xC:List D→Option D| [d]=>d.th.bind fun n=>some (iv n)|_=>none
def MZ:List D→Option D| [.v (.string a)]=>some (iv a.size)|_=>none
def gC(n:Nat)(agg:Bool):List D→Option D
 | [.lptr xs]=>if n≤xs.length then(if agg then some (.agg (xs.take n))else xs[0]?)else none
 | [.ptr t off]=>match m t with
  |some (.box xs)=>if off+n≤xs.length then(if agg then some (.agg ((xs.drop off).take n))else xs[off]?)else none
  |_=>none
 | [.rptr t size i j]=>match m t with
  |some (.row _ _ es)=>(es[i]?).bind fun c=>if c.length=size∧j+n≤size then(if agg then some (.agg ((c.drop j).take n))else c[j]?)else none
  |some (.box xs)=>if size=1∧i+j+n≤xs.length then(if agg then some (.agg ((xs.drop (i+j)).take n))else xs[i+j]?)else none
  |_=>none
 |_=>none
def Gt(n:Nat):List D→Option D
 | [d]=>if d.cells.length=n∧d.cells.all D.gE=true∧d.cells.all D.aN=true then some (.lptr d.cells)else none
 |_=>none
def Gw(off:Nat):List D→Option D
 | [.lptr xs]=>some (.lptr (xs.drop off))
 | [.ptr t o]=>some (.ptr t (o+off))
 | [.rptr t size i j]=>some (.rptr t size i (j+off))
 |_=>none
def qY(e size:Nat):List D→Option D
 | [.list es, .v (.int _ n)]=>if n<0 then none else(es[n.toNat]?).bind fun c=>if c.length=size then some (.lptr c)else none
 | [.sl t kB off len _, .v (.int _ n)]=>if n<0 then none else if kB=size∧n.toNat<len then some (.rptr t size (off+n.toNat) 0)else none
 |_=>none
def vq(n size:Nat):List D→Option D
 | [.lptr xs, .v (.int _ i)]=>if 0≤i∧i<n then some (.lptr (xs.drop (i.toNat*size)))else none
 | [.ptr t o, .v (.int _ i)]=>if 0≤i∧i<n then some (.ptr t (o+i.toNat*size))else none
 | [.rptr t sz k j, .v (.int _ i)]=>if 0≤i∧i<n then some (.rptr t sz k (j+i.toNat*size))else none
 |_=>none
def Gq(k:Nat):List D→Option D| [.tup xs]=>xs[k]?|_=>none
def LN(k:IntKind):List D→Option D| [.v (.int _ a)]=>some (.v (.int k (k.wrap a)))|_=>none
def FL(off n:Nat)(agg:Bool):List D→Option D
 | [.agg xs]=>if off+n≤xs.length then(if agg then some (.agg ((xs.drop off).take n))else xs[off]?)else none
 |_=>none
def wT(zero:List D)(places:List (Nat×Nat))(ds:List D):Option D:=if ds.all (fun d=>d.cells.all D.gE)then(nb zero places ds).map .agg else none
def D.Dh:D→Bool
 | .undef=>false
 |_=>true
def Js(f:Nat)(ds:List D):Option D:=if ds.all D.Dh then some (.clo f ds)else none
def QW(mx:Bool):List D→Option D| [.v (.int k a), .v (.int _ b)]=>some (.v (.int k (if mx then(if b>a then b else a)else(if b<a then b else a))))|_=>none
def QX(mx:Bool):List D→Option D
 | [.v (.int k a), .v (.int _ b), .v (.int _ c)]=>some (.v (.int k (if mx then(if c>(if b>a then b else a)then c else(if b>a then b else a))else(if c<(if b<a then b else a)then c else(if b<a then b else a)))))
 |_=>none
def Jl(n size:Nat)(agg:Bool):List D→Option D
 | [.agg xs, .v (.int _ i)]=>if 0≤i∧i<n∧i.toNat*size+size≤xs.length then(if agg then some (.agg ((xs.drop (i.toNat*size)).take size))else xs[i.toNat*size]?)else none
 |_=>none
def br:IntKind→Nat
 | .i8=>0| .i16=>1| .i32=>2| .i64=>3| .u8=>4| .u16=>5| .u32=>6| .u64=>7
def ae:List Nat→List D→List D→Option Bool
 | [],[],[]=>some true
 |n::ks, .v (.int k a)::xs, .v (.int k' b)::ys=>if n=br k∧n=br k' then(ae ks xs ys).map fun r=>(a==b)&&r else none
 |8::ks, .v (.bool a)::xs, .v (.bool b)::ys=>(ae ks xs ys).map fun r=>(a==b)&&r
 |9::ks, .v (.string a)::xs, .v (.string b)::ys=>(ae ks xs ys).map fun r=>(a.toList==b.toList)&&r
 |_,_,_=>none
def Jk(neg:Bool)(ks:List Nat):List D→Option D
 | [.agg xs, .agg ys]=>(ae ks xs ys).map fun r=>bv (if neg then !r else r)
 |_=>none
def DR(neg:Bool):List D→Option D
 | [d, .nil]=>match d with
  | .nil=>some (bv (!neg))
  | .mt=>some (bv neg)
  | .list (_::_)=>some (bv neg)
  | .sl .. =>some (bv neg)
  |_=>none
 |_=>none
def DD(neg:Bool):List D→Option D
 | [d, .v (.pointer none)]=>match d with
  | .ptr .. =>some (bv neg)
  | .v (.pointer none)=>some (bv (!neg))
  |_=>none
 |_=>none
def Pq:List D→Option D
 | [.ptr t o]=>some (.ptr t o)
 | [.rptr t size i j]=>some (.rptr t size i j)
 | [.lptr xs]=>some (.lptr xs)
 | [.clo f cs]=>some (.clo f cs)
 |_=>none
def w_(es:List (List D))(lo hi:Int):Option D:=
 if 0≤lo∧lo≤hi∧hi≤es.length then some (.list ((es.drop lo.toNat).take (hi.toNat-lo.toNat)))else none
def fg:List D→Option (List Int)
 | []=>some []
 | .v (.int _ n)::r=>(fg r).map (n:: ·)
 |_=>none
def cr(n:Nat)(lo hi mx:Bool)(l:List Int):Option (Int×Int×Option Int):=
 match lo,hi,mx,l with
 |false,false,false,[]=>some (0,n,none)
 |true,false,false,[a]=>some (a,n,none)
 |false,true,false,[b]=>some (0,b,none)
 |true,true,false,[a,b]=>some (a,b,none)
 |false,true,true,[b,c]=>some (0,b,some c)
 |true,true,true,[a,b,c]=>some (a,b,some c)
 |_,_,_,_=>none
def DL(t:Tok)(off:Nat)(lim:Option Nat)(h:Int):Bool:=
 match lim,m t with
 |none,some (.row _ _ es)=>decide ((off:Int)+h≤es.length)
 |_,_=>false
def qe(size:Nat)(lo hi mx:Bool):List D→Option D
 | .sl t kB off len lim::r=>(fg r).bind fun l=>(cr len lo hi mx l).bind fun q=>
  if 0≤q.1∧q.1≤q.2.1∧(q.2.1≤len∨DL m t off lim q.2.1=true)∧kB=size then
   match q.2.2 with
   |none=>some (.sl t size (off+q.1.toNat) (q.2.1.toNat-q.1.toNat) (lim.map (· -q.1.toNat)))
   |some c=>if q.2.1≤c∧c≤len then some (.sl t size (off+q.1.toNat) (q.2.1.toNat-q.1.toNat) (some (c.toNat-q.1.toNat)))else none
  else none
 |d::r=>(match d with| .list es=>some es| .mt=>some []| .nil=>some []|_=>none).bind fun es=>
  if es.all (fun c=>c.length==size)=false then none else(fg r).bind fun l=>(cr es.length lo hi mx l).bind fun q=>
   match q.2.2 with
   |none=>w_ es q.1 q.2.1
   |some c=>if q.2.1≤c∧c≤es.length then w_ es q.1 q.2.1 else none
 |_=>none
def KZ(n size:Nat)(lo hi:Bool):List D→Option D
 | .ptr t off::r=>(fg r).bind fun l=>(cr n lo hi false l).bind fun q=>
  if 0≤q.1∧q.1≤q.2.1∧q.2.1≤n∧size=1 then some (.sl t 1 (off+q.1.toNat) (q.2.1.toNat-q.1.toNat) (some (n-q.1.toNat)))else none
 | .lptr xs::r=>(fg r).bind fun l=>(cr n lo hi false l).bind fun q=>
  if 0≤q.1∧q.1≤q.2.1∧q.2.1≤n∧n*size≤xs.length then some (.list (kL size (q.2.1.toNat-q.1.toNat) (xs.drop (q.1.toNat*size))))else none
 |_=>none
def D.rJ:D→Bool
 | .tup _| .undef| .clo .. =>false
 | .agg xs=>xs.all D.gE
 |_=>true
def cj:List Nat→D→D→Option Bool
 |99::ks, .agg xs, .agg ys=>ae ks xs ys
 | [n],x,y=>ae [n] [x] [y]
 |_,_,_=>none
def bq(ks:List Nat)(k:D):List (D×D)→Nat→Option (Option Nat)
 | [],_=>some none
 |p::r,i=>(cj ks k p.1).bind fun b=>if b then some (some i)else bq ks k r (i+1)
def oI(ks:List Nat)(zero:D)(ok:Bool):List D→Option D
 | [.mp t,k]=>match m t with
  |some (.map es)=>if k.rJ=true∧cj ks k k=some true then(bq ks k es 0).bind fun r=>match r with
   |none=>some (if ok then .tup [zero,bv false]else zero)
   |some i=>(es[i]?).map fun p=>if ok then .tup [p.2,bv true]else p.2
   else none
  |_=>none
 | [.fm rows,k]=>(aB rows).bind fun es=>if k.rJ=true∧cj ks k k=some true then(bq ks k es 0).bind fun r=>match r with
   |none=>some (if ok then .tup [zero,bv false]else zero)
   |some i=>(es[i]?).map fun p=>if ok then .tup [p.2,bv true]else p.2
   else none
 |_=>none
def Ef:List D→Option D
 | [.ptr t 0]=>match m t with
  |some (.iter u n seen)=>match m u with
   |some (.map es)=>if es.length=n then(seen.getLast?).bind fun i=>(es[i]?).map fun p=> .tup [p.1,p.2]else none
   |_=>none
  |_=>none
 |_=>none
def sq:List D→Option D| .clo f eT::ds=>if f<1000000 then lQ Γ m f (ds++eT)else none|_=>none
def PK.run:PK→List D→Option D
 | .mv=>mvV
 | .pick=>DB
 | .ibin op=>g_ op
 | .ishift op=>B8 op
 | .beq neg=>Pb neg
 | .seq neg=>RC neg
 | .inot=>QZ
 | .ineg=>Vp
 | .llen=>xC
 | .slen=>MZ
 | .load n agg=>gC m n agg
 | .fld off=>Gw off
 | .idx e size=>qY e size
 | .aidx n size=>vq n size
 | .ext k=>Gq k
 | .conv k=>LN k
 | .afld off n agg=>FL off n agg
 | .build zero places=>wT zero places
 | .clo f=>Js f
 | .mx2 mx=>QW mx
 | .mx3 mx=>QX mx
 | .aix n size agg=>Jl n size agg
 | .aeq neg ks=>Jk neg ks
 | .snil neg=>DR neg
 | .pnil neg=>DD neg
 | .bm=>Pq
 | .slc size lo hi mx=>qe m size lo hi mx
 | .sla n size lo hi=>KZ n size lo hi
 | .fbox n=>Gt n
 | .lkp ks zero ok=>oI m ks zero ok
 | .ent=>Ef m
 | .call f=>lQ Γ m f
 | .ccall=>sq Γ m
 | .sop _=>fun _=>none
end
def dF(P:Program)(t:Nat):Option Bool:=
 match P.underlying t with
 |some (.struct _)|some (.array _ _)=>some true
 |some _=>some false
 |none=>none
def iQ(P:Program)(t f:Nat):Option (Nat×Nat×Bool):=
 match P.underlying t with
 |some (.struct fs)=>(fs[f]?).bind fun x=>(dF P x.type).bind fun g=>if P.cellsOf x.type=0 then none else some (x.offset,P.cellsOf x.type,g)
 |_=>none
def za:Value→Option D
 | .slice none 0 0=>some .nil
 | .bool b=>some (.v (.bool b))
 | .int k n=>some (.v (.int k n))
 | .string s=>some (.v (.string s))
 | .nilIface=>some (.v .nilIface)
 | .nilFunc=>some (.v .nilFunc)
 | .pointer none=>some (.v (.pointer none))
 | .map none=>some .nilmap
 |_=>none
def vF(P:Program)(t:Nat):Option (List D):=((P.info? t).bind (·.zero)).bind fun z=>z.cells.toList.mapM za
def Gb(P:Program)(t:Nat)(idx:List Nat):Option (List D×List (Nat×Nat)):=
 (vF P t).bind fun z=>match P.underlying t with
 |some (.struct fs)=>(fs.toList.mapM (fun f=>(P.info? f.type).map fun i=>(f.offset,i.size))).bind fun pl=>(idx.mapM (fun i=>pl.toArray[i]?)).map fun ps=>(z,ps)
 |some (.array _ e)=>(P.info? e).map fun i=>(z,idx.map (fun k=>(k*i.size,i.size)))
 |_=>none
def xd(P:Program)(t len:Nat)(idx:List Nat):Option (Nat×Nat×List D×List (Nat×Nat)):=
 match P.underlying t with
 |some (.slice e)=>(P.info? e).bind fun i=>if len*i.size≤65536∧0<i.size then
   (vF P e).bind fun z=>if z.length=i.size then
    some (e,i.size,(List.range (len*i.size)).map fun j=>z.getD (j%i.size) .undef,idx.map fun k=>(k*i.size,i.size))else none
  else none
 |_=>none
def pE(P:Program)(t:Nat):Option D:=
 ((P.info? t).bind (·.zero)).bind fun z=>match z with
  | .agg cs=>(cs.toList.mapM za).map .agg
  |v=>za v
def cg(P:Program)(t:Nat):Option Nat:=
 match P.underlying t with
 |some (.int k)=>some (br k)
 |some .bool=>some 8
 |some .string=>some 9
 |_=>none
mutual
def kX(P:Program):Nat→Nat→Option (List Nat)
 |0,_=>none
 |f+1,t=>match P.underlying t with
  |some (.struct fs)=>if P.stoodInHeld t=false then(d_ P f 0 fs.toList).bind fun ks=>if(P.info? t).map (·.size)=some ks.length∧0<ks.length then some ks else none else none
  |some (.array n e)=>(kX P f e).bind fun ks=>if(P.info? e).map (·.size)=some ks.length∧(P.info? t).map (·.size)=some (List.replicate n ks).flatten.length∧0<(List.replicate n ks).flatten.length then some ((List.replicate n ks).flatten)else none
  |_=>(cg P t).map fun k=> [k]
def d_(P:Program):Nat→Nat→List Field→Option (List Nat)
 |_,_,[]=>some []
 |0,_,_::_=>none
 | f + 1, i, g :: gs => if g.name ≠ "_" ∧ g.offset = i then (kX P f g.type).bind fun ks => (d_ P f (i + ks.length) gs).map (ks ++ ·) else none
end
def e5(P:Program)(t:Nat):Option (List Nat):=
 match P.underlying t with
 |some (.struct fs)=>if P.stoodInHeld t then none else d_ P 40 0 fs.toList
 |some (.array n e)=>(kX P 40 e).bind fun ks=>if(P.info? e).map (·.size)=some ks.length then some ((List.replicate n ks).flatten)else none
 |_=>none
def y7(P:Program)(t:Nat):Option (List Nat×Nat):=
 match P.underlying t with
 |some (.map k e)=>match cg P k with
  |some n=>some ([n],e)
  |none=>match P.underlying k with
   |some (.struct fs)=>if fs.toList.all (fun g=>(cg P g.type).isSome)=true∧P.stoodInHeld k=false then(d_ P 40 0 fs.toList).map fun ks=>(99::ks,e)else none
   |some (.array _ el)=>if(cg P el).isSome=true∧(P.info? el).map (·.size)=some 1 then(e5 P k).map fun ks=>(99::ks,e)else none
   |_=>none
 |_=>none
def F9(P:Program)(op:BinOp)(t:Nat):Option PK:=
 if P.eqGuardType P.depth t then none else
 match op with
 | .eql=>(e5 P t).map (.aeq false)
 | .neq=>(e5 P t).map (.aeq true)
 |_=>none
def y_(P:Program)(op:BinOp)(t:Nat):Option PK:=
 match P.underlying t,op with
 |some (.slice _), .eql=>some (.snil false)
 |some (.slice _), .neq=>some (.snil true)
 |some (.pointer e), .eql=>if P.pointee t=e then some (.pnil false)else none
 |some (.pointer e), .neq=>if P.pointee t=e then some (.pnil true)else none
 |_,_=>none
def F_(P:Program)(t:Nat):Option PK:=
 match P.underlying t with
 |some (.array n e)=>(dF P e).bind fun g=>if(P.info? e).isSome∧(g=true∨P.cellsOf e=1)then some (.aix n (P.cellsOf e) g)else none
 |_=>none
def Gh(P:Program)(t:Nat)(x:Operand)(lo hi mx:Option Operand):Option (PK×List Operand):=
 match P.underlying t with
 |some (.array n e)=>if(P.info? e).isSome∧mx.isSome=false then some (.sla n (P.cellsOf e) lo.isSome hi.isSome,x::(lo.toList++hi.toList))else none
 |some (.slice e)=>if(P.info? e).isSome then some (.slc (P.cellsOf e) lo.isSome hi.isSome mx.isSome,x::(lo.toList++hi.toList++mx.toList))else none
 |_=>none
def Ga(P:Program)(op:BinOp)(t:Nat):Option PK:=
 match P.underlying t with
 |some (.int _)=>match op with
  | .shl| .shr=>some (.ishift op)
  |_=>some (.ibin op)
 |some .bool=>match op with
  | .eql=>some (.beq false)
  | .neq=>some (.beq true)
  |_=>none
 |some .string=>match op with
  | .eql=>some (.seq false)
  | .neq=>some (.seq true)
  |_=>none
 |_=>none
def Jx(P:Program)(t:Nat):Option PK:=
 match P.underlying t with
 |some (.slice e)=>if(P.info? e).isSome then some (.idx e (P.cellsOf e))else none
 |some (.array n e)=>if(P.info? e).isSome then some (.aidx n (P.cellsOf e))else none
 |_=>none
def TD:UnOp→Option PK
 | .not=>some .inot
 | .neg=>some .ineg
 |_=>none
def yZ(P:Program)(src dst:Nat):Option PK:=
 match P.underlying src,P.underlying dst with
 |some (.int _),some (.int k)=>some (.conv k)
 |_,_=>none
def Gg(P:Program)(t:Nat):Option PK:=
 (dF P t).bind fun g=>if(P.info? t).isSome∧(g=true∨P.cellsOf t=1)then some (.load (P.cellsOf t) g)else none
def lY(P:Program)(b:Builtin)(ts:List Nat)(n:Nat):Option PK:=
 match b,ts,n with
 | .len,[t],1=>match P.underlying t with
  |some (.slice _)=>some .llen
  |some .string=>some .slen
  |_=>none
 | .max,_,2=>some (.mx2 true)
 | .min,_,2=>some (.mx2 false)
 | .max,_,3=>some (.mx3 true)
 | .min,_,3=>some (.mx3 false)
 |_,_,_=>none
def Gc(P:Program)(fr:mZ)(c:Call):Option (PK×List Operand):=
 match c.callee with
 | .builtin b=>(lY P b c.argTypes.toList c.args.size).map fun k=>(k,c.args.toList)
 | .value (.func f)=>if fr.fr f=0∧f<1000000 then some (.call f,c.args.toList)else none
 | .value (.tmp t)=>some (.ccall, .tmp t::c.args.toList)
 |_=>none
def oe(P:Program)(fr:mZ):Op→Option (PK×List Operand)
 | .move x=>some (.mv,[x])
 | .assign x=>some (.mv,[x])
 | .pick c a b=>some (.pick,[c,a,b])
 | .load t a=>(Gg P t).map fun k=>(k,[a])
 | .fieldAddr t x f=>(iQ P t f).map fun q=>(.fld q.1,[x])
 | .indexAddr t x i=>(Jx P t).map fun k=>(k,[x,i])
 | .binOp op t x y _=>(((Ga P op t).or (y_ P op t)).or (F9 P op t)).map fun k=>(k,[x,y])
 | .unOp op _ x=>(TD op).map fun k=>(k,[x])
 | .convert src dst x=>(yZ P src dst).map fun k=>(k,[x])
 | .extract t k=>some (.ext k,[t])
 | .call c=>Gc P fr c
 | .build t parts=>(Gb P t (parts.toList.map (·.1))).map fun q=>(.build q.1 q.2,parts.toList.map (·.2))
 | .makeFunc (.func f) first captured=>if first.size=0∧f<1000000 then some (.clo f,captured.toList)else if captured.size=0 then some (.clo (f+1000000),first.toList)else none
 | .nilCheck x=>some (.bm,[x])
 | .index t x i=>(F_ P t).map fun k=>(k,[x,i])
 | .field t x f=>(iQ P t f).bind fun q=>if q.2.2=true∨q.2.1=1 then some (.afld q.1 q.2.1 q.2.2,[x])else none
 | .slice t x lo hi mx=>Gh P t x lo hi mx
 | .lookup t x k ok=>(y7 P t).bind fun q=>(pE P q.2).map fun z=>(.lkp q.1 z ok,[x,k])
 | .entry x=>some (.ent,[x])
 |_=>none
end
section
theorem dM(b off j:Nat):(⟨b,off,none⟩:Addr).add j=⟨b,off+j,none⟩:=by unfold Addr.add;split<;>simp_all
section
variable {P : Program} {w : World} {pr : aT} {tk : ag} {m : Mem}
theorem ai.nE{v:Value}{d:D}(h:ai w pr aI v d):ai w pr tk v d:=h.keeps ⟨fun _ _ h=>⟨rfl,h⟩,fun _ _ h=>by cases h⟩
theorem mS{t:Nat}{g:Bool}(h:dF P t=some g):(isAgg t).run P w= .ok g w:=by
 unfold dF at h;cases hu:P.underlying t with
 |none=>simp[hu]at h
 |some d=>cases d<;>simp[hu]at h<;>subst h<;>simp[isAgg,run_underlying hu]
theorem bu{e:Nat}(hi:(P.info? e).isSome):(sizeOf e).run P w= .ok (P.cellsOf e) w:=by
 obtain⟨i,hi⟩:=Option.isSome_iff_exists.1 hi;simp[sizeOf,typeInfo,hi,Program.cellsOf]
theorem B4{t:Nat}{g:Bool}{b off:Nat}{us:Nat→Value}(hg:dF P t=some g)(hi:(P.info? t).isSome)(h1:g=true∨P.cellsOf t=1)
  (hc: ∀j,j<P.cellsOf t→w.cell? ⟨b,off+j,none⟩=some (us j)):
  (Instr.loadAt t (.pointer (some ⟨b,off,none⟩))).run P w= .ok (if g then .agg ((List.range (P.cellsOf t)).map us).toArray else us 0) w:=by
 have hs:=bu (P:=P) (w:=w) hi;have hl:=run_loadCells (P:=P) w ⟨b,off,none⟩ (P.cellsOf t) us (fun j hj=>by rw[dM];exact hc j hj);cases g
 ·have h1:P.cellsOf t=1:=by simpa using h1
  have h0:=hc 0 (by omega);simp only[Nat.add_zero]at h0;simp[Instr.loadAt,Instr.sureAddr,loadVar,mS hg,h0]
 ·simp[Instr.loadAt,Instr.sureAddr,loadVar,mS hg,hs,hl]
def kJ(w:World)(pr:aT)(tk:ag)(b off:Nat)(xs:List D):Prop:=
 ∃us:Nat→Value,(∀j,j<xs.length→w.cell? ⟨b,off+j,none⟩=some (us j)∧(us j).oneCell'=true)∧ ∀j x,xs[j]?=some x→ai w pr tk (us j) x
theorem kJ.drop{b off k:Nat}{xs:List D}(h:kJ w pr tk b off xs):kJ w pr tk b (off+k) (xs.drop k):=by
 obtain⟨us,h1,h2⟩:=h;refine⟨fun j=>us (k+j),fun j hj=> ?_,fun j x hx=>h2 (k+j) x (by simpa using hx)⟩
 grind
theorem wW{b off:Nat}{xs:List D}(h:ai w pr tk (.pointer (some ⟨b,off,none⟩)) (.lptr xs)):kJ w pr tk b off xs:=by
 cases h with
 |lptr us hc hr=>exact⟨us,fun j hj=>⟨(hc j hj).1,(hc j hj).2.2⟩,fun j x hx=>(hr j x hx).nE⟩
theorem kY{t:Nat}{g:Bool}{b off:Nat}{xs:List D}{d:D}(hg:dF P t=some g)(hi:(P.info? t).isSome)(h1:g=true∨P.cellsOf t=1)
  (h:kJ w pr tk b off xs) (hn:P.cellsOf t≤xs.length) (hd:(if g then some (.agg (xs.take (P.cellsOf t)))else xs[0]?)=some d):
  ∃v,(Instr.loadAt t (.pointer (some ⟨b,off,none⟩))).run P w= .ok v w∧ai w pr tk v d:=by
 obtain⟨us,hc,hr⟩:=h;refine⟨_,B4 hg hi h1 (fun j hj=>(hc j (by omega)).1), ?_⟩;cases g
 ·grind
 ·have hx:d= .agg (xs.take (P.cellsOf t)):=by simpa using hd.symm
  subst hx;refine .agg (by simp;omega) (fun i c hic=> ?_) fun i c x hic hx=> ?_
  ·grind
  ·grind
theorem jk(M:dI P w pr tk m){t:Tok}{xs:List D}(hm:m t=some (.box xs)){b cap:Nat}(ht:tk t=some (b,cap))(off:Nat):kJ w pr tk b off (xs.drop off):=by
 obtain⟨b',lR,C,ty,h1,h3,h4,h5,h6⟩:=M.obj t _ hm;rw[ht]at h1;cases h1;refine⟨fun j=>C.getD (off+j) undef,fun j hj=> ?_,fun j x hx=> ?_⟩
 ·have hlt:off+j<C.size:=by simp at hj;omega
  rw[cell_of_row w b (off+j) C ty (0,0) h3];simp only[Rz hlt,Array.getD,hlt];exact⟨rfl,h5 _ _ (Rz hlt)⟩
 ·rw[List.getElem?_drop]at hx
  have hlt:off+j<C.size:=by
   grind
  have:=h6 (off+j) C[off+j] x (Rz hlt) hx;simpa[Array.getD,hlt]using this
theorem tV(M:dI P w pr tk m){t:Tok}{g:Tok}{e:Nat}{es:List (List D)}(hm:m t=some (.row g e es)){b cap:Nat}(ht:tk t=some (b,cap)){i j:Nat}{c:List D}{d:D}(hc:es[i]?=some c)(hd:c[j]?=some d):
  ∃u,w.cell? ⟨b,i*P.cellsOf e+j,none⟩=some u∧u.oneCell'=true∧ai w pr tk u d:=by
 obtain⟨b',lR,C,h1,h3,_,_,_,_,h6⟩:=M.obj t _ hm;rw[ht]at h1;cases h1;obtain⟨u,hu,h7,h8⟩:=h6 i c hc j d hd;exact⟨u,by rw[cell_of_row w b _ C e (0,0) h3,hu],h7,h8⟩
theorem Aj(M:dI P w pr tk m){t:Tok}{g:Tok}{e:Nat}{es:List (List D)}(hm:m t=some (.row g e es)): ∀c∈es,c.length=P.cellsOf e:=by
 obtain⟨b',lR,C,h1,h3,_,_,_,h5,h6⟩:=M.obj t _ hm;exact h5
theorem lS(M:dI P w pr tk m){t:Tok}{g:Tok}{e:Nat}{es:List (List D)}(hm:m t=some (.row g e es)){b cap:Nat}(ht:tk t=some (b,cap)){i:Nat}{c:List D}(hc:es[i]?=some c)(j:Nat):
  kJ w pr tk b (i*c.length+j) (c.drop j):=by
 have hsz:=Aj M hm c (Lz hc)
 have key: ∀k,k<(c.drop j).length→ ∃u,w.cell? ⟨b,i*P.cellsOf e+j+k,none⟩=some u∧u.oneCell'=true∧ ∀x,(c.drop j)[k]?=some x→ai w pr tk u x:=fun k hk=>by
  simp only[List.length_drop]at hk;have hjk:j+k<c.length:=by omega
  obtain⟨u,h1,h2,h3⟩:=tV M hm ht hc (j:=j+k) (d:=c[j+k]) (Ez hjk)
  grind
 refine⟨fun k=>((w.cell? ⟨b,i*P.cellsOf e+j+k,none⟩).getD undef),fun k hk=> ?_,fun k x hx=> ?_⟩
 ·grind
 ·grind
theorem tl(M:dI P w pr tk m){t:Nat}{g:Bool}{v:Value}{x d:D}(hg:dF P t=some g)(hi:(P.info? t).isSome)(h1:g=true∨P.cellsOf t=1)
  (h:ai w pr tk v x) (hr:gC m (P.cellsOf t) g [x]=some d): ∃u,(Instr.loadAt t v).run P w= .ok u w∧ai w pr tk u d:=by
 cases x<;>simp only[gC]at hr<;>try (cases hr;done)
 case lptr xs=>
  split at hr
  ·cases h with
   |lptr us hc hrr=>exact kY hg hi h1 (wW (.lptr us hc hrr)) ‹_› hr
  ·cases hr
 case ptr τ off=>
  split at hr
  ·rename_i xs hm;split at hr
   ·cases h with
    |ptr ht=>exact kY hg hi h1 (jk M hm ht off) (by simp;omega) (by simpa using hr)
   ·cases hr
  ·cases hr
 case rptr τ size i j=>
  split at hr
  ·rename_i gg e es hm;rw[Bz]at hr;obtain⟨c,hc,hr⟩:=hr;split at hr
   ·rename_i bc;obtain⟨rfl,hlen⟩:=bc;cases h with
    |rptr ht=>exact kY hg hi h1 (lS M hm ht hc j) (by simp;omega) (by simpa using hr)
   ·cases hr
  ·rename_i xs hm;split at hr
   ·rename_i bc;obtain⟨rfl,hlen⟩:=bc;cases h with
    |rptr ht=>rw[Nat.mul_one];exact kY hg hi h1 (jk M hm ht (i+j)) (by simp;omega) (by simpa using hr)
   ·cases hr
  ·cases hr
theorem Ei{t f o n:Nat}{g:Bool}{v:Value}{x d:D}(hf:iQ P t f=some (o,n,g))(h:ai w pr tk v x)(hr:Gw o [x]=some d):
  ∃u,(Instr.fieldAt t v f).run P w= .ok u w∧ai w pr tk u d:=by
 unfold iQ at hf;cases hu:P.underlying t with
 |none=>simp[hu]at hf
 |some ds=>
  cases ds<;>simp only[hu]at hf<;>try (cases hf;done)
  rename_i fs;cases hfs:fs[f]? with
  |none=>simp[hfs]at hf
  |some fl=>
   simp only[hfs]at hf;cases hg:dF P fl.type with
   |none=>simp[hg]at hf
   |some gg=>
    simp only[hg,Oz]at hf;split at hf
    ·cases hf
    ·rename_i hsz;obtain⟨rfl,_,_⟩:=hf
     have GX: ∃i,P.info? fl.type=some i:=by
      cases hi:P.info? fl.type with
      |none=>simp[Program.cellsOf,hi]at hsz
      |some i=>exact⟨i,rfl⟩
     obtain⟨i,hi⟩:=GX;have hi0:i.size≠0:=by simpa[Program.cellsOf,hi]using hsz
     have run: ∀b off,(Instr.fieldAt t (.pointer (some ⟨b,off,none⟩)) f).run P w= .ok (.pointer (some ⟨b,off+fl.offset,none⟩)) w:=fun b off=>by
      simp[Instr.fieldAt,run_underlying hu,hfs,Instr.sureAddr,fieldPlace,sizeOf,typeInfo,hi,hi0,dM]
     cases x<;>simp only[Gw]at hr<;>try (cases hr;done)
     case lptr xs=>
      cases h with
      |lptr us hc hrr=>
       cases hr;rename_i b off;refine⟨_,run b off, .lptr (fun j=>us (fl.offset+j)) (fun j hj=> ?_) fun j y hy=>hrr _ y (by simpa using hy)⟩
       grind
     case ptr τ off=>
      cases hr;cases h with
      |ptr ht=>exact⟨_,run _ off, .ptr ht⟩
     case rptr τ size m j=>
      cases hr;cases h with
      |rptr ht=>exact⟨_,run _ _,by rw[Nat.add_assoc];exact .rptr ht⟩
theorem Ey{t e:Nat}{v u:Value}{x y d:D}(hu:P.underlying t=some (.slice e))(hi:(P.info? e).isSome)
  (h:ai w pr tk v x) (hy:ai w pr tk u y) (hr:qY e (P.cellsOf e) [x,y]=some d): ∃z,(Instr.indexAt t v u).run P w= .ok z w∧ai w pr tk z d:=by
 cases x<;>cases y<;>simp only[qY]at hr<;>try (cases hr;done)
 case list.v es yv=>
  cases yv<;>simp only[]at hr<;>try (cases hr;done)
  rename_i k n;cases hy;split at hr
  ·cases hr
  ·rename_i hn;cases hc:es[n.toNat]? with
   |none=>simp[hc]at hr
   |some c=>
    simp only[hc,Oz]at hr;split at hr
    ·rename_i hsz;cases hr;have hlt:=(Gz.1 hc).1;cases h with
     |nil'=>simp at hlt
     |emp=>simp at hlt
     |list us hes jB ff hrr=>
      rename_i b off cap size;have oE:size=P.cellsOf e:=by rw[←hes c (Lz hc),hsz]
      subst oE;refine⟨.pointer (some ⟨b,off+n.toNat*P.cellsOf e,none⟩), ?_, .lptr (fun j=>us (n.toNat*P.cellsOf e+j)) (fun j hj=> ?_) fun j z hz=>hrr _ c hc j z hz⟩
      ·simp[Instr.indexAt,run_underlying hu,asIntOf,bu hi,dM,show 0≤n∧n<(es.length:Int) by omega]
      ·have hlen:n.toNat*P.cellsOf e+j<es.length*P.cellsOf e:=by
        have:(n.toNat+1)*P.cellsOf e≤es.length*P.cellsOf e:=Nat.mul_le_mul_right _ hlt
        grind
       grind
    ·cases hr
 case sl.v τ kB off len lim yv=>
  cases yv<;>simp only[]at hr<;>try (cases hr;done)
  rename_i k n;cases hy;split at hr
  ·cases hr
  ·rename_i hn;split at hr
   ·rename_i bc;obtain⟨rfl,hlt⟩:=bc;cases hr;cases h with
    |sl ht hc hl ho=>
     rename_i b cap c o
     have ho:o=off*P.cellsOf e:=by
      grind
     subst ho;refine⟨.pointer (some ⟨b,(off+n.toNat)*P.cellsOf e+0,none⟩), ?_, .rptr ht⟩;simp[Instr.indexAt,run_underlying hu,asIntOf,bu hi,dM,Nat.add_mul,show 0≤n∧n<(len:Int) by omega]
   ·cases hr
theorem AW{t e k:Nat}{v u:Value}{x y d:D}(hu:P.underlying t=some (.array k e))(hi:(P.info? e).isSome)
  (h:ai w pr tk v x) (hy:ai w pr tk u y) (hr:vq k (P.cellsOf e) [x,y]=some d): ∃z,(Instr.indexAt t v u).run P w= .ok z w∧ai w pr tk z d:=by
 have run: ∀b off (q:IntKind) (n:Int),0≤n∧n<(k:Int)→(Instr.indexAt t (.pointer (some ⟨b,off,none⟩)) (.int q n)).run P w= .ok (.pointer (some ⟨b,off+n.toNat*P.cellsOf e,none⟩)) w:=fun b off q n hn=>by
  simp[Instr.indexAt,run_underlying hu,asIntOf,Instr.sureAddr,bu hi,dM,hn]
 cases x<;>cases y<;>simp only[vq]at hr<;>try (cases hr;done)
 all_goals
  rename_i yv;cases yv<;>simp only[]at hr<;>try (cases hr;done)
  rename_i q n;cases hy;split at hr<;>try (cases hr;done)
  rename_i hn;cases hr
 case lptr.v.int=>
  cases h with
  |lptr us hc hrr=>
   rename_i b off;refine⟨_,run b off q n hn, .lptr (fun j=>us (n.toNat*P.cellsOf e+j)) (fun j hj=> ?_) fun j y hy=>hrr _ y (by simpa using hy)⟩
   grind
 case ptr.v.int=>
  cases h with
  |ptr ht=>exact⟨_,run _ _ q n hn, .ptr ht⟩
 case rptr.v.int=>
  cases h with
  |rptr ht=>exact⟨_,run _ _ q n hn,by rw[Nat.add_assoc];exact .rptr ht⟩
end
end
section
section
variable {P : Program} {w : World} {pr : aT} {tk : ag} {m : Mem}
theorem pD{v:Value}{d:D}(h:za v=some d):ai w pr tk v d∧v.oneCell'=true:=by
 unfold za at h;split at h<;>cases h<;>exact⟨by first|exact ai.nil|exact ai.v rfl|exact ai.nilmap,rfl⟩
theorem uJ{l:List Value}{z:List D}(h:l.mapM za=some z):cq w pr tk l.toArray z:=by
 have key: ∀(l:List Value) (z:List D),l.mapM za=some z→l.length=z.length∧(∀(i:Nat) (c:Value),l[i]?=some c→c.oneCell'=true)∧ ∀(i:Nat) (c:Value) (x:D),l[i]?=some c→z[i]?=some x→ai w pr tk c x:=by
  intro l
  induction l with
  |nil=>intro z h;simp at h;subst h;simp
  |cons v l ih=>
   intro z h;simp only[List.mapM_cons,Option.bind_eq_bind,Bz,Option.pure_def,Jz]at h;obtain⟨d,hd,z',hz',rfl⟩:=h;have hv:=pD (w:=w) (pr:=pr) (tk:=tk) hd
   grind
 obtain⟨h1,h2,h3⟩:=key l z h;exact⟨by simpa using h1,fun i c hc=>h2 i c (by simpa using hc),fun i c x hc hx=>h3 i c x (by simpa using hc) hx⟩
theorem iL{t:Nat}{z:List D}(h:vF P t=some z): ∃i zv,P.info? t=some i∧i.zero=some zv∧cq w pr tk zv.cells z:=by
 obtain⟨zv,hzv,hz⟩:=Bz.1 h;obtain⟨i,hi,hzi⟩:=Bz.1 hzv;exact⟨i,zv,hi,hzi,by have:=uJ (w:=w) (pr:=pr) (tk:=tk) hz;simpa using this⟩
theorem fA{v:Value}{d:D}(h:ai w pr tk v d)(hd:d.cells.all D.gE=true):cq w pr tk v.cells d.cells:=by
 have one:d.gE=true→d.cells= [d]→cq w pr tk v.cells d.cells:=fun hk he=>by
  have h1:v.oneCell'=true:=h.KC hk;have hv:v.cells= #[v]:=by cases v<;>first|rfl|(simp[Value.oneCell']at h1)
  rw[hv,he];refine⟨rfl,fun i c hc=> ?_,fun i c x hc hx=> ?_⟩
  ·match i,hc with
   |0,hc=>simp at hc;subst hc;exact h1
   |i+1,hc=>simp at hc
  ·match i,hc,hx with
   |0,hc,hx=>simp at hc hx;subst hc;subst hx;exact h
   |i+1,hc,_=>simp at hc
 cases d
 case agg xs=>
  obtain⟨cs,rfl,h2⟩:=dA.1 h;exact h2
 case undef=>simp[D.cells,D.gE]at hd
 case tup=>simp[D.cells,D.gE]at hd
 all_goals exact one rfl rfl
theorem zm(off:Nat): ∀(l:List Value) (k:Nat) (C:Array Value) (i:Nat),((l.zipIdx k).foldl (fun cs (p:Value×Nat)=>cs.setIfInBounds (off+p.2) p.1) C)[i]?=
  if off+k≤i∧i<off+k+l.length∧i<C.size then l[i-(off+k)]? else C[i]?
 | [],k,C,i=>by
  simp only[List.zipIdx_nil]
  grind
 |v::l,k,C,i=>by
  simp only[List.zipIdx_cons,List.foldl_cons];rw[zm off l (k+1)]
  grind
theorem vJ(off:Nat): ∀(l:List (Value×Nat)) (C:Array Value),(l.foldl (fun cs (p:Value×Nat)=>cs.setIfInBounds (off+p.2) p.1) C).size=C.size
 | [],_=>rfl
 |_::l,C=>by simp only[List.foldl_cons];rw[vJ off l];simp
theorem fX{zs xs:List D}{off i:Nat}(h:off+xs.length≤zs.length):(putAt zs off xs)[i]?=if off≤i∧i<off+xs.length then xs[i-off]? else zs[i]?:=by
 unfold putAt;by_cases h1:i<off
 ·grind
 ·by_cases h2:i<off+xs.length
  ·grind
  ·rw[Xz (by simp;omega),List.getElem?_drop]
   grind
theorem eL{zs xs:List D}{off:Nat}(h:off+xs.length≤zs.length):(putAt zs off xs).length=zs.length:=by
 unfold putAt;simp;omega
theorem KG{C:Array Value}{zs:List D}(h:cq w pr tk C zs){V:Array Value}{xs:List D}(hv:cq w pr tk V xs){off:Nat}(ho:off+xs.length≤zs.length):
  cq w pr tk (V.zipIdx.foldl (fun cs (p:Value×Nat)=>cs.setIfInBounds (off+p.2) p.1) C) (putAt zs off xs):=by
 have e:V.zipIdx.foldl (fun cs (p:Value×Nat)=>cs.setIfInBounds (off+p.2) p.1) C=(V.toList.zipIdx 0).foldl (fun cs (p:Value×Nat)=>cs.setIfInBounds (off+p.2) p.1) C:=by
  rw[←Array.foldl_toList,Array.toList_zipIdx]
 rw[e];have hg:=fun i=>zm off V.toList 0 C i;simp only[Array.length_toList]at hg;refine⟨by rw[vJ,eL ho];exact h.1,fun i c hc=> ?_,fun i c x hc hx=> ?_⟩
 ·rw[hg]at hc;split at hc
  ·exact hv.2.1 (i-off) c (by simpa using hc)
  ·exact h.2.1 i c hc
 ·rw[hg]at hc;rw[fX ho]at hx;have h1:=hv.1;split at hc
  ·rw[if_pos (by omega)]at hx;exact hv.2.2 (i-off) c x (by simpa using hc) hx
  ·rename_i hn;by_cases hin:off≤i∧i<off+xs.length
   ·grind
   ·rw[if_neg hin]at hx;exact h.2.2 i c x hc hx
def aX(w:World)(pr:aT)(tk:ag):List Value→List D→Prop
 | [],[]=>True
 |v::vs,d::ds=>ai w pr tk v d∧aX w pr tk vs ds
 |_,_=>False
theorem sJ{place:Nat→Option (Nat×Nat)}: ∀(parts:List (Nat×Value)) (ps:List (Nat×Nat)) (ds:List D) (C:Array Value) (zs out:List D),cq w pr tk C zs→
  parts.mapM (fun p=>place p.1)=some ps→aX w pr tk (parts.map (·.2)) ds→(ds.all fun d=>d.cells.all D.gE)=true→nb zs ps ds=some out→
  ∃C',Instr.fill place C parts=some C'∧cq w pr tk C' out
 | [],ps,ds,C,zs,out,h,hp,hr,hok,hf=>by
  simp at hp;subst hp;cases ds with
  |nil=>cases hf;exact⟨C,rfl,h⟩
  |cons=>cases hf
 |(i,v)::parts,ps,ds,C,zs,out,h,hp,hr,hok,hf=>by
  simp only[List.mapM_cons,Option.bind_eq_bind,Bz,Option.pure_def,Jz]at hp;obtain⟨q,hq,ps',Qa,rfl⟩:=hp;obtain⟨off,n⟩:=q;cases ds with
  |nil=>exact absurd hr (by simp[aX])
  |cons d ds=>
   simp only[List.all_cons,Az]at hok;simp only[nb]at hf;split at hf
   ·rename_i hc;have hv:cq w pr tk v.cells d.cells:=fA hr.1 hok.1;have h1:=KG h hv (off:=off) (by omega);obtain⟨C',g1,g2⟩:=sJ parts ps' ds _ _ out h1 Qa hr.2 hok.2 hf;have hvs:=hv.1;have hcs:=h.1;simp only[Instr.fill]
    grind
   ·cases hf
theorem yO{t:Nat}{idx:List Nat}{zs:List D}{ps:List (Nat×Nat)}{parts:List (Nat×Value)}{ds:List D}{d:D}(hd:Gb P t idx=some (zs,ps))(Bt:parts.map (·.1)=idx)
  (hr:aX w pr tk (parts.map (·.2)) ds) (af:wT zs ps ds=some d): ∃C,P.built t parts=some C∧ai w pr tk (.agg C) d:=by
 unfold wT at af;split at af
 ·rename_i hok;obtain⟨out,ho,rfl⟩:=Mz.1 af;obtain⟨z,hz,hd⟩:=Bz.1 hd;obtain⟨i,zv,hi,hzv,a6⟩:=iL (w:=w) (pr:=pr) (tk:=tk) hz
  have fin: ∀(place:Nat→Option (Nat×Nat)),z=zs→idx.mapM place=some ps→(P.built t parts=Instr.fill place zv.cells parts)→ ∃C,P.built t parts=some C∧ai w pr tk (.agg C) (.agg out):=by
   intro place he hp hb;subst he
   have hp':parts.mapM (fun p=>place p.1)=some ps:=by
    rw[←hp,←Bt,List.mapM_map];rfl
   obtain⟨C,g1,g2⟩:=sJ parts ps ds zv.cells z out a6 hp' hr hok ho;exact⟨C,hb.trans g1,dA.2 ⟨C,rfl,g2⟩⟩
  split at hd
  ·rename_i fs hu;obtain⟨pl,hpl,hd⟩:=Bz.1 hd;obtain⟨ps',hps,he⟩:=Mz.1 hd;cases he;exact fin _ rfl hps (by simp only[Program.built,hi,hu,hzv,hpl])
  ·rename_i m e hu;obtain⟨ie,hie,he⟩:=Mz.1 hd;cases he
   have: ∀(l:List Nat),l.mapM (fun k=>some (k*ie.size,ie.size))=some (l.map fun k=>(k*ie.size,ie.size)):=by
    intro l
    induction l with
    |nil=>rfl
    |cons a l ih=>simp[ih]
   exact fin _ rfl (this idx) (by simp only[Program.built,hi,hu,hzv,hie])
  ·cases hd
 ·grind
theorem lU: ∀(size n:Nat) (l:List D) (i:Nat),i<n→(kL size n l)[i]?=some ((l.drop (i*size)).take size)
 |size,0,l,i,h=>by omega
 |size,n+1,l,0,_=>by simp[kL]
 |size,n+1,l,i+1,h=>by
  simp only[kL,List.getElem?_cons_succ];rw[lU size n _ i (by omega),List.drop_drop]
  grind
theorem gu: ∀(size n:Nat) (l:List D),(kL size n l).length=n
 |_,0,_=>rfl
 |size,n+1,l=>by simp[kL,gu size n]
theorem Rt{v:Value}{d:D}(h:ai w pr tk v d):ai w pr tk v d.nz:=by
 cases d<;>first|exact h|skip
 ·cases h;exact .nil'
 ·cases h;exact .emp
theorem Ij{C:Array Value}{out:List D}(h:cq w pr tk C out):cq w pr tk C (out.map D.nz):=
 ⟨by rw[List.length_map];exact h.1,h.2.1,fun i c x hc hx=>by
  rw[Dz,Mz]at hx;obtain⟨d,hd,rfl⟩:=hx
  exact Rt (h.2.2 i c d hc hd)⟩
theorem xP{e n:Nat}{C:Array Value}{out:List D}(h:cq w pr tk C out)(hl:out.length=n*P.cellsOf e):bf P w pr tk C e (kL (P.cellsOf e) n out):=by
 have hlen:=gu (P.cellsOf e) n out;refine⟨fun c hc=> ?_,fun i c hc j d hd=> ?_⟩
 ·obtain⟨i,hi,rfl⟩:=List.getElem_of_mem hc;have hi':i<n:=by rw[hlen]at hi;exact hi
  have hg:=lU (P.cellsOf e) n out i hi';have:(i+1)*P.cellsOf e≤n*P.cellsOf e:=Nat.mul_le_mul_right _ hi'
  grind
 ·have hi:i<n:=by have:=(Gz.1 hc).1;omega
  rw[lU (P.cellsOf e) n out i hi]at hc;cases hc;have hj:j<P.cellsOf e:=by have:=(Gz.1 hd).1;simp at this;omega
  rw[List.getElem?_take_of_lt hj,List.getElem?_drop]at hd;have hlt:i*P.cellsOf e+j<C.size:=by rw[h.1];exact(Gz.1 hd).1
  exact⟨_,Rz hlt,h.2.1 _ _ (Rz hlt),h.2.2 _ _ d (Rz hlt) hd⟩
end
end
section
section
variable {P : Program} {w : World} {pr : aT} {tk : ag} {m : Mem}
theorem aX.length: ∀{vs:List Value} {ds:List D},aX w pr tk vs ds→vs.length=ds.length
 | [],[],_=>rfl
 |_::_,_::_,h=>by simp[aX.length h.2]
 | [],_::_,h=>absurd h (by simp[aX])
 |_::_,[],h=>absurd h (by simp[aX])
theorem aX.one{v:Value}{ds:List D}(h:aX w pr tk [v] ds): ∃d,ds= [d]∧ai w pr tk v d:=by
 match ds,h with
 | [d],h=>exact⟨d,rfl,h.1⟩
 |_::_::_,h=>exact absurd h.2 (by simp[aX])
theorem aX.two{v u:Value}{ds:List D}(h:aX w pr tk [v,u] ds): ∃d e,ds= [d,e]∧ai w pr tk v d∧ai w pr tk u e:=by
 match ds,h with
 | [d,e],h=>exact⟨d,e,rfl,h.1,h.2.1⟩
 | [_],h=>exact absurd h.2 (by simp[aX])
 |_::_::_::_,h=>exact absurd h.2.2 (by simp[aX])
theorem aX.three{v u z:Value}{ds:List D}(h:aX w pr tk [v,u,z] ds): ∃d e f,ds= [d,e,f]∧ai w pr tk v d∧ai w pr tk u e∧ai w pr tk z f:=by
 match ds,h with
 | [d,e,f],h=>exact⟨d,e,f,rfl,h.1,h.2.1,h.2.2.1⟩
 | [_],h=>exact absurd h.2 (by simp[aX])
 | [_,_],h=>exact absurd h.2.2 (by simp[aX])
 |_::_::_::_::_,h=>exact absurd h.2.2.2 (by simp[aX])
theorem aP{v:Value}{x:Value}:ai w pr tk v (.v x)↔v=x∧p8 x=true:=by
 constructor
 ·intro h;cases h;exact⟨rfl,‹_›⟩
 ·rintro⟨rfl,h⟩;exact .v h
theorem BC{t:Nat}{op:BinOp}{k:IntKind}{a b:Int}{d:D}(h:cN op k a b=some d):
  ∃v,(binOp op t (.int k a) (.int k b)).run P w= .ok v w∧ai w pr tk v d:=by
 cases op<;>simp only[cN]at h<;>try (cases h;done)
 case quo=>split at h<;>cases h;rename_i hb;exact⟨_,by simp[binOp,Op.intDiv,hb],aP.2 ⟨rfl,rfl⟩⟩
 case rem=>split at h<;>cases h;rename_i hb;exact⟨_,by simp[binOp,Op.intDiv,hb],aP.2 ⟨rfl,rfl⟩⟩
 case and=>cases h;exact⟨_,by simp[binOp,intBits_and],aP.2 ⟨rfl,rfl⟩⟩
 case or=>cases h;exact⟨_,by simp[binOp,intBits_or],aP.2 ⟨rfl,rfl⟩⟩
 case xor=>cases h;exact⟨_,by simp[binOp,intBits_xor],aP.2 ⟨rfl,rfl⟩⟩
 case andNot=>cases h;exact⟨_,by simp[binOp];rfl,aP.2 ⟨rfl,rfl⟩⟩
 all_goals (cases h;exact⟨_,by simp[binOp,Op.intArith,Op.intCmp],aP.2 ⟨rfl,rfl⟩⟩)
theorem qz{op:BinOp}{t:Nat}{x y:Operand}{k k':IntKind}{a b:Int}:(eqGuard op t x y (.int k a) (.int k' b)).run P w= .ok () w:=by
 cases op<;>simp[eqGuard]
theorem xm{op:BinOp}{t:Nat}{x y:Operand}{a b:Bool}:(eqGuard op t x y (.bool a) (.bool b)).run P w= .ok () w:=by
 cases op<;>simp[eqGuard]
theorem sE{op:BinOp}{t:Nat}{x y:Operand}{a b:ByteArray}:(eqGuard op t x y (.string a) (.string b)).run P w= .ok () w:=by
 cases op<;>simp[eqGuard]
theorem Av{op:BinOp}{t:Nat}{x y:Operand}{a b:Value}{p q d:D}(hp:ai w pr tk a p)(hq:ai w pr tk b q)
  (hop:op= .shl∨op= .shr) (af:B8 op [p,q]=some d): ∃v,(do eqGuard op t x y a b;binOp op t a b:Sem Value).run P w= .ok v w∧ai w pr tk v d:=by
 cases p<;>cases q<;>simp only[B8]at af<;>try (cases af;done)
 rename_i pv qv;cases pv<;>cases qv<;>simp only[]at af<;>try (cases af;done)
 obtain⟨rfl,_⟩:=aP.1 hp;obtain⟨rfl,_⟩:=aP.1 hq;simp only[Di]at af;split at af
 ·cases af
 ·rename_i hb;rcases hop with rfl|rfl<;>cases af<;>exact⟨_,by simp[qz,binOp,Op.shift,hb],aP.2 ⟨rfl,rfl⟩⟩
theorem yH{op:BinOp}{t:Nat}{x y:Operand}{a b:Value}{p q d:D}(hp:ai w pr tk a p)(hq:ai w pr tk b q)
  (af:g_ op [p,q]=some d): ∃v,(do eqGuard op t x y a b;binOp op t a b:Sem Value).run P w= .ok v w∧ai w pr tk v d:=by
 cases p<;>cases q<;>simp only[g_]at af<;>try (cases af;done)
 rename_i pv qv;cases pv<;>cases qv<;>simp only[]at af<;>try (cases af;done)
 split at af<;>try (cases af;done)
 rename_i hk;subst hk;obtain⟨rfl,_⟩:=aP.1 hp;obtain⟨rfl,_⟩:=aP.1 hq;obtain⟨v,h3,h4⟩:=BC (P:=P) (w:=w) (pr:=pr) (tk:=tk) (t:=t) af;exact⟨v,by simp[qz,h3],h4⟩
theorem D7{Γ:Env}{op:BinOp}{t:Nat}{k:PK}{x y:Operand}{a b:Value}{p q d:D}(hd:Ga P op t=some k)
  (hp:ai w pr tk a p) (hq:ai w pr tk b q) (af:k.run Γ m [p,q]=some d): ∃v,(do eqGuard op t x y a b;binOp op t a b:Sem Value).run P w= .ok v w∧ai w pr tk v d:=by
 unfold Ga at hd;cases hu:P.underlying t with
 |none=>simp[hu]at hd
 |some dsc=>
  cases dsc<;>simp only[hu]at hd<;>try (cases hd;done)
  case int ik=>
   cases op<;>simp only[]at hd<;>cases hd<;>first|exact yH hp hq af|exact Av hp hq (by simp) af
  case bool=>
   cases op<;>simp only[]at hd<;>cases hd
   all_goals
    cases p<;>cases q<;>simp only[PK.run,Pb]at af<;>try (cases af;done)
    rename_i pv qv;cases pv<;>cases qv<;>simp only[]at af<;>try (cases af;done)
    cases af;obtain⟨rfl,_⟩:=aP.1 hp;obtain⟨rfl,_⟩:=aP.1 hq;refine⟨_,by simp only[Sem.run_bind,xm,Result.andThen_ok];first|exact run_eql_bool _ _ _ _ hu|exact run_neq_bool _ _ _ _ hu,aP.2 ⟨rfl,rfl⟩⟩
  case string=>
   cases op<;>simp only[]at hd<;>cases hd
   all_goals
    cases p<;>cases q<;>simp only[PK.run,RC]at af<;>try (cases af;done)
    rename_i pv qv;cases pv<;>cases qv<;>simp only[]at af<;>try (cases af;done)
    cases af;obtain⟨rfl,_⟩:=aP.1 hp;obtain⟨rfl,_⟩:=aP.1 hq;refine⟨_,by simp only[Sem.run_bind,sE,Result.andThen_ok];simp[binOp,Op.stringOp],aP.2 ⟨rfl,rfl⟩⟩
theorem Eh{v:Value}{x d:D}{i:Nat}(h:ai w pr tk v x)(hr:Gq i [x]=some d): ∃u,(Instr.extract v i).run P w= .ok u w∧ai w pr tk u d:=by
 cases x<;>simp only[Gq]at hr<;>try (cases hr;done)
 rename_i ys;cases h with
 |tup h2 h3=>
  rename_i cs;have hlt:i<cs.size:=by have:=(Gz.1 hr).1;omega
  exact⟨cs[i],by simp[Instr.extract,Rz hlt],h3 i cs[i] d (Rz hlt) hr⟩
theorem A5{Γ:Env}{src dst:Nat}{k:PK}{v:Value}{x d:D}(hd:yZ P src dst=some k)(h:ai w pr tk v x)(hr:k.run Γ m [x]=some d):
  ∃u,(convert src dst v).run P w= .ok u w∧ai w pr tk u d:=by
 unfold yZ at hd;split at hd
 ·rename_i k1 k2 hs ht;cases hd;cases x<;>simp only[PK.run,LN]at hr<;>try (cases hr;done)
  rename_i pv;cases pv<;>simp only[]at hr<;>try (cases hr;done)
  cases hr;obtain⟨rfl,_⟩:=aP.1 h;exact⟨_,by simp[convert,run_underlying hs,run_underlying ht,Conv.intToInt],aP.2 ⟨rfl,rfl⟩⟩
 ·cases hd
theorem IY{Γ:Env}{op:UnOp}{k:PK}{v:Value}{x d:D}(hd:TD op=some k)(h:ai w pr tk v x)(hr:k.run Γ m [x]=some d):
  ∃u,(Op.unary op v).run P w= .ok u w∧ai w pr tk u d:=by
 cases op<;>simp only[TD]at hd<;>cases hd
 all_goals
  cases x<;>simp only[PK.run,QZ,Vp]at hr<;>try (cases hr;done)
  rename_i pv;cases pv<;>simp only[]at hr<;>try (cases hr;done)
  cases hr;obtain⟨rfl,_⟩:=aP.1 h;exact⟨_,by simp[Op.unary,Op.intArith],aP.2 ⟨rfl,rfl⟩⟩
theorem BJ{v:Value}{x:D}{n:Nat}(h:ai w pr tk v x)(he:x.th=some n): ∃a c,v= .slice a n c:=by
 cases x<;>simp only[D.th]at he<;>cases he
 case nil=>cases h;exact⟨_,_,rfl⟩
 case mt=>cases h;exact⟨_,_,rfl⟩
 case list=>cases h<;>exact⟨_,_,rfl⟩
 case sl=>cases h;exact⟨_,_,rfl⟩
theorem v_{mx:Bool}{a b c:Value}{x y z d:D}{ts:Array Nat}{ty:Nat}{cn:Array Bool}(hx:ai w pr tk a x)(hy:ai w pr tk b y)(hz:ai w pr tk c z)(hr:QX mx [x,y,z]=some d):
  ∃u,(builtin (if mx then .max else .min) ts ty cn #[a,b,c]).run P w= .ok (.value u) w∧ai w pr tk u d:=by
 cases x<;>cases y<;>cases z<;>simp only[QX]at hr<;>try (cases hr;done)
 rename_i pv qv rv;cases pv<;>cases qv<;>cases rv<;>simp only[]at hr<;>try (cases hr;done)
 cases hr;obtain⟨rfl,_⟩:=aP.1 hx;obtain⟨rfl,_⟩:=aP.1 hy;obtain⟨rfl,_⟩:=aP.1 hz;cases mx
 ·exact⟨_,by simp[builtin,Builtin.min_,Builtin.min2],aP.2 ⟨rfl,rfl⟩⟩
 ·exact⟨_,by simp[builtin,Builtin.max_,Builtin.max2],aP.2 ⟨rfl,rfl⟩⟩
theorem Tt{α:Type}{vs:Array α}(h:vs.size=3): ∃v u z,vs= #[v,u,z]:=by
 obtain⟨l⟩:=vs
 match l,h with
 | [v,u,z],_=>exact⟨v,u,z,rfl⟩
theorem ZO{α:Type}{vs:Array α}(h:vs.size=1): ∃v,vs= #[v]:=by
 obtain⟨l⟩:=vs
 match l,h with
 | [v],_=>exact⟨v,rfl⟩
theorem Ts{α:Type}{vs:Array α}(h:vs.size=2): ∃v u,vs= #[v,u]:=by
 obtain⟨l⟩:=vs
 match l,h with
 | [v,u],_=>exact⟨v,u,rfl⟩
theorem uN{Γ:Env}{b:Builtin}{ts:Array Nat}{k:PK}{ty:Nat}{cn:Array Bool}{vs:Array Value}{ds:List D}{d:D}(hd:lY P b ts.toList vs.size=some k)
  (h:aX w pr tk vs.toList ds) (hr:k.run Γ m ds=some d): ∃u,(builtin b ts ty cn vs).run P w= .ok (.value u) w∧ai w pr tk u d:=by
 obtain⟨ts⟩:=ts;unfold lY at hd;split at hd
 ·rename_i t hts hn;simp only[]at hts;subst hts;obtain⟨v,rfl⟩:=ZO hn;clear hn;obtain⟨x,rfl,hx⟩:=h.one;clear h;split at hd<;>cases hd
  ·rename_i e hu;simp only[PK.run,xC]at hr;cases he:x.th with
   |none=>simp[he]at hr
   |some n=>
    simp only[he,Oz,Jz]at hr;subst hr;obtain⟨a,c,rfl⟩:=BJ hx he;exact⟨_,by simp[builtin,Builtin.len_,run_underlying hu,goInt],aP.2 ⟨rfl,rfl⟩⟩
  ·rename_i hu;cases x<;>simp only[PK.run,MZ]at hr<;>try (cases hr;done)
   rename_i pv;cases pv<;>simp only[]at hr<;>try (cases hr;done)
   cases hr;obtain⟨rfl,_⟩:=aP.1 hx;exact⟨_,by simp[builtin,Builtin.len_,run_underlying hu,goInt],aP.2 ⟨rfl,rfl⟩⟩
 ·rename_i hn;cases hd;obtain⟨v,u,rfl⟩:=Ts hn;clear hn;obtain⟨x,y,rfl,hx,hy⟩:=h.two;clear h;cases x<;>cases y<;>simp only[PK.run,QW]at hr<;>try (cases hr;done)
  rename_i pv qv;cases pv<;>cases qv<;>simp only[]at hr<;>try (cases hr;done)
  cases hr;obtain⟨rfl,_⟩:=aP.1 hx;obtain⟨rfl,_⟩:=aP.1 hy;exact⟨_,by simp[builtin,Builtin.max_,Builtin.max2],aP.2 ⟨rfl,rfl⟩⟩
 ·rename_i hn;cases hd;obtain⟨v,u,rfl⟩:=Ts hn;clear hn;obtain⟨x,y,rfl,hx,hy⟩:=h.two;clear h;cases x<;>cases y<;>simp only[PK.run,QW]at hr<;>try (cases hr;done)
  rename_i pv qv;cases pv<;>cases qv<;>simp only[]at hr<;>try (cases hr;done)
  cases hr;obtain⟨rfl,_⟩:=aP.1 hx;obtain⟨rfl,_⟩:=aP.1 hy;exact⟨_,by simp[builtin,Builtin.min_,Builtin.min2],aP.2 ⟨rfl,rfl⟩⟩
 ·rename_i hn;cases hd;obtain⟨v,u,z,rfl⟩:=Tt hn;clear hn;obtain⟨x,y,q,rfl,hx,hy,hq⟩:=h.three;clear h;exact v_ (mx:=true) hx hy hq hr
 ·rename_i hn;cases hd;obtain⟨v,u,z,rfl⟩:=Tt hn;clear hn;obtain⟨x,y,q,rfl,hx,hy,hq⟩:=h.three;clear h;exact v_ (mx:=false) hx hy hq hr
 ·cases hd
theorem D'{v:Value}{x d:D}(h:ai w pr tk v x)(hr:Pq [x]=some d):x=d∧((∃a,v= .pointer (some a))∨ ∃f bv cv,v= .func (.func f) bv cv):=by
 cases x<;>simp only[Pq]at hr<;>try (cases hr;done)
 case lptr xs=>
  cases hr;cases h;exact⟨rfl, .inl ⟨_,rfl⟩⟩
 case clo f cs=>
  cases hr;cases h<;>exact⟨rfl, .inr ⟨_,_,_,rfl⟩⟩
 case ptr τ o=>
  cases hr;cases h;exact⟨rfl, .inl ⟨_,rfl⟩⟩
 case rptr τ e i j=>
  cases hr;cases h;exact⟨rfl, .inl ⟨_,rfl⟩⟩
theorem tW{t:Nat}{g:Bool}(hg:dF P t=some g)(hi:(P.info? t).isSome){cs:Array Value}{off:Nat}(hl:off+P.cellsOf t≤cs.size)(h1:g=true∨P.cellsOf t=1):
  (part t cs off).run P w= .ok (if g then .agg (cs.extract off (off+P.cellsOf t))else cs.getD off undef) w:=by
 cases g
 ·have h1:P.cellsOf t=1:=by simpa using h1
  have hlt:off<cs.size:=by omega
  simp[part,mS hg,hlt]
 ·simp[part,mS hg,bu hi]
theorem jQ{cs:Array Value}{xs:List D}(h:cq w pr tk cs xs)(off n:Nat):cq w pr tk (cs.extract off (off+n)) ((xs.drop off).take n):=by
 refine⟨by simp[h.1];omega,fun i c hc=> ?_,fun i c x hc hx=> ?_⟩
 ·simp only[Array.getElem?_extract]at hc;split at hc
  ·exact h.2.1 _ c hc
  ·cases hc
 ·simp only[Array.getElem?_extract]at hc;split at hc
  ·rename_i hlt;rw[List.getElem?_take_of_lt (by omega),List.getElem?_drop]at hx;exact h.2.2 _ c x hc hx
  ·cases hc
theorem D3{Γ:Env}{t:Nat}{k:PK}{v u:Value}{x y d:D}(hd:F_ P t=some k)(hx:ai w pr tk v x)(hy:ai w pr tk u y)(hr:k.run Γ m [x,y]=some d):
  ∃z,(Instr.index t v u).run P w= .ok z w∧ai w pr tk z d:=by
 unfold F_ at hd;split at hd
 ·rename_i n e hu;obtain⟨g,hg,hd⟩:=Bz.1 hd;split at hd<;>cases hd;rename_i hc;cases x<;>cases y<;>simp only[PK.run,Jl]at hr<;>try (cases hr;done)
  rename_i xs yv;cases yv<;>simp only[]at hr<;>try (cases hr;done)
  rename_i ik q;obtain⟨rfl,_⟩:=aP.1 hy;split at hr
  ·rename_i hb;obtain⟨h0,hn,hl⟩:=hb;obtain⟨cs,rfl,hcs⟩:=dA.1 hx;have hlc:q.toNat*P.cellsOf e+P.cellsOf e≤cs.size:=by rw[hcs.1];exact hl
   refine⟨_,by simp only[Instr.index,asIntOf,Sem.run_bind,Sem.run_pure,Result.andThen_ok,run_underlying hu];simp only[h0,hn,and_self,if_true,Sem.run_bind,bu hc.1,Result.andThen_ok];exact tW hg hc.1 hlc hc.2, ?_⟩;cases g
   ·have h1:P.cellsOf e=1:=by simpa using hc.2
    have hlt:q.toNat*P.cellsOf e<cs.size:=by omega
    simp only[Bool.false_eq_true,if_false]at hr⊢;have:=hcs.2.2 _ _ d (Rz hlt) hr;have hgd:cs.getD (q.toNat*P.cellsOf e) undef=cs[q.toNat*P.cellsOf e]:=by simp[Array.getD,hlt]
    rw[hgd];exact this
   ·simp only[if_true,Jz]at hr⊢;subst hr;exact dA.2 ⟨_,rfl,jQ hcs _ _⟩
  ·cases hr
 ·cases hd
theorem Ke{n:Nat}{t:Nat}{x y:D}{a b:Value}{r:Bool}(hk:cg P t=some n)(hx:ai w pr tk a x)(hy:ai w pr tk b y)(hr:ae [n] [x] [y]=some r)(dd:Nat):
  (Op.equalIn (dd+1) t a b).run P w= .ok r w:=by
 unfold cg at hk;unfold ae at hr;split at hr
 ·rename_i hh _ _;cases hh
 ·rename_i n' ks k u xs k' v ys hh1 hh2 hh3;cases hh1;cases hh2;cases hh3;split at hr
  ·rename_i hc;obtain⟨c1,c2⟩:=hc;simp only[ae,Pz,Bool.and_true,Jz]at hr;subst hr;cases hx;cases hy;have inj: ∀p q:IntKind,br p=br q→p=q:=by intro p q;cases p<;>cases q<;>simp[br]
   have hkk:k=k':=inj _ _ (c1.symm.trans c2);subst hkk;have lt8: ∀p:IntKind,br p<8:=by intro p;cases p<;>simp[br]
   split at hk
   ·rename_i k0 hu;exact run_equalIn_int w dd t k k0 u v hu
   ·have:=lt8 k;simp at hk;omega
   ·have:=lt8 k;simp at hk;omega
   ·cases hk
  ·cases hr
 ·rename_i ks u xs v ys hh1 hh2 hh3;cases hh1;cases hh2;cases hh3;simp only[ae,Pz,Bool.and_true,Jz]at hr;subst hr;cases hx;cases hy;have lt8: ∀p:IntKind,br p<8:=by intro p;cases p<;>simp[br]
  split at hk
  ·rename_i k0 hu;have:=lt8 k0;simp at hk;omega
  ·rename_i hu;exact run_equalIn_bool' w dd t u v hu
  ·simp at hk
  ·cases hk
 ·rename_i ks u xs v ys hh1 hh2 hh3;cases hh1;cases hh2;cases hh3;simp only[ae,Pz,Bool.and_true,Jz]at hr;subst hr;cases hx;cases hy;have lt8: ∀p:IntKind,br p<8:=by intro p;cases p<;>simp[br]
  split at hk
  ·rename_i k0 hu;have:=lt8 k0;simp at hk;omega
  ·simp at hk
  ·rename_i hu;exact run_equalIn_string w dd t u v hu
  ·cases hk
 ·cases hr
theorem hZ{n:Nat}{ks:List Nat}{xs ys:List D}{r:Bool}(h:ae (n::ks) xs ys=some r): ∃x xs' y ys' r1 r2,xs=x::xs'∧ys=y::ys'∧ae [n] [x] [y]=some r1∧ae ks xs' ys'=some r2∧r=(r1&&r2):=by
 unfold ae at h;split at h
 ·rename_i h1;cases h1
 ·rename_i n' ks' k a xs' k' b ys' hh1;cases hh1;split at h
  ·rename_i hc;obtain⟨r',hr',rfl⟩:=Mz.1 h;exact⟨_,_,_,_,a==b,r',rfl,rfl,by unfold ae;rw[if_pos hc];simp[ae],hr',rfl⟩
  ·cases h
 ·rename_i ks' a xs' b ys' hh1;cases hh1;obtain⟨r',hr',rfl⟩:=Mz.1 h;exact⟨_,_,_,_,a==b,r',rfl,rfl,by simp[ae],hr',rfl⟩
 ·rename_i ks' a xs' b ys' hh1;cases hh1;obtain⟨r',hr',rfl⟩:=Mz.1 h;exact⟨_,_,_,_,a.toList==b.toList,r',rfl,rfl,by simp[ae],hr',rfl⟩
 ·cases h
theorem ig{t n:Nat}(hk:cg P t=some n){xs:Array Value}{off:Nat}{v:Value}(hx:xs[off]?=some v):(part t xs off).run P w= .ok v w:=by
 unfold cg at hk;split at hk
 ·rename_i hu;simp[part,isAgg,run_underlying hu,hx]
 ·rename_i hu;simp[part,isAgg,run_underlying hu,hx]
 ·rename_i hu;simp[part,isAgg,run_underlying hu,hx]
 ·cases hk
theorem Bb{n:Nat}{ks:List Nat}{x y:D}{xs ys:List D}{r1 r2:Bool}(h1:ae [n] [x] [y]=some r1)(h2:ae ks xs ys=some r2):ae (n::ks) (x::xs) (y::ys)=some (r1&&r2):=by
 unfold ae at h1⊢;split at h1
 ·rename_i hh _ _;cases hh
 ·rename_i n' ks' k a xs' k' b ys' hh1 hh2 hh3;cases hh1;cases hh2;cases hh3;split at h1
  ·rename_i hc;simp only[ae,Pz,Jz,Bool.and_true]at h1;simp only[if_pos hc,h2,Pz,h1]
  ·cases h1
 ·rename_i ks' a xs' b ys' hh1 hh2 hh3;cases hh1;cases hh2;cases hh3;simp only[ae,Pz,Jz,Bool.and_true]at h1;simp only[h2,Pz,h1]
 ·rename_i ks' a xs' b ys' hh1 hh2 hh3;cases hh1;cases hh2;cases hh3;simp only[ae,Pz,Jz,Bool.and_true]at h1;simp only[h2,Pz,h1]
 ·cases h1
theorem qx: ∀{k1 k2:List Nat} {xs ys:List D} {r:Bool},ae (k1++k2) xs ys=some r→
  ∃r1 r2,ae k1 (xs.take k1.length) (ys.take k1.length)=some r1∧ae k2 (xs.drop k1.length) (ys.drop k1.length)=some r2∧r=(r1&&r2)
 | [],k2,xs,ys,r,h=>⟨true,r,by simp[ae],by simpa using h,by simp⟩
 |n::k1,k2,xs,ys,r,h=>by
  obtain⟨x,xs',y,ys',r1,r2,rfl,rfl,h1,h2,rfl⟩:=hZ h;obtain⟨r3,r4,h3,h4,rfl⟩:=qx h2;exact⟨r1&&r3,r4,by simpa using Bb h1 h3,by simpa using h4,by simp[Bool.and_assoc]⟩
theorem dJ: ∀{ks:List Nat} {xs ys:List D} {r:Bool},ae ks xs ys=some r→xs.length=ks.length∧ys.length=ks.length
 | [],xs,ys,r,h=>by cases xs<;>cases ys<;>simp[ae]at h⊢
 |n::ks,xs,ys,r,h=>by
  obtain⟨x,xs',y,ys',r1,r2,rfl,rfl,h1,h2,rfl⟩:=hZ h;have:=dJ h2;simp[this.1,this.2]
theorem mD{l:List D}{i a b:Nat}:((l.drop i).take (a+b)).take a=(l.drop i).take a∧((l.drop i).take (a+b)).drop a=(l.drop (i+a)).take b:=by
 refine⟨by rw[List.take_take,Nat.min_eq_left (by omega)], ?_⟩;rw[List.drop_take,List.drop_drop,Nat.add_sub_cancel_left]
theorem qy{k1 k2:List Nat}{xs ys:List D}{i:Nat}{r:Bool}(h:ae (k1++k2) ((xs.drop i).take (k1++k2).length) ((ys.drop i).take (k1++k2).length)=some r):
  ∃r1 r2,ae k1 ((xs.drop i).take k1.length) ((ys.drop i).take k1.length)=some r1∧ae k2 ((xs.drop (i+k1.length)).take k2.length) ((ys.drop (i+k1.length)).take k2.length)=some r2∧r=(r1&&r2):=by
 obtain⟨r1,r2,h1,h2,h3⟩:=qx h;simp only[List.length_append]at h1 h2;rw[mD.1,mD.1]at h1;rw[mD.2,mD.2]at h2;exact⟨r1,r2,h1,h2,h3⟩
def Te(P:Program)(w:World)(pr:aT)(tk:ag)(f t:Nat)(ks:List Nat):Prop:=
 ∀(A B:Array Value) (xs ys:List D) (off d:Nat) (r:Bool),cq w pr tk A xs→cq w pr tk B ys→f≤d→ae ks ((xs.drop off).take ks.length) ((ys.drop off).take ks.length)=some r→
  ∃va vb,(part t A off).run P w= .ok va w∧(part t B off).run P w= .ok vb w∧(Op.equalIn d t va vb).run P w= .ok r w
theorem jq{f e:Nat}{ks:List Nat}(ih:Te P w pr tk f e ks)(hc:P.cellsOf e=ks.length){A B:Array Value}{xs ys:List D}{d:Nat}(hA:cq w pr tk A xs)(hB:cq w pr tk B ys)(hd:f≤d):
  ∀(m j:Nat) (r:Bool),ae (List.replicate m ks).flatten ((xs.drop (j*ks.length)).take (List.replicate m ks).flatten.length) ((ys.drop (j*ks.length)).take (List.replicate m ks).flatten.length)=some r→
   (Op.eqItems d e (P.cellsOf e) A B (List.range' j m)).run P w= .ok r w
 |0,j,r,h=>by simp[ae]at h;subst h;simp[Op.eqItems]
 |m+1,j,r,h=>by
  rw[show(List.replicate (m+1) ks).flatten=ks++(List.replicate m ks).flatten by simp[List.replicate_succ]]at h;obtain⟨r1,r2,h1,h2,rfl⟩:=qy h;obtain⟨va,vb,p1,p2,p3⟩:=ih A B xs ys _ d r1 hA hB hd h1;have i2:=jq ih hc hA hB hd m (j+1) r2 (by rw[Nat.succ_mul];exact h2);simp only[List.range'_succ,Op.eqItems,Sem.run_bind,hc,p1,p2,p3,Result.andThen_ok];rw[←hc];cases r1
  ·simp
  ·simpa using i2
theorem gA: ∀f:Nat,(∀(t:Nat) (ks:List Nat),kX P f t=some ks→Te P w pr tk f t ks)∧
  (∀(i:Nat) (fs:List Field) (ks:List Nat),d_ P f i fs=some ks→ ∀(A B:Array Value) (xs ys:List D) (d:Nat) (r:Bool),cq w pr tk A xs→cq w pr tk B ys→f≤d→
   ae ks ((xs.drop i).take ks.length) ((ys.drop i).take ks.length)=some r→(Op.eqFields d A B fs).run P w= .ok r w)
 |0=>⟨fun t ks h=>by simp[kX]at h,fun i fs ks h A B xs ys d r hA hB hd he=>by
   cases fs with
   |nil=>simp[d_]at h;subst h;simp[ae]at he;subst he;simp[Op.eqFields]
   |cons g gs=>simp[d_]at h⟩
 |f+1=>by
  obtain⟨ihT,ihF⟩:=gA f;refine⟨fun t ks h A B xs ys off d r hA hB hd he=> ?_,fun i fs ks h A B xs ys d r hA hB hd he=> ?_⟩
  ·obtain⟨d,rfl⟩: ∃d',d=d'+1:=⟨d-1,by omega⟩;have hl:=dJ he;simp only[List.length_take,List.length_drop]at hl
   have DA: ∀{C:Array Value} {zs:List D},cq w pr tk C zs→min ks.length (zs.length-off)=ks.length→(P.info? t).map (·.size)=some ks.length→dF P t=some true→0<ks.length→
     (part t C off).run P w= .ok (.agg (C.extract off (off+ks.length))) w:=fun{C zs} hC hz hi hg h0=>by
    obtain⟨i,hi1,hi2⟩:=Mz.1 hi;have hc:P.cellsOf t=ks.length:=by simp[Program.cellsOf,hi1,hi2]
    rw[tW hg (by simp[hi1]) (by rw[hc,hC.1];omega) (.inl rfl),hc];rfl
   simp only[kX]at h;split at h
   ·rename_i fs hu;split at h
    ·rename_i hst;obtain⟨ks',hk,h⟩:=Bz.1 h;split at h<;>cases h;rename_i hi;have hg:dF P t=some true:=by simp[dF,hu]
     refine⟨_,_,DA hA hl.1 hi.1 hg hi.2,DA hB hl.2 hi.1 hg hi.2, ?_⟩;have hf:P.fieldsOf t=fs:=by simp[Program.fieldsOf,hu]
     rw[run_equalIn_struct w d t _ _ (by rw[hf];exact hu) hst,hf];refine ihF 0 fs.toList ks hk _ _ _ _ d r (jQ hA off ks.length) (jQ hB off ks.length) (by omega) ?_;simpa[List.take_take]using he
    ·cases h
   ·rename_i n e hu;obtain⟨k1,hk,h⟩:=Bz.1 h;split at h<;>cases h;rename_i hi;have hg:dF P t=some true:=by simp[dF,hu]
    refine⟨_,_,DA hA hl.1 hi.2.1 hg hi.2.2,DA hB hl.2 hi.2.1 hg hi.2.2, ?_⟩;obtain⟨ie,hi1,hi2⟩:=Mz.1 hi.1;have hc:P.cellsOf e=k1.length:=by simp[Program.cellsOf,hi1,hi2]
    rw[run_equalIn_array w d _ _ hu hi1,List.range_eq_range'];refine jq (ihT _ _ hk) hc (jQ hA off _) (jQ hB off _) (by omega) n 0 r ?_;simpa[List.take_take]using he
   ·obtain⟨k,hk,rfl⟩:=Mz.1 h;obtain⟨x,xs',y,ys',r1,r2,hx,hy,h1,h2,rfl⟩:=hZ he
    have gx:xs[off]?=some x:=by
     have:=congrArg (·[0]?) hx;simpa[List.getElem?_take,List.getElem?_drop]using this
    have gy:ys[off]?=some y:=by
     have:=congrArg (·[0]?) hy;simpa[List.getElem?_take,List.getElem?_drop]using this
    have ex:=Rz (show off<A.size by rw[hA.1];exact(Gz.1 gx).1);have ey:=Rz (show off<B.size by rw[hB.1];exact(Gz.1 gy).1)
    have hr2:r2=true:=by
     have:=dJ h2;cases xs'<;>cases ys'<;>simp[ae]at h2<;>simp[h2]
    subst hr2;exact⟨_,_,ig hk ex,ig hk ey,by rw[Bool.and_true];exact Ke hk (hA.2.2 off _ x ex gx) (hB.2.2 off _ y ey gy) h1 d⟩
  ·cases fs with
   |nil=>simp[d_]at h;subst h;simp[ae]at he;subst he;simp[Op.eqFields]
   |cons g gs=>
    simp only[d_]at h;split at h
    ·rename_i hc;obtain⟨k1,h1,h⟩:=Bz.1 h;obtain⟨k2,h2,rfl⟩:=Mz.1 h;obtain⟨r1,r2,e1,e2,rfl⟩:=qy he;obtain⟨va,vb,p1,p2,p3⟩:=ihT _ _ h1 A B xs ys i d r1 hA hB (by omega) e1;have i2:=ihF _ _ _ h2 A B xs ys d r2 hA hB (by omega) e2;simp only[Op.eqFields,hc.1,ne_eq,not_false_eq_true,if_true,Sem.run_bind,hc.2,p1,p2,p3,Result.andThen_ok];cases r1
     ·simp
     ·simpa using i2
    ·cases h
theorem yF{t:Nat}{ks:List Nat}{a b:Value}{xs ys:List D}{r:Bool}(hk:e5 P t=some ks)(hp:ai w pr tk a (.agg xs))(hq:ai w pr tk b (.agg ys))(he:ae ks xs ys=some r):
  ∃A B,a= .agg A∧b= .agg B∧(Op.equalIn 10000 t (.agg A) (.agg B)).run P w= .ok r w:=by
 obtain⟨A,rfl,hA⟩:=dA.1 hp;obtain⟨B,rfl,hB⟩:=dA.1 hq;refine⟨A,B,rfl,rfl, ?_⟩;have ful: ∀(zs:List D),zs.length=ks.length→(zs.drop 0).take ks.length=zs:=fun zs hz=>by simp[←hz]
 have hl:=dJ he;unfold e5 at hk;split at hk
 ·rename_i fs hu;split at hk
  ·cases hk
  ·rename_i hst;have hst:P.stoodInHeld t=false:=by simpa using hst
   have hf:P.fieldsOf t=fs:=by simp[Program.fieldsOf,hu]
   rw[run_equalIn_struct w 9999 t A B (by rw[hf];exact hu) hst,hf];exact(gA 40).2 0 fs.toList ks hk A B xs ys 9999 r hA hB (by omega) (by rw[ful xs hl.1,ful ys hl.2];exact he)
 ·rename_i n e hu;obtain⟨k1,hk1,hk⟩:=Bz.1 hk;split at hk<;>cases hk;rename_i hi;obtain⟨ie,hi1,hi2⟩:=Mz.1 hi;have hc:P.cellsOf e=k1.length:=by simp[Program.cellsOf,hi1,hi2]
  rw[run_equalIn_array w 9999 _ _ hu hi1,List.range_eq_range'];exact jq ((gA 40).1 _ _ hk1) hc hA hB (by omega) n 0 r (by rw[Nat.zero_mul,ful xs hl.1,ful ys hl.2];exact he)
 ·cases hk
theorem D2{Γ:Env}{op:BinOp}{t:Nat}{k:PK}{x y:Operand}{a b:Value}{p q d:D}(hd:F9 P op t=some k)
  (hp:ai w pr tk a p) (hq:ai w pr tk b q) (af:k.run Γ m [p,q]=some d): ∃v,(do eqGuard op t x y a b;binOp op t a b:Sem Value).run P w= .ok v w∧ai w pr tk v d:=by
 unfold F9 at hd;split at hd
 ·cases hd
 rename_i xu;have xu:P.eqGuardType P.depth t=false:=by simpa using xu
 have key: ∀neg ks,e5 P t=some ks→Jk neg ks [p,q]=some d→ ∃A B r,a= .agg A∧b= .agg B∧d=bv (if neg then !r else r)∧(Op.equalIn 10000 t (.agg A) (.agg B)).run P w= .ok r w:=by
  intro neg ks hk hr;cases p<;>cases q<;>simp only[Jk]at hr<;>try (cases hr;done)
  rename_i xs ys;obtain⟨r,he,rfl⟩:=Mz.1 hr;obtain⟨A,rfl,hA⟩:=dA.1 hp;obtain⟨B,rfl,hB⟩:=dA.1 hq;refine⟨A,B,r,rfl,rfl,rfl, ?_⟩;have ful: ∀(zs:List D),zs.length=ks.length→(zs.drop 0).take ks.length=zs:=fun zs hz=>by simp[←hz]
  have hl:=dJ he;unfold e5 at hk;split at hk
  ·rename_i fs hu;split at hk
   ·cases hk
   ·rename_i hst;have hst:P.stoodInHeld t=false:=by simpa using hst
    have hf:P.fieldsOf t=fs:=by simp[Program.fieldsOf,hu]
    rw[run_equalIn_struct w 9999 t A B (by rw[hf];exact hu) hst,hf];exact(gA 40).2 0 fs.toList ks hk A B xs ys 9999 r hA hB (by omega) (by rw[ful xs hl.1,ful ys hl.2];exact he)
  ·rename_i n e hu;obtain⟨k1,hk1,hk⟩:=Bz.1 hk;split at hk<;>cases hk;rename_i hi;obtain⟨ie,hi1,hi2⟩:=Mz.1 hi;have hc:P.cellsOf e=k1.length:=by simp[Program.cellsOf,hi1,hi2]
   rw[run_equalIn_array w 9999 _ _ hu hi1,List.range_eq_range'];exact jq ((gA 40).1 _ _ hk1) hc hA hB (by omega) n 0 r (by rw[Nat.zero_mul,ful xs hl.1,ful ys hl.2];exact he)
  ·cases hk
 split at hd
 ·obtain⟨ks,hks,rfl⟩:=Mz.1 hd;obtain⟨A,B,r,rfl,rfl,rfl,he⟩:=key false ks hks af;exact⟨.bool r,by simp only[Sem.run_bind,run_eqGuard_agg w _ _ _ _ _ _ xu,Result.andThen_ok,run_eql_struct,he],aP.2 ⟨rfl,rfl⟩⟩
 ·obtain⟨ks,hks,rfl⟩:=Mz.1 hd;obtain⟨A,B,r,rfl,rfl,rfl,he⟩:=key true ks hks af;exact⟨.bool (!r),by simp only[Sem.run_bind,run_eqGuard_agg w _ _ _ _ _ _ xu,Result.andThen_ok,run_neq_struct,he],aP.2 ⟨rfl,rfl⟩⟩
 ·cases hd
theorem B9{Γ:Env}{op:BinOp}{t:Nat}{k:PK}{x y:Operand}{a b:Value}{p q d:D}(hd:y_ P op t=some k)
  (hp:ai w pr tk a p) (hq:ai w pr tk b q) (af:k.run Γ m [p,q]=some d): ∃v,(do eqGuard op t x y a b;binOp op t a b:Sem Value).run P w= .ok v w∧ai w pr tk v d:=by
 have key: ∀neg,DR neg [p,q]=some d→b= .slice none 0 0∧ ∃o n c,a= .slice o n c∧d=bv (if neg then !o.isNone else o.isNone):=by
  intro neg hr;unfold DR at hr;split at hr
  ·rename_i d0 hh;simp only[List.cons.injEq,and_true]at hh;obtain⟨rfl,rfl⟩:=hh;cases hq;refine⟨rfl, ?_⟩;split at hr
   ·cases hr;cases hp;exact⟨none,0,0,rfl,by cases neg<;>rfl⟩
   ·cases hr;cases hp;exact⟨_,_,_,rfl,by cases neg<;>rfl⟩
   ·cases hr;cases hp;exact⟨_,_,_,rfl,by cases neg<;>rfl⟩
   ·cases hr;cases hp;exact⟨_,_,_,rfl,by cases neg<;>rfl⟩
   ·cases hr
  ·cases hr
 have UY: ∀neg,DD neg [p,q]=some d→b= .pointer none∧ ∃o,a= .pointer o∧d=bv (if neg then !o.isNone else o.isNone):=by
  intro neg hr;unfold DD at hr;split at hr
  ·rename_i d0 hh;simp only[List.cons.injEq,and_true]at hh;obtain⟨rfl,rfl⟩:=hh;cases hq;refine⟨rfl, ?_⟩;split at hr
   ·cases hr;cases hp;exact⟨_,rfl,by cases neg<;>rfl⟩
   ·cases hr;cases hp;exact⟨none,rfl,by cases neg<;>rfl⟩
   ·cases hr
  ·cases hr
 unfold y_ at hd;split at hd
 ·rename_i e hu;cases hd;obtain⟨rfl,o,n,c,rfl,rfl⟩:=key false af;exact⟨.bool o.isNone,by simp only[Sem.run_bind];simp[eqGuard,Lib.run_eql_slice_nil w t e o n c 0 0 hu],aP.2 ⟨rfl,rfl⟩⟩
 ·rename_i e hu;cases hd;obtain⟨rfl,o,n,c,rfl,rfl⟩:=key true af;exact⟨.bool (!o.isNone),by simp only[Sem.run_bind];simp[eqGuard,run_neq_slice_nil_any w t e o n c 0 0 hu],aP.2 ⟨rfl,rfl⟩⟩
 ·rename_i e hu;split at hd<;>cases hd;rename_i he;obtain⟨rfl,o,rfl,rfl⟩:=UY false af;exact⟨.bool o.isNone,by simp only[Sem.run_bind];simp[eqGuard,run_eql_pointer_nil w t o (by rw[he];exact hu)],aP.2 ⟨rfl,rfl⟩⟩
 ·rename_i e hu;split at hd<;>cases hd;rename_i he;obtain⟨rfl,o,rfl,rfl⟩:=UY true af;exact⟨.bool (!o.isNone),by simp only[Sem.run_bind];simp[eqGuard,run_neq_pointer_nil w t o (by rw[he];exact hu)],aP.2 ⟨rfl,rfl⟩⟩
 ·cases hd
theorem rF{v:Value}(h:ai w pr tk v .mt):ai w pr tk v (.list []):=by
 cases h;exact .emp
theorem Jw{e b off cap l h k:Nat}{es:List (List D)}(hr:ai w pr tk (.slice (some ⟨b,off,none⟩) es.length cap) (.list es))(hsz: ∀c∈es,c.length=P.cellsOf e)(h1:l≤h)(h2:h≤es.length)(h3:h≤k):
  ai w pr tk (.slice (some (if k=l then⟨b,off,none⟩else(⟨b,off,none⟩:Addr).add (l*P.cellsOf e))) (h-l) (k-l)) (.list ((es.drop l).take (h-l))):=by
 have hlen:((es.drop l).take (h-l)).length=h-l:=by simp;omega
 generalize hq:Value.slice (some ⟨b,off,none⟩) es.length cap=q at hr;cases hr with
 |nil'=>simp at hq
 |emp=>
  have e1:h=0:=by simpa using h2
  have e2:l=0:=by omega
  subst e1;subst e2;exact .emp
 |list us hes jB ff hrr=>
  rename_i b' ad3 lR size;simp only[Value.slice.injEq,Jz,Addr.mk.injEq,and_true,true_and]at hq;obtain⟨⟨rfl,rfl⟩,rfl⟩:=hq
  have key: ∀(KA:Nat),(l<h→KA=off+l*size)→ai w pr tk (.slice (some ⟨b,KA,none⟩) (h-l) (k-l)) (.list ((es.drop l).take (h-l))):=by
   intro KA ho;have:=ai.list (w:=w) (pr:=pr) (tk:=tk) (b:=b) (off:=KA) (cap:=k-l) (es:=(es.drop l).take (h-l)) (size:=size) (fun j=>us (l*size+j)) (fun c hc=>hes c (List.mem_of_mem_drop (List.mem_of_mem_take hc))) (by rw[hlen];omega) (fun j hj=> ?_) (fun i c hc j d hd=> ?_)
   ·rw[hlen]at this;exact this
   ·rw[hlen]at hj
    have sW:l<h:=by
     rcases Nat.lt_or_ge l h with h0|h0
     ·exact h0
     ·have:h-l=0:=by omega
      rw[this]at hj;simp at hj
    rw[ho sW,Nat.add_assoc];refine ff _ ?_;have e1:(h-l)*size+l*size≤es.length*size:=by rw[←Nat.add_mul];exact Nat.mul_le_mul_right _ (by omega)
    omega
   ·have hi:i<h-l:=by have:=(Gz.1 hc).1;omega
    rw[List.getElem?_take_of_lt hi,List.getElem?_drop]at hc;have:=hrr (l+i) c hc j d hd;rw[Nat.add_mul]at this;rw[←Nat.add_assoc];exact this
  have oE:l<h→size=P.cellsOf e:=fun hlt=>by
   have hm:es[l]'(by omega)∈es:=List.getElem_mem _;rw[←hes _ hm,hsz _ hm]
  split
  ·exact key off (fun hlt=>by omega)
  ·rw[dM];exact key _ (fun hlt=>by rw[oE hlt])
def fu:List Value→List Int→Prop
 | [],[]=>True
 |v::vs,n::ns=>(∃k,v= .int k n)∧fu vs ns
 |_,_=>False
theorem fu.nil_eq{l:List Int}(h:fu [] l):l= []:=by cases l with|nil=>rfl|cons=>exact absurd h (by simp[fu])
theorem fu.eJ{v:Value}{vs:List Value}{l:List Int}(h:fu (v::vs) l): ∃k n r,v= .int k n∧l=n::r∧fu vs r:=by
 cases l with
 |nil=>exact absurd h (by simp[fu])
 |cons n r=>obtain⟨⟨k,hk⟩,h2⟩:=h;exact⟨k,n,r,hk,rfl,h2⟩
theorem iV: ∀{vs:List Value} {ds:List D} {l:List Int},aX w pr tk vs ds→fg ds=some l→fu vs l
 | [],[],l,_,h=>by simp only[fg,Jz]at h;subst h;trivial
 |v::vs,d::ds,l,hr,h=>by
  unfold fg at h;split at h
  ·rename_i hh;cases hh
  ·rename_i k n r hh;cases hh;obtain⟨l',h1,rfl⟩:=Mz.1 h;exact⟨⟨_,(aP.1 hr.1).1⟩,iV hr.2 h1⟩
  ·cases h
 | [],_::_,_,h,_=>absurd h (by simp[aX])
 |_::_,[],_,h,_=>absurd h (by simp[aX])
theorem oV{t e:Nat}{x:Operand}{lo hi mx:Option Operand}{E:Operand→Value}{a:Option Addr}{n cap:Nat}{is:List Int}{l h:Int}{mo:Option Int}(hu:P.underlying t=some (.slice e))(hi':(P.info? e).isSome)(hx:E x= .slice a n cap)
  (hI:fu ((lo.toList++hi.toList++mx.toList).map E) is) (hb:cr n lo.isSome hi.isSome mx.isSome is=some (l,h,mo)) (h0:0≤l) (h1:l≤h) (h2:h≤cap) (jB:n≤cap) (hm: ∀c,mo=some c→h≤c∧c≤n):
  (Instr.sliceAt t (E x) (lo.map E) (hi.map E) (mx.map E)).run P w= .ok (.slice (if(mo.map Int.toNat).getD cap=l.toNat then a else a.map (·.add (l.toNat*P.cellsOf e))) (h.toNat-l.toNat) ((mo.map Int.toNat).getD cap-l.toNat)) w:=by
 have bound: ∀(k:IntKind) (i:Int) (y:Nat) (code:BoundsCode),0≤i→i≤y→(Instr.sliceBound (.int k i) y code).run P w= .ok i.toNat w:=fun k i y code h0 h1=>run_sliceBound w k i y code h0 h1;cases lo<;>cases hi<;>cases mx<;>simp only[cr,Option.isSome_none,Option.isSome_some,Option.toList,List.map_nil,List.map_cons,List.nil_append,List.cons_append,List.append_nil]at hb hI
 case none.none.none=>
  obtain rfl:=hI.nil_eq;cases hb;simp[Instr.sliceAt,Instr.slice,run_underlying hu,Instr.sliceBounds,bu hi',hx]
 case some.none.none lo=>
  obtain⟨kk,a1,_,e1,rfl,hI1⟩:=hI.eJ;obtain rfl:=hI1.nil_eq;cases hb;simp[Instr.sliceAt,Instr.slice,run_underlying hu,Instr.sliceBounds,e1,bound kk l n .sliceB h0 h1,bu hi',hx]
 case none.some.none hi=>
  obtain⟨kk,a1,_,e1,rfl,hI1⟩:=hI.eJ;obtain rfl:=hI1.nil_eq;cases hb;simp[Instr.sliceAt,Instr.slice,run_underlying hu,Instr.sliceBounds,e1,bound kk h cap .sliceAcap h1 (by omega),bu hi',hx]
 case some.some.none lo hi=>
  obtain⟨kk,a1,_,e1,rfl,hI1⟩:=hI.eJ;obtain⟨kk',b1,_,e2,rfl,hI2⟩:=hI1.eJ;obtain rfl:=hI2.nil_eq;cases hb;simp[Instr.sliceAt,Instr.slice,run_underlying hu,Instr.sliceBounds,e1,e2,bound kk' h cap .sliceAcap (by omega) (by omega),bound kk l h.toNat .sliceB h0 (by omega),bu hi',hx]
 case none.some.some hi mx=>
  obtain⟨kk,a1,_,e1,rfl,hI1⟩:=hI.eJ;obtain⟨kk',b1,_,e2,rfl,hI2⟩:=hI1.eJ;obtain rfl:=hI2.nil_eq;cases hb;obtain⟨g1,g2⟩:=hm _ rfl;simp[Instr.sliceAt,Instr.slice,run_underlying hu,Instr.sliceBounds,e1,e2,bound kk' b1 cap .slice3Acap (by omega) (by omega),bound kk h b1.toNat .slice3B (by omega) (by omega),bu hi',hx]
 case some.some.some lo hi mx=>
  obtain⟨k1,a1,_,e1,rfl,hI1⟩:=hI.eJ;obtain⟨k2,b1,_,e2,rfl,hI2⟩:=hI1.eJ;obtain⟨k3,c1,_,e3,rfl,hI3⟩:=hI2.eJ;obtain rfl:=hI3.nil_eq;cases hb;obtain⟨g1,g2⟩:=hm _ rfl
  simp[Instr.sliceAt,Instr.slice,run_underlying hu,Instr.sliceBounds,e1,e2,e3,bound k3 c1 cap .slice3Acap (by omega) (by omega),bound k2 h c1.toNat .slice3B (by omega) (by omega),
   bound k1 l h.toNat .slice3C h0 (by omega),bu hi',hx]
 all_goals cases hb
theorem DO{t e n:Nat}{x:Operand}{lo hi:Option Operand}{E:Operand→Value}{a:Addr}{is:List Int}{l h:Int}{mo:Option Int}(hu:P.underlying t=some (.array n e))(hi':(P.info? e).isSome)(hx:E x= .pointer (some a))
  (hI:fu ((lo.toList++hi.toList).map E) is) (hb:cr n lo.isSome hi.isSome false is=some (l,h,mo)) (h0:0≤l) (h1:l≤h) (h2:h≤n):
  (Instr.sliceAt t (E x) (lo.map E) (hi.map E) none).run P w= .ok (.slice (some (if n=l.toNat then a else a.add (l.toNat*P.cellsOf e))) (h.toNat-l.toNat) (n-l.toNat)) w:=by
 have bound: ∀(k:IntKind) (i:Int) (y:Nat) (code:BoundsCode),0≤i→i≤y→(Instr.sliceBound (.int k i) y code).run P w= .ok i.toNat w:=fun k i y code h0 h1=>run_sliceBound w k i y code h0 h1;cases lo<;>cases hi<;>simp only[cr,Option.isSome_none,Option.isSome_some,Option.toList,List.map_nil,List.map_cons,List.nil_append,List.cons_append,List.append_nil]at hb hI
 case none.none=>
  obtain rfl:=hI.nil_eq;cases hb;simp[Instr.sliceAt,run_underlying hu,Instr.sliceBounds,bu hi',hx,Instr.sureAddr]
 case some.none lo=>
  obtain⟨kk,a1,_,e1,rfl,hI1⟩:=hI.eJ;obtain rfl:=hI1.nil_eq;cases hb;simp[Instr.sliceAt,run_underlying hu,Instr.sliceBounds,e1,bound kk l n .sliceB h0 h1,bu hi',hx,Instr.sureAddr]
 case none.some hi=>
  obtain⟨kk,a1,_,e1,rfl,hI1⟩:=hI.eJ;obtain rfl:=hI1.nil_eq;cases hb;simp[Instr.sliceAt,run_underlying hu,Instr.sliceBounds,e1,bound kk h n .sliceAlen h1 (by omega),bu hi',hx,Instr.sureAddr]
 case some.some lo hi=>
  obtain⟨kk,a1,_,e1,rfl,hI1⟩:=hI.eJ;obtain⟨kk',b1,_,e2,rfl,hI2⟩:=hI1.eJ;obtain rfl:=hI2.nil_eq;cases hb;simp[Instr.sliceAt,run_underlying hu,Instr.sliceBounds,e1,e2,bound kk' h n .sliceAlen (by omega) (by omega),bound kk l h.toNat .sliceB h0 (by omega),bu hi',hx,Instr.sureAddr]
theorem Fi(M:dI P w pr tk m){t:Nat}{x:Operand}{lo hi mx:Option Operand}{k:PK}{xs:List Operand}{E:Operand→Value}{ds:List D}{d:D}{Γ:Env}(hd:Gh P t x lo hi mx=some (k,xs))
  (a6:aX w pr tk (xs.map E) ds) (hr:k.run Γ m ds=some d): ∃z,(Instr.sliceAt t (E x) (lo.map E) (hi.map E) (mx.map E)).run P w= .ok z w∧ai w pr tk z d:=by
 unfold Gh at hd;split at hd
 ·rename_i n e hu;split at hd<;>cases hd;rename_i oA;obtain⟨hi',hmx⟩:=oA;have hmx:mx=none:=by cases mx<;>simp_all
  subst hmx;cases ds with
  |nil=>exact absurd a6 (by simp[aX])
  |cons dx r=>
   simp only[List.map_cons]at a6;obtain⟨hx,iU⟩:=a6;simp only[PK.run]at hr;unfold KZ at hr;split at hr
   ·rename_i τ off r' hh;cases hh;rw[Bz]at hr;obtain⟨is,his,hr⟩:=hr;rw[Bz]at hr;obtain⟨⟨l,h,mo⟩,hb,hr⟩:=hr;have hI:=iV iU his;split at hr<;>cases hr;rename_i hc;obtain⟨h0,h1,h2,qX⟩:=hc;simp only[]at h0 h1 h2;generalize hq:E x=q at hx;cases hx with
    |ptr ht=>
     rename_i b cap;refine⟨_,by rw[←hq];exact DO hu hi' hq hI hb h0 h1 h2, ?_⟩;simp only[dM,qX,Nat.mul_one];rw[show(some (if n=l.toNat then(⟨b,off,none⟩:Addr)else⟨b,off+l.toNat,none⟩))=some ⟨b,if n=l.toNat then off else off+l.toNat,none⟩ by split<;>rfl];refine .sl ht (by simp) (by omega) ?_;by_cases hcl:n=l.toNat
     ·rw[if_pos hcl];by_cases hl0:l.toNat=0
      ·left;rw[hl0];omega
      ·right;omega
     ·left;rw[if_neg hcl];omega
   ·rename_i zs r' hh;cases hh;rw[Bz]at hr;obtain⟨is,his,hr⟩:=hr;rw[Bz]at hr;obtain⟨⟨l,h,mo⟩,hb,hr⟩:=hr;have hI:=iV iU his;split at hr<;>cases hr;rename_i hc;obtain⟨h0,h1,h2,uR⟩:=hc;simp only[]at h0 h1 h2;generalize hq:E x=q at hx;cases hx with
    |lptr us ff hrr=>
     rename_i b off;refine⟨_,by rw[←hq];exact DO hu hi' hq hI hb h0 h1 h2, ?_⟩;simp only[dM];have hlen:(kL (P.cellsOf e) (h.toNat-l.toNat) (zs.drop (l.toNat*P.cellsOf e))).length=h.toNat-l.toNat:=gu ..;by_cases hlh:h.toNat-l.toNat=0
     ·rw[hlh];simp only[kL];split<;>exact .emp
     ·rw[if_neg (by omega)]
      have Ep:(h.toNat-l.toNat)*P.cellsOf e+l.toNat*P.cellsOf e≤n*P.cellsOf e:=by
       rw[←Nat.add_mul];exact Nat.mul_le_mul_right _ (by omega)
      have:=ai.list (w:=w) (pr:=pr) (tk:=tk) (b:=b) (off:=off+l.toNat*P.cellsOf e) (cap:=n-l.toNat) (es:=kL (P.cellsOf e) (h.toNat-l.toNat) (zs.drop (l.toNat*P.cellsOf e))) (size:=P.cellsOf e) (fun j=>us (l.toNat*P.cellsOf e+j)) (fun c hc=>by
        obtain⟨i,hi2,rfl⟩:=List.getElem_of_mem hc;have hil:i<h.toNat-l.toNat:=by rw[hlen]at hi2;exact hi2
        have hg:=lU (P.cellsOf e) (h.toNat-l.toNat) (zs.drop (l.toNat*P.cellsOf e)) i hil;rw[Ez hi2]at hg;rw[Option.some.inj hg];have:(i+1)*P.cellsOf e≤(h.toNat-l.toNat)*P.cellsOf e:=Nat.mul_le_mul_right _ (by omega);rw[Nat.add_mul]at this;simp;omega) (by rw[hlen];omega) (fun j hj=>by
        rw[hlen]at hj;have:=ff (l.toNat*P.cellsOf e+j) (by omega);rw[←Nat.add_assoc]at this;exact this) (fun i c hc j d hd=>by
        have hil:i<h.toNat-l.toNat:=by have:=(Gz.1 hc).1;omega
        rw[lU (P.cellsOf e) _ _ i hil]at hc;cases hc;have hjl:j<P.cellsOf e:=by have:=(Gz.1 hd).1;simp at this;omega
        rw[List.getElem?_take_of_lt hjl,List.getElem?_drop,List.getElem?_drop]at hd
        exact hrr _ d hd)
      rw[hlen]at this;exact this
   ·cases hr
 ·rename_i e hu;split at hd<;>cases hd;rename_i hi';cases ds with
  |nil=>exact absurd a6 (by simp[aX])
  |cons dx r=>
   simp only[List.map_cons]at a6;obtain⟨hx,iU⟩:=a6;simp only[PK.run]at hr;unfold qe at hr;split at hr
   ·rename_i τ kB off len lim r' hh;cases hh;rw[Bz]at hr;obtain⟨is,his,hr⟩:=hr;rw[Bz]at hr;obtain⟨⟨l,h,mo⟩,hb,hr⟩:=hr;have hI:=iV iU his;split at hr
    ·rename_i hc;obtain⟨h0,h1,h2,rfl⟩:=hc;generalize hq:E x=q at hx;cases hx with
     |sl ht hcc hl ho=>
      rename_i b cap c o;simp only[]at hr h0 h1 h2
      have h2c:h≤c∧(off*P.cellsOf e=o∨(c=0∧0<off)):=by
       refine⟨?_,ho.imp Eq.symm id⟩;rcases h2 with h2|h2
       ·omega
       ·unfold DL at h2;split at h2
        ·rename_i g e' es hm;obtain⟨b2,so,C,k1,k3,k5,_⟩:=M.obj _ _ hm;rw[ht]at k1;cases k1;have h2:(off:Int)+h≤es.length:=by simpa using h2
         simp only[Option.getD_none]at hcc;omega
        ·cases h2
      split at hr
      ·cases hr;refine⟨_,by rw[←hq];exact oV hu hi' hq hI hb h0 h1 h2c.1 hl (by simp), ?_⟩;simp only[Option.map_none,Option.getD_none,Pz,dM];have:(if c=l.toNat then some (⟨b,o,none⟩:Addr)else some ⟨b,o+l.toNat*P.cellsOf e,none⟩)=some ⟨b,if c=l.toNat then o else o+l.toNat*P.cellsOf e,none⟩:=by split<;>rfl
       rw[this];refine .sl ht ?_ (by omega) ?_
       ·cases lim<;>simp at hcc⊢ <;>omega
       ·rcases ho with ho|ho
        ·by_cases hcl:c=l.toNat
         ·by_cases hl0:l.toNat=0
          ·left;rw[if_pos hcl,ho,hl0,Nat.add_zero]
          ·exact .inr (by omega)
         ·left;rw[if_neg hcl,ho,Nat.add_mul]
        ·exact .inr (by omega)
      ·rename_i c';split at hr<;>cases hr;rename_i hc';refine⟨_,by rw[←hq];exact oV hu hi' hq hI hb h0 h1 h2c.1 hl (by intro q hq;cases hq;exact hc'), ?_⟩;simp only[Pz,Option.getD_some,dM];have:(if c'.toNat=l.toNat then some (⟨b,o,none⟩:Addr)else some ⟨b,o+l.toNat*P.cellsOf e,none⟩)=some ⟨b,if c'.toNat=l.toNat then o else o+l.toNat*P.cellsOf e,none⟩:=by split<;>rfl
       rw[this];refine .sl ht (by simp) (by omega) ?_;rcases ho with ho|ho
       ·by_cases hcl:c'.toNat=l.toNat
        ·by_cases hl0:l.toNat=0
         ·left;rw[if_pos hcl,ho,hl0,Nat.add_zero]
         ·exact .inr (by omega)
        ·left;rw[if_neg hcl,ho,Nat.add_mul]
       ·exact .inr (by omega)
    ·cases hr
   ·rename_i d0 r' hns hh;cases hh;rw[Bz]at hr;obtain⟨es,hes,hr⟩:=hr;split at hr
    ·cases hr
    rename_i bS
    have hsz: ∀c∈es,c.length=P.cellsOf e:=fun c hc=>by
     have bS:es.all (fun c=>c.length==P.cellsOf e)=true:=by simpa only[Bool.not_eq_false]using bS
     simpa using Tz.1 bS c hc
    rw[Bz]at hr;obtain⟨is,his,hr⟩:=hr;rw[Bz]at hr;obtain⟨⟨l,h,mo⟩,hb,hr⟩:=hr;have hI:=iV iU his
    have GW:(0≤l∧l≤h∧h≤es.length∧d= .list ((es.drop l.toNat).take (h.toNat-l.toNat)))∧ ∀c,mo=some c→h≤c∧c≤es.length:=by
     have cut:w_ es l h=some d→0≤l∧l≤h∧h≤es.length∧d= .list ((es.drop l.toNat).take (h.toNat-l.toNat)):=by
      intro hc;unfold w_ at hc;split at hc
      ·rename_i hcc;exact⟨hcc.1,hcc.2.1,hcc.2.2,(Option.some.inj hc).symm⟩
      ·cases hc
     simp only[]at hr;split at hr
     ·exact⟨cut hr,by simp⟩
     ·split at hr
      ·rename_i hcc;exact⟨cut hr,by intro q hq;cases hq;exact hcc⟩
      ·cases hr
    obtain⟨⟨h0,h1,h2,hde⟩,hm⟩:=GW;generalize hq:E x=q at hx
    have hv:((q= .slice none 0 0∧es= [])∨ ∃a cap,q= .slice (some a) 0 cap∧es= [])∨ ∃b off cap,q= .slice (some ⟨b,off,none⟩) es.length cap∧es.length≤cap∧ai w pr tk (.slice (some ⟨b,off,none⟩) es.length cap) (.list es):=by
     have fin:ai w pr tk q (.list es)→((q= .slice none 0 0∧es= [])∨ ∃a cap,q= .slice (some a) 0 cap∧es= [])∨ ∃b off cap,q= .slice (some ⟨b,off,none⟩) es.length cap∧es.length≤cap∧ai w pr tk (.slice (some ⟨b,off,none⟩) es.length cap) (.list es):=by
      intro h;cases h with
      |nil'=>exact .inl (.inl ⟨rfl,rfl⟩)
      |emp=>exact .inl (.inr ⟨_,_,rfl,rfl⟩)
      |list us a b c dd=>exact .inr ⟨_,_,_,rfl,b, .list us a b c dd⟩
     split at hes<;>cases hes
     ·exact fin hx
     ·exact fin (rF hx)
     ·cases hx;exact .inl (.inl ⟨rfl,rfl⟩)
    rcases hv with(⟨rfl,rfl⟩|⟨a,cap,rfl,rfl⟩)|⟨b,off,cap,rfl,jB,a6⟩
    ·refine⟨_,by rw[←hq];exact oV hu hi' hq hI hb h0 h1 h2 (Nat.le_refl _) hm, ?_⟩;simp only[List.length_nil]at h2;have e1:h.toNat=0:=by omega
     have e2:l.toNat=0:=by omega
     have e3:(mo.map Int.toNat).getD 0=0:=by
      cases mo with
      |none=>rfl
      |some c=>have:=hm c rfl;simp at this⊢;omega
     rw[hde,e1,e2,e3];exact .nil'
    ·simp only[List.length_nil]at h2;have e1:h.toNat=0:=by omega
     have e2:l.toNat=0:=by omega
     refine⟨_,by rw[←hq];exact oV hu hi' hq hI hb h0 h1 (by omega) (Nat.zero_le _) hm, ?_⟩;rw[hde,e1,e2];split<;>exact .emp
    ·refine⟨_,by rw[←hq];exact oV hu hi' hq hI hb h0 h1 (by omega) jB hm, ?_⟩
     have hhm:h.toNat≤(mo.map Int.toNat).getD cap:=by
      cases mo with
      |none=>simp;omega
      |some c=>have:=hm c rfl;simp;omega
     have:=Jw (P:=P) (e:=e) (l:=l.toNat) (h:=h.toNat) (k:=(mo.map Int.toNat).getD cap) a6 hsz (by omega) (by omega) hhm;rw[hde];split
     ·rename_i hml;rw[if_pos hml]at this;exact this
     ·rename_i hml;rw[if_neg hml]at this;exact this
   ·cases hr
 ·cases hd
def PK.simple:PK→Bool
 | .call _| .ccall| .fbox _=>false
 |_=>true
theorem or3{α:Type}{a b c:Option α}{k:α}(h:(a.or b).or c=some k):a=some k∨b=some k∨c=some k:=by
 cases a<;>cases b<;>simp_all
theorem kr: ∀{vs:List Value} {ds:List D},aX w pr tk vs ds→ ∀(i:Nat) (c:Value) (x:D),vs[i]?=some c→ds[i]?=some x→ai w pr tk c x
 | [],[],_,i,c,x,h,_=>by simp at h
 |v::vs,d::ds,h,0,c,x,hc,hx=>by simp at hc hx;subst hc;subst hx;exact h.1
 |v::vs,d::ds,h,i+1,c,x,hc,hx=>kr h.2 i c x (by simpa using hc) (by simpa using hx)
 | [],_::_,h,_,_,_,_,_=>absurd h (by simp[aX])
 |_::_,[],h,_,_,_,_,_=>absurd h (by simp[aX])
theorem AV{Γ:Env}{t f:Nat}{q:Nat×Nat×Bool}{v:Value}{x d:D}(hf:iQ P t f=some q)(hc:q.2.2=true∨q.2.1=1)(h:ai w pr tk v x)(hr:(PK.afld q.1 q.2.1 q.2.2).run Γ m [x]=some d):
  ∃u,(Instr.field t v f).run P w= .ok u w∧ai w pr tk u d:=by
 unfold iQ at hf;cases hu:P.underlying t with
 |none=>simp[hu]at hf
 |some ds=>
  cases ds<;>simp only[hu]at hf<;>try (cases hf;done)
  rename_i fs;rw[Bz]at hf;obtain⟨fl,hfl,hf⟩:=hf;rw[Bz]at hf;obtain⟨g,hg,hf⟩:=hf;split at hf<;>cases hf;rename_i hsz
  have GX:(P.info? fl.type).isSome:=by
   cases hi:P.info? fl.type with
   |none=>simp[Program.cellsOf,hi]at hsz
   |some i=>rfl
  cases x<;>simp only[PK.run,FL]at hr<;>try (cases hr;done)
  rename_i xs;split at hr
  ·rename_i hl;obtain⟨cs,rfl,hcs⟩:=dA.1 h;have hlc:fl.offset+P.cellsOf fl.type≤cs.size:=by rw[hcs.1];exact hl
   refine⟨_,by simp[Instr.field,run_underlying hu,hfl];exact tW hg GX hlc hc, ?_⟩;cases g
   ·have h1:P.cellsOf fl.type=1:=by simpa using hc
    have hlt:fl.offset<cs.size:=by omega
    simp only[Bool.false_eq_true,if_false]at hr⊢;have:=hcs.2.2 _ _ d (Rz hlt) hr;have hgd:cs.getD fl.offset undef=cs[fl.offset]:=by simp[Array.getD,hlt]
    rw[hgd];exact this
   ·simp only[if_true,Jz]at hr⊢;subst hr;exact dA.2 ⟨_,rfl,jQ hcs _ _⟩
  ·cases hr
theorem qU{t:Nat}{z:D}(h:pE P t=some z): ∃v,(zeroValue t).run P w= .ok v w∧ai w pr tk v z:=by
 unfold pE at h;rw[Bz]at h;obtain⟨v,hv,h⟩:=h;rw[Bz]at hv;obtain⟨i,hi,hzi⟩:=hv;refine⟨v,by simp[zeroValue,typeInfo,hi,hzi], ?_⟩;split at h
 ·rename_i cs;obtain⟨xs,hxs,rfl⟩:=Mz.1 h;exact dA.2 ⟨cs,rfl,by have:=uJ (w:=w) (pr:=pr) (tk:=tk) hxs;simpa using this⟩
 ·exact(pD h).1
theorem pF{n:Nat}{x y:D}{r:Bool}(h:cj [n] x y=some r):ae [n] [x] [y]=some r∨(n=99∧ ∃xs ys,x= .agg xs∧y= .agg ys∧ae [] xs ys=some r):=by
 by_cases hn:n=99
 ·subst hn;cases x<;>cases y<;>first|exact .inr ⟨rfl,_,_,rfl,rfl,h⟩|exact .inl (by simpa only[cj]using h)
 ·left;unfold cj at h;split at h
  ·rename_i h1;simp only[List.cons.injEq]at h1;exact absurd h1.1 hn
  ·rename_i hh _;cases hh;exact h
  ·cases h
theorem BG{k n:Nat}(hk:cg P k=some n):n≠99:=fun e=>by
 subst e;unfold cg at hk;have lt8: ∀p:IntKind,br p<8:=by intro p;cases p<;>simp[br]
 split at hk
 ·rename_i k0 _;have:=lt8 k0;simp at hk;omega
 ·simp at hk
 ·simp at hk
 ·cases hk
theorem u6{k n:Nat}{kd:TypeDesc}(hu:P.underlying k=some kd)(hk:cg P k=some n){a b:Value}{x y:D}{r:Bool}(hx:ai w pr tk a x)(hy:ai w pr tk b y)(hr:cj [n] x y=some r):Instr.sameNow kd a b=some r:=by
 unfold cg at hk
 have hn:n≠99:=fun e=>by
  subst e;have lt8: ∀p:IntKind,br p<8:=by intro p;cases p<;>simp[br]
  split at hk
  ·rename_i k0 _;have:=lt8 k0;simp at hk;omega
  ·simp at hk
  ·simp at hk
  ·cases hk
 rcases pF hr with hr|⟨h99,_⟩
 ·unfold ae at hr;have inj: ∀p q:IntKind,br p=br q→p=q:=by intro p q;cases p<;>cases q<;>simp[br]
  have lt8: ∀p:IntKind,br p<8:=by intro p;cases p<;>simp[br]
  split at hr
  ·rename_i hh _ _;cases hh
  ·rename_i n' ks q u xs q' v ys hh1 hh2 hh3;cases hh1;cases hh2;cases hh3;split at hr
   ·rename_i hc;obtain⟨c1,c2⟩:=hc;simp only[ae,Pz,Bool.and_true,Jz]at hr;subst hr;cases hx;cases hy;have hkk:q=q':=inj _ _ (c1.symm.trans c2);subst hkk;rw[hu]at hk;split at hk
    ·rename_i k0 e;cases e;simp[Instr.sameNow]
    ·have:=lt8 q;simp at hk;omega
    ·have:=lt8 q;simp at hk;omega
    ·cases hk
   ·cases hr
  ·rename_i ks u xs v ys hh1 hh2 hh3;cases hh1;cases hh2;cases hh3;simp only[ae,Pz,Bool.and_true,Jz]at hr;subst hr;cases hx;cases hy;rw[hu]at hk;split at hk
   ·rename_i k0 _;have:=lt8 k0;simp at hk;omega
   ·rename_i e;cases e;simp[Instr.sameNow]
   ·simp at hk
   ·cases hk
  ·rename_i ks u xs v ys hh1 hh2 hh3;cases hh1;cases hh2;cases hh3;simp only[ae,Pz,Bool.and_true,Jz]at hr;subst hr;cases hx;cases hy;rw[hu]at hk;split at hk
   ·rename_i k0 _;have:=lt8 k0;simp at hk;omega
   ·simp at hk
   ·rename_i e;cases e;simp[Instr.sameNow,beq_toListBytes]
   ·cases hk
  ·cases hr
 ·exact absurd h99 hn
theorem sameKey_eq{n:Nat}(hn:n≠99){a b:Value}{x y:D}(hx:ai w pr tk a x)(hy:ai w pr tk b y)(hr:cj [n] x y=some true):a=b∧ ∀i,Instr.sameBits i a a=true:=by
 have hr':=pF hr;clear hr;rcases hr' with hr|⟨h99,_⟩
 ·unfold ae at hr;split at hr
  ·rename_i hh _ _;cases hh
  ·rename_i n' ks q u xs q' v ys hh1 hh2 hh3;cases hh1;cases hh2;cases hh3;split at hr
   ·rename_i hc;obtain⟨c1,c2⟩:=hc;have inj: ∀p q:IntKind,br p=br q→p=q:=by intro p q;cases p<;>cases q<;>simp[br]
    have hkk:q=q':=inj _ _ (c1.symm.trans c2);subst hkk;simp only[ae,Pz,Bool.and_true,Jz,beq_iff_eq]at hr;subst hr;cases hx;cases hy;exact⟨rfl,fun i=>by cases i<;>simp[Instr.sameBits]⟩
   ·cases hr
  ·rename_i ks u xs v ys hh1 hh2 hh3;cases hh1;cases hh2;cases hh3;simp only[ae,Pz,Bool.and_true,Jz,beq_iff_eq]at hr;subst hr;cases hx;cases hy;exact⟨rfl,fun i=>by cases i<;>simp[Instr.sameBits]⟩
  ·rename_i ks u xs v ys hh1 hh2 hh3;cases hh1;cases hh2;cases hh3;simp only[ae,Pz,Bool.and_true,Jz]at hr;rw[←beq_toListBytes,MapKept.bytes_beq]at hr;subst hr;cases hx;cases hy;exact⟨rfl,fun i=>by cases i<;>simp[Instr.sameBits,MapKept.bytes_beq]⟩
  ·cases hr
 ·exact absurd h99 hn
theorem nc{k n:Nat}{kd:TypeDesc}(hu:P.underlying k=some kd)(hk:cg P k=some n){a:Value}{x:D}(hx:ai w pr tk a x): ∀(l:List MapEntry) (es:List (D×D)) (i:Nat) (r:Option Nat),l.length=es.length→
  (∀(j:Nat) (en:MapEntry) (p:D×D),l[j]?=some en→es[j]?=some p→ai w pr tk en.key p.1)→bq [n] x es i=some r→
  match r with
  |none=>Instr.findNow kd a l i=some none
  |some q=>i≤q∧ ∃en,l[q-i]?=some en∧Instr.findNow kd a l i=some (some (q,en.val))∧a=en.key∧ ∀z,Instr.sameBits z a a=true
 | [],[],i,r,_,_,h=>by
  simp only[bq,Jz]at h;subst h;rfl
 |en::l,p::es,i,r,hl,a6,h=>by
  simp only[bq]at h;rw[Bz]at h;obtain⟨b,hb,h⟩:=h;have h0:=a6 0 en p (by simp) (by simp);have hs:=u6 hu hk hx h0 hb;cases b
  ·simp only[Bool.false_eq_true,if_false]at h;have ih:=nc hu hk hx l es (i+1) r (by simpa using hl) (fun j en p he hp=>a6 (j+1) en p (by simpa using he) (by simpa using hp)) h;cases r with
   |none=>simpa[Instr.findNow,hs]using ih
   |some q=>
    obtain⟨g1,en',g2,g3,g4⟩:=ih;refine⟨by omega,en', ?_,by simpa[Instr.findNow,hs]using g3,g4⟩;rw[show q-i=(q-(i+1))+1 by omega];simpa using g2
  ·simp only[if_true,Jz]at h;subst h;exact⟨Nat.le_refl _,en,by simp,by simp[Instr.findNow,hs],sameKey_eq (BG hk) hx h0 hb⟩
 | [],_::_,_,_,h,_,_=>by simp at h
 |_::_,[],_,_,h,_,_=>by simp at h
theorem og(nn:Nat): ∀{ks:List Nat} {xs ys:List D},ae ks xs ys=some true→ ∀{A B:List Value},A.length=xs.length→B.length=ys.length→(∀(i:Nat) (c:Value) (x:D),A[i]?=some c→xs[i]?=some x→ai w pr tk c x)→
  (∀(i:Nat) (c:Value) (x:D),B[i]?=some c→ys[i]?=some x→ai w pr tk c x)→A=B∧(A.zip A).all (fun(x,y)=>Instr.sameBits nn x y)=true
 | [],xs,ys,h,A,B,hA,hB,_,_=>by
  have hl:=dJ h;have h1:A= []:=List.eq_nil_of_length_eq_zero (by simp[hA,hl.1]);have h2:B= []:=List.eq_nil_of_length_eq_zero (by simp[hB,hl.2]);subst h1;subst h2;exact⟨rfl,rfl⟩
 |k::ks,xs,ys,h,A,B,hA,hB,rA,rB=>by
  obtain⟨x,xs',y,ys',r1,r2,rfl,rfl,h1,h2,h3⟩:=hZ h;have hr:r1=true∧r2=true:=by first|simpa using h3|simpa using h3.symm
  obtain⟨rfl,rfl⟩:=hr;cases A with
  |nil=>simp at hA
  |cons a A=>
   cases B with
   |nil=>simp at hB
   |cons b B=>
    have ha:=rA 0 a x rfl rfl;have hb:=rB 0 b y rfl rfl
    have qX:a=b∧ ∀i,Instr.sameBits i a a=true:=by
     unfold ae at h1;split at h1
     ·rename_i hh _ _;cases hh
     ·rename_i n' kk q u us q' v vs hh1 hh2 hh3;cases hh1;cases hh2;cases hh3;split at h1
      ·rename_i hc;obtain⟨c1,c2⟩:=hc;have inj: ∀p q:IntKind,br p=br q→p=q:=by intro p q;cases p<;>cases q<;>simp[br]
       have hkk:q=q':=inj _ _ (c1.symm.trans c2);subst hkk;simp only[ae,Pz,Bool.and_true,Jz,beq_iff_eq]at h1;subst h1;cases ha;cases hb;exact⟨rfl,fun i=>by cases i<;>simp[Instr.sameBits]⟩
      ·cases h1
     ·rename_i kk u us v vs hh1 hh2 hh3;cases hh1;cases hh2;cases hh3;simp only[ae,Pz,Bool.and_true,Jz,beq_iff_eq]at h1;subst h1;cases ha;cases hb;exact⟨rfl,fun i=>by cases i<;>simp[Instr.sameBits]⟩
     ·rename_i kk u us v vs hh1 hh2 hh3;cases hh1;cases hh2;cases hh3;simp only[ae,Pz,Bool.and_true,Jz]at h1;rw[←beq_toListBytes,MapKept.bytes_beq]at h1;subst h1;cases ha;cases hb;exact⟨rfl,fun i=>by cases i<;>simp[Instr.sameBits,MapKept.bytes_beq]⟩
     ·cases h1
    obtain⟨rfl,hs⟩:=qX;obtain⟨e1,e2⟩:=og nn (A:=A) (B:=B) h2 (by simpa using hA) (by simpa using hB) (fun i c z hc hz=>rA (i+1) c z (by simpa using hc) (by simpa using hz)) (fun i c z hc hz=>rB (i+1) c z (by simpa using hc) (by simpa using hz));subst e1;refine⟨rfl, ?_⟩;simp only[List.zip_cons_cons,List.all_cons,hs nn,Bool.true_and];exact e2
structure vp(P:Program)(k:Nat)(ks:List Nat):Prop where
 check: ∀{w:World} {pr:aT} {tk:ag} {a:Value} {x:D},ai w pr tk a x→cj ks x x=some true→ ∀em,(Instr.checkKey em 10000 k a).run P w= .ok () w
 find: ∀{w:World} {pr:aT} {tk:ag} {a:Value} {x:D},ai w pr tk a x→ ∀{l:List MapEntry} {es:List (D×D)} {r:Option Nat},l.length=es.length→
  (∀(j:Nat) (en:MapEntry) (p:D×D),l[j]?=some en→es[j]?=some p→ai w pr tk en.key p.1)→bq ks x es 0=some r→
  match r with
  |none=>(Instr.findKey k a l).run P w= .ok none w
  |some q=> ∃en,l[q]?=some en∧(Instr.findKey k a l).run P w= .ok (some (q,en.val)) w∧a=en.key∧Instr.sameBits 10000 a a=true
theorem fV{t n:Nat}(hk:cg P t=some n)(w:World)(em:Bool)(i:Nat)(v:Value):(Instr.checkKey em (i+1) t v).run P w= .ok () w:=by
 unfold cg at hk;split at hk
 ·rename_i q hq;unfold Instr.checkKey;simp[run_underlying hq]
 ·rename_i hq;unfold Instr.checkKey;simp[run_underlying hq]
 ·rename_i hq;unfold Instr.checkKey;simp[run_underlying hq]
 ·cases hk
theorem qI {f : Nat} : ∀ {fs : List Field} {i : Nat} {ks : List Nat}, d_ P f i fs = some ks → (∀ g ∈ fs, (cg P g.type).isSome = true) → ks.length = fs.length ∧ ∀ (j : Nat) (g : Field), fs[j]? = some g → g.name ≠ "_" ∧ g.offset = i + j
 | [],i,ks,h,_=>by cases f<;>simp[d_]at h<;>subst h<;>exact⟨rfl,fun j g hg=>by simp at hg⟩
 |g::gs,i,ks,h,hp=>by
  cases f with
  |zero=>simp[d_]at h
  |succ f=>
   simp only[d_]at h;split at h
   ·rename_i hc;obtain⟨k1,h1,h2⟩:=Bz.1 h;obtain⟨k2,h3,rfl⟩:=Mz.1 h2;obtain⟨n,hn⟩:=Option.isSome_iff_exists.1 (hp g (List.mem_cons_self ..))
    have hk1:k1= [n]:=by
     have hn':=hn;unfold cg at hn';cases f with
     |zero=>simp[kX]at h1
     |succ f=>
      unfold kX at h1;split at h1
      ·rename_i hu;rw[hu]at hn';simp at hn'
      ·rename_i hu;rw[hu]at hn';simp at hn'
      ·rw[hn]at h1;simpa using h1.symm
    subst hk1;obtain⟨e1,e2⟩:=qI h3 fun q hq=>hp q (Cz _ hq);refine⟨by simp[e1],fun j q hq=> ?_⟩;cases j with
    |zero=>simp at hq;subst hq;exact⟨hc.1,by simpa using hc.2⟩
    |succ j=>
     obtain⟨a1,a2⟩:=e2 j q (by simpa using hq);exact⟨a1,by rw[a2];simp;omega⟩
   ·cases h
theorem te{ks:List Nat}{x y:D}{r:Bool}(h:cj (99::ks) x y=some r): ∃xs ys,x= .agg xs∧y= .agg ys∧ae ks xs ys=some r:=by
 cases ks with
 |nil=>
  rcases pF h with h1|⟨_,xs,ys,rfl,rfl,h1⟩
  ·exfalso;have lt8: ∀p:IntKind,br p<8:=by intro p;cases p<;>simp[br]
   unfold ae at h1;split at h1
   ·rename_i hh _ _;cases hh
   ·rename_i n' kk q u us q' v vs hh1 hh2 hh3;cases hh1;split at h1
    ·rename_i hc;have:=lt8 q;omega
    ·cases h1
   ·rename_i hh _ _;simp at hh
   ·rename_i hh _ _;simp at hh
   ·cases h1
  ·exact⟨xs,ys,rfl,rfl,h1⟩
 |cons k0 r0=>cases x<;>cases y<;>first|exact⟨_,_,rfl,rfl,h⟩|(simp[cj]at h;done)
theorem tc{k:Nat}{ks:List Nat}(hko:e5 P k=some ks)(hw:(match P.underlying k with|some (.array _ _)|some (.struct _)=>true|_=>false)=true)
  (hck: ∀{w:World} {pr:aT} {tk:ag} {a:Value} {x:D},ai w pr tk a x→cj (99::ks) x x=some true→ ∀em,(Instr.checkKey em 10000 k a).run P w= .ok () w):vp P k (99::ks):=by
 refine⟨fun hx cB em=>hck hx cB em,fun{w pr tk a x} hx {l es r} hl a6 hf=> ?_⟩;have hfk:=run_findKey_eq (P:=P) (w:=w) (k:=k) hw a l
 have key: ∀(l:List MapEntry) (es:List (D×D)) (i:Nat) (r:Option Nat),l.length=es.length→(∀(j:Nat) (en:MapEntry) (p:D×D),l[j]?=some en→es[j]?=some p→ai w pr tk en.key p.1)→bq (99::ks) x es i=some r→
   match r with
   |none=>(Instr.findAsking k a l i).run P w= .ok none w
   |some q=>i≤q∧ ∃en,l[q-i]?=some en∧(Instr.findAsking k a l i).run P w= .ok (some (q,en.val)) w∧a=en.key∧Instr.sameBits 10000 a a=true:=by
  intro l
  induction l with
  |nil=>
   intro es i r hl _ h;cases es with
   |nil=>simp only[bq,Jz]at h;subst h;simp[Instr.findAsking]
   |cons=>simp at hl
  |cons en l ih=>
   intro es i r hl a6 h;cases es with
   |nil=>simp at hl
   |cons p es=>
    simp only[bq,Bz]at h;obtain⟨b,hb,h⟩:=h;obtain⟨xs,ys,rfl,hp1,he⟩:=te hb;have hy:=a6 0 en p rfl rfl;rw[hp1]at hy;obtain⟨A,B,rfl,hB,af⟩:=yF hko hx hy he;have G5:(Op.equal k (.agg A) en.key).run P w= .ok b w:=by rw[hB];exact af
    cases b
    ·simp only[Bool.false_eq_true,if_false]at h;have:=ih es (i+1) r (by simpa using hl) (fun j en' p' h1 h2=>a6 (j+1) en' p' (by simpa using h1) (by simpa using h2)) h;cases r with
     |none=>simpa[Instr.findAsking,G5]using this
     |some q=>
      obtain⟨g1,en',g2,g3,g4⟩:=this;refine⟨by omega,en', ?_,by simpa[Instr.findAsking,G5]using g3,g4⟩;rw[show q-i=(q-(i+1))+1 by omega];simpa using g2
    ·simp only[if_true,Jz]at h;subst h;obtain⟨A',hA',hAr⟩:=dA.1 hx;cases hA';obtain⟨B',hB',hBr⟩:=dA.1 hy;rw[hB]at hB';cases hB';obtain⟨e1,e2⟩:=og (w:=w) (pr:=pr) (tk:=tk) 9999 he (A:=A.toList) (B:=B.toList) (by simpa using hAr.1) (by simpa using hBr.1) (fun i c z hc hz=>hAr.2.2 i c z (by simpa using hc) hz) (fun i c z hc hz=>hBr.2.2 i c z (by simpa using hc) hz);have hAB:A=B:=Array.toList_inj.1 e1;refine⟨Nat.le_refl _,en,by simp,by simp[Instr.findAsking,G5],by rw[hB,hAB], ?_⟩;simp only[Instr.sameBits,beq_self_eq_true,Bool.true_and];exact e2
 have:=key l es 0 r hl a6 hf;cases r with
 |none=>exact hfk.trans this
 |some q=>
  obtain⟨_,en,g1,g2,g3⟩:=this;exact⟨en,by simpa using g1,hfk.trans g2,g3⟩
theorem xA{k:Nat}{fs:Array Field}{ks:List Nat}(hu:P.underlying k=some (.struct fs))(hp: ∀g∈fs.toList,(cg P g.type).isSome=true)(hst:P.stoodInHeld k=false)(hk:d_ P 40 0 fs.toList=some ks):vp P k (99::ks):=by
 have hko:e5 P k=some ks:=by unfold e5;rw[hu];simp[hst,hk]
 obtain⟨hlen,hfs⟩:=qI hk hp;refine tc hko (by rw[hu]) fun{w pr tk a x} hx cB em=> ?_;obtain⟨xs,_,rfl,_,he⟩:=te cB;obtain⟨A,rfl,hA⟩:=dA.1 hx;have hxl:=(dJ he).1;rw[show(10000:Nat)=9999+1 from rfl,Instr.checkKey];simp only[Sem.run_bind,run_underlying hu,Result.andThen_ok];rw[←Array.forIn_toList]
 have each : ∀ g ∈ fs.toList, g.name ≠ "_" ∧ ∃ v, (part g.type A g.offset).run P w = .ok v w ∧ (Instr.checkKey em 9999 g.type v).run P w = .ok () w := fun g hg => by
  obtain⟨j,hj⟩:=List.getElem?_of_mem hg;obtain⟨h1,h2⟩:=hfs j g hj;obtain⟨n,hn⟩:=Option.isSome_iff_exists.1 (hp g hg);have hjl:j<fs.toList.length:=(Gz.1 hj).1
  have hA1:A[g.offset]?=some A[g.offset]!:=by
   have:g.offset<A.size:=by rw[hA.1,hxl,hlen];omega
   simp[this]
  exact⟨h1,_,ig hn hA1,fV hn w em 9998 _⟩
 generalize fs.toList=L at each
 induction L with
 |nil=>simp
 |cons g L ih=>
  obtain⟨h1,v,h2,h3⟩:=each g (List.mem_cons_self ..);simp only[List.forIn_cons,Sem.run_bind,ne_eq,h1,not_false_eq_true,if_true,h2,h3,Result.andThen_ok,Sem.run_pure];exact ih fun q hq=>each q (Cz _ hq)
theorem zM{k n e q:Nat}{ks:List Nat}(hu:P.underlying k=some (.array n e))(hq:cg P e=some q)(hsz:(P.info? e).map (·.size)=some 1)(hko:e5 P k=some ks):vp P k (99::ks):=by
 obtain⟨i,hi,hi1⟩:=Mz.1 hsz
 have hlen:ks.length=n:=by
  have JS:=hko;unfold e5 at JS;rw[hu]at JS;simp only at JS;obtain⟨k1,h1,h2⟩:=Bz.1 JS
  have hk1:k1= [q]:=by
   have hq':=hq;unfold cg at hq';unfold kX at h1;split at h1
   ·rename_i hh;rw[hh]at hq';simp at hq'
   ·rename_i hh;rw[hh]at hq';simp at hq'
   ·rw[hq]at h1;simpa using h1.symm
  subst hk1;split at h2
  ·cases h2;simp
  ·cases h2
 refine tc hko (by rw[hu]) fun{w pr tk a x} hx cB em=> ?_;obtain⟨xs,_,rfl,_,he⟩:=te cB;obtain⟨A,rfl,hA⟩:=dA.1 hx;have hxl:=(dJ he).1;rw[show(10000:Nat)=9999+1 from rfl,Instr.checkKey];simp only[Sem.run_bind,run_underlying hu,Result.andThen_ok];simp only[Std.Legacy.Range.forIn_eq_forIn_range',Std.Legacy.Range.size,Nat.sub_zero,Nat.add_one_sub_one,Nat.div_one];have ff:P.cellsOf e=1:=by simp[Program.cellsOf,hi,hi1]
 have each: ∀j∈List.range' 0 n,∃v,(part e A (j*P.cellsOf e)).run P w= .ok v w∧(Instr.checkKey em 9999 e v).run P w= .ok () w:=fun j hj=>by
  have hjn:j<n:=by simpa using(List.mem_range'_1.1 hj).2
  have hA1:A[j]?=some A[j]!:=by
   have:j<A.size:=by rw[hA.1,hxl,hlen];exact hjn
   simp[this]
  exact⟨_,ig hq (by rw[ff,Nat.mul_one];exact hA1),fV hq w em 9998 _⟩
 generalize List.range' 0 n=is at each
 induction is with
 |nil=>simp
 |cons j is ih=>
  obtain⟨v,p1,p2⟩:=each j (List.mem_cons_self ..);simp only[List.forIn_cons,Sem.run_bind,run_sizeOf w hi,Result.andThen_ok,p1,p2,Sem.run_pure];exact ih fun y hy=>each y (Cz _ hy)
theorem pA{t e:Nat}{ks:List Nat}(h:y7 P t=some (ks,e)): ∃k,P.underlying t=some (.map k e)∧vp P k ks:=by
 unfold y7 at h;split at h
 ·rename_i k e' hu;split at h
  ·rename_i n hn;cases h;refine⟨k,hu,fun{w pr tk a x} hx cB em=>fV hn w em 9999 a,fun{w pr tk a x} hx {l es r} hl a6 hf=> ?_⟩
   obtain⟨kd,hkd⟩: ∃kd,P.underlying k=some kd:=by
    have hn':=hn;unfold cg at hn';cases hh:P.underlying k with
    |none=>rw[hh]at hn';cases hn'
    |some kd=>exact⟨kd,rfl⟩
   have:=nc hkd hn hx l es 0 r hl a6 hf;cases r with
   |none=>exact MapKept.run_findKey hkd this
   |some q=>
    obtain⟨_,en,g1,g2,g3,g4⟩:=this;exact⟨en,by simpa using g1,MapKept.run_findKey hkd g2,g3,g4 _⟩
  ·split at h
   ·rename_i fs hfs;split at h
    ·rename_i hc;obtain⟨k',hk',h⟩:=Mz.1 h;cases h;exact⟨k,hu,xA hfs (fun g hg=>Tz.1 hc.1 g hg) hc.2 hk'⟩
    ·cases h
   ·rename_i m el hfs;split at h
    ·rename_i hc;obtain⟨k',hk',h⟩:=Mz.1 h;cases h;obtain⟨q,hq⟩:=Option.isSome_iff_exists.1 hc.1;exact⟨k,hu,zM hfs hq hc.2 hk'⟩
    ·cases h
   ·cases h
 ·cases h
def ZH(P:Program)(w:World)(k:Nat)(a:Value)(a7:Array MapEntry)(es:List (D×D)):Option Nat→Prop
 |none=>(Instr.findKey k a a7.toList).run P w= .ok none w
 |some q=> ∃en p,a7[q]?=some en∧es[q]?=some p∧(Instr.findKey k a a7.toList).run P w= .ok (some (q,en.val)) w∧a=en.key∧Instr.sameBits 10000 a a=true
theorem jA(M:dI P w pr tk m){k:Nat}{ks:List Nat}(L:vp P k ks){t:Tok}{b cap:Nat}{es:List (D×D)}(hm:m t=some (.map es))(ht:tk t=some (b,cap)){a:Value}{x:D}(hx:ai w pr tk a x){r:Option Nat}(hf:bq ks x es 0=some r):
  ∃a7,w.heap[b]?=some (.map a7 es.length)∧a7.size=es.length∧es.length≤maxLen∧(∀(i:Nat) (en:MapEntry) (p:D×D),a7[i]?=some en→es[i]?=some p→en.born=i∧ai w pr tk en.key p.1∧ai w pr tk en.val p.2)∧
   ZH P w k a a7 es r:=by
 obtain⟨b',lR,a7,h1,h2,h3,h4,h5⟩:=M.obj _ _ hm;rw[ht]at h1;cases h1;refine⟨a7,h2,h3,h4,h5, ?_⟩;have:=L.find hx (l:=a7.toList) (by simpa using h3) (fun j en p he hp=>(h5 j en p (by simpa using he) hp).2.1) hf;cases r with
 |none=>exact this
 |some q=>
  obtain⟨en,g1,g2,g3⟩:=this;simp only[Array.getElem?_toList]at g1;have hq:q<es.length:=by have:=(Array.getElem?_eq_some_iff.1 g1).1;omega
  exact⟨en,es[q],g1,Ez hq,g2,g3⟩
theorem Bk{k:Nat}{ks:List Nat}(L:vp P k ks){b:Nat}{rows:List (List D)}{es:List (D×D)}(hu:aB rows=some es){v:Value}(hr:ai w pr tk v (.fm rows))(hv:v= .map (some b)){a:Value}{x:D}(hx:ai w pr tk a x){r:Option Nat}(hf:bq ks x es 0=some r):
  ∃a7,w.heap[b]?=some (.map a7 es.length)∧a7.size=es.length∧es.length≤maxLen∧(∀(i:Nat) (en:MapEntry) (p:D×D),a7[i]?=some en→es[i]?=some p→en.born=i∧ai w pr tk en.key p.1∧ai w pr tk en.val p.2)∧
   ZH P w k a a7 es r:=by
 subst hv;cases hr with
 | @fm _ _ a7 es hb hp hs hl hn hk hv=>
  rw[aQ]at hu;cases hu;have h5: ∀(i:Nat) (en:MapEntry) (p:D×D),_→_→en.born=i∧ai w pr tk en.key p.1∧ai w pr tk en.val p.2:=fun i en p he hpp=>⟨hn i en he,(hk i en p he hpp).nE,(hv i en p he hpp).nE⟩;refine⟨_,hb,hs,hl,h5, ?_⟩;have:=L.find hx (l:=a7.toList) (by simpa using hs) (fun j en p he hp=>(h5 j en p (by simpa using he) hp).2.1) hf;cases r with
  |none=>exact this
  |some q=>
   obtain⟨en,g1,g2,g3⟩:=this;simp only[Array.getElem?_toList]at g1;have hq:q<es.length:=by have:=(Array.getElem?_eq_some_iff.1 g1).1;omega
   exact⟨en,es[q],g1,Ez hq,g2,g3⟩
theorem EO(M:dI P w pr tk m){t e:Nat}{ks:List Nat}{z:D}{ok:Bool}{v u:Value}{x y d:D}(hk:y7 P t=some (ks,e))(hz:pE P e=some z)(hx:ai w pr tk v x)(hy:ai w pr tk u y)(hr:oI m ks z ok [x,y]=some d):
  ∃q,(Instr.lookup t v u ok).run P w= .ok q w∧ai w pr tk q d:=by
 obtain⟨k,hu,L⟩:=pA hk
 have core: ∀{b:Nat} {es:List (D×D)} {r:Option Nat},y.rJ=true∧cj ks y y=some true→
   (∃a7,w.heap[b]?=some (.map a7 es.length)∧a7.size=es.length∧es.length≤maxLen∧(∀(i:Nat) (en:MapEntry) (p:D×D),a7[i]?=some en→es[i]?=some p→en.born=i∧ai w pr tk en.key p.1∧ai w pr tk en.val p.2)∧
   ZH P w k u a7 es r)→
   (match r with
    |none=>some (if ok then .tup [z,bv false]else z)
    |some i=>(es[i]?).map fun p=>if ok then D.tup [p.2,bv true]else p.2)=some d→ ∃q,(Instr.lookup t (.map (some b)) u ok).run P w= .ok q w∧ai w pr tk q d:=by
  intro b es r oA P2 hr;have uQ:=L.check hy oA.2;obtain⟨a7,h2,h3,h4,h5,h6⟩:=P2;obtain⟨zv,hzr,zH⟩:=qU (w:=w) (pr:=pr) (tk:=tk) hz
  have X9: ∀{p:Value} {dd:D} {bb:Bool},ai w pr tk p dd→ai w pr tk (.tuple #[p, .bool bb]) (.tup [dd,bv bb]):=fun{p dd bb} h=>
   .tup (by simp) fun i c xx hc hxx=>by
    match i,hc,hxx with
    |0,hc,hxx=>simp at hc hxx;subst hc;subst hxx;exact h
    |1,hc,hxx=>simp at hc hxx;subst hc;subst hxx;exact .v rfl
    |_+2,hc,hxx=>simp at hc
  split at hr
  ·cases hr;refine⟨if ok then .tuple #[zv, .bool false]else zv, ?_, ?_⟩
   ·have h6:(Instr.findKey k u a7.toList).run P w= .ok none w:=h6;simp[Instr.lookup,run_underlying hu,MapKept.run_getObj_map h2,uQ,h6,hzr,Result.andThen]
   ·cases ok
    ·exact zH
    ·exact X9 zH
  ·rename_i q;obtain⟨p,hp,rfl⟩:=Mz.1 hr;obtain⟨en,p',g1,g2,g3,_⟩:=h6;rw[hp]at g2;cases g2;have hv:=(h5 q en p g1 hp).2.2;refine⟨if ok then .tuple #[en.val, .bool true]else en.val, ?_, ?_⟩
   ·simp[Instr.lookup,run_underlying hu,MapKept.run_getObj_map h2,uQ,g3,Result.andThen]
   ·cases ok
    ·exact hv
    ·exact X9 hv
 unfold oI at hr;split at hr
 ·rename_i t' k' hh;cases hh;split at hr
  ·rename_i es hm;split at hr
   rotate_left
   ·cases hr
   rename_i oA;rw[Bz]at hr;obtain⟨r,hf,hr⟩:=hr;cases hx with
   |mp ht=>exact core oA (jA M L hm ht hy hf) hr
  ·cases hr
 ·rename_i rows k' hh;cases hh;rw[Bz]at hr;obtain⟨es,hue,hr⟩:=hr;split at hr
  rotate_left
  ·cases hr
  rename_i oA;rw[Bz]at hr;obtain⟨r,hf,hr⟩:=hr;obtain⟨b,hvb⟩: ∃b,v= .map (some b):=by cases hx;exact⟨_,rfl⟩
  have hfk:=Bk (P:=P) L hue hx hvb hy hf;subst hvb;exact core oA hfk hr
 ·cases hr
theorem Eg(M:dI P w pr tk m){v:Value}{x d:D}(hx:ai w pr tk v x)(hr:Ef m [x]=some d): ∃q,(Instr.entry v).run P w= .ok q w∧ai w pr tk q d:=by
 unfold Ef at hr;split at hr
 ·rename_i t hh;cases hh;split at hr
  ·rename_i u n seen hm;split at hr
   ·rename_i es hm2;split at hr
    ·rename_i hn;rw[Bz]at hr;obtain⟨i,hi,hr⟩:=hr;obtain⟨p,hp,rfl⟩:=Mz.1 hr;cases hx with
     |ptr ht=>
      rename_i b cap;obtain⟨b1,c1,b2,c2,g1,g2,g3⟩:=M.obj _ _ hm;rw[ht]at g1;cases g1;obtain⟨b3,c3,a7,h1,h2,h3,h4,h5⟩:=M.obj _ _ hm2;rw[g2]at h1;cases h1;have hil:i<es.length:=(Gz.1 hp).1;have hen:a7[i]?=some a7[i]:=Rz (by omega);obtain⟨k1,k2,k3⟩:=h5 i a7[i] p hen hp;have TM:seen.toArray.back?=some i:=by simp[hi]
      have Uo:a7.find? (·.born==i)=some a7[i]:=by
       rw[Array.find?_eq_some_iff_getElem];refine⟨by simpa using k1,i,by omega,rfl,fun j hj=> ?_⟩;have hjl:j<a7.size:=by omega
       have:=(h5 j a7[j] es[j] (Rz hjl) (Ez (by omega))).1;simp[this];omega
      refine⟨.tuple #[a7[i].key,a7[i].val], ?_, ?_⟩
      ·simp only[Instr.entry,getObj,Sem.run_bind,Sem.run,g3,h2,Result.andThen,TM,hn,bne_self_eq_false,Bool.false_eq_true,if_false,Uo];rfl
      ·exact .tup (by simp) fun j c xx hc hxx=>by
        match j,hc,hxx with
        |0,hc,hxx=>simp at hc hxx;subst hc;subst hxx;exact k2
        |1,hc,hxx=>simp at hc hxx;subst hc;subst hxx;exact k3
        |_+2,hc,hxx=>simp at hc
    ·cases hr
   ·cases hr
  ·cases hr
 ·cases hr
theorem BV(M:dI P w pr tk m){fr:mZ}{Γ:Env}{o:Oper}{k:PK}{xs:List Operand}{E:Operand→Value}{ds:List D}{d:D}
  (hd:oe P fr o.op=some (k,xs)) (hk:k.simple=true) (a6:aX w pr tk (xs.map E) ds) (af:k.run Γ m ds=some d):
  ∃v,(execOp E o).run P w= .ok (.value v) w∧ai w pr tk v d:=by
 have one: ∀(e:Sem Value),(execOp E o=do pure (.value (←e)))→(∃u,e.run P w= .ok u w∧ai w pr tk u d)→
   ∃v,(execOp E o).run P w= .ok (.value v) w∧ai w pr tk v d:=fun e he ⟨u,hr,hu⟩=>
  ⟨u,by rw[he];simp[hr],hu⟩
 generalize ho:o.op=op at hd;cases op<;>simp only[oe]at hd<;>try (cases hd;done)
 case move x=>
  cases hd;obtain⟨y,rfl,hy⟩:=a6.one;cases af;exact⟨E x,by simp[execOp,ho],hy⟩
 case assign x=>
  cases hd;obtain⟨y,rfl,hy⟩:=a6.one;cases af;exact⟨E x,by simp[execOp,ho],hy⟩
 case pick c a b=>
  cases hd;obtain⟨y,z,z',rfl,h1,h2,h3⟩:=a6.three;simp only[PK.run,DB]at af;cases y<;>simp only[D.asBool]at af<;>try (cases af;done)
  rename_i yv;cases yv<;>simp only[]at af<;>try (cases af;done)
  rename_i bb;obtain⟨h1,_⟩:=aP.1 h1;simp only[Oz,Jz]at af;subst af;refine⟨if bb then E a else E b,by simp[execOp,ho,h1,asBool], ?_⟩;cases bb
  ·exact h3
  ·exact h2
 case load t a=>
  unfold Gg at hd;cases hg:dF P t with
  |none=>simp[hg]at hd
  |some g=>
   simp only[hg,Oz]at hd;split at hd<;>cases hd;rename_i hc;obtain⟨y,rfl,hy⟩:=a6.one;exact one _ (by simp[execOp,ho]) (tl M hg hc.1 hc.2 hy af)
 case fieldAddr t x f=>
  cases hf:iQ P t f with
  |none=>simp[hf]at hd
  |some q=>
   obtain⟨o',n,g⟩:=q;simp only[hf,Pz]at hd;cases hd;obtain⟨y,rfl,hy⟩:=a6.one;exact one _ (by simp[execOp,ho]) (Ei hf hy af)
 case indexAddr t x i=>
  unfold Jx at hd;cases hu:P.underlying t with
  |none=>simp[hu]at hd
  |some dsc=>
   cases dsc<;>simp only[hu]at hd<;>try (cases hd;done)
   all_goals
    split at hd<;>cases hd;rename_i hi;obtain⟨y,z,rfl,hy,hz⟩:=a6.two;exact one (Instr.indexAt t (E x) (E i)) (by simp[execOp,ho]) (by first|exact Ey hu hi hy hz af|exact AW hu hi hy hz af)
 case binOp op t x y yt=>
  obtain⟨k',hk',hd⟩:=Mz.1 hd;cases hd;obtain⟨p,q,rfl,hp,hq⟩:=a6.two;rcases or3 hk' with hk'|hk'|hk'
  ·exact one _ (by simp[execOp,ho];rfl) (D7 hk' hp hq af)
  ·exact one _ (by simp[execOp,ho];rfl) (B9 hk' hp hq af)
  ·exact one _ (by simp[execOp,ho];rfl) (D2 hk' hp hq af)
 case build t parts=>
  obtain⟨q,hq,hd⟩:=Mz.1 hd;cases hd;have Bt:(parts.toList.map fun p=>(p.1,E p.2)).map (·.1)=parts.toList.map (·.1):=by simp[List.map_map,Function.comp_def]
  obtain⟨C,h1,h2⟩:=yO (w:=w) (pr:=pr) (tk:=tk) (parts:=parts.toList.map fun p=>(p.1,E p.2)) hq Bt (by simpa[List.map_map,Function.comp_def]using a6) af;exact one _ (by simp[execOp,ho];rfl) ⟨.agg C,run_build w t _ C (by simpa using h1),h2⟩
 case makeFunc fn first captured=>
  cases fn<;>simp only[]at hd<;>try (cases hd;done)
  rename_i f;split at hd
  ·cases hd;rename_i hf;simp only[PK.run,Js]at af;split at af<;>cases af;refine one (Instr.makeFunc (.func f) (first.map E) (captured.map E)) (by simp[execOp,ho]) ⟨_,rfl, ?_⟩;have hf0:first.map E= #[]:=by rw[Array.map_eq_empty_iff];exact Array.eq_empty_of_size_eq_zero hf.1
   rw[hf0];have hl:=a6.length;exact .clo hf.2 (by simpa using hl) fun i c x hc hx=>kr a6 i c x (by simpa using hc) hx
  ·split at hd<;>cases hd;rename_i hf;simp only[PK.run,Js]at af;split at af<;>cases af;refine one (Instr.makeFunc (.func f) (first.map E) (captured.map E)) (by simp[execOp,ho]) ⟨_,rfl, ?_⟩;have hf0:captured.map E= #[]:=by rw[Array.map_eq_empty_iff];exact Array.eq_empty_of_size_eq_zero hf
   rw[hf0];have hl:=a6.length;exact .bclo (by simpa using hl) fun i c x hc hx=>kr a6 i c x (by simpa using hc) hx
 case nilCheck x=>
  cases hd;obtain⟨y,rfl,hy⟩:=a6.one;obtain⟨rfl,hv⟩:=D' hy af;refine⟨E x, ?_,hy⟩;rcases hv with⟨a,hv⟩|⟨f,bv,cv,hv⟩<;>simp[execOp,ho,hv]
 case index t x i=>
  obtain⟨k',hk',hd⟩:=Mz.1 hd;cases hd;obtain⟨p,q,rfl,hp,hq⟩:=a6.two;exact one _ (by simp[execOp,ho]) (D3 hk' hp hq af)
 case field t x f=>
  obtain⟨q,hq,hd⟩:=Bz.1 hd;split at hd<;>cases hd;rename_i hc;obtain⟨p,rfl,hp⟩:=a6.one;exact one _ (by simp[execOp,ho]) (AV hq hc hp af)
 case slice t x lo hi mx=>
  exact one _ (by simp[execOp,ho]) (Fi M hd a6 af)
 case lookup t x i ok=>
  rw[Bz]at hd;obtain⟨⟨ks,e⟩,hq,hd⟩:=hd;obtain⟨z,hz,hd⟩:=Mz.1 hd;cases hd;obtain⟨p,q,rfl,hp,hq'⟩:=a6.two;exact one _ (by simp[execOp,ho]) (EO M hq hz hp hq' af)
 case entry x=>
  cases hd;obtain⟨p,rfl,hp⟩:=a6.one;exact one _ (by simp[execOp,ho]) (Eg M hp af)
 case unOp op t x=>
  obtain⟨k',hk',hd⟩:=Mz.1 hd;cases hd;obtain⟨p,rfl,hp⟩:=a6.one;exact one _ (by simp[execOp,ho]) (IY hk' hp af)
 case convert src dst x=>
  obtain⟨k',hk',hd⟩:=Mz.1 hd;cases hd;obtain⟨p,rfl,hp⟩:=a6.one;exact one _ (by simp[execOp,ho]) (A5 hk' hp af)
 case extract x i=>
  cases hd;obtain⟨p,rfl,hp⟩:=a6.one;exact one _ (by simp[execOp,ho]) (Eh hp af)
 case call c=>
  unfold Gc at hd;split at hd
  ·rename_i b hc;obtain⟨k',hk',hd⟩:=Mz.1 hd;cases hd;have hk2:lY P b c.argTypes.toList (c.args.map E).size=some k:=by simpa using hk'
   have e: ∃cn,(execOp E o).run P w=(builtin b c.argTypes o.type cn (c.args.map E)).run P w:=⟨_,by simp[execOp,ho,resolve,hc,invoke];rfl⟩;obtain⟨cn,e⟩:=e;obtain⟨u,h1,h2⟩:=uN (P:=P) (w:=w) (pr:=pr) (tk:=tk) (m:=m) (ty:=o.type) (cn:=cn) hk2 (by simpa using a6) af;exact⟨u,by rw[e,h1],h2⟩
  ·split at hd<;>cases hd;simp[PK.simple]at hk
  ·cases hd;simp[PK.simple]at hk
  ·cases hd
end
end
section
def zx(l:List Int):List D:=l.map fun n=> .v (.int .i64 n)
def C_:Nat→Option (List D):=fun g=>match g with
 |2=>some (zx [0,1,2])
 |3=>some (zx [20,20,30,30,30])
 |4=>some (zx [1,2,4])
 |5=>some (zx [0,0,100,200,200,400])
 |6=>some (zx [0,50,100])
 |_=>none
end
end Go.Proofs.YtdepmampjnlgiaaGreatDoor
