/- Part of the proof: symbolic execution of the program, its soundness, and the closing lemmas. No condition. -/
import Derived.WalkKit
import Derived.WalkSpells
import Derived.WalkLawsBesides
import Derived.ChangeKeysEq
import Derived.Great.BuildSlice
import Derived.Maps.RangeRun
import Derived.WideKeyRuns
import Derived.OwnWalkIn
import Derived.Maps.AppendAt
import Derived.Laws.OwnMore
import Derived.Laws.CopyRow
namespace Go.Proofs.YtkcfpgaepmllhaaGreatDoor
open Go.RowKit
set_option maxRecDepth 100000
theorem Bz {α β : Type _} {b : β} {o : Option α} {f : α → Option β} : o.bind f = some b ↔ ∃ a, o = some a ∧ f a = some b := Option.bind_eq_some_iff
theorem Mz {α β : Type _} {b : β} {o : Option α} {f : α → β} : o.map f = some b ↔ ∃ a, o = some a ∧ f a = b := Option.map_eq_some_iff
theorem Gz {α : Type _} {i : Nat} {a : α} {l : List α} : l[i]? = some a ↔ ∃ h : i < l.length, l[i] = a := List.getElem?_eq_some_iff
theorem Oz {α β : Type _} (a : α) (f : α → Option β) : (some a).bind f = f a := Option.bind_some a f
theorem Ez {α : Type _} {l : List α} {i : Nat} (h : i < l.length) : l[i]? = some l[i] := List.getElem?_eq_getElem h
theorem Lz {α : Type _} {l : List α} {i : Nat} {a : α} (e : l[i]? = some a) : a ∈ l := List.mem_of_getElem? e
theorem Jz {α : Type _} (a b : α) : (some a = some b) = (a = b) := Option.some.injEq a b
theorem Az (a b : Bool) : ((a && b) = true) = (a = true ∧ b = true) := Bool.and_eq_true a b
theorem Pz {α β : Type _} (a : α) (f : α → β) : (some a).map f = some (f a) := Option.map_some a f
theorem Tz {α : Type _} {p : α → Bool} {l : List α} : l.all p = true ↔ ∀ x, x ∈ l → p x = true := List.all_eq_true
theorem Rz {α : Type _} {xs : Array α} {i : Nat} (h : i < xs.size) : xs[i]? = some xs[i] := Array.getElem?_eq_getElem h
theorem Yz {α : Type _} {l r : List α} {i : Nat} (h : i < l.length) : (l ++ r)[i]? = l[i]? := List.getElem?_append_left h
theorem Xz {α : Type _} {l r : List α} {i : Nat} (h : l.length ≤ i) : (l ++ r)[i]? = r[i - l.length]? := List.getElem?_append_right h
theorem Cz {α : Type _} (y : α) {a : α} {l : List α} (h : a ∈ l) : a ∈ y :: l := List.mem_cons_of_mem y h
theorem Dz {α β : Type _} {f : α → β} {l : List α} {i : Nat} : (l.map f)[i]? = (l[i]?).map f := List.getElem?_map
section
abbrev Tok:=List Nat
inductive D where
 |undef
 |v (x:Value)
 |nil
 |mt
 |list (es:List (List D))
 |agg (xs:List D)
 |tup (xs:List D)
 |lptr (xs:List D)
 |clo (f:Nat) (caps:List D)
 |sl (t:Tok) (size off len:Nat) (lim:Option Nat)
 |ptr (t:Tok) (off:Nat)
 |rptr (t:Tok) (size i j:Nat)
 |mp (t:Tok)
 |nilmap
 |fm (rows:List (List D))
 deriving Inhabited
def pairR(es:List (D×D)):List (List D):=es.map fun p=> [p.1,p.2]
def unpairR:List (List D)→Option (List (D×D))
 | []=>some []
 | [a,b]::r=>(unpairR r).map ((a,b):: ·)
 |_=>none
theorem unpair_pair: ∀(es:List (D×D)),unpairR (pairR es)=some es
 | []=>rfl
 |(a,b)::r=>by simp only[pairR,List.map_cons,unpairR];rw[show unpairR (List.map (fun p=> [p.1,p.2]) r)=some r from unpair_pair r];rfl
inductive HO where
 |box (xs:List D)
 |row (g:Tok) (e:Nat) (es:List (List D))
 |map (es:List (D×D))
 |iter (t:Tok) (n:Nat) (seen:List Nat)
 |raw (o:Obj)
instance:Inhabited HO:=⟨.box []⟩
def HO.grp:HO→Option Tok
 | .row g _ _=>some g
 |_=>none
abbrev Mem:=Tok→Option HO
structure St where
 s:Nat→D
 m:Mem
 c:Nat→Nat
def St.set(J:St)(i:Nat)(d:D):St:=⟨fun j=>if j=i then d else J.s j,J.m,J.c⟩
def St.put(J:St)(t:Tok)(o:Option HO):St:=⟨J.s,fun τ=>if τ=t then o else J.m τ,J.c⟩
def St.inc(J:St)(x:Nat):St:=⟨J.s,J.m,fun y=>if y=x then J.c y+1 else J.c y⟩
def HO.struck(g:Tok)(k:Nat):Option HO→Option HO
 |some (.row g' e es)=>if g'=g∧k<es.length then none else some (.row g' e es)
 |o=>o
def St.strike(J:St)(g:Tok)(k:Nat):St:=⟨J.s,fun τ=>HO.struck g k (J.m τ),J.c⟩
def St.tok(J:St)(x:Nat):Tok:= [x+1,J.c x]
def St.new(J:St)(x:Nat)(o:HO)(d:D):St:=((J.put (J.tok x) (some o)).set x d).inc x
@[simp] theorem St.set_m(J:St)(i:Nat)(d:D):(J.set i d).m=J.m:=rfl
@[simp] theorem St.set_c(J:St)(i:Nat)(d:D):(J.set i d).c=J.c:=rfl
@[simp] theorem St.put_s(J:St)(t:Tok)(o:Option HO):(J.put t o).s=J.s:=rfl
@[simp] theorem St.put_c(J:St)(t:Tok)(o:Option HO):(J.put t o).c=J.c:=rfl
@[simp] theorem St.inc_s(J:St)(x:Nat):(J.inc x).s=J.s:=rfl
@[simp] theorem St.inc_m(J:St)(x:Nat):(J.inc x).m=J.m:=rfl
@[simp] theorem St.strike_s(J:St)(g:Tok)(k:Nat):(J.strike g k).s=J.s:=rfl
@[simp] theorem St.strike_c(J:St)(g:Tok)(k:Nat):(J.strike g k).c=J.c:=rfl
theorem St.set_same(J:St)(i:Nat)(d:D):(J.set i d).s i=d:=by simp[St.set]
theorem St.set_ne(J:St){i j:Nat}(d:D)(h:j≠i):(J.set i d).s j=J.s j:=by simp[St.set,h]
def plainV:Value→Bool
 | .bool _| .int _ _| .string _| .nilIface| .nilFunc| .pointer none=>true
 | .func (.yield _) a b=>a.isEmpty&&b.isEmpty
 |_=>false
theorem plainV_oneCell{x:Value}(h:plainV x=true):x.oneCell'=true:=by
 cases x<;>simp_all [plainV,Value.oneCell']
abbrev Prot:=Nat→Nat→Prop
abbrev Places:=Tok→Option (Nat×Nat)
abbrev noTok:Places:=fun _=>none
inductive Rep(w:World)(pr:Prot):Places→Value→D→Prop
 |undef {tk:Places} {v:Value}:Rep w pr tk v .undef
 |v {tk:Places} {x:Value} (h:plainV x=true):Rep w pr tk x (.v x)
 |nil {tk:Places}:Rep w pr tk (.slice none 0 0) .nil
 |nil' {tk:Places}:Rep w pr tk (.slice none 0 0) (.list [])
 |mt {tk:Places} {a:Addr} {cap:Nat}:Rep w pr tk (.slice (some a) 0 cap) .mt
 |emp {tk:Places} {a:Addr} {cap:Nat}:Rep w pr tk (.slice (some a) 0 cap) (.list [])
 |list {tk:Places} {b off cap size:Nat} {es:List (List D)} (us:Nat→Value) (hes: ∀e∈es,e.length=size) (hcap:es.length≤cap)
   (hc: ∀j,j<es.length*size→w.cell? ⟨b,off+j,none⟩=some (us j)∧pr b (off+j)∧(us j).oneCell'=true)
   (hr: ∀(i:Nat) (e:List D),es[i]?=some e→ ∀(j:Nat) (d:D),e[j]?=some d→Rep w pr noTok (us (i*size+j)) d):
   Rep w pr tk (.slice (some ⟨b,off,none⟩) es.length cap) (.list es)
 |agg {tk:Places} {cs:Array Value} {xs:List D} (hs:cs.size=xs.length) (h1: ∀(i:Nat) (c:Value),cs[i]?=some c→c.oneCell'=true)
   (hr: ∀(i:Nat) (c:Value) (x:D),cs[i]?=some c→xs[i]?=some x→Rep w pr tk c x):Rep w pr tk (.agg cs) (.agg xs)
 |tup {tk:Places} {cs:Array Value} {xs:List D} (hs:cs.size=xs.length)
   (hr: ∀(i:Nat) (c:Value) (x:D),cs[i]?=some c→xs[i]?=some x→Rep w pr tk c x):Rep w pr tk (.tuple cs) (.tup xs)
 |lptr {tk:Places} {b off:Nat} {xs:List D} (us:Nat→Value)
   (hc: ∀j,j<xs.length→w.cell? ⟨b,off+j,none⟩=some (us j)∧pr b (off+j)∧(us j).oneCell'=true)
   (hr: ∀(j:Nat) (d:D),xs[j]?=some d→Rep w pr noTok (us j) d):Rep w pr tk (.pointer (some ⟨b,off,none⟩)) (.lptr xs)
 |clo {tk:Places} {f:Nat} {cv:Array Value} {caps:List D} (hf:f<1000000) (hs:cv.size=caps.length)
   (hr: ∀(i:Nat) (c:Value) (x:D),cv[i]?=some c→caps[i]?=some x→Rep w pr tk c x):Rep w pr tk (.func (.func f) #[] cv) (.clo f caps)
 |bclo {tk:Places} {f:Nat} {cv:Array Value} {caps:List D} (hs:cv.size=caps.length)
   (hr: ∀(i:Nat) (c:Value) (x:D),cv[i]?=some c→caps[i]?=some x→Rep w pr tk c x):Rep w pr tk (.func (.func f) cv #[]) (.clo (f+1000000) caps)
 |sl {tk:Places} {t:Tok} {b cap size off len c o:Nat} {lim:Option Nat} (ht:tk t=some (b,cap)) (hc:c=lim.getD (cap-off)) (hl:len≤c) (ho:o=off*size∨(c=0∧0<off)):
   Rep w pr tk (.slice (some ⟨b,o,none⟩) len c) (.sl t size off len lim)
 |ptr {tk:Places} {t:Tok} {b cap off:Nat} (ht:tk t=some (b,cap)):Rep w pr tk (.pointer (some ⟨b,off,none⟩)) (.ptr t off)
 |rptr {tk:Places} {t:Tok} {b cap size i j:Nat} (ht:tk t=some (b,cap)):Rep w pr tk (.pointer (some ⟨b,i*size+j,none⟩)) (.rptr t size i j)
 |mp {tk:Places} {t:Tok} {b cap:Nat} (ht:tk t=some (b,cap)):Rep w pr tk (.map (some b)) (.mp t)
 |nilmap {tk:Places}:Rep w pr tk (.map none) .nilmap
 |fm {tk:Places} {b:Nat} {ents:Array MapEntry} {es:List (D×D)} (hb:w.heap[b]?=some (.map ents es.length)) (hp:pr b 0) (hs:ents.size=es.length) (hl:es.length≤maxLen)
   (hn: ∀(i:Nat) (en:MapEntry),ents[i]?=some en→en.born=i)
   (hk: ∀(i:Nat) (en:MapEntry) (p:D×D),ents[i]?=some en→es[i]?=some p→Rep w pr noTok en.key p.1)
   (hv: ∀(i:Nat) (en:MapEntry) (p:D×D),ents[i]?=some en→es[i]?=some p→Rep w pr noTok en.val p.2):Rep w pr tk (.map (some b)) (.fm (pairR es))
structure Keeps(w w':World)(pr pr':Prot)(tk tk':Places):Prop where
 cell: ∀b o,pr b o→w'.heap[b]?=w.heap[b]?∧pr' b o
 tok: ∀t p,tk t=some p→tk' t=some p
theorem Keeps.refl(w:World)(pr:Prot)(tk:Places):Keeps w w pr pr tk tk:=⟨fun _ _ h=>⟨rfl,h⟩,fun _ _ h=>h⟩
theorem Rep.keeps{w w':World}{pr pr':Prot}{tk tk':Places}{v:Value}{d:D}(h:Rep w pr tk v d)(K:Keeps w w' pr pr' tk tk'):Rep w' pr' tk' v d:=by
 have hc:=K.cell
 have ht:=K.tok
 clear K
 induction h generalizing tk' with
 |undef=>exact .undef
 |v h=>exact .v h
 |nil=>exact .nil
 |nil'=>exact .nil'
 |mt=>exact .mt
 |emp=>exact .emp
 |list us hes hcap hcell hr ih=>
  exact .list us hes hcap (fun j hj=>let⟨h1,h2,h3⟩:=hcell j hj;⟨(World.cell?_of_block (w:=w) (hc _ _ h2).1).trans h1,(hc _ _ h2).2,h3⟩) (fun i e he j d hd=>ih i e he j d hd (fun _ _ h=>h))
 |agg hs h1 hr ih=>exact .agg hs h1 (fun i c x h1 h2=>ih i c x h1 h2 ht)
 |tup hs hr ih=>exact .tup hs (fun i c x h1 h2=>ih i c x h1 h2 ht)
 |lptr us hcell hr ih=>
  exact .lptr us (fun j hj=>let⟨h1,h2,h3⟩:=hcell j hj;⟨(World.cell?_of_block (w:=w) (hc _ _ h2).1).trans h1,(hc _ _ h2).2,h3⟩) (fun j d hd=>ih j d hd (fun _ _ h=>h))
 |clo hf hs hr ih=>exact .clo hf hs (fun i c x h1 h2=>ih i c x h1 h2 ht)
 |bclo hs hr ih=>exact .bclo hs (fun i c x h1 h2=>ih i c x h1 h2 ht)
 |sl h hc' hl ho=>exact .sl (ht _ _ h) hc' hl ho
 |ptr h=>exact .ptr (ht _ _ h)
 |rptr h=>exact .rptr (ht _ _ h)
 |mp h=>exact .mp (ht _ _ h)
 |nilmap=>exact .nilmap
 |fm hb hp hs hl hn hk hv ihk ihv=>exact .fm ((hc _ _ hp).1.trans hb) (hc _ _ hp).2 hs hl hn (fun i en p h1 h2=>ihk i en p h1 h2 (fun _ _ h=>h)) (fun i en p h1 h2=>ihv i en p h1 h2 (fun _ _ h=>h))
def D.okC:D→Bool
 | .agg _| .tup _| .undef=>false
 |_=>true
theorem Rep.oneCell{w:World}{pr:Prot}{tk:Places}{v:Value}{d:D}(h:Rep w pr tk v d)(hd:d.okC=true):v.oneCell'=true:=by
 cases h<;>first|rfl|(simp[D.okC]at hd;done)|(rename_i h;exact plainV_oneCell h)
def RepCs(w:World)(pr:Prot)(tk:Places)(cs:Array Value)(xs:List D):Prop:=
 cs.size=xs.length∧(∀(i:Nat) (c:Value),cs[i]?=some c→c.oneCell'=true)∧ ∀(i:Nat) (c:Value) (x:D),cs[i]?=some c→xs[i]?=some x→Rep w pr tk c x
theorem RepCs.keeps{w w':World}{pr pr':Prot}{tk tk':Places}{cs:Array Value}{xs:List D}(h:RepCs w pr tk cs xs)(K:Keeps w w' pr pr' tk tk'):RepCs w' pr' tk' cs xs:=
 ⟨h.1,h.2.1,fun i c x hc hx=>(h.2.2 i c x hc hx).keeps K⟩
theorem rep_agg{w:World}{pr:Prot}{tk:Places}{v:Value}{xs:List D}:Rep w pr tk v (.agg xs)↔ ∃cs,v= .agg cs∧RepCs w pr tk cs xs:=by
 constructor
 ·intro h;cases h with|agg a b c=>exact⟨_,rfl,a,b,c⟩
 ·rintro⟨cs,rfl,a,b,c⟩;exact .agg a b c
def RepRow(P:Program)(w:World)(pr:Prot)(tk:Places)(C:Array Value)(e:Nat)(es:List (List D)):Prop:=
 (∀c∈es,c.length=P.cellsOf e)∧ ∀(i:Nat) (c:List D),es[i]?=some c→ ∀(j:Nat) (d:D),c[j]?=some d→ ∃u,C[i*P.cellsOf e+j]?=some u∧u.oneCell'=true∧Rep w pr tk u d
theorem RepRow.keeps{P:Program}{w w':World}{pr pr':Prot}{tk tk':Places}{C:Array Value}{e:Nat}{es:List (List D)}(h:RepRow P w pr tk C e es)(K:Keeps w w' pr pr' tk tk'):RepRow P w' pr' tk' C e es:=
 ⟨h.1,fun i c hc j d hd=>let⟨u,h1,h2,h3⟩:=h.2 i c hc j d hd;⟨u,h1,h2,h3.keeps K⟩⟩
def RepO(P:Program)(w:World)(pr:Prot)(tk:Places)(t:Tok):HO→Prop
 | .box xs=> ∃b cap C ty,tk t=some (b,cap)∧w.heap[b]?=some (.cells C ty (0,0))∧RepCs w pr tk C xs
 | .row _ e es=> ∃b cap C,tk t=some (b,cap)∧w.heap[b]?=some (.cells C e (0,0))∧es.length≤cap∧cap≤maxLen∧C.size=cap*P.cellsOf e∧RepRow P w pr tk C e es
 | .map es=> ∃b cap ents,tk t=some (b,cap)∧w.heap[b]?=some (.map ents es.length)∧ents.size=es.length∧es.length≤maxLen∧
   ∀(i:Nat) (en:MapEntry) (p:D×D),ents[i]?=some en→es[i]?=some p→en.born=i∧Rep w pr tk en.key p.1∧Rep w pr tk en.val p.2
 | .iter u n seen=> ∃b cap b' cap',tk t=some (b,cap)∧tk u=some (b',cap')∧w.heap[b]?=some (.mapIter (some b') n seen.toArray n)
 | .raw o=> ∃b cap,tk t=some (b,cap)∧w.heap[b]?=some o
theorem RepO.keeps{P:Program}{w w':World}{pr pr':Prot}{tk tk':Places}{t:Tok}{o:HO}(h:RepO P w pr tk t o)(K:Keeps w w' pr pr' tk tk')(hb: ∀b cap,tk t=some (b,cap)→w'.heap[b]?=w.heap[b]?):RepO P w' pr' tk' t o:=by
 cases o with
 |box xs=>
  obtain⟨b,cap,C,ty,h1,h2,h3⟩:=h
  exact⟨b,cap,C,ty,K.tok _ _ h1,(hb b cap h1).trans h2,h3.keeps K⟩
 |row g e es=>
  obtain⟨b,cap,C,h1,h2,h3,h4,h5,h6⟩:=h
  exact⟨b,cap,C,K.tok _ _ h1,(hb b cap h1).trans h2,h3,h4,h5,h6.keeps K⟩
 |map es=>
  obtain⟨b,cap,ents,h1,h2,h3,h4,h5⟩:=h
  exact⟨b,cap,ents,K.tok _ _ h1,(hb b cap h1).trans h2,h3,h4,fun i en p he hp=>let⟨g1,g2,g3⟩:=h5 i en p he hp;⟨g1,g2.keeps K,g3.keeps K⟩⟩
 |iter u n seen=>
  obtain⟨b,cap,b',cap',h1,h2,h3⟩:=h
  exact⟨b,cap,b',cap',K.tok _ _ h1,K.tok _ _ h2,(hb b cap h1).trans h3⟩
 |raw o=>obtain⟨b,cap,h1,h2⟩:=h;exact⟨b,cap,K.tok _ _ h1,(hb b cap h1).trans h2⟩
theorem RepO.place{P:Program}{w:World}{pr:Prot}{tk:Places}{t:Tok}{o:HO}(h:RepO P w pr tk t o): ∃b cap,tk t=some (b,cap)∧b<w.heap.size:=by
 have lt: ∀{b:Nat} {x:Obj},w.heap[b]?=some x→b<w.heap.size:=fun h=>(Array.getElem?_eq_some_iff.1 h).1
 cases o with
 |box xs=>obtain⟨b,cap,C,ty,h1,h2,_⟩:=h;exact⟨b,cap,h1,lt h2⟩
 |row g e es=>obtain⟨b,cap,C,h1,h2,_⟩:=h;exact⟨b,cap,h1,lt h2⟩
 |map es=>obtain⟨b,cap,ents,h1,h2,_⟩:=h;exact⟨b,cap,h1,lt h2⟩
 |iter u n seen=>obtain⟨b,cap,b',cap',h1,_,h2⟩:=h;exact⟨b,cap,h1,lt h2⟩
 |raw o=>obtain⟨b,cap,h1,h2⟩:=h;exact⟨b,cap,h1,lt h2⟩
structure MemOK(P:Program)(w:World)(pr:Prot)(tk:Places)(m:Mem):Prop where
 obj: ∀t o,m t=some o→RepO P w pr tk t o
 inj: ∀t t' o o' b c c',m t=some o→m t'=some o'→tk t=some (b,c)→tk t'=some (b,c')→t=t'∨(o.grp.isSome=true∧o.grp=o'.grp)
theorem MemOK.keeps{P:Program}{w w':World}{pr pr':Prot}{tk tk':Places}{m:Mem}(M:MemOK P w pr tk m)(K:Keeps w w' pr pr' tk tk')(hb: ∀t o b c,m t=some o→tk t=some (b,c)→w'.heap[b]?=w.heap[b]?):MemOK P w' pr' tk' m:=by
 refine⟨fun t o h=>(M.obj t o h).keeps K fun b c hc=>hb t o b c h hc,fun t t' o o' b c c' h h' ht ht'=> ?_⟩
 obtain⟨b1,c1,h1,_⟩:=(M.obj t o h).place
 obtain⟨b2,c2,h2,_⟩:=(M.obj t' o' h').place
 have e1:=K.tok _ _ h1
 have e2:=K.tok _ _ h2
 rw[ht]at e1
 rw[ht']at e2
 cases e1
 cases e2
 exact M.inj t t' o o' b c c' h h' h1 h2
def blocksOf(tk:Places)(m:Mem)(b:Nat):Prop:= ∃t o c,m t=some o∧tk t=some (b,c)
structure Chg(A:Nat→Prop)(w w':World):Prop where
 os:w'.os=w.os
 tape:w'.tape=w.tape
 output:w'.output=w.output
 size:w.heap.size≤w'.heap.size
 block: ∀k,k<w.heap.size→ ¬A k→w'.heap[k]?=w.heap[k]?
 drawn:w.drawn≤w'.drawn
theorem Chg.refl(A:Nat→Prop)(w:World):Chg A w w:=⟨rfl,rfl,rfl,Nat.le_refl _,fun _ _ _=>rfl,Nat.le_refl _⟩
theorem Chg.trans{A B:Nat→Prop}{a b c:World}(h:Chg A a b)(k:Chg B b c)(hB: ∀x,x<a.heap.size→B x→A x):Chg A a c:=
 ⟨k.os.trans h.os,k.tape.trans h.tape,k.output.trans h.output,Nat.le_trans h.size k.size,fun x hx hA=>
  (k.block x (Nat.lt_of_lt_of_le hx h.size) fun hb=>hA (hB x hx hb)).trans (h.block x hx hA),Nat.le_trans h.drawn k.drawn⟩
theorem Chg.mono{A B:Nat→Prop}{a b:World}(h:Chg A a b)(hB: ∀x,x<a.heap.size→A x→B x):Chg B a b:=
 ⟨h.os,h.tape,h.output,h.size,fun x hx hb=>h.block x hx fun ha=>hb (hB x hx ha),h.drawn⟩
theorem Chg.alloc(A:Nat→Prop)(w:World)(o:Obj):Chg A w (w.alloc o):=
 ⟨rfl,rfl,rfl,by simp,fun k hk _=>(Go.MapKept.heap_alloc w o).2 k hk,Nat.le_refl _⟩
theorem Chg.cell{A:Nat→Prop}{w w':World}(h:Chg A w w'){b:Nat}(o:Nat)(hb:b<w.heap.size)(hA: ¬A b):w'.cell? ⟨b,o,none⟩=w.cell? ⟨b,o,none⟩:=World.cell?_of_block (w:=w) (h.block b hb hA)
end
section
structure Cfg where
 fr:Nat→Nat
 fz:Nat→Bool
inductive PK where
 |mv
 |pick
 |ibin (op:BinOp)
 |ishift (op:BinOp)
 |beq (neg:Bool)
 |seq (neg:Bool)
 |aeq (neg:Bool) (ks:List Nat)
 |snil (neg:Bool)
 |sop (op:BinOp)
 |inot
 |ineg
 |llen
 |slen
 |load (n:Nat) (agg:Bool)
 |fld (off:Nat)
 |idx (e size:Nat)
 |aidx (n size:Nat)
 |ext (k:Nat)
 |conv (k:IntKind)
 |afld (off n:Nat) (agg:Bool)
 |build (zero:List D) (places:List (Nat×Nat))
 |clo (f:Nat)
 |mx2 (mx:Bool)
 |mx3 (mx:Bool)
 |aix (n size:Nat) (agg:Bool)
 |chk
 |slc (size:Nat) (lo hi mx:Bool)
 |sla (n size:Nat) (lo hi:Bool)
 |fbox (n:Nat)
 |lkp (ks:List Nat) (zero:D) (ok:Bool)
 |ent
 |call (f:Nat)
 |ccall
 deriving Inhabited
def D.asBool:D→Option Bool
 | .v (.bool b)=>some b
 |_=>none
def D.elems(m:Mem):D→Option (List (List D))
 | .list es=>some es
 | .nil| .mt=>some []
 | .sl t size off len _=>match m t with
  |some (.row _ _ es)=>if off+len≤es.length∧es.all (fun c=>c.length==size)=true then some ((es.drop off).take len)else none
  |some (.box xs)=>if size=1∧off+len≤xs.length then some (((xs.drop off).take len).map fun d=> [d])else none
  |_=>none
 |_=>none
def D.lenD:D→Option Nat
 | .list es=>some es.length
 | .nil| .mt=>some 0
 | .sl _ _ _ len _=>some len
 |_=>none
abbrev bv(b:Bool):D:= .v (.bool b)
abbrev iv(n:Int):D:= .v (.int .i64 n)
def ibinV(op:BinOp)(k:IntKind)(a b:Int):Option D:=
 match op with
 | .add=>some (.v (.int k (k.wrap (a+b))))
 | .sub=>some (.v (.int k (k.wrap (a-b))))
 | .mul=>some (.v (.int k (k.wrap (a*b))))
 | .quo=>if b=0 then none else some (.v (.int k (k.wrap (a.tdiv b))))
 | .rem=>if b=0 then none else some (.v (.int k (a.tmod b)))
 | .eql=>some (bv (a==b))
 | .neq=>some (bv (a !=b))
 | .lss=>some (bv (decide (a<b)))
 | .leq=>some (bv (decide (a≤b)))
 | .gtr=>some (bv (decide (a>b)))
 | .geq=>some (bv (decide (a≥b)))
 | .and| .or| .xor| .andNot=>some (.v (.int k (bits op k a b)))
 |_=>none
def ishiftV(op:BinOp)(k:IntKind)(a b:Int):Option D:=
 if b<0 then none else
 match op with
 | .shl=>some (.v (.int k (k.wrap (a*2^(min b.toNat k.bits)))))
 | .shr=>some (.v (.int k (a.fdiv (2^(min b.toNat k.bits)))))
 |_=>none
def D.flatC:D→Bool
 | .v _=>true
 |_=>false
def D.flat:D→Bool
 | .agg xs=>xs.all D.flatC
 | .tup xs=>xs.all fun d=>match d with
  | .agg ys=>ys.all D.flatC
  |d=>d.flatC
 |d=>d.flatC
def D.noTB:D→Bool
 | .v _| .nil| .mt| .list _| .lptr _| .nilmap| .fm _=>true
 |_=>false
def D.noTC:D→Bool
 | .clo _ xs=>xs.all D.noTB
 |d=>d.noTB
def D.noT:D→Bool
 | .agg xs=>xs.all D.noTC
 | .clo _ xs=>xs.all D.noTC
 | .tup xs=>xs.all fun d=>match d with
  | .agg ys=>ys.all D.noTC
  |d=>d.noTC
 |d=>d.noTC
def D.own(d:D):D:= .tup [.undef,d]
def D.isOwn:D→Bool
 | .tup [.undef,_]=>true
 |_=>false
def D.bare:D→D
 | .tup [.undef,d]=>d
 |d=>d
def D.nz:D→D
 | .nil| .mt=> .list []
 |d=>d
def viewRow(f:D→Option D)(c:List D):Option (List D):=if c.all D.flatC then some c else c.mapM f
def viewRows(f:D→Option D)(es:List (List D)):Option (List (List D)):=if es.all (fun c=>c.all D.flatC)then some es else es.mapM (viewRow f)
def viewC(m:Mem):Nat→D→Option D
 |0,_=>none
 |n+1,d=>match d with
  | .v x=>some (.v x)
  | .nil| .mt=>some (.list [])
  | .list es=>some (.list es)
  | .lptr xs=>some (.lptr xs)
  | .nilmap=>some .nilmap
  | .fm es=>some (.fm es)
  | .mp t=>match m t with
   |some (.map es)=>if es.all (fun p=>p.1.noT&&p.2.noT)then some (.fm (pairR es))else none
   |_=>none
  | .sl t size off len lim=>((D.sl t size off len lim).elems m).bind fun es=>(viewRows (viewC m n) es).map .list
  | .ptr t off=>match m t with
   |some (.box xs)=>if off≤xs.length then(viewRow (viewC m n) (xs.drop off)).map .lptr else none
   |_=>none
  | .rptr t size i j=>match m t with
   |some (.row _ _ es)=>(es[i]?).bind fun c=>if c.length=size∧j≤size then(viewRow (viewC m n) (c.drop j)).map .lptr else none
   |_=>none
  | .clo f xs=>(viewRow (viewC m n) xs).map (.clo f)
  |_=>none
def viewA(m:Mem):D→Option D
 | .agg xs=>(viewRow (viewC m 6) xs).map .agg
 |d=>viewC m 6 d
def putAt(cells:List D)(off:Nat)(xs:List D):List D:=cells.take off++xs++cells.drop (off+xs.length)
def D.cells:D→List D
 | .agg xs=>xs
 |d=> [d]
def fillV:List D→List (Nat×Nat)→List D→Option (List D)
 |cells,[],[]=>some cells
 |cells,(off,n)::ps,d::ds=>if d.cells.length=n∧off+n≤cells.length then fillV (putAt cells off d.cells) ps ds else none
 |_,_,_=>none
def chop(size:Nat):Nat→List D→List (List D)
 |0,_=> []
 |n+1,l=>l.take size::chop size n (l.drop size)
def maxMade:Nat:=1048576
structure Env where
 p:Nat→List D→Option D
 q:Nat→List D→Option (D×Mem)
 m:Nat→Mem→List D→Option (D×Mem)
 e:Nat→Nat→List D→Option D
section
variable (Γ : Env) (m : Mem)
def callV(f:Nat)(ds:List D):Option D:=
 (ds.mapM (viewA m)).bind fun as=>(Γ.p f as).bind fun r=>if(r.bare.flat||r.isOwn&&r.bare.noT)||ds.all D.noT&&r.bare.noT then some r.bare else none
def mvV:List D→Option D| [d]=>some d|_=>none
def pickV:List D→Option D| [c,a,b]=>c.asBool.bind fun x=>some (bif x then a else b)|_=>none
def binV(op:BinOp):List D→Option D| [.v (.int k a), .v (.int k' b)]=>if k=k' then ibinV op k a b else none|_=>none
def shiftV(op:BinOp):List D→Option D| [.v (.int k a), .v (.int _ b)]=>ishiftV op k a b|_=>none
def beqV(neg:Bool):List D→Option D| [.v (.bool a), .v (.bool b)]=>some (bv (if neg then !(a==b)else a==b))|_=>none
def seqV(neg:Bool):List D→Option D| [.v (.string a), .v (.string b)]=>some (bv (if neg then !(a.toList==b.toList)else a.toList==b.toList))|_=>none
def notV:List D→Option D| [.v (.bool a)]=>some (bv (!a))|_=>none
def negV:List D→Option D| [.v (.int k a)]=>some (.v (.int k (k.wrap (0-a))))|_=>none
def lenV:List D→Option D| [d]=>d.lenD.bind fun n=>some (iv n)|_=>none
def slenV:List D→Option D| [.v (.string a)]=>some (iv a.size)|_=>none
def loadV(n:Nat)(agg:Bool):List D→Option D
 | [.lptr xs]=>if n≤xs.length then(if agg then some (.agg (xs.take n))else xs[0]?)else none
 | [.ptr t off]=>match m t with
  |some (.box xs)=>if off+n≤xs.length then(if agg then some (.agg ((xs.drop off).take n))else xs[off]?)else none
  |_=>none
 | [.rptr t size i j]=>match m t with
  |some (.row _ _ es)=>(es[i]?).bind fun c=>if c.length=size∧j+n≤size then(if agg then some (.agg ((c.drop j).take n))else c[j]?)else none
  |some (.box xs)=>if size=1∧i+j+n≤xs.length then(if agg then some (.agg ((xs.drop (i+j)).take n))else xs[i+j]?)else none
  |_=>none
 |_=>none
def fboxV(n:Nat):List D→Option D
 | [d]=>if d.cells.length=n∧d.cells.all D.okC=true∧d.cells.all D.noTC=true then some (.lptr d.cells)else none
 |_=>none
def fldV(off:Nat):List D→Option D
 | [.lptr xs]=>some (.lptr (xs.drop off))
 | [.ptr t o]=>some (.ptr t (o+off))
 | [.rptr t size i j]=>some (.rptr t size i (j+off))
 |_=>none
def idxV(_ size:Nat):List D→Option D
 | [.list es, .v (.int _ n)]=>if n<0 then none else(es[n.toNat]?).bind fun c=>if c.length=size then some (.lptr c)else none
 | [.sl t size' off len _, .v (.int _ n)]=>if n<0 then none else if size'=size∧n.toNat<len then some (.rptr t size (off+n.toNat) 0)else none
 |_=>none
def aidxV(n size:Nat):List D→Option D
 | [.lptr xs, .v (.int _ i)]=>if 0≤i∧i<n then some (.lptr (xs.drop (i.toNat*size)))else none
 | [.ptr t o, .v (.int _ i)]=>if 0≤i∧i<n then some (.ptr t (o+i.toNat*size))else none
 | [.rptr t sz k j, .v (.int _ i)]=>if 0≤i∧i<n then some (.rptr t sz k (j+i.toNat*size))else none
 |_=>none
def extV(k:Nat):List D→Option D| [.tup xs]=>xs[k]?|_=>none
def convV(k:IntKind):List D→Option D| [.v (.int _ a)]=>some (.v (.int k (k.wrap a)))|_=>none
def afldV(off n:Nat)(agg:Bool):List D→Option D
 | [.agg xs]=>if off+n≤xs.length then(if agg then some (.agg ((xs.drop off).take n))else xs[off]?)else none
 |_=>none
def buildV(zero:List D)(places:List (Nat×Nat))(ds:List D):Option D:=if ds.all (fun d=>d.cells.all D.okC)then(fillV zero places ds).map .agg else none
def D.isDef:D→Bool
 | .undef=>false
 |_=>true
def cloV(f:Nat)(ds:List D):Option D:=if ds.all D.isDef then some (.clo f ds)else none
def mx2V(mx:Bool):List D→Option D| [.v (.int k a), .v (.int _ b)]=>some (.v (.int k (if mx then(if b>a then b else a)else(if b<a then b else a))))|_=>none
def mx3V(mx:Bool):List D→Option D
 | [.v (.int k a), .v (.int _ b), .v (.int _ c)]=>some (.v (.int k (if mx then(if c>(if b>a then b else a)then c else(if b>a then b else a))else(if c<(if b<a then b else a)then c else(if b<a then b else a)))))
 |_=>none
def aixV(n size:Nat)(agg:Bool):List D→Option D
 | [.agg xs, .v (.int _ i)]=>if 0≤i∧i<n∧i.toNat*size+size≤xs.length then(if agg then some (.agg ((xs.drop (i.toNat*size)).take size))else xs[i.toNat*size]?)else none
 |_=>none
def kindNo:IntKind→Nat
 | .i8=>0| .i16=>1| .i32=>2| .i64=>3| .u8=>4| .u16=>5| .u32=>6| .u64=>7
def eqCells:List Nat→List D→List D→Option Bool
 | [],[],[]=>some true
 |n::ks, .v (.int k a)::xs, .v (.int k' b)::ys=>if n=kindNo k∧n=kindNo k' then(eqCells ks xs ys).map fun r=>(a==b)&&r else none
 |8::ks, .v (.bool a)::xs, .v (.bool b)::ys=>(eqCells ks xs ys).map fun r=>(a==b)&&r
 |9::ks, .v (.string a)::xs, .v (.string b)::ys=>(eqCells ks xs ys).map fun r=>(a.toList==b.toList)&&r
 |_,_,_=>none
def aeqV(neg:Bool)(ks:List Nat):List D→Option D
 | [.agg xs, .agg ys]=>(eqCells ks xs ys).map fun r=>bv (if neg then !r else r)
 |_=>none
def snilV(neg:Bool):List D→Option D
 | [d, .nil]=>match d with
  | .nil=>some (bv (!neg))
  | .mt=>some (bv neg)
  | .list (_::_)=>some (bv neg)
  | .sl .. =>some (bv neg)
  |_=>none
 |_=>none
def chkV:List D→Option D
 | [.ptr t o]=>some (.ptr t o)
 | [.rptr t size i j]=>some (.rptr t size i j)
 | [.lptr xs]=>some (.lptr xs)
 | [.clo f cs]=>some (.clo f cs)
 |_=>none
def cutV(es:List (List D))(lo hi:Int):Option D:=
 if 0≤lo∧lo≤hi∧hi≤es.length then some (.list ((es.drop lo.toNat).take (hi.toNat-lo.toNat)))else none
def intsV:List D→Option (List Int)
 | []=>some []
 | .v (.int _ n)::r=>(intsV r).map (n:: ·)
 |_=>none
def boundsV(n:Nat)(lo hi mx:Bool)(l:List Int):Option (Int×Int×Option Int):=
 match lo,hi,mx,l with
 |false,false,false,[]=>some (0,n,none)
 |true,false,false,[a]=>some (a,n,none)
 |false,true,false,[b]=>some (0,b,none)
 |true,true,false,[a,b]=>some (a,b,none)
 |false,true,true,[b,c]=>some (0,b,some c)
 |true,true,true,[a,b,c]=>some (a,b,some c)
 |_,_,_,_=>none
def roomV(t:Tok)(off:Nat)(lim:Option Nat)(h:Int):Bool:=
 match lim,m t with
 |none,some (.row _ _ es)=>decide ((off:Int)+h≤es.length)
 |_,_=>false
def slcV(size:Nat)(lo hi mx:Bool):List D→Option D
 | .sl t size' off len lim::r=>(intsV r).bind fun l=>(boundsV len lo hi mx l).bind fun q=>
  if 0≤q.1∧q.1≤q.2.1∧(q.2.1≤len∨roomV m t off lim q.2.1=true)∧size'=size then
   match q.2.2 with
   |none=>some (.sl t size (off+q.1.toNat) (q.2.1.toNat-q.1.toNat) (lim.map (· -q.1.toNat)))
   |some c=>if q.2.1≤c∧c≤len then some (.sl t size (off+q.1.toNat) (q.2.1.toNat-q.1.toNat) (some (c.toNat-q.1.toNat)))else none
  else none
 |d::r=>(match d with| .list es=>some es| .mt=>some []| .nil=>some []|_=>none).bind fun es=>
  if es.all (fun c=>c.length==size)=false then none else(intsV r).bind fun l=>(boundsV es.length lo hi mx l).bind fun q=>
   match q.2.2 with
   |none=>cutV es q.1 q.2.1
   |some c=>if q.2.1≤c∧c≤es.length then cutV es q.1 q.2.1 else none
 |_=>none
def slaV(n size:Nat)(lo hi:Bool):List D→Option D
 | .ptr t off::r=>(intsV r).bind fun l=>(boundsV n lo hi false l).bind fun q=>
  if 0≤q.1∧q.1≤q.2.1∧q.2.1≤n∧size=1 then some (.sl t 1 (off+q.1.toNat) (q.2.1.toNat-q.1.toNat) (some (n-q.1.toNat)))else none
 | .lptr xs::r=>(intsV r).bind fun l=>(boundsV n lo hi false l).bind fun q=>
  if 0≤q.1∧q.1≤q.2.1∧q.2.1≤n∧n*size≤xs.length then some (.list (chop size (q.2.1.toNat-q.1.toNat) (xs.drop (q.1.toNat*size))))else none
 |_=>none
def D.okM:D→Bool
 | .tup _| .undef| .clo .. =>false
 | .agg xs=>xs.all D.okC
 |_=>true
def eqKey:List Nat→D→D→Option Bool
 |99::ks, .agg xs, .agg ys=>eqCells ks xs ys
 | [n],x,y=>eqCells [n] [x] [y]
 |_,_,_=>none
def findV(ks:List Nat)(k:D):List (D×D)→Nat→Option (Option Nat)
 | [],_=>some none
 |p::r,i=>(eqKey ks k p.1).bind fun b=>if b then some (some i)else findV ks k r (i+1)
def lkpV(ks:List Nat)(zero:D)(ok:Bool):List D→Option D
 | [.mp t,k]=>match m t with
  |some (.map es)=>if k.okM=true∧eqKey ks k k=some true then(findV ks k es 0).bind fun r=>match r with
   |none=>some (if ok then .tup [zero,bv false]else zero)
   |some i=>(es[i]?).map fun p=>if ok then .tup [p.2,bv true]else p.2
   else none
  |_=>none
 | [.fm rows,k]=>(unpairR rows).bind fun es=>if k.okM=true∧eqKey ks k k=some true then(findV ks k es 0).bind fun r=>match r with
   |none=>some (if ok then .tup [zero,bv false]else zero)
   |some i=>(es[i]?).map fun p=>if ok then .tup [p.2,bv true]else p.2
   else none
 |_=>none
def entV:List D→Option D
 | [.ptr t 0]=>match m t with
  |some (.iter u n seen)=>match m u with
   |some (.map es)=>if es.length=n then(seen.getLast?).bind fun i=>(es[i]?).map fun p=> .tup [p.1,p.2]else none
   |_=>none
  |_=>none
 |_=>none
def ccallV:List D→Option D| .clo f caps::ds=>if f<1000000 then callV Γ m f (ds++caps)else none|_=>none
def PK.run:PK→List D→Option D
 | .mv=>mvV
 | .pick=>pickV
 | .ibin op=>binV op
 | .ishift op=>shiftV op
 | .beq neg=>beqV neg
 | .seq neg=>seqV neg
 | .inot=>notV
 | .ineg=>negV
 | .llen=>lenV
 | .slen=>slenV
 | .load n agg=>loadV m n agg
 | .fld off=>fldV off
 | .idx e size=>idxV e size
 | .aidx n size=>aidxV n size
 | .ext k=>extV k
 | .conv k=>convV k
 | .afld off n agg=>afldV off n agg
 | .build zero places=>buildV zero places
 | .clo f=>cloV f
 | .mx2 mx=>mx2V mx
 | .mx3 mx=>mx3V mx
 | .aix n size agg=>aixV n size agg
 | .aeq neg ks=>aeqV neg ks
 | .snil neg=>snilV neg
 | .chk=>chkV
 | .slc size lo hi mx=>slcV m size lo hi mx
 | .sla n size lo hi=>slaV n size lo hi
 | .fbox n=>fboxV n
 | .lkp ks zero ok=>lkpV m ks zero ok
 | .ent=>entV m
 | .call f=>callV Γ m f
 | .ccall=>ccallV Γ m
 | .sop _=>fun _=>none
end
def isAggT(P:Program)(t:Nat):Option Bool:=
 match P.underlying t with
 |some (.struct _)|some (.array _ _)=>some true
 |some _=>some false
 |none=>none
def fieldOff(P:Program)(t f:Nat):Option (Nat×Nat×Bool):=
 match P.underlying t with
 |some (.struct fs)=>(fs[f]?).bind fun x=>(isAggT P x.type).bind fun g=>if P.cellsOf x.type=0 then none else some (x.offset,P.cellsOf x.type,g)
 |_=>none
def dVal:Value→Option D
 | .slice none 0 0=>some .nil
 | .bool b=>some (.v (.bool b))
 | .int k n=>some (.v (.int k n))
 | .string s=>some (.v (.string s))
 | .nilIface=>some (.v .nilIface)
 | .nilFunc=>some (.v .nilFunc)
 | .pointer none=>some (.v (.pointer none))
 | .map none=>some .nilmap
 |_=>none
def dZero(P:Program)(t:Nat):Option (List D):=((P.info? t).bind (·.zero)).bind fun z=>z.cells.toList.mapM dVal
def dBuild(P:Program)(t:Nat)(idx:List Nat):Option (List D×List (Nat×Nat)):=
 (dZero P t).bind fun z=>match P.underlying t with
 |some (.struct fs)=>(fs.toList.mapM (fun f=>(P.info? f.type).map fun i=>(f.offset,i.size))).bind fun pl=>(idx.mapM (fun i=>pl.toArray[i]?)).map fun ps=>(z,ps)
 |some (.array _ e)=>(P.info? e).map fun i=>(z,idx.map (fun k=>(k*i.size,i.size)))
 |_=>none
def dBslice(P:Program)(t len:Nat)(idx:List Nat):Option (Nat×Nat×List D×List (Nat×Nat)):=
 match P.underlying t with
 |some (.slice e)=>(P.info? e).bind fun i=>if len*i.size≤65536∧0<i.size then
   (dZero P e).bind fun z=>if z.length=i.size then
    some (e,i.size,(List.range (len*i.size)).map fun j=>z.getD (j%i.size) .undef,idx.map fun k=>(k*i.size,i.size))else none
  else none
 |_=>none
def dZeroD(P:Program)(t:Nat):Option D:=
 ((P.info? t).bind (·.zero)).bind fun z=>match z with
  | .agg cs=>(cs.toList.mapM dVal).map .agg
  |v=>dVal v
def kindOf1(P:Program)(t:Nat):Option Nat:=
 match P.underlying t with
 |some (.int k)=>some (kindNo k)
 |some .bool=>some 8
 |some .string=>some 9
 |_=>none
mutual
def kindsT(P:Program):Nat→Nat→Option (List Nat)
 |0,_=>none
 |f+1,t=>match P.underlying t with
  |some (.struct fs)=>if P.stoodInHeld t=false then(kindsFs P f 0 fs.toList).bind fun ks=>if(P.info? t).map (·.size)=some ks.length∧0<ks.length then some ks else none else none
  |some (.array n e)=>(kindsT P f e).bind fun ks=>if(P.info? e).map (·.size)=some ks.length∧(P.info? t).map (·.size)=some (List.replicate n ks).flatten.length∧0<(List.replicate n ks).flatten.length then some ((List.replicate n ks).flatten)else none
  |_=>(kindOf1 P t).map fun k=> [k]
def kindsFs(P:Program):Nat→Nat→List Field→Option (List Nat)
 |_,_,[]=>some []
 |0,_,_::_=>none
 | f + 1, i, g :: gs => if g.name ≠ "_" ∧ g.offset = i then (kindsT P f g.type).bind fun ks => (kindsFs P f (i + ks.length) gs).map (ks ++ ·) else none
end
def kindsOf(P:Program)(t:Nat):Option (List Nat):=
 match P.underlying t with
 |some (.struct fs)=>if P.stoodInHeld t then none else kindsFs P 40 0 fs.toList
 |some (.array n e)=>(kindsT P 40 e).bind fun ks=>if(P.info? e).map (·.size)=some ks.length then some ((List.replicate n ks).flatten)else none
 |_=>none
def dKey(P:Program)(t:Nat):Option (List Nat×Nat):=
 match P.underlying t with
 |some (.map k e)=>match kindOf1 P k with
  |some n=>some ([n],e)
  |none=>match P.underlying k with
   |some (.struct fs)=>if fs.toList.all (fun g=>(kindOf1 P g.type).isSome)=true∧P.stoodInHeld k=false then(kindsFs P 40 0 fs.toList).map fun ks=>(99::ks,e)else none
   |some (.array _ el)=>if(kindOf1 P el).isSome=true∧(P.info? el).map (·.size)=some 1 then(kindsOf P k).map fun ks=>(99::ks,e)else none
   |_=>none
 |_=>none
def dAeq(P:Program)(op:BinOp)(t:Nat):Option PK:=
 if P.eqGuardType P.depth t then none else
 match op with
 | .eql=>(kindsOf P t).map (.aeq false)
 | .neq=>(kindsOf P t).map (.aeq true)
 |_=>none
def dSnil(P:Program)(op:BinOp)(t:Nat):Option PK:=
 match P.underlying t,op with
 |some (.slice _), .eql=>some (.snil false)
 |some (.slice _), .neq=>some (.snil true)
 |_,_=>none
def dAix(P:Program)(t:Nat):Option PK:=
 match P.underlying t with
 |some (.array n e)=>(isAggT P e).bind fun g=>if(P.info? e).isSome∧(g=true∨P.cellsOf e=1)then some (.aix n (P.cellsOf e) g)else none
 |_=>none
def dSlc(P:Program)(t:Nat)(x:Operand)(lo hi mx:Option Operand):Option (PK×List Operand):=
 match P.underlying t with
 |some (.array n e)=>if(P.info? e).isSome∧mx.isSome=false then some (.sla n (P.cellsOf e) lo.isSome hi.isSome,x::(lo.toList++hi.toList))else none
 |some (.slice e)=>if(P.info? e).isSome then some (.slc (P.cellsOf e) lo.isSome hi.isSome mx.isSome,x::(lo.toList++hi.toList++mx.toList))else none
 |_=>none
def dBin(P:Program)(op:BinOp)(t:Nat):Option PK:=
 match P.underlying t with
 |some (.int _)=>match op with
  | .shl| .shr=>some (.ishift op)
  |_=>some (.ibin op)
 |some .bool=>match op with
  | .eql=>some (.beq false)
  | .neq=>some (.beq true)
  |_=>none
 |some .string=>match op with
  | .eql=>some (.seq false)
  | .neq=>some (.seq true)
  |_=>none
 |_=>none
def dIdx(P:Program)(t:Nat):Option PK:=
 match P.underlying t with
 |some (.slice e)=>if(P.info? e).isSome then some (.idx e (P.cellsOf e))else none
 |some (.array n e)=>if(P.info? e).isSome then some (.aidx n (P.cellsOf e))else none
 |_=>none
def dUn:UnOp→Option PK
 | .not=>some .inot
 | .neg=>some .ineg
 |_=>none
def dConv(P:Program)(src dst:Nat):Option PK:=
 match P.underlying src,P.underlying dst with
 |some (.int _),some (.int k)=>some (.conv k)
 |_,_=>none
def dLoad(P:Program)(t:Nat):Option PK:=
 (isAggT P t).bind fun g=>if(P.info? t).isSome∧(g=true∨P.cellsOf t=1)then some (.load (P.cellsOf t) g)else none
def dBuiltin(P:Program)(b:Builtin)(ts:List Nat)(n:Nat):Option PK:=
 match b,ts,n with
 | .len,[t],1=>match P.underlying t with
  |some (.slice _)=>some .llen
  |some .string=>some .slen
  |_=>none
 | .max,_,2=>some (.mx2 true)
 | .min,_,2=>some (.mx2 false)
 | .max,_,3=>some (.mx3 true)
 | .min,_,3=>some (.mx3 false)
 |_,_,_=>none
def dCall(P:Program)(fr:Cfg)(c:Call):Option (PK×List Operand):=
 match c.callee with
 | .builtin b=>(dBuiltin P b c.argTypes.toList c.args.size).map fun k=>(k,c.args.toList)
 | .value (.func f)=>if fr.fr f=0∧f<1000000 then some (.call f,c.args.toList)else none
 | .value (.tmp t)=>some (.ccall, .tmp t::c.args.toList)
 |_=>none
def dPure(P:Program)(fr:Cfg):Op→Option (PK×List Operand)
 | .move x=>some (.mv,[x])
 | .assign x=>some (.mv,[x])
 | .pick c a b=>some (.pick,[c,a,b])
 | .load t a=>(dLoad P t).map fun k=>(k,[a])
 | .fieldAddr t x f=>(fieldOff P t f).map fun q=>(.fld q.1,[x])
 | .indexAddr t x i=>(dIdx P t).map fun k=>(k,[x,i])
 | .binOp op t x y _=>(((dBin P op t).or (dSnil P op t)).or (dAeq P op t)).map fun k=>(k,[x,y])
 | .unOp op _ x=>(dUn op).map fun k=>(k,[x])
 | .convert src dst x=>(dConv P src dst).map fun k=>(k,[x])
 | .extract t k=>some (.ext k,[t])
 | .call c=>dCall P fr c
 | .build t parts=>(dBuild P t (parts.toList.map (·.1))).map fun q=>(.build q.1 q.2,parts.toList.map (·.2))
 | .makeFunc (.func f) first captured=>if first.size=0∧f<1000000 then some (.clo f,captured.toList)else if captured.size=0 then some (.clo (f+1000000),first.toList)else none
 | .nilCheck x=>some (.chk,[x])
 | .index t x i=>(dAix P t).map fun k=>(k,[x,i])
 | .field t x f=>(fieldOff P t f).bind fun q=>if q.2.2=true∨q.2.1=1 then some (.afld q.1 q.2.1 q.2.2,[x])else none
 | .slice t x lo hi mx=>dSlc P t x lo hi mx
 | .lookup t x k ok=>(dKey P t).bind fun q=>(dZeroD P q.2).map fun z=>(.lkp q.1 z ok,[x,k])
 | .entry x=>some (.ent,[x])
 |_=>none
end
section
theorem add_off(b off j:Nat):(⟨b,off,none⟩:Addr).add j=⟨b,off+j,none⟩:=by unfold Addr.add;split<;>simp_all
section
variable {P : Program} {w : World} {pr : Prot} {tk : Places} {m : Mem}
theorem Rep.anyTok{v:Value}{d:D}(h:Rep w pr noTok v d):Rep w pr tk v d:=h.keeps ⟨fun _ _ h=>⟨rfl,h⟩,fun _ _ h=>by cases h⟩
theorem run_isAgg{t:Nat}{g:Bool}(h:isAggT P t=some g):(isAgg t).run P w= .ok g w:=by
 unfold isAggT at h
 cases hu:P.underlying t with
 |none=>simp[hu]at h
 |some d=>cases d<;>simp[hu]at h<;>subst h<;>simp[isAgg,run_underlying hu]
theorem sizeOf_run{e:Nat}(hi:(P.info? e).isSome):(sizeOf e).run P w= .ok (P.cellsOf e) w:=by
 obtain⟨i,hi⟩:=Option.isSome_iff_exists.1 hi
 simp[sizeOf,typeInfo,hi,Program.cellsOf]
theorem run_loadAt{t:Nat}{g:Bool}{b off:Nat}{us:Nat→Value}(hg:isAggT P t=some g)(hi:(P.info? t).isSome)(h1:g=true∨P.cellsOf t=1)
  (hc: ∀j,j<P.cellsOf t→w.cell? ⟨b,off+j,none⟩=some (us j)):
  (Instr.loadAt t (.pointer (some ⟨b,off,none⟩))).run P w= .ok (if g then .agg ((List.range (P.cellsOf t)).map us).toArray else us 0) w:=by
 have hs:=sizeOf_run (P:=P) (w:=w) hi
 have hl:=run_loadCells (P:=P) w ⟨b,off,none⟩ (P.cellsOf t) us (fun j hj=>by rw[add_off];exact hc j hj)
 cases g
 ·have h1:P.cellsOf t=1:=by simpa using h1
  have h0:=hc 0 (by omega)
  simp only[Nat.add_zero]at h0
  simp[Instr.loadAt,Instr.sureAddr,loadVar,run_isAgg hg,h0]
 ·simp[Instr.loadAt,Instr.sureAddr,loadVar,run_isAgg hg,hs,hl]
def CellsAt(w:World)(pr:Prot)(tk:Places)(b off:Nat)(xs:List D):Prop:=
 ∃us:Nat→Value,(∀j,j<xs.length→w.cell? ⟨b,off+j,none⟩=some (us j)∧(us j).oneCell'=true)∧ ∀j x,xs[j]?=some x→Rep w pr tk (us j) x
theorem CellsAt.drop{b off k:Nat}{xs:List D}(h:CellsAt w pr tk b off xs):CellsAt w pr tk b (off+k) (xs.drop k):=by
 obtain⟨us,h1,h2⟩:=h
 refine⟨fun j=>us (k+j),fun j hj=> ?_,fun j x hx=>h2 (k+j) x (by simpa using hx)⟩
 have:=h1 (k+j) (by simp at hj;omega)
 rwa[Nat.add_assoc]
theorem cellsAt_lptr{b off:Nat}{xs:List D}(h:Rep w pr tk (.pointer (some ⟨b,off,none⟩)) (.lptr xs)):CellsAt w pr tk b off xs:=by
 cases h with
 |lptr us hc hr=>exact⟨us,fun j hj=>⟨(hc j hj).1,(hc j hj).2.2⟩,fun j x hx=>(hr j x hx).anyTok⟩
theorem load_cells{t:Nat}{g:Bool}{b off:Nat}{xs:List D}{d:D}(hg:isAggT P t=some g)(hi:(P.info? t).isSome)(h1:g=true∨P.cellsOf t=1)
  (h:CellsAt w pr tk b off xs) (hn:P.cellsOf t≤xs.length) (hd:(if g then some (.agg (xs.take (P.cellsOf t)))else xs[0]?)=some d):
  ∃v,(Instr.loadAt t (.pointer (some ⟨b,off,none⟩))).run P w= .ok v w∧Rep w pr tk v d:=by
 obtain⟨us,hc,hr⟩:=h
 refine⟨_,run_loadAt hg hi h1 (fun j hj=>(hc j (by omega)).1), ?_⟩
 cases g
 ·have h1:P.cellsOf t=1:=by simpa using h1
  have hx:xs[0]?=some d:=by simpa using hd
  exact hr 0 d hx
 ·have hx:d= .agg (xs.take (P.cellsOf t)):=by simpa using hd.symm
  subst hx
  refine .agg (by simp;omega) (fun i c hic=> ?_) fun i c x hic hx=> ?_
  ·simp only[List.getElem?_toArray,Dz,Mz]at hic
   obtain⟨j,hj,rfl⟩:=hic
   have hj':=Lz hj
   simp at hj'
   exact(hc j (by omega)).2
  ·simp only[List.getElem?_toArray,Dz,Mz]at hic
   obtain⟨j,hj,rfl⟩:=hic
   obtain⟨hlt,rfl⟩:=Gz.1 hj
   simp at hlt
   simp only[List.getElem_range]
   refine hr i x ?_
   rw[List.getElem?_take_of_lt hlt]at hx
   exact hx
theorem cellsAt_box(M:MemOK P w pr tk m){t:Tok}{xs:List D}(hm:m t=some (.box xs)){b cap:Nat}(ht:tk t=some (b,cap))(off:Nat):CellsAt w pr tk b off (xs.drop off):=by
 obtain⟨b',cap',C,ty,h1,h3,h4,h5,h6⟩:=M.obj t _ hm
 rw[ht]at h1
 cases h1
 refine⟨fun j=>C.getD (off+j) undef,fun j hj=> ?_,fun j x hx=> ?_⟩
 ·have hlt:off+j<C.size:=by simp at hj;omega
  rw[cell_of_row w b (off+j) C ty (0,0) h3]
  simp only[Rz hlt,Array.getD,hlt,dif_pos]
  exact⟨rfl,h5 _ _ (Rz hlt)⟩
 ·rw[List.getElem?_drop]at hx
  have hlt:off+j<C.size:=by
   have:=(Gz.1 hx).1
   omega
  have:=h6 (off+j) C[off+j] x (Rz hlt) hx
  simpa[Array.getD,hlt]using this
theorem row_cell(M:MemOK P w pr tk m){t:Tok}{g:Tok}{e:Nat}{es:List (List D)}(hm:m t=some (.row g e es)){b cap:Nat}(ht:tk t=some (b,cap)){i j:Nat}{c:List D}{d:D}(hc:es[i]?=some c)(hd:c[j]?=some d):
  ∃u,w.cell? ⟨b,i*P.cellsOf e+j,none⟩=some u∧u.oneCell'=true∧Rep w pr tk u d:=by
 obtain⟨b',cap',C,h1,h3,_,_,_,_,h6⟩:=M.obj t _ hm
 rw[ht]at h1
 cases h1
 obtain⟨u,hu,h7,h8⟩:=h6 i c hc j d hd
 exact⟨u,by rw[cell_of_row w b _ C e (0,0) h3,hu],h7,h8⟩
theorem row_size(M:MemOK P w pr tk m){t:Tok}{g:Tok}{e:Nat}{es:List (List D)}(hm:m t=some (.row g e es)): ∀c∈es,c.length=P.cellsOf e:=by
 obtain⟨b',cap',C,h1,h3,_,_,_,h5,h6⟩:=M.obj t _ hm
 exact h5
theorem cellsAt_row(M:MemOK P w pr tk m){t:Tok}{g:Tok}{e:Nat}{es:List (List D)}(hm:m t=some (.row g e es)){b cap:Nat}(ht:tk t=some (b,cap)){i:Nat}{c:List D}(hc:es[i]?=some c)(j:Nat):
  CellsAt w pr tk b (i*c.length+j) (c.drop j):=by
 have hsz:=row_size M hm c (Lz hc)
 rw[hsz]
 have key: ∀k,k<(c.drop j).length→ ∃u,w.cell? ⟨b,i*P.cellsOf e+j+k,none⟩=some u∧u.oneCell'=true∧ ∀x,(c.drop j)[k]?=some x→Rep w pr tk u x:=fun k hk=>by
  simp only[List.length_drop]at hk
  have hjk:j+k<c.length:=by omega
  obtain⟨u,h1,h2,h3⟩:=row_cell M hm ht hc (j:=j+k) (d:=c[j+k]) (Ez hjk)
  refine⟨u,by rw[Nat.add_assoc];exact h1,h2,fun x hx=> ?_⟩
  rw[List.getElem?_drop,Ez hjk]at hx
  cases hx
  exact h3
 refine⟨fun k=>((w.cell? ⟨b,i*P.cellsOf e+j+k,none⟩).getD undef),fun k hk=> ?_,fun k x hx=> ?_⟩
 ·obtain⟨u,h1,h2,_⟩:=key k hk
  simp only[h1,Option.getD_some]
  exact⟨trivial,h2⟩
 ·obtain⟨u,h1,_,h3⟩:=key k (Gz.1 hx).1
  simp only[h1,Option.getD_some]
  exact h3 x hx
theorem load_sound(M:MemOK P w pr tk m){t:Nat}{g:Bool}{v:Value}{x d:D}(hg:isAggT P t=some g)(hi:(P.info? t).isSome)(h1:g=true∨P.cellsOf t=1)
  (h:Rep w pr tk v x) (hr:loadV m (P.cellsOf t) g [x]=some d): ∃u,(Instr.loadAt t v).run P w= .ok u w∧Rep w pr tk u d:=by
 cases x<;>simp only[loadV]at hr<;>try (cases hr;done)
 case lptr xs=>
  split at hr
  ·cases h with
   |lptr us hc hrr=>exact load_cells hg hi h1 (cellsAt_lptr (.lptr us hc hrr)) ‹_› hr
  ·cases hr
 case ptr τ off=>
  split at hr
  ·rename_i xs hm
   split at hr
   ·cases h with
    |ptr ht=>exact load_cells hg hi h1 (cellsAt_box M hm ht off) (by simp;omega) (by simpa using hr)
   ·cases hr
  ·cases hr
 case rptr τ size i j=>
  split at hr
  ·rename_i gg e es hm
   rw[Bz]at hr
   obtain⟨c,hc,hr⟩:=hr
   split at hr
   ·rename_i hcond
    obtain⟨rfl,hlen⟩:=hcond
    cases h with
    |rptr ht=>exact load_cells hg hi h1 (cellsAt_row M hm ht hc j) (by simp;omega) (by simpa using hr)
   ·cases hr
  ·rename_i xs hm
   split at hr
   ·rename_i hcond
    obtain⟨rfl,hlen⟩:=hcond
    cases h with
    |rptr ht=>rw[Nat.mul_one];exact load_cells hg hi h1 (cellsAt_box M hm ht (i+j)) (by simp;omega) (by simpa using hr)
   ·cases hr
  ·cases hr
theorem fld_sound{t f o n:Nat}{g:Bool}{v:Value}{x d:D}(hf:fieldOff P t f=some (o,n,g))(h:Rep w pr tk v x)(hr:fldV o [x]=some d):
  ∃u,(Instr.fieldAt t v f).run P w= .ok u w∧Rep w pr tk u d:=by
 unfold fieldOff at hf
 cases hu:P.underlying t with
 |none=>simp[hu]at hf
 |some ds=>
  cases ds<;>simp only[hu]at hf<;>try (cases hf;done)
  rename_i fs
  cases hfs:fs[f]? with
  |none=>simp[hfs]at hf
  |some fl=>
   simp only[hfs,Oz]at hf
   cases hg:isAggT P fl.type with
   |none=>simp[hg]at hf
   |some gg=>
    simp only[hg,Oz]at hf
    split at hf
    ·cases hf
    ·rename_i hsz
     simp only[Jz,Prod.mk.injEq]at hf
     obtain⟨rfl,_,_⟩:=hf
     have hinfo: ∃i,P.info? fl.type=some i:=by
      cases hi:P.info? fl.type with
      |none=>simp[Program.cellsOf,hi]at hsz
      |some i=>exact⟨i,rfl⟩
     obtain⟨i,hi⟩:=hinfo
     have hi0:i.size≠0:=by simpa[Program.cellsOf,hi]using hsz
     have run: ∀b off,(Instr.fieldAt t (.pointer (some ⟨b,off,none⟩)) f).run P w= .ok (.pointer (some ⟨b,off+fl.offset,none⟩)) w:=fun b off=>by
      simp[Instr.fieldAt,run_underlying hu,hfs,Instr.sureAddr,fieldPlace,sizeOf,typeInfo,hi,hi0,add_off]
     cases x<;>simp only[fldV]at hr<;>try (cases hr;done)
     case lptr xs=>
      cases h with
      |lptr us hc hrr=>
       cases hr
       rename_i b off
       refine⟨_,run b off, .lptr (fun j=>us (fl.offset+j)) (fun j hj=> ?_) fun j y hy=>hrr _ y (by simpa using hy)⟩
       have:=hc (fl.offset+j) (by simp at hj;omega)
       rwa[←Nat.add_assoc]at this
     case ptr τ off=>
      cases hr
      cases h with
      |ptr ht=>exact⟨_,run _ off, .ptr ht⟩
     case rptr τ size m j=>
      cases hr
      cases h with
      |rptr ht=>exact⟨_,run _ _,by rw[Nat.add_assoc];exact .rptr ht⟩
theorem idx_sound{t e:Nat}{v u:Value}{x y d:D}(hu:P.underlying t=some (.slice e))(hi:(P.info? e).isSome)
  (h:Rep w pr tk v x) (hy:Rep w pr tk u y) (hr:idxV e (P.cellsOf e) [x,y]=some d): ∃z,(Instr.indexAt t v u).run P w= .ok z w∧Rep w pr tk z d:=by
 cases x<;>cases y<;>simp only[idxV]at hr<;>try (cases hr;done)
 case list.v es yv=>
  cases yv<;>simp only[]at hr<;>try (cases hr;done)
  rename_i k n
  cases hy
  split at hr
  ·cases hr
  ·rename_i hn
   cases hc:es[n.toNat]? with
   |none=>simp[hc]at hr
   |some c=>
    simp only[hc,Oz]at hr
    split at hr
    ·rename_i hsz
     cases hr
     have hlt:=(Gz.1 hc).1
     cases h with
     |nil'=>simp at hlt
     |emp=>simp at hlt
     |list us hes hcap hcell hrr=>
      rename_i b off cap size
      have hsize:size=P.cellsOf e:=by rw[←hes c (Lz hc),hsz]
      subst hsize
      refine⟨.pointer (some ⟨b,off+n.toNat*P.cellsOf e,none⟩), ?_, .lptr (fun j=>us (n.toNat*P.cellsOf e+j)) (fun j hj=> ?_) fun j z hz=>hrr _ c hc j z hz⟩
      ·simp[Instr.indexAt,run_underlying hu,asIntOf,sizeOf_run hi,add_off,show 0≤n∧n<(es.length:Int) by omega]
      ·have hlen:n.toNat*P.cellsOf e+j<es.length*P.cellsOf e:=by
        have:(n.toNat+1)*P.cellsOf e≤es.length*P.cellsOf e:=Nat.mul_le_mul_right _ hlt
        rw[Nat.add_mul]at this
        omega
       have:=hcell _ hlen
       rwa[←Nat.add_assoc]at this
    ·cases hr
 case sl.v τ size' off len lim yv=>
  cases yv<;>simp only[]at hr<;>try (cases hr;done)
  rename_i k n
  cases hy
  split at hr
  ·cases hr
  ·rename_i hn
   split at hr
   ·rename_i hcond
    obtain⟨rfl,hlt⟩:=hcond
    cases hr
    cases h with
    |sl ht hc hl ho=>
     rename_i b cap c o
     have ho:o=off*P.cellsOf e:=by
      rcases ho with ho|ho
      ·exact ho
      ·omega
     subst ho
     refine⟨.pointer (some ⟨b,(off+n.toNat)*P.cellsOf e+0,none⟩), ?_, .rptr ht⟩
     simp[Instr.indexAt,run_underlying hu,asIntOf,sizeOf_run hi,add_off,Nat.add_mul,show 0≤n∧n<(len:Int) by omega]
   ·cases hr
theorem aidx_sound{t e k:Nat}{v u:Value}{x y d:D}(hu:P.underlying t=some (.array k e))(hi:(P.info? e).isSome)
  (h:Rep w pr tk v x) (hy:Rep w pr tk u y) (hr:aidxV k (P.cellsOf e) [x,y]=some d): ∃z,(Instr.indexAt t v u).run P w= .ok z w∧Rep w pr tk z d:=by
 have run: ∀b off (q:IntKind) (n:Int),0≤n∧n<(k:Int)→(Instr.indexAt t (.pointer (some ⟨b,off,none⟩)) (.int q n)).run P w= .ok (.pointer (some ⟨b,off+n.toNat*P.cellsOf e,none⟩)) w:=fun b off q n hn=>by
  simp[Instr.indexAt,run_underlying hu,asIntOf,Instr.sureAddr,sizeOf_run hi,add_off,hn]
 cases x<;>cases y<;>simp only[aidxV]at hr<;>try (cases hr;done)
 all_goals
  rename_i yv
  cases yv<;>simp only[]at hr<;>try (cases hr;done)
  rename_i q n
  cases hy
  split at hr<;>try (cases hr;done)
  rename_i hn
  cases hr
 case lptr.v.int=>
  cases h with
  |lptr us hc hrr=>
   rename_i b off
   refine⟨_,run b off q n hn, .lptr (fun j=>us (n.toNat*P.cellsOf e+j)) (fun j hj=> ?_) fun j y hy=>hrr _ y (by simpa using hy)⟩
   have:=hc (n.toNat*P.cellsOf e+j) (by simp at hj;omega)
   rwa[←Nat.add_assoc]at this
 case ptr.v.int=>
  cases h with
  |ptr ht=>exact⟨_,run _ _ q n hn, .ptr ht⟩
 case rptr.v.int=>
  cases h with
  |rptr ht=>exact⟨_,run _ _ q n hn,by rw[Nat.add_assoc];exact .rptr ht⟩
end
end
section
section
variable {P : Program} {w : World} {pr : Prot} {tk : Places} {m : Mem}
theorem dVal_repV{v:Value}{d:D}(h:dVal v=some d):Rep w pr tk v d∧v.oneCell'=true:=by
 unfold dVal at h
 split at h<;>cases h<;>exact⟨by first|exact Rep.nil|exact Rep.v rfl|exact Rep.nilmap,rfl⟩
theorem zero_cells{l:List Value}{z:List D}(h:l.mapM dVal=some z):RepCs w pr tk l.toArray z:=by
 have key: ∀(l:List Value) (z:List D),l.mapM dVal=some z→l.length=z.length∧(∀(i:Nat) (c:Value),l[i]?=some c→c.oneCell'=true)∧ ∀(i:Nat) (c:Value) (x:D),l[i]?=some c→z[i]?=some x→Rep w pr tk c x:=by
  intro l
  induction l with
  |nil=>intro z h;simp at h;subst h;simp
  |cons v l ih=>
   intro z h
   simp only[List.mapM_cons,Option.bind_eq_bind,Bz,Option.pure_def,Jz]at h
   obtain⟨d,hd,z',hz',rfl⟩:=h
   obtain⟨h1,h2,h3⟩:=ih z' hz'
   have hv:=dVal_repV (w:=w) (pr:=pr) (tk:=tk) hd
   refine⟨by simp[h1],fun i c hc=> ?_,fun i c x hc hx=> ?_⟩
   ·match i,hc with
    |0,hc=>simp at hc;subst hc;exact hv.2
    |i+1,hc=>exact h2 i c (by simpa using hc)
   ·match i,hc,hx with
    |0,hc,hx=>simp at hc hx;subst hc;subst hx;exact hv.1
    |i+1,hc,hx=>exact h3 i c x (by simpa using hc) (by simpa using hx)
 obtain⟨h1,h2,h3⟩:=key l z h
 exact⟨by simpa using h1,fun i c hc=>h2 i c (by simpa using hc),fun i c x hc hx=>h3 i c x (by simpa using hc) hx⟩
theorem dZero_spec{t:Nat}{z:List D}(h:dZero P t=some z): ∃i zv,P.info? t=some i∧i.zero=some zv∧RepCs w pr tk zv.cells z:=by
 unfold dZero at h
 obtain⟨zv,hzv,hz⟩:=Bz.1 h
 obtain⟨i,hi,hzi⟩:=Bz.1 hzv
 exact⟨i,zv,hi,hzi,by have:=zero_cells (w:=w) (pr:=pr) (tk:=tk) hz;simpa using this⟩
theorem cells_of_rep{v:Value}{d:D}(h:Rep w pr tk v d)(hd:d.cells.all D.okC=true):RepCs w pr tk v.cells d.cells:=by
 have one:d.okC=true→d.cells= [d]→RepCs w pr tk v.cells d.cells:=fun hk he=>by
  have h1:v.oneCell'=true:=h.oneCell hk
  have hv:v.cells= #[v]:=by cases v<;>first|rfl|(simp[Value.oneCell']at h1)
  rw[hv,he]
  refine⟨rfl,fun i c hc=> ?_,fun i c x hc hx=> ?_⟩
  ·match i,hc with
   |0,hc=>simp at hc;subst hc;exact h1
   |i+1,hc=>simp at hc
  ·match i,hc,hx with
   |0,hc,hx=>simp at hc hx;subst hc;subst hx;exact h
   |i+1,hc,_=>simp at hc
 cases d
 case agg xs=>
  obtain⟨cs,rfl,h2⟩:=rep_agg.1 h
  exact h2
 case undef=>simp[D.cells,D.okC]at hd
 case tup=>simp[D.cells,D.okC]at hd
 all_goals exact one rfl rfl
theorem fill_get(off:Nat): ∀(l:List Value) (k:Nat) (C:Array Value) (i:Nat),((l.zipIdx k).foldl (fun cs (p:Value×Nat)=>cs.setIfInBounds (off+p.2) p.1) C)[i]?=
  if off+k≤i∧i<off+k+l.length∧i<C.size then l[i-(off+k)]? else C[i]?
 | [],k,C,i=>by
  simp only[List.zipIdx_nil,List.foldl_nil,List.length_nil,Nat.add_zero]
  rw[if_neg (by omega)]
 |v::l,k,C,i=>by
  simp only[List.zipIdx_cons,List.foldl_cons,List.length_cons]
  rw[fill_get off l (k+1)]
  simp only[Array.size_setIfInBounds,Array.getElem?_setIfInBounds]
  by_cases h1:off+(k+1)≤i∧i<off+(k+1)+l.length∧i<C.size
  ·rw[if_pos h1,if_pos (by omega)]
   have:i-(off+k)=(i-(off+(k+1)))+1:=by omega
   rw[this,List.getElem?_cons_succ]
  ·rw[if_neg h1]
   by_cases h2:off+k=i
   ·rw[if_pos h2]
    subst h2
    by_cases h3:off+k<C.size
    ·rw[if_pos h3,if_pos (by omega)];simp
    ·rw[if_neg h3,if_neg (by omega)]
     rw[Array.getElem?_eq_none (by omega)]
   ·rw[if_neg h2,if_neg (by omega)]
theorem fill_size(off:Nat): ∀(l:List (Value×Nat)) (C:Array Value),(l.foldl (fun cs (p:Value×Nat)=>cs.setIfInBounds (off+p.2) p.1) C).size=C.size
 | [],_=>rfl
 |_::l,C=>by simp only[List.foldl_cons];rw[fill_size off l];simp
theorem putAt_get{zs xs:List D}{off i:Nat}(h:off+xs.length≤zs.length):(putAt zs off xs)[i]?=if off≤i∧i<off+xs.length then xs[i-off]? else zs[i]?:=by
 unfold putAt
 by_cases h1:i<off
 ·rw[if_neg (by omega),List.append_assoc,Yz (by simp;omega),List.getElem?_take_of_lt h1]
 ·by_cases h2:i<off+xs.length
  ·rw[if_pos (by omega),Yz (by simp;omega),Xz (by simp;omega)]
   congr 1
   simp;omega
  ·rw[if_neg (by omega),Xz (by simp;omega),List.getElem?_drop]
   congr 1
   simp;omega
theorem putAt_length{zs xs:List D}{off:Nat}(h:off+xs.length≤zs.length):(putAt zs off xs).length=zs.length:=by
 unfold putAt;simp;omega
theorem put_rep{C:Array Value}{zs:List D}(h:RepCs w pr tk C zs){V:Array Value}{xs:List D}(hv:RepCs w pr tk V xs){off:Nat}(ho:off+xs.length≤zs.length):
  RepCs w pr tk (V.zipIdx.foldl (fun cs (p:Value×Nat)=>cs.setIfInBounds (off+p.2) p.1) C) (putAt zs off xs):=by
 have e:V.zipIdx.foldl (fun cs (p:Value×Nat)=>cs.setIfInBounds (off+p.2) p.1) C=(V.toList.zipIdx 0).foldl (fun cs (p:Value×Nat)=>cs.setIfInBounds (off+p.2) p.1) C:=by
  rw[←Array.foldl_toList,Array.toList_zipIdx]
 rw[e]
 have hg:=fun i=>fill_get off V.toList 0 C i
 simp only[Nat.add_zero,Array.length_toList]at hg
 refine⟨by rw[fill_size,putAt_length ho];exact h.1,fun i c hc=> ?_,fun i c x hc hx=> ?_⟩
 ·rw[hg]at hc
  split at hc
  ·exact hv.2.1 (i-off) c (by simpa using hc)
  ·exact h.2.1 i c hc
 ·rw[hg]at hc
  rw[putAt_get ho]at hx
  have h1:=hv.1
  have h2:=h.1
  split at hc
  ·rw[if_pos (by omega)]at hx
   exact hv.2.2 (i-off) c x (by simpa using hc) hx
  ·rename_i hn
   by_cases hin:off≤i∧i<off+xs.length
   ·exfalso
    exact hn ⟨hin.1,by omega,by omega⟩
   ·rw[if_neg hin]at hx
    exact h.2.2 i c x hc hx
def Reps(w:World)(pr:Prot)(tk:Places):List Value→List D→Prop
 | [],[]=>True
 |v::vs,d::ds=>Rep w pr tk v d∧Reps w pr tk vs ds
 |_,_=>False
theorem fill_rep{place:Nat→Option (Nat×Nat)}: ∀(parts:List (Nat×Value)) (ps:List (Nat×Nat)) (ds:List D) (C:Array Value) (zs out:List D),RepCs w pr tk C zs→
  parts.mapM (fun p=>place p.1)=some ps→Reps w pr tk (parts.map (·.2)) ds→(ds.all fun d=>d.cells.all D.okC)=true→fillV zs ps ds=some out→
  ∃C',Instr.fill place C parts=some C'∧RepCs w pr tk C' out
 | [],ps,ds,C,zs,out,h,hp,hr,hok,hf=>by
  simp at hp
  subst hp
  cases ds with
  |nil=>cases hf;exact⟨C,rfl,h⟩
  |cons=>cases hf
 |(i,v)::parts,ps,ds,C,zs,out,h,hp,hr,hok,hf=>by
  simp only[List.mapM_cons,Option.bind_eq_bind,Bz,Option.pure_def,Jz]at hp
  obtain⟨q,hq,ps',hps',rfl⟩:=hp
  obtain⟨off,n⟩:=q
  cases ds with
  |nil=>exact absurd hr (by simp[Reps])
  |cons d ds=>
   simp only[List.all_cons,Az]at hok
   simp only[fillV]at hf
   split at hf
   ·rename_i hc
    obtain⟨hn,hoff⟩:=hc
    have hv:RepCs w pr tk v.cells d.cells:=cells_of_rep hr.1 hok.1
    have h1:=put_rep h hv (off:=off) (by omega)
    obtain⟨C',g1,g2⟩:=fill_rep parts ps' ds _ _ out h1 hps' hr.2 hok.2 hf
    refine⟨C', ?_,g2⟩
    have hvs:=hv.1
    have hcs:=h.1
    simp only[Instr.fill,hq]
    have e1:v.cells.size=n:=by omega
    have e2:off+v.cells.size≤C.size:=by omega
    rw[if_neg (by rw[Bool.or_eq_true,decide_eq_true_iff,decide_eq_true_iff];omega)]
    exact g1
   ·cases hf
theorem built_sound{t:Nat}{idx:List Nat}{zs:List D}{ps:List (Nat×Nat)}{parts:List (Nat×Value)}{ds:List D}{d:D}(hd:dBuild P t idx=some (zs,ps))(hidx:parts.map (·.1)=idx)
  (hr:Reps w pr tk (parts.map (·.2)) ds) (hrun:buildV zs ps ds=some d): ∃C,P.built t parts=some C∧Rep w pr tk (.agg C) d:=by
 unfold buildV at hrun
 split at hrun
 ·rename_i hok
  obtain⟨out,ho,rfl⟩:=Mz.1 hrun
  unfold dBuild at hd
  obtain⟨z,hz,hd⟩:=Bz.1 hd
  obtain⟨i,zv,hi,hzv,hrep⟩:=dZero_spec (w:=w) (pr:=pr) (tk:=tk) hz
  have fin: ∀(place:Nat→Option (Nat×Nat)),z=zs→idx.mapM place=some ps→(P.built t parts=Instr.fill place zv.cells parts)→ ∃C,P.built t parts=some C∧Rep w pr tk (.agg C) (.agg out):=by
   intro place he hp hb
   subst he
   have hp':parts.mapM (fun p=>place p.1)=some ps:=by
    rw[←hp,←hidx,List.mapM_map]
    rfl
   obtain⟨C,g1,g2⟩:=fill_rep parts ps ds zv.cells z out hrep hp' hr hok ho
   exact⟨C,hb.trans g1,rep_agg.2 ⟨C,rfl,g2⟩⟩
  split at hd
  ·rename_i fs hu
   obtain⟨pl,hpl,hd⟩:=Bz.1 hd
   obtain⟨ps',hps,he⟩:=Mz.1 hd
   cases he
   exact fin _ rfl hps (by simp only[Program.built,hi,hu,hzv,hpl])
  ·rename_i m e hu
   obtain⟨ie,hie,he⟩:=Mz.1 hd
   cases he
   have: ∀(l:List Nat),l.mapM (fun k=>some (k*ie.size,ie.size))=some (l.map fun k=>(k*ie.size,ie.size)):=by
    intro l
    induction l with
    |nil=>rfl
    |cons a l ih=>simp[List.mapM_cons,ih]
   exact fin _ rfl (this idx) (by simp only[Program.built,hi,hu,hzv,hie])
  ·cases hd
 ·cases hrun
theorem chop_get: ∀(size n:Nat) (l:List D) (i:Nat),i<n→(chop size n l)[i]?=some ((l.drop (i*size)).take size)
 |size,0,l,i,h=>by omega
 |size,n+1,l,0,_=>by simp[chop]
 |size,n+1,l,i+1,h=>by
  simp only[chop,List.getElem?_cons_succ]
  rw[chop_get size n _ i (by omega),List.drop_drop]
  congr 3
  rw[Nat.add_mul];omega
theorem chop_length: ∀(size n:Nat) (l:List D),(chop size n l).length=n
 |_,0,_=>rfl
 |size,n+1,l=>by simp[chop,chop_length size n]
theorem rep_nz{v:Value}{d:D}(h:Rep w pr tk v d):Rep w pr tk v d.nz:=by
 cases d<;>first|exact h|skip
 ·cases h;exact .nil'
 ·cases h;exact .emp
theorem repCs_nz{C:Array Value}{out:List D}(h:RepCs w pr tk C out):RepCs w pr tk C (out.map D.nz):=
 ⟨by rw[List.length_map];exact h.1,h.2.1,fun i c x hc hx=>by
  rw[Dz,Mz]at hx
  obtain⟨d,hd,rfl⟩:=hx
  exact rep_nz (h.2.2 i c d hc hd)⟩
theorem row_of_cells{e n:Nat}{C:Array Value}{out:List D}(h:RepCs w pr tk C out)(hl:out.length=n*P.cellsOf e):RepRow P w pr tk C e (chop (P.cellsOf e) n out):=by
 have hlen:=chop_length (P.cellsOf e) n out
 refine⟨fun c hc=> ?_,fun i c hc j d hd=> ?_⟩
 ·obtain⟨i,hi,rfl⟩:=List.getElem_of_mem hc
  have hi':i<n:=by rw[hlen]at hi;exact hi
  have hg:=chop_get (P.cellsOf e) n out i hi'
  rw[Ez hi]at hg
  rw[Option.some.inj hg]
  have:(i+1)*P.cellsOf e≤n*P.cellsOf e:=Nat.mul_le_mul_right _ hi'
  rw[Nat.add_mul]at this
  simp;omega
 ·have hi:i<n:=by have:=(Gz.1 hc).1;omega
  rw[chop_get (P.cellsOf e) n out i hi]at hc
  cases hc
  have hj:j<P.cellsOf e:=by have:=(Gz.1 hd).1;simp at this;omega
  rw[List.getElem?_take_of_lt hj,List.getElem?_drop]at hd
  have hlt:i*P.cellsOf e+j<C.size:=by rw[h.1];exact(Gz.1 hd).1
  exact⟨_,Rz hlt,h.2.1 _ _ (Rz hlt),h.2.2 _ _ d (Rz hlt) hd⟩
end
end
section
section
variable {P : Program} {w : World} {pr : Prot} {tk : Places} {m : Mem}
theorem Reps.length: ∀{vs:List Value} {ds:List D},Reps w pr tk vs ds→vs.length=ds.length
 | [],[],_=>rfl
 |_::_,_::_,h=>by simp[Reps.length h.2]
 | [],_::_,h=>absurd h (by simp[Reps])
 |_::_,[],h=>absurd h (by simp[Reps])
theorem Reps.one{v:Value}{ds:List D}(h:Reps w pr tk [v] ds): ∃d,ds= [d]∧Rep w pr tk v d:=by
 match ds,h with
 | [d],h=>exact⟨d,rfl,h.1⟩
 |_::_::_,h=>exact absurd h.2 (by simp[Reps])
theorem Reps.two{v u:Value}{ds:List D}(h:Reps w pr tk [v,u] ds): ∃d e,ds= [d,e]∧Rep w pr tk v d∧Rep w pr tk u e:=by
 match ds,h with
 | [d,e],h=>exact⟨d,e,rfl,h.1,h.2.1⟩
 | [_],h=>exact absurd h.2 (by simp[Reps])
 |_::_::_::_,h=>exact absurd h.2.2 (by simp[Reps])
theorem Reps.three{v u z:Value}{ds:List D}(h:Reps w pr tk [v,u,z] ds): ∃d e f,ds= [d,e,f]∧Rep w pr tk v d∧Rep w pr tk u e∧Rep w pr tk z f:=by
 match ds,h with
 | [d,e,f],h=>exact⟨d,e,f,rfl,h.1,h.2.1,h.2.2.1⟩
 | [_],h=>exact absurd h.2 (by simp[Reps])
 | [_,_],h=>exact absurd h.2.2 (by simp[Reps])
 |_::_::_::_::_,h=>exact absurd h.2.2.2 (by simp[Reps])
theorem rep_v{v:Value}{x:Value}:Rep w pr tk v (.v x)↔v=x∧plainV x=true:=by
 constructor
 ·intro h
  cases h
  exact⟨rfl,‹_›⟩
 ·rintro⟨rfl,h⟩
  exact .v h
theorem ibin_sound{t:Nat}{op:BinOp}{k:IntKind}{a b:Int}{d:D}(h:ibinV op k a b=some d):
  ∃v,(binOp op t (.int k a) (.int k b)).run P w= .ok v w∧Rep w pr tk v d:=by
 cases op<;>simp only[ibinV]at h<;>try (cases h;done)
 case quo=>split at h<;>cases h;rename_i hb;exact⟨_,by simp[binOp,Op.intDiv,hb],rep_v.2 ⟨rfl,rfl⟩⟩
 case rem=>split at h<;>cases h;rename_i hb;exact⟨_,by simp[binOp,Op.intDiv,hb],rep_v.2 ⟨rfl,rfl⟩⟩
 case and=>cases h;exact⟨_,by simp[binOp,intBits_and],rep_v.2 ⟨rfl,rfl⟩⟩
 case or=>cases h;exact⟨_,by simp[binOp,intBits_or],rep_v.2 ⟨rfl,rfl⟩⟩
 case xor=>cases h;exact⟨_,by simp[binOp,intBits_xor],rep_v.2 ⟨rfl,rfl⟩⟩
 case andNot=>cases h;exact⟨_,by simp[binOp];rfl,rep_v.2 ⟨rfl,rfl⟩⟩
 all_goals (cases h;exact⟨_,by simp[binOp,Op.intArith,Op.intCmp],rep_v.2 ⟨rfl,rfl⟩⟩)
theorem eqGuard_int{op:BinOp}{t:Nat}{x y:Operand}{k k':IntKind}{a b:Int}:(eqGuard op t x y (.int k a) (.int k' b)).run P w= .ok () w:=by
 cases op<;>simp[eqGuard]
theorem eqGuard_bool{op:BinOp}{t:Nat}{x y:Operand}{a b:Bool}:(eqGuard op t x y (.bool a) (.bool b)).run P w= .ok () w:=by
 cases op<;>simp[eqGuard]
theorem eqGuard_string{op:BinOp}{t:Nat}{x y:Operand}{a b:ByteArray}:(eqGuard op t x y (.string a) (.string b)).run P w= .ok () w:=by
 cases op<;>simp[eqGuard]
theorem shift_sound{op:BinOp}{t:Nat}{x y:Operand}{a b:Value}{p q d:D}(hp:Rep w pr tk a p)(hq:Rep w pr tk b q)
  (hop:op= .shl∨op= .shr) (hrun:shiftV op [p,q]=some d): ∃v,(do eqGuard op t x y a b;binOp op t a b:Sem Value).run P w= .ok v w∧Rep w pr tk v d:=by
 cases p<;>cases q<;>simp only[shiftV]at hrun<;>try (cases hrun;done)
 rename_i pv qv
 cases pv<;>cases qv<;>simp only[]at hrun<;>try (cases hrun;done)
 obtain⟨rfl,_⟩:=rep_v.1 hp
 obtain⟨rfl,_⟩:=rep_v.1 hq
 simp only[ishiftV]at hrun
 split at hrun
 ·cases hrun
 ·rename_i hb
  rcases hop with rfl|rfl<;>cases hrun<;>exact⟨_,by simp[eqGuard_int,binOp,Op.shift,hb],rep_v.2 ⟨rfl,rfl⟩⟩
theorem arith_sound{op:BinOp}{t:Nat}{x y:Operand}{a b:Value}{p q d:D}(hp:Rep w pr tk a p)(hq:Rep w pr tk b q)
  (hrun:binV op [p,q]=some d): ∃v,(do eqGuard op t x y a b;binOp op t a b:Sem Value).run P w= .ok v w∧Rep w pr tk v d:=by
 cases p<;>cases q<;>simp only[binV]at hrun<;>try (cases hrun;done)
 rename_i pv qv
 cases pv<;>cases qv<;>simp only[]at hrun<;>try (cases hrun;done)
 split at hrun<;>try (cases hrun;done)
 rename_i hk
 subst hk
 obtain⟨rfl,_⟩:=rep_v.1 hp
 obtain⟨rfl,_⟩:=rep_v.1 hq
 obtain⟨v,h3,h4⟩:=ibin_sound (P:=P) (w:=w) (pr:=pr) (tk:=tk) (t:=t) hrun
 exact⟨v,by simp[eqGuard_int,h3],h4⟩
theorem bin_sound{Γ:Env}{op:BinOp}{t:Nat}{k:PK}{x y:Operand}{a b:Value}{p q d:D}(hd:dBin P op t=some k)
  (hp:Rep w pr tk a p) (hq:Rep w pr tk b q) (hrun:k.run Γ m [p,q]=some d): ∃v,(do eqGuard op t x y a b;binOp op t a b:Sem Value).run P w= .ok v w∧Rep w pr tk v d:=by
 unfold dBin at hd
 cases hu:P.underlying t with
 |none=>simp[hu]at hd
 |some dsc=>
  cases dsc<;>simp only[hu]at hd<;>try (cases hd;done)
  case int ik=>
   cases op<;>simp only[]at hd<;>cases hd<;>first|exact arith_sound hp hq hrun|exact shift_sound hp hq (by simp) hrun
  case bool=>
   cases op<;>simp only[]at hd<;>cases hd
   all_goals
    cases p<;>cases q<;>simp only[PK.run,beqV]at hrun<;>try (cases hrun;done)
    rename_i pv qv
    cases pv<;>cases qv<;>simp only[]at hrun<;>try (cases hrun;done)
    cases hrun
    obtain⟨rfl,_⟩:=rep_v.1 hp
    obtain⟨rfl,_⟩:=rep_v.1 hq
    refine⟨_,by simp only[Sem.run_bind,eqGuard_bool,Result.andThen_ok];first|exact run_eql_bool _ _ _ _ hu|exact run_neq_bool _ _ _ _ hu,rep_v.2 ⟨rfl,rfl⟩⟩
  case string=>
   cases op<;>simp only[]at hd<;>cases hd
   all_goals
    cases p<;>cases q<;>simp only[PK.run,seqV]at hrun<;>try (cases hrun;done)
    rename_i pv qv
    cases pv<;>cases qv<;>simp only[]at hrun<;>try (cases hrun;done)
    cases hrun
    obtain⟨rfl,_⟩:=rep_v.1 hp
    obtain⟨rfl,_⟩:=rep_v.1 hq
    refine⟨_,by simp only[Sem.run_bind,eqGuard_string,Result.andThen_ok];simp[binOp,Op.stringOp],rep_v.2 ⟨rfl,rfl⟩⟩
theorem ext_sound{v:Value}{x d:D}{i:Nat}(h:Rep w pr tk v x)(hr:extV i [x]=some d): ∃u,(Instr.extract v i).run P w= .ok u w∧Rep w pr tk u d:=by
 cases x<;>simp only[extV]at hr<;>try (cases hr;done)
 rename_i ys
 cases h with
 |tup h2 h3=>
  rename_i cs
  have hlt:i<cs.size:=by have:=(Gz.1 hr).1;omega
  exact⟨cs[i],by simp[Instr.extract,Rz hlt],h3 i cs[i] d (Rz hlt) hr⟩
theorem conv_sound{Γ:Env}{src dst:Nat}{k:PK}{v:Value}{x d:D}(hd:dConv P src dst=some k)(h:Rep w pr tk v x)(hr:k.run Γ m [x]=some d):
  ∃u,(convert src dst v).run P w= .ok u w∧Rep w pr tk u d:=by
 unfold dConv at hd
 split at hd
 ·rename_i k1 k2 hs ht
  cases hd
  cases x<;>simp only[PK.run,convV]at hr<;>try (cases hr;done)
  rename_i pv
  cases pv<;>simp only[]at hr<;>try (cases hr;done)
  cases hr
  obtain⟨rfl,_⟩:=rep_v.1 h
  exact⟨_,by simp[convert,run_underlying hs,run_underlying ht,Conv.intToInt],rep_v.2 ⟨rfl,rfl⟩⟩
 ·cases hd
theorem un_sound{Γ:Env}{op:UnOp}{k:PK}{v:Value}{x d:D}(hd:dUn op=some k)(h:Rep w pr tk v x)(hr:k.run Γ m [x]=some d):
  ∃u,(Op.unary op v).run P w= .ok u w∧Rep w pr tk u d:=by
 cases op<;>simp only[dUn]at hd<;>cases hd
 all_goals
  cases x<;>simp only[PK.run,notV,negV]at hr<;>try (cases hr;done)
  rename_i pv
  cases pv<;>simp only[]at hr<;>try (cases hr;done)
  cases hr
  obtain⟨rfl,_⟩:=rep_v.1 h
  exact⟨_,by simp[Op.unary,Op.intArith],rep_v.2 ⟨rfl,rfl⟩⟩
theorem len_of_rep{v:Value}{x:D}{n:Nat}(h:Rep w pr tk v x)(he:x.lenD=some n): ∃a c,v= .slice a n c:=by
 cases x<;>simp only[D.lenD]at he<;>cases he
 case nil=>cases h;exact⟨_,_,rfl⟩
 case mt=>cases h;exact⟨_,_,rfl⟩
 case list=>cases h<;>exact⟨_,_,rfl⟩
 case sl=>cases h;exact⟨_,_,rfl⟩
theorem mx3_sound{mx:Bool}{a b c:Value}{x y z d:D}{ts:Array Nat}{ty:Nat}{cn:Array Bool}(hx:Rep w pr tk a x)(hy:Rep w pr tk b y)(hz:Rep w pr tk c z)(hr:mx3V mx [x,y,z]=some d):
  ∃u,(builtin (if mx then .max else .min) ts ty cn #[a,b,c]).run P w= .ok (.value u) w∧Rep w pr tk u d:=by
 cases x<;>cases y<;>cases z<;>simp only[mx3V]at hr<;>try (cases hr;done)
 rename_i pv qv rv
 cases pv<;>cases qv<;>cases rv<;>simp only[]at hr<;>try (cases hr;done)
 cases hr
 obtain⟨rfl,_⟩:=rep_v.1 hx
 obtain⟨rfl,_⟩:=rep_v.1 hy
 obtain⟨rfl,_⟩:=rep_v.1 hz
 cases mx
 ·exact⟨_,by simp[builtin,Builtin.min_,Builtin.min2],rep_v.2 ⟨rfl,rfl⟩⟩
 ·exact⟨_,by simp[builtin,Builtin.max_,Builtin.max2],rep_v.2 ⟨rfl,rfl⟩⟩
theorem arr3{α:Type}{vs:Array α}(h:vs.size=3): ∃v u z,vs= #[v,u,z]:=by
 obtain⟨l⟩:=vs
 match l,h with
 | [v,u,z],_=>exact⟨v,u,z,rfl⟩
theorem arr1{α:Type}{vs:Array α}(h:vs.size=1): ∃v,vs= #[v]:=by
 obtain⟨l⟩:=vs
 match l,h with
 | [v],_=>exact⟨v,rfl⟩
theorem arr2{α:Type}{vs:Array α}(h:vs.size=2): ∃v u,vs= #[v,u]:=by
 obtain⟨l⟩:=vs
 match l,h with
 | [v,u],_=>exact⟨v,u,rfl⟩
theorem builtin_sound{Γ:Env}{b:Builtin}{ts:Array Nat}{k:PK}{ty:Nat}{cn:Array Bool}{vs:Array Value}{ds:List D}{d:D}(hd:dBuiltin P b ts.toList vs.size=some k)
  (h:Reps w pr tk vs.toList ds) (hr:k.run Γ m ds=some d): ∃u,(builtin b ts ty cn vs).run P w= .ok (.value u) w∧Rep w pr tk u d:=by
 obtain⟨ts⟩:=ts
 unfold dBuiltin at hd
 split at hd
 ·rename_i t hts hn
  simp only[]at hts
  subst hts
  obtain⟨v,rfl⟩:=arr1 hn
  clear hn
  obtain⟨x,rfl,hx⟩:=h.one
  clear h
  split at hd<;>cases hd
  ·rename_i e hu
   simp only[PK.run,lenV]at hr
   cases he:x.lenD with
   |none=>simp[he]at hr
   |some n=>
    simp only[he,Oz,Jz]at hr
    subst hr
    obtain⟨a,c,rfl⟩:=len_of_rep hx he
    exact⟨_,by simp[builtin,Builtin.len_,run_underlying hu,goInt],rep_v.2 ⟨rfl,rfl⟩⟩
  ·rename_i hu
   cases x<;>simp only[PK.run,slenV]at hr<;>try (cases hr;done)
   rename_i pv
   cases pv<;>simp only[]at hr<;>try (cases hr;done)
   cases hr
   obtain⟨rfl,_⟩:=rep_v.1 hx
   exact⟨_,by simp[builtin,Builtin.len_,run_underlying hu,goInt],rep_v.2 ⟨rfl,rfl⟩⟩
 ·rename_i hn
  cases hd
  obtain⟨v,u,rfl⟩:=arr2 hn
  clear hn
  obtain⟨x,y,rfl,hx,hy⟩:=h.two
  clear h
  cases x<;>cases y<;>simp only[PK.run,mx2V]at hr<;>try (cases hr;done)
  rename_i pv qv
  cases pv<;>cases qv<;>simp only[]at hr<;>try (cases hr;done)
  cases hr
  obtain⟨rfl,_⟩:=rep_v.1 hx
  obtain⟨rfl,_⟩:=rep_v.1 hy
  exact⟨_,by simp[builtin,Builtin.max_,Builtin.max2],rep_v.2 ⟨rfl,rfl⟩⟩
 ·rename_i hn
  cases hd
  obtain⟨v,u,rfl⟩:=arr2 hn
  clear hn
  obtain⟨x,y,rfl,hx,hy⟩:=h.two
  clear h
  cases x<;>cases y<;>simp only[PK.run,mx2V]at hr<;>try (cases hr;done)
  rename_i pv qv
  cases pv<;>cases qv<;>simp only[]at hr<;>try (cases hr;done)
  cases hr
  obtain⟨rfl,_⟩:=rep_v.1 hx
  obtain⟨rfl,_⟩:=rep_v.1 hy
  exact⟨_,by simp[builtin,Builtin.min_,Builtin.min2],rep_v.2 ⟨rfl,rfl⟩⟩
 ·rename_i hn
  cases hd
  obtain⟨v,u,z,rfl⟩:=arr3 hn
  clear hn
  obtain⟨x,y,q,rfl,hx,hy,hq⟩:=h.three
  clear h
  exact mx3_sound (mx:=true) hx hy hq hr
 ·rename_i hn
  cases hd
  obtain⟨v,u,z,rfl⟩:=arr3 hn
  clear hn
  obtain⟨x,y,q,rfl,hx,hy,hq⟩:=h.three
  clear h
  exact mx3_sound (mx:=false) hx hy hq hr
 ·cases hd
theorem chk_sound{v:Value}{x d:D}(h:Rep w pr tk v x)(hr:chkV [x]=some d):x=d∧((∃a,v= .pointer (some a))∨ ∃f bv cv,v= .func (.func f) bv cv):=by
 cases x<;>simp only[chkV]at hr<;>try (cases hr;done)
 case lptr xs=>
  cases hr
  cases h
  exact⟨rfl, .inl ⟨_,rfl⟩⟩
 case clo f cs=>
  cases hr
  cases h<;>exact⟨rfl, .inr ⟨_,_,_,rfl⟩⟩
 case ptr τ o=>
  cases hr
  cases h
  exact⟨rfl, .inl ⟨_,rfl⟩⟩
 case rptr τ e i j=>
  cases hr
  cases h
  exact⟨rfl, .inl ⟨_,rfl⟩⟩
theorem run_part{t:Nat}{g:Bool}(hg:isAggT P t=some g)(hi:(P.info? t).isSome){cs:Array Value}{off:Nat}(hl:off+P.cellsOf t≤cs.size)(h1:g=true∨P.cellsOf t=1):
  (part t cs off).run P w= .ok (if g then .agg (cs.extract off (off+P.cellsOf t))else cs.getD off undef) w:=by
 cases g
 ·have h1:P.cellsOf t=1:=by simpa using h1
  have hlt:off<cs.size:=by omega
  simp[part,run_isAgg hg,hlt]
 ·simp[part,run_isAgg hg,sizeOf_run hi]
theorem agg_take{cs:Array Value}{xs:List D}(h:RepCs w pr tk cs xs)(off n:Nat):RepCs w pr tk (cs.extract off (off+n)) ((xs.drop off).take n):=by
 refine⟨by simp[h.1];omega,fun i c hc=> ?_,fun i c x hc hx=> ?_⟩
 ·simp only[Array.getElem?_extract]at hc
  split at hc
  ·exact h.2.1 _ c hc
  ·cases hc
 ·simp only[Array.getElem?_extract]at hc
  split at hc
  ·rename_i hlt
   rw[List.getElem?_take_of_lt (by omega),List.getElem?_drop]at hx
   exact h.2.2 _ c x hc hx
  ·cases hc
theorem aix_sound{Γ:Env}{t:Nat}{k:PK}{v u:Value}{x y d:D}(hd:dAix P t=some k)(hx:Rep w pr tk v x)(hy:Rep w pr tk u y)(hr:k.run Γ m [x,y]=some d):
  ∃z,(Instr.index t v u).run P w= .ok z w∧Rep w pr tk z d:=by
 unfold dAix at hd
 split at hd
 ·rename_i n e hu
  obtain⟨g,hg,hd⟩:=Bz.1 hd
  split at hd<;>cases hd
  rename_i hc
  cases x<;>cases y<;>simp only[PK.run,aixV]at hr<;>try (cases hr;done)
  rename_i xs yv
  cases yv<;>simp only[]at hr<;>try (cases hr;done)
  rename_i ik q
  obtain⟨rfl,_⟩:=rep_v.1 hy
  split at hr
  ·rename_i hb
   obtain⟨h0,hn,hl⟩:=hb
   obtain⟨cs,rfl,hcs⟩:=rep_agg.1 hx
   have hlc:q.toNat*P.cellsOf e+P.cellsOf e≤cs.size:=by rw[hcs.1];exact hl
   refine⟨_,by simp only[Instr.index,asIntOf,Sem.run_bind,Sem.run_pure,Result.andThen_ok,run_underlying hu];simp only[h0,hn,and_self,if_true,Sem.run_bind,sizeOf_run hc.1,Result.andThen_ok];exact run_part hg hc.1 hlc hc.2, ?_⟩
   cases g
   ·have h1:P.cellsOf e=1:=by simpa using hc.2
    have hlt:q.toNat*P.cellsOf e<cs.size:=by omega
    simp only[Bool.false_eq_true,if_false]at hr⊢
    have:=hcs.2.2 _ _ d (Rz hlt) hr
    have hgd:cs.getD (q.toNat*P.cellsOf e) undef=cs[q.toNat*P.cellsOf e]:=by simp[Array.getD,hlt]
    rw[hgd]
    exact this
   ·simp only[if_true,Jz]at hr⊢
    subst hr
    exact rep_agg.2 ⟨_,rfl,agg_take hcs _ _⟩
  ·cases hr
 ·cases hd
theorem kind_at{n:Nat}{t:Nat}{x y:D}{a b:Value}{r:Bool}(hk:kindOf1 P t=some n)(hx:Rep w pr tk a x)(hy:Rep w pr tk b y)(hr:eqCells [n] [x] [y]=some r)(dd:Nat):
  (Op.equalIn (dd+1) t a b).run P w= .ok r w:=by
 unfold kindOf1 at hk
 unfold eqCells at hr
 split at hr
 ·rename_i hh _ _;cases hh
 ·rename_i n' ks k u xs k' v ys hh1 hh2 hh3
  cases hh1
  cases hh2
  cases hh3
  split at hr
  ·rename_i hc
   obtain⟨c1,c2⟩:=hc
   simp only[eqCells,Pz,Bool.and_true,Jz]at hr
   subst hr
   cases hx
   cases hy
   have inj: ∀p q:IntKind,kindNo p=kindNo q→p=q:=by intro p q;cases p<;>cases q<;>simp[kindNo]
   have hkk:k=k':=inj _ _ (c1.symm.trans c2)
   subst hkk
   have lt8: ∀p:IntKind,kindNo p<8:=by intro p;cases p<;>simp[kindNo]
   split at hk
   ·rename_i k0 hu
    exact run_equalIn_int w dd t k k0 u v hu
   ·have:=lt8 k;simp at hk;omega
   ·have:=lt8 k;simp at hk;omega
   ·cases hk
  ·cases hr
 ·rename_i ks u xs v ys hh1 hh2 hh3
  cases hh1
  cases hh2
  cases hh3
  simp only[eqCells,Pz,Bool.and_true,Jz]at hr
  subst hr
  cases hx
  cases hy
  have lt8: ∀p:IntKind,kindNo p<8:=by intro p;cases p<;>simp[kindNo]
  split at hk
  ·rename_i k0 hu
   have:=lt8 k0;simp at hk;omega
  ·rename_i hu
   exact run_equalIn_bool' w dd t u v hu
  ·simp at hk
  ·cases hk
 ·rename_i ks u xs v ys hh1 hh2 hh3
  cases hh1
  cases hh2
  cases hh3
  simp only[eqCells,Pz,Bool.and_true,Jz]at hr
  subst hr
  cases hx
  cases hy
  have lt8: ∀p:IntKind,kindNo p<8:=by intro p;cases p<;>simp[kindNo]
  split at hk
  ·rename_i k0 hu
   have:=lt8 k0;simp at hk;omega
  ·simp at hk
  ·rename_i hu
   exact run_equalIn_string w dd t u v hu
  ·cases hk
 ·cases hr
theorem eqCells_cons{n:Nat}{ks:List Nat}{xs ys:List D}{r:Bool}(h:eqCells (n::ks) xs ys=some r): ∃x xs' y ys' r1 r2,xs=x::xs'∧ys=y::ys'∧eqCells [n] [x] [y]=some r1∧eqCells ks xs' ys'=some r2∧r=(r1&&r2):=by
 unfold eqCells at h
 split at h
 ·rename_i h1;cases h1
 ·rename_i n' ks' k a xs' k' b ys' hh1
  cases hh1
  split at h
  ·rename_i hc
   obtain⟨r',hr',rfl⟩:=Mz.1 h
   exact⟨_,_,_,_,a==b,r',rfl,rfl,by unfold eqCells;rw[if_pos hc];simp[eqCells],hr',rfl⟩
  ·cases h
 ·rename_i ks' a xs' b ys' hh1
  cases hh1
  obtain⟨r',hr',rfl⟩:=Mz.1 h
  exact⟨_,_,_,_,a==b,r',rfl,rfl,by simp[eqCells],hr',rfl⟩
 ·rename_i ks' a xs' b ys' hh1
  cases hh1
  obtain⟨r',hr',rfl⟩:=Mz.1 h
  exact⟨_,_,_,_,a.toList==b.toList,r',rfl,rfl,by simp[eqCells],hr',rfl⟩
 ·cases h
theorem kindOf1_part{t n:Nat}(hk:kindOf1 P t=some n){xs:Array Value}{off:Nat}{v:Value}(hx:xs[off]?=some v):(part t xs off).run P w= .ok v w:=by
 unfold kindOf1 at hk
 split at hk
 ·rename_i hu;simp[part,isAgg,run_underlying hu,hx]
 ·rename_i hu;simp[part,isAgg,run_underlying hu,hx]
 ·rename_i hu;simp[part,isAgg,run_underlying hu,hx]
 ·cases hk
theorem eqCells_mk{n:Nat}{ks:List Nat}{x y:D}{xs ys:List D}{r1 r2:Bool}(h1:eqCells [n] [x] [y]=some r1)(h2:eqCells ks xs ys=some r2):eqCells (n::ks) (x::xs) (y::ys)=some (r1&&r2):=by
 unfold eqCells at h1⊢
 split at h1
 ·rename_i hh _ _;cases hh
 ·rename_i n' ks' k a xs' k' b ys' hh1 hh2 hh3
  cases hh1;cases hh2;cases hh3
  split at h1
  ·rename_i hc
   simp only[eqCells,Pz,Jz,Bool.and_true]at h1
   simp only[if_pos hc,h2,Pz,h1]
  ·cases h1
 ·rename_i ks' a xs' b ys' hh1 hh2 hh3
  cases hh1;cases hh2;cases hh3
  simp only[eqCells,Pz,Jz,Bool.and_true]at h1
  simp only[h2,Pz,h1]
 ·rename_i ks' a xs' b ys' hh1 hh2 hh3
  cases hh1;cases hh2;cases hh3
  simp only[eqCells,Pz,Jz,Bool.and_true]at h1
  simp only[h2,Pz,h1]
 ·cases h1
theorem eqCells_app: ∀{k1 k2:List Nat} {xs ys:List D} {r:Bool},eqCells (k1++k2) xs ys=some r→
  ∃r1 r2,eqCells k1 (xs.take k1.length) (ys.take k1.length)=some r1∧eqCells k2 (xs.drop k1.length) (ys.drop k1.length)=some r2∧r=(r1&&r2)
 | [],k2,xs,ys,r,h=>⟨true,r,by simp[eqCells],by simpa using h,by simp⟩
 |n::k1,k2,xs,ys,r,h=>by
  obtain⟨x,xs',y,ys',r1,r2,rfl,rfl,h1,h2,rfl⟩:=eqCells_cons h
  obtain⟨r3,r4,h3,h4,rfl⟩:=eqCells_app h2
  exact⟨r1&&r3,r4,by simpa using eqCells_mk h1 h3,by simpa using h4,by simp[Bool.and_assoc]⟩
theorem eqCells_len: ∀{ks:List Nat} {xs ys:List D} {r:Bool},eqCells ks xs ys=some r→xs.length=ks.length∧ys.length=ks.length
 | [],xs,ys,r,h=>by cases xs<;>cases ys<;>simp[eqCells]at h⊢
 |n::ks,xs,ys,r,h=>by
  obtain⟨x,xs',y,ys',r1,r2,rfl,rfl,h1,h2,rfl⟩:=eqCells_cons h
  have:=eqCells_len h2
  simp[this.1,this.2]
theorem chunk_cut{l:List D}{i a b:Nat}:((l.drop i).take (a+b)).take a=(l.drop i).take a∧((l.drop i).take (a+b)).drop a=(l.drop (i+a)).take b:=by
 refine⟨by rw[List.take_take,Nat.min_eq_left (by omega)], ?_⟩
 rw[List.drop_take,List.drop_drop,Nat.add_sub_cancel_left]
theorem eqCells_two{k1 k2:List Nat}{xs ys:List D}{i:Nat}{r:Bool}(h:eqCells (k1++k2) ((xs.drop i).take (k1++k2).length) ((ys.drop i).take (k1++k2).length)=some r):
  ∃r1 r2,eqCells k1 ((xs.drop i).take k1.length) ((ys.drop i).take k1.length)=some r1∧eqCells k2 ((xs.drop (i+k1.length)).take k2.length) ((ys.drop (i+k1.length)).take k2.length)=some r2∧r=(r1&&r2):=by
 obtain⟨r1,r2,h1,h2,h3⟩:=eqCells_app h
 simp only[List.length_append]at h1 h2
 rw[chunk_cut.1,chunk_cut.1]at h1
 rw[chunk_cut.2,chunk_cut.2]at h2
 exact⟨r1,r2,h1,h2,h3⟩
def EqOK(P:Program)(w:World)(pr:Prot)(tk:Places)(f t:Nat)(ks:List Nat):Prop:=
 ∀(A B:Array Value) (xs ys:List D) (off d:Nat) (r:Bool),RepCs w pr tk A xs→RepCs w pr tk B ys→f≤d→eqCells ks ((xs.drop off).take ks.length) ((ys.drop off).take ks.length)=some r→
  ∃va vb,(part t A off).run P w= .ok va w∧(part t B off).run P w= .ok vb w∧(Op.equalIn d t va vb).run P w= .ok r w
theorem items_sound{f e:Nat}{ks:List Nat}(ih:EqOK P w pr tk f e ks)(hc:P.cellsOf e=ks.length){A B:Array Value}{xs ys:List D}{d:Nat}(hA:RepCs w pr tk A xs)(hB:RepCs w pr tk B ys)(hd:f≤d):
  ∀(m j:Nat) (r:Bool),eqCells (List.replicate m ks).flatten ((xs.drop (j*ks.length)).take (List.replicate m ks).flatten.length) ((ys.drop (j*ks.length)).take (List.replicate m ks).flatten.length)=some r→
   (Op.eqItems d e (P.cellsOf e) A B (List.range' j m)).run P w= .ok r w
 |0,j,r,h=>by simp[eqCells]at h;subst h;simp[Op.eqItems]
 |m+1,j,r,h=>by
  rw[show(List.replicate (m+1) ks).flatten=ks++(List.replicate m ks).flatten by simp[List.replicate_succ]]at h
  obtain⟨r1,r2,h1,h2,rfl⟩:=eqCells_two h
  obtain⟨va,vb,p1,p2,p3⟩:=ih A B xs ys _ d r1 hA hB hd h1
  have i2:=items_sound ih hc hA hB hd m (j+1) r2 (by rw[Nat.succ_mul];exact h2)
  simp only[List.range'_succ,Op.eqItems,Sem.run_bind,hc,p1,p2,p3,Result.andThen_ok]
  rw[←hc]
  cases r1
  ·simp
  ·simpa using i2
theorem kinds_sound: ∀f:Nat,(∀(t:Nat) (ks:List Nat),kindsT P f t=some ks→EqOK P w pr tk f t ks)∧
  (∀(i:Nat) (fs:List Field) (ks:List Nat),kindsFs P f i fs=some ks→ ∀(A B:Array Value) (xs ys:List D) (d:Nat) (r:Bool),RepCs w pr tk A xs→RepCs w pr tk B ys→f≤d→
   eqCells ks ((xs.drop i).take ks.length) ((ys.drop i).take ks.length)=some r→(Op.eqFields d A B fs).run P w= .ok r w)
 |0=>⟨fun t ks h=>by simp[kindsT]at h,fun i fs ks h A B xs ys d r hA hB hd he=>by
   cases fs with
   |nil=>simp[kindsFs]at h;subst h;simp[eqCells]at he;subst he;simp[Op.eqFields]
   |cons g gs=>simp[kindsFs]at h⟩
 |f+1=>by
  obtain⟨ihT,ihF⟩:=kinds_sound f
  refine⟨fun t ks h A B xs ys off d r hA hB hd he=> ?_,fun i fs ks h A B xs ys d r hA hB hd he=> ?_⟩
  ·obtain⟨d,rfl⟩: ∃d',d=d'+1:=⟨d-1,by omega⟩
   have hl:=eqCells_len he
   simp only[List.length_take,List.length_drop]at hl
   have part1: ∀{C:Array Value} {zs:List D},RepCs w pr tk C zs→min ks.length (zs.length-off)=ks.length→(P.info? t).map (·.size)=some ks.length→isAggT P t=some true→0<ks.length→
     (part t C off).run P w= .ok (.agg (C.extract off (off+ks.length))) w:=fun{C zs} hC hz hi hg h0=>by
    obtain⟨i,hi1,hi2⟩:=Mz.1 hi
    have hc:P.cellsOf t=ks.length:=by simp[Program.cellsOf,hi1,hi2]
    rw[run_part hg (by simp[hi1]) (by rw[hc,hC.1];omega) (.inl rfl),hc];rfl
   simp only[kindsT]at h
   split at h
   ·rename_i fs hu
    split at h
    ·rename_i hst
     obtain⟨ks',hk,h⟩:=Bz.1 h
     split at h<;>cases h
     rename_i hi
     have hg:isAggT P t=some true:=by simp[isAggT,hu]
     refine⟨_,_,part1 hA hl.1 hi.1 hg hi.2,part1 hB hl.2 hi.1 hg hi.2, ?_⟩
     have hf:P.fieldsOf t=fs:=by simp[Program.fieldsOf,hu]
     rw[run_equalIn_struct w d t _ _ (by rw[hf];exact hu) hst,hf]
     refine ihF 0 fs.toList ks hk _ _ _ _ d r (agg_take hA off ks.length) (agg_take hB off ks.length) (by omega) ?_
     simpa[List.take_take]using he
    ·cases h
   ·rename_i n e hu
    obtain⟨k1,hk,h⟩:=Bz.1 h
    split at h<;>cases h
    rename_i hi
    have hg:isAggT P t=some true:=by simp[isAggT,hu]
    refine⟨_,_,part1 hA hl.1 hi.2.1 hg hi.2.2,part1 hB hl.2 hi.2.1 hg hi.2.2, ?_⟩
    obtain⟨ie,hi1,hi2⟩:=Mz.1 hi.1
    have hc:P.cellsOf e=k1.length:=by simp[Program.cellsOf,hi1,hi2]
    rw[run_equalIn_array w d _ _ hu hi1,List.range_eq_range']
    refine items_sound (ihT _ _ hk) hc (agg_take hA off _) (agg_take hB off _) (by omega) n 0 r ?_
    simpa[List.take_take]using he
   ·obtain⟨k,hk,rfl⟩:=Mz.1 h
    obtain⟨x,xs',y,ys',r1,r2,hx,hy,h1,h2,rfl⟩:=eqCells_cons he
    have gx:xs[off]?=some x:=by
     have:=congrArg (·[0]?) hx
     simpa[List.getElem?_take,List.getElem?_drop]using this
    have gy:ys[off]?=some y:=by
     have:=congrArg (·[0]?) hy
     simpa[List.getElem?_take,List.getElem?_drop]using this
    have ex:=Rz (show off<A.size by rw[hA.1];exact(Gz.1 gx).1)
    have ey:=Rz (show off<B.size by rw[hB.1];exact(Gz.1 gy).1)
    have hr2:r2=true:=by
     have:=eqCells_len h2
     cases xs'<;>cases ys'<;>simp[eqCells]at h2<;>simp[h2]
    subst hr2
    exact⟨_,_,kindOf1_part hk ex,kindOf1_part hk ey,by rw[Bool.and_true];exact kind_at hk (hA.2.2 off _ x ex gx) (hB.2.2 off _ y ey gy) h1 d⟩
  ·cases fs with
   |nil=>simp[kindsFs]at h;subst h;simp[eqCells]at he;subst he;simp[Op.eqFields]
   |cons g gs=>
    simp only[kindsFs]at h
    split at h
    ·rename_i hc
     obtain⟨k1,h1,h⟩:=Bz.1 h
     obtain⟨k2,h2,rfl⟩:=Mz.1 h
     obtain⟨r1,r2,e1,e2,rfl⟩:=eqCells_two he
     obtain⟨va,vb,p1,p2,p3⟩:=ihT _ _ h1 A B xs ys i d r1 hA hB (by omega) e1
     have i2:=ihF _ _ _ h2 A B xs ys d r2 hA hB (by omega) e2
     simp only[Op.eqFields,hc.1,ne_eq,not_false_eq_true,if_true,Sem.run_bind,hc.2,p1,p2,p3,Result.andThen_ok]
     cases r1
     ·simp
     ·simpa using i2
    ·cases h
theorem aggEq_sound{t:Nat}{ks:List Nat}{a b:Value}{xs ys:List D}{r:Bool}(hk:kindsOf P t=some ks)(hp:Rep w pr tk a (.agg xs))(hq:Rep w pr tk b (.agg ys))(he:eqCells ks xs ys=some r):
  ∃A B,a= .agg A∧b= .agg B∧(Op.equalIn 10000 t (.agg A) (.agg B)).run P w= .ok r w:=by
 obtain⟨A,rfl,hA⟩:=rep_agg.1 hp
 obtain⟨B,rfl,hB⟩:=rep_agg.1 hq
 refine⟨A,B,rfl,rfl, ?_⟩
 have ful: ∀(zs:List D),zs.length=ks.length→(zs.drop 0).take ks.length=zs:=fun zs hz=>by simp[←hz]
 have hl:=eqCells_len he
 unfold kindsOf at hk
 split at hk
 ·rename_i fs hu
  split at hk
  ·cases hk
  ·rename_i hst
   have hst:P.stoodInHeld t=false:=by simpa using hst
   have hf:P.fieldsOf t=fs:=by simp[Program.fieldsOf,hu]
   rw[run_equalIn_struct w 9999 t A B (by rw[hf];exact hu) hst,hf]
   exact(kinds_sound 40).2 0 fs.toList ks hk A B xs ys 9999 r hA hB (by omega) (by rw[ful xs hl.1,ful ys hl.2];exact he)
 ·rename_i n e hu
  obtain⟨k1,hk1,hk⟩:=Bz.1 hk
  split at hk<;>cases hk
  rename_i hi
  obtain⟨ie,hi1,hi2⟩:=Mz.1 hi
  have hc:P.cellsOf e=k1.length:=by simp[Program.cellsOf,hi1,hi2]
  rw[run_equalIn_array w 9999 _ _ hu hi1,List.range_eq_range']
  exact items_sound ((kinds_sound 40).1 _ _ hk1) hc hA hB (by omega) n 0 r (by rw[Nat.zero_mul,ful xs hl.1,ful ys hl.2];exact he)
 ·cases hk
theorem aeq_sound{Γ:Env}{op:BinOp}{t:Nat}{k:PK}{x y:Operand}{a b:Value}{p q d:D}(hd:dAeq P op t=some k)
  (hp:Rep w pr tk a p) (hq:Rep w pr tk b q) (hrun:k.run Γ m [p,q]=some d): ∃v,(do eqGuard op t x y a b;binOp op t a b:Sem Value).run P w= .ok v w∧Rep w pr tk v d:=by
 unfold dAeq at hd
 split at hd
 ·cases hd
 rename_i hguard
 have hguard:P.eqGuardType P.depth t=false:=by simpa using hguard
 have key: ∀neg ks,kindsOf P t=some ks→aeqV neg ks [p,q]=some d→ ∃A B r,a= .agg A∧b= .agg B∧d=bv (if neg then !r else r)∧(Op.equalIn 10000 t (.agg A) (.agg B)).run P w= .ok r w:=by
  intro neg ks hk hr
  cases p<;>cases q<;>simp only[aeqV]at hr<;>try (cases hr;done)
  rename_i xs ys
  obtain⟨r,he,rfl⟩:=Mz.1 hr
  obtain⟨A,rfl,hA⟩:=rep_agg.1 hp
  obtain⟨B,rfl,hB⟩:=rep_agg.1 hq
  refine⟨A,B,r,rfl,rfl,rfl, ?_⟩
  have ful: ∀(zs:List D),zs.length=ks.length→(zs.drop 0).take ks.length=zs:=fun zs hz=>by simp[←hz]
  have hl:=eqCells_len he
  unfold kindsOf at hk
  split at hk
  ·rename_i fs hu
   split at hk
   ·cases hk
   ·rename_i hst
    have hst:P.stoodInHeld t=false:=by simpa using hst
    have hf:P.fieldsOf t=fs:=by simp[Program.fieldsOf,hu]
    rw[run_equalIn_struct w 9999 t A B (by rw[hf];exact hu) hst,hf]
    exact(kinds_sound 40).2 0 fs.toList ks hk A B xs ys 9999 r hA hB (by omega) (by rw[ful xs hl.1,ful ys hl.2];exact he)
  ·rename_i n e hu
   obtain⟨k1,hk1,hk⟩:=Bz.1 hk
   split at hk<;>cases hk
   rename_i hi
   obtain⟨ie,hi1,hi2⟩:=Mz.1 hi
   have hc:P.cellsOf e=k1.length:=by simp[Program.cellsOf,hi1,hi2]
   rw[run_equalIn_array w 9999 _ _ hu hi1,List.range_eq_range']
   exact items_sound ((kinds_sound 40).1 _ _ hk1) hc hA hB (by omega) n 0 r (by rw[Nat.zero_mul,ful xs hl.1,ful ys hl.2];exact he)
  ·cases hk
 split at hd
 ·obtain⟨ks,hks,rfl⟩:=Mz.1 hd
  obtain⟨A,B,r,rfl,rfl,rfl,he⟩:=key false ks hks hrun
  exact⟨.bool r,by simp only[Sem.run_bind,run_eqGuard_agg w _ _ _ _ _ _ hguard,Result.andThen_ok,run_eql_struct,he],rep_v.2 ⟨rfl,rfl⟩⟩
 ·obtain⟨ks,hks,rfl⟩:=Mz.1 hd
  obtain⟨A,B,r,rfl,rfl,rfl,he⟩:=key true ks hks hrun
  exact⟨.bool (!r),by simp only[Sem.run_bind,run_eqGuard_agg w _ _ _ _ _ _ hguard,Result.andThen_ok,run_neq_struct,he],rep_v.2 ⟨rfl,rfl⟩⟩
 ·cases hd
theorem snil_sound{Γ:Env}{op:BinOp}{t:Nat}{k:PK}{x y:Operand}{a b:Value}{p q d:D}(hd:dSnil P op t=some k)
  (hp:Rep w pr tk a p) (hq:Rep w pr tk b q) (hrun:k.run Γ m [p,q]=some d): ∃v,(do eqGuard op t x y a b;binOp op t a b:Sem Value).run P w= .ok v w∧Rep w pr tk v d:=by
 have key: ∀neg,snilV neg [p,q]=some d→b= .slice none 0 0∧ ∃o n c,a= .slice o n c∧d=bv (if neg then !o.isNone else o.isNone):=by
  intro neg hr
  unfold snilV at hr
  split at hr
  ·rename_i d0 hh
   simp only[List.cons.injEq,and_true]at hh
   obtain⟨rfl,rfl⟩:=hh
   cases hq
   refine⟨rfl, ?_⟩
   split at hr
   ·cases hr
    cases hp
    exact⟨none,0,0,rfl,by cases neg<;>rfl⟩
   ·cases hr
    cases hp
    exact⟨_,_,_,rfl,by cases neg<;>rfl⟩
   ·cases hr
    cases hp
    exact⟨_,_,_,rfl,by cases neg<;>rfl⟩
   ·cases hr
    cases hp
    exact⟨_,_,_,rfl,by cases neg<;>rfl⟩
   ·cases hr
  ·cases hr
 unfold dSnil at hd
 split at hd
 ·rename_i e hu
  cases hd
  obtain⟨rfl,o,n,c,rfl,rfl⟩:=key false hrun
  exact⟨.bool o.isNone,by simp only[Sem.run_bind];simp[eqGuard,Lib.run_eql_slice_nil w t e o n c 0 0 hu],rep_v.2 ⟨rfl,rfl⟩⟩
 ·rename_i e hu
  cases hd
  obtain⟨rfl,o,n,c,rfl,rfl⟩:=key true hrun
  exact⟨.bool (!o.isNone),by simp only[Sem.run_bind];simp[eqGuard,run_neq_slice_nil_any w t e o n c 0 0 hu],rep_v.2 ⟨rfl,rfl⟩⟩
 ·cases hd
theorem mt_list{v:Value}(h:Rep w pr tk v .mt):Rep w pr tk v (.list []):=by
 cases h
 exact .emp
theorem cut_rep{e b off cap l h k:Nat}{es:List (List D)}(hr:Rep w pr tk (.slice (some ⟨b,off,none⟩) es.length cap) (.list es))(hsz: ∀c∈es,c.length=P.cellsOf e)(h1:l≤h)(h2:h≤es.length)(h3:h≤k):
  Rep w pr tk (.slice (some (if k=l then⟨b,off,none⟩else(⟨b,off,none⟩:Addr).add (l*P.cellsOf e))) (h-l) (k-l)) (.list ((es.drop l).take (h-l))):=by
 have hlen:((es.drop l).take (h-l)).length=h-l:=by simp;omega
 generalize hq:Value.slice (some ⟨b,off,none⟩) es.length cap=q at hr
 cases hr with
 |nil'=>simp at hq
 |emp=>
  have e1:h=0:=by simpa using h2
  have e2:l=0:=by omega
  subst e1
  subst e2
  exact .emp
 |list us hes hcap hcell hrr=>
  rename_i b' off2 cap' size
  simp only[Value.slice.injEq,Jz,Addr.mk.injEq,and_true,true_and]at hq
  obtain⟨⟨rfl,rfl⟩,rfl⟩:=hq
  have key: ∀(off':Nat),(l<h→off'=off+l*size)→Rep w pr tk (.slice (some ⟨b,off',none⟩) (h-l) (k-l)) (.list ((es.drop l).take (h-l))):=by
   intro off' ho
   have:=Rep.list (w:=w) (pr:=pr) (tk:=tk) (b:=b) (off:=off') (cap:=k-l) (es:=(es.drop l).take (h-l)) (size:=size) (fun j=>us (l*size+j)) (fun c hc=>hes c (List.mem_of_mem_drop (List.mem_of_mem_take hc))) (by rw[hlen];omega) (fun j hj=> ?_) (fun i c hc j d hd=> ?_)
   ·rw[hlen]at this;exact this
   ·rw[hlen]at hj
    have hpos:l<h:=by
     rcases Nat.lt_or_ge l h with h0|h0
     ·exact h0
     ·have:h-l=0:=by omega
      rw[this]at hj;simp at hj
    rw[ho hpos,Nat.add_assoc]
    refine hcell _ ?_
    have e1:(h-l)*size+l*size≤es.length*size:=by rw[←Nat.add_mul];exact Nat.mul_le_mul_right _ (by omega)
    omega
   ·have hi:i<h-l:=by have:=(Gz.1 hc).1;omega
    rw[List.getElem?_take_of_lt hi,List.getElem?_drop]at hc
    have:=hrr (l+i) c hc j d hd
    rw[Nat.add_mul]at this
    rw[←Nat.add_assoc];exact this
  have hsize:l<h→size=P.cellsOf e:=fun hlt=>by
   have hm:es[l]'(by omega)∈es:=List.getElem_mem _
   rw[←hes _ hm,hsz _ hm]
  split
  ·exact key off (fun hlt=>by omega)
  ·rw[add_off]
   exact key _ (fun hlt=>by rw[hsize hlt])
def IntVals:List Value→List Int→Prop
 | [],[]=>True
 |v::vs,n::ns=>(∃k,v= .int k n)∧IntVals vs ns
 |_,_=>False
theorem IntVals.nil_eq{l:List Int}(h:IntVals [] l):l= []:=by cases l with|nil=>rfl|cons=>exact absurd h (by simp[IntVals])
theorem IntVals.cons_eq{v:Value}{vs:List Value}{l:List Int}(h:IntVals (v::vs) l): ∃k n r,v= .int k n∧l=n::r∧IntVals vs r:=by
 cases l with
 |nil=>exact absurd h (by simp[IntVals])
 |cons n r=>obtain⟨⟨k,hk⟩,h2⟩:=h;exact⟨k,n,r,hk,rfl,h2⟩
theorem intVals_of: ∀{vs:List Value} {ds:List D} {l:List Int},Reps w pr tk vs ds→intsV ds=some l→IntVals vs l
 | [],[],l,_,h=>by simp only[intsV,Jz]at h;subst h;trivial
 |v::vs,d::ds,l,hr,h=>by
  unfold intsV at h
  split at h
  ·rename_i hh;cases hh
  ·rename_i k n r hh
   cases hh
   obtain⟨l',h1,rfl⟩:=Mz.1 h
   exact⟨⟨_,(rep_v.1 hr.1).1⟩,intVals_of hr.2 h1⟩
  ·cases h
 | [],_::_,_,h,_=>absurd h (by simp[Reps])
 |_::_,[],_,h,_=>absurd h (by simp[Reps])
theorem run_slc{t e:Nat}{x:Operand}{lo hi mx:Option Operand}{E:Operand→Value}{a:Option Addr}{n cap:Nat}{is:List Int}{l h:Int}{mo:Option Int}(hu:P.underlying t=some (.slice e))(hi':(P.info? e).isSome)(hx:E x= .slice a n cap)
  (hI:IntVals ((lo.toList++hi.toList++mx.toList).map E) is) (hb:boundsV n lo.isSome hi.isSome mx.isSome is=some (l,h,mo)) (h0:0≤l) (h1:l≤h) (h2:h≤cap) (hcap:n≤cap) (hm: ∀c,mo=some c→h≤c∧c≤n):
  (Instr.sliceAt t (E x) (lo.map E) (hi.map E) (mx.map E)).run P w= .ok (.slice (if(mo.map Int.toNat).getD cap=l.toNat then a else a.map (·.add (l.toNat*P.cellsOf e))) (h.toNat-l.toNat) ((mo.map Int.toNat).getD cap-l.toNat)) w:=by
 have bound: ∀(k:IntKind) (i:Int) (y:Nat) (code:BoundsCode),0≤i→i≤y→(Instr.sliceBound (.int k i) y code).run P w= .ok i.toNat w:=fun k i y code h0 h1=>run_sliceBound w k i y code h0 h1
 cases lo<;>cases hi<;>cases mx<;>simp only[boundsV,Option.isSome_none,Option.isSome_some,Option.toList,List.map_nil,List.map_cons,List.nil_append,List.cons_append,List.append_nil]at hb hI
 case none.none.none=>
  obtain rfl:=hI.nil_eq
  cases hb
  simp[Instr.sliceAt,Instr.slice,run_underlying hu,Instr.sliceBounds,sizeOf_run hi',hx]
 case some.none.none lo=>
  obtain⟨kk,a1,_,e1,rfl,hI1⟩:=hI.cons_eq
  obtain rfl:=hI1.nil_eq
  cases hb
  simp[Instr.sliceAt,Instr.slice,run_underlying hu,Instr.sliceBounds,e1,bound kk l n .sliceB h0 h1,sizeOf_run hi',hx]
 case none.some.none hi=>
  obtain⟨kk,a1,_,e1,rfl,hI1⟩:=hI.cons_eq
  obtain rfl:=hI1.nil_eq
  cases hb
  simp[Instr.sliceAt,Instr.slice,run_underlying hu,Instr.sliceBounds,e1,bound kk h cap .sliceAcap h1 (by omega),sizeOf_run hi',hx]
 case some.some.none lo hi=>
  obtain⟨kk,a1,_,e1,rfl,hI1⟩:=hI.cons_eq
  obtain⟨kk',b1,_,e2,rfl,hI2⟩:=hI1.cons_eq
  obtain rfl:=hI2.nil_eq
  cases hb
  simp[Instr.sliceAt,Instr.slice,run_underlying hu,Instr.sliceBounds,e1,e2,bound kk' h cap .sliceAcap (by omega) (by omega),bound kk l h.toNat .sliceB h0 (by omega),sizeOf_run hi',hx]
 case none.some.some hi mx=>
  obtain⟨kk,a1,_,e1,rfl,hI1⟩:=hI.cons_eq
  obtain⟨kk',b1,_,e2,rfl,hI2⟩:=hI1.cons_eq
  obtain rfl:=hI2.nil_eq
  cases hb
  obtain⟨g1,g2⟩:=hm _ rfl
  simp[Instr.sliceAt,Instr.slice,run_underlying hu,Instr.sliceBounds,e1,e2,bound kk' b1 cap .slice3Acap (by omega) (by omega),bound kk h b1.toNat .slice3B (by omega) (by omega),sizeOf_run hi',hx]
 case some.some.some lo hi mx=>
  obtain⟨k1,a1,_,e1,rfl,hI1⟩:=hI.cons_eq
  obtain⟨k2,b1,_,e2,rfl,hI2⟩:=hI1.cons_eq
  obtain⟨k3,c1,_,e3,rfl,hI3⟩:=hI2.cons_eq
  obtain rfl:=hI3.nil_eq
  cases hb
  obtain⟨g1,g2⟩:=hm _ rfl
  simp[Instr.sliceAt,Instr.slice,run_underlying hu,Instr.sliceBounds,e1,e2,e3,bound k3 c1 cap .slice3Acap (by omega) (by omega),bound k2 h c1.toNat .slice3B (by omega) (by omega),
   bound k1 l h.toNat .slice3C h0 (by omega),sizeOf_run hi',hx]
 all_goals cases hb
theorem run_sla{t e n:Nat}{x:Operand}{lo hi:Option Operand}{E:Operand→Value}{a:Addr}{is:List Int}{l h:Int}{mo:Option Int}(hu:P.underlying t=some (.array n e))(hi':(P.info? e).isSome)(hx:E x= .pointer (some a))
  (hI:IntVals ((lo.toList++hi.toList).map E) is) (hb:boundsV n lo.isSome hi.isSome false is=some (l,h,mo)) (h0:0≤l) (h1:l≤h) (h2:h≤n):
  (Instr.sliceAt t (E x) (lo.map E) (hi.map E) none).run P w= .ok (.slice (some (if n=l.toNat then a else a.add (l.toNat*P.cellsOf e))) (h.toNat-l.toNat) (n-l.toNat)) w:=by
 have bound: ∀(k:IntKind) (i:Int) (y:Nat) (code:BoundsCode),0≤i→i≤y→(Instr.sliceBound (.int k i) y code).run P w= .ok i.toNat w:=fun k i y code h0 h1=>run_sliceBound w k i y code h0 h1
 cases lo<;>cases hi<;>simp only[boundsV,Option.isSome_none,Option.isSome_some,Option.toList,List.map_nil,List.map_cons,List.nil_append,List.cons_append,List.append_nil]at hb hI
 case none.none=>
  obtain rfl:=hI.nil_eq
  cases hb
  simp[Instr.sliceAt,run_underlying hu,Instr.sliceBounds,sizeOf_run hi',hx,Instr.sureAddr]
 case some.none lo=>
  obtain⟨kk,a1,_,e1,rfl,hI1⟩:=hI.cons_eq
  obtain rfl:=hI1.nil_eq
  cases hb
  simp[Instr.sliceAt,run_underlying hu,Instr.sliceBounds,e1,bound kk l n .sliceB h0 h1,sizeOf_run hi',hx,Instr.sureAddr]
 case none.some hi=>
  obtain⟨kk,a1,_,e1,rfl,hI1⟩:=hI.cons_eq
  obtain rfl:=hI1.nil_eq
  cases hb
  simp[Instr.sliceAt,run_underlying hu,Instr.sliceBounds,e1,bound kk h n .sliceAlen h1 (by omega),sizeOf_run hi',hx,Instr.sureAddr]
 case some.some lo hi=>
  obtain⟨kk,a1,_,e1,rfl,hI1⟩:=hI.cons_eq
  obtain⟨kk',b1,_,e2,rfl,hI2⟩:=hI1.cons_eq
  obtain rfl:=hI2.nil_eq
  cases hb
  simp[Instr.sliceAt,run_underlying hu,Instr.sliceBounds,e1,e2,bound kk' h n .sliceAlen (by omega) (by omega),bound kk l h.toNat .sliceB h0 (by omega),sizeOf_run hi',hx,Instr.sureAddr]
theorem slc_sound(M:MemOK P w pr tk m){t:Nat}{x:Operand}{lo hi mx:Option Operand}{k:PK}{xs:List Operand}{E:Operand→Value}{ds:List D}{d:D}{Γ:Env}(hd:dSlc P t x lo hi mx=some (k,xs))
  (hrep:Reps w pr tk (xs.map E) ds) (hr:k.run Γ m ds=some d): ∃z,(Instr.sliceAt t (E x) (lo.map E) (hi.map E) (mx.map E)).run P w= .ok z w∧Rep w pr tk z d:=by
 unfold dSlc at hd
 split at hd
 ·rename_i n e hu
  split at hd<;>cases hd
  rename_i hcnd
  obtain⟨hi',hmx⟩:=hcnd
  have hmx:mx=none:=by cases mx<;>simp_all
  subst hmx
  cases ds with
  |nil=>exact absurd hrep (by simp[Reps])
  |cons dx r=>
   simp only[List.map_cons]at hrep
   obtain⟨hx,hrest⟩:=hrep
   simp only[PK.run]at hr
   unfold slaV at hr
   split at hr
   ·rename_i τ off r' hh
    cases hh
    rw[Bz]at hr
    obtain⟨is,his,hr⟩:=hr
    rw[Bz]at hr
    obtain⟨⟨l,h,mo⟩,hb,hr⟩:=hr
    have hI:=intVals_of hrest his
    split at hr<;>cases hr
    rename_i hc
    obtain⟨h0,h1,h2,hone⟩:=hc
    simp only[]at h0 h1 h2
    generalize hq:E x=q at hx
    cases hx with
    |ptr ht=>
     rename_i b cap
     refine⟨_,by rw[←hq];exact run_sla hu hi' hq hI hb h0 h1 h2, ?_⟩
     simp only[add_off,hone,Nat.mul_one]
     rw[show(some (if n=l.toNat then(⟨b,off,none⟩:Addr)else⟨b,off+l.toNat,none⟩))=some ⟨b,if n=l.toNat then off else off+l.toNat,none⟩ by split<;>rfl]
     refine .sl ht (by simp) (by omega) ?_
     by_cases hcl:n=l.toNat
     ·rw[if_pos hcl]
      by_cases hl0:l.toNat=0
      ·left;rw[hl0];omega
      ·right;omega
     ·left;rw[if_neg hcl];omega
   ·rename_i zs r' hh
    cases hh
    rw[Bz]at hr
    obtain⟨is,his,hr⟩:=hr
    rw[Bz]at hr
    obtain⟨⟨l,h,mo⟩,hb,hr⟩:=hr
    have hI:=intVals_of hrest his
    split at hr<;>cases hr
    rename_i hc
    obtain⟨h0,h1,h2,hfit⟩:=hc
    simp only[]at h0 h1 h2
    generalize hq:E x=q at hx
    cases hx with
    |lptr us hcell hrr=>
     rename_i b off
     refine⟨_,by rw[←hq];exact run_sla hu hi' hq hI hb h0 h1 h2, ?_⟩
     simp only[add_off]
     have hlen:(chop (P.cellsOf e) (h.toNat-l.toNat) (zs.drop (l.toNat*P.cellsOf e))).length=h.toNat-l.toNat:=chop_length ..
     by_cases hlh:h.toNat-l.toNat=0
     ·rw[hlh]
      simp only[chop]
      split<;>exact .emp
     ·rw[if_neg (by omega)]
      have hend:(h.toNat-l.toNat)*P.cellsOf e+l.toNat*P.cellsOf e≤n*P.cellsOf e:=by
       rw[←Nat.add_mul];exact Nat.mul_le_mul_right _ (by omega)
      have:=Rep.list (w:=w) (pr:=pr) (tk:=tk) (b:=b) (off:=off+l.toNat*P.cellsOf e) (cap:=n-l.toNat) (es:=chop (P.cellsOf e) (h.toNat-l.toNat) (zs.drop (l.toNat*P.cellsOf e))) (size:=P.cellsOf e) (fun j=>us (l.toNat*P.cellsOf e+j)) (fun c hc=>by
        obtain⟨i,hi2,rfl⟩:=List.getElem_of_mem hc
        have hil:i<h.toNat-l.toNat:=by rw[hlen]at hi2;exact hi2
        have hg:=chop_get (P.cellsOf e) (h.toNat-l.toNat) (zs.drop (l.toNat*P.cellsOf e)) i hil
        rw[Ez hi2]at hg
        rw[Option.some.inj hg]
        have:(i+1)*P.cellsOf e≤(h.toNat-l.toNat)*P.cellsOf e:=Nat.mul_le_mul_right _ (by omega)
        rw[Nat.add_mul]at this
        simp;omega) (by rw[hlen];omega) (fun j hj=>by
        rw[hlen]at hj
        have:=hcell (l.toNat*P.cellsOf e+j) (by omega)
        rw[←Nat.add_assoc]at this
        exact this) (fun i c hc j d hd=>by
        have hil:i<h.toNat-l.toNat:=by have:=(Gz.1 hc).1;omega
        rw[chop_get (P.cellsOf e) _ _ i hil]at hc
        cases hc
        have hjl:j<P.cellsOf e:=by have:=(Gz.1 hd).1;simp at this;omega
        rw[List.getElem?_take_of_lt hjl,List.getElem?_drop,List.getElem?_drop]at hd
        exact hrr _ d hd)
      rw[hlen]at this
      exact this
   ·cases hr
 ·rename_i e hu
  split at hd<;>cases hd
  rename_i hi'
  cases ds with
  |nil=>exact absurd hrep (by simp[Reps])
  |cons dx r=>
   simp only[List.map_cons]at hrep
   obtain⟨hx,hrest⟩:=hrep
   simp only[PK.run]at hr
   unfold slcV at hr
   split at hr
   ·rename_i τ size' off len lim r' hh
    cases hh
    rw[Bz]at hr
    obtain⟨is,his,hr⟩:=hr
    rw[Bz]at hr
    obtain⟨⟨l,h,mo⟩,hb,hr⟩:=hr
    have hI:=intVals_of hrest his
    split at hr
    ·rename_i hc
     obtain⟨h0,h1,h2,rfl⟩:=hc
     generalize hq:E x=q at hx
     cases hx with
     |sl ht hcc hl ho=>
      rename_i b cap c o
      simp only[]at hr h0 h1 h2
      have h2c:h≤c∧(off*P.cellsOf e=o∨(c=0∧0<off)):=by
       refine⟨?_,ho.imp Eq.symm id⟩
       rcases h2 with h2|h2
       ·omega
       ·unfold roomV at h2
        split at h2
        ·rename_i g e' es hm
         obtain⟨b2,cap2,C,k1,k3,k5,_⟩:=M.obj _ _ hm
         rw[ht]at k1;cases k1
         have h2:(off:Int)+h≤es.length:=by simpa using h2
         simp only[Option.getD_none]at hcc
         omega
        ·cases h2
      split at hr
      ·cases hr
       refine⟨_,by rw[←hq];exact run_slc hu hi' hq hI hb h0 h1 h2c.1 hl (by simp), ?_⟩
       simp only[Option.map_none,Option.getD_none,Pz,add_off]
       have:(if c=l.toNat then some (⟨b,o,none⟩:Addr)else some ⟨b,o+l.toNat*P.cellsOf e,none⟩)=some ⟨b,if c=l.toNat then o else o+l.toNat*P.cellsOf e,none⟩:=by split<;>rfl
       rw[this]
       refine .sl ht ?_ (by omega) ?_
       ·cases lim<;>simp at hcc⊢ <;>omega
       ·rcases ho with ho|ho
        ·by_cases hcl:c=l.toNat
         ·by_cases hl0:l.toNat=0
          ·left;rw[if_pos hcl,ho,hl0,Nat.add_zero]
          ·exact .inr (by omega)
         ·left;rw[if_neg hcl,ho,Nat.add_mul]
        ·exact .inr (by omega)
      ·rename_i c'
       split at hr<;>cases hr
       rename_i hc'
       refine⟨_,by rw[←hq];exact run_slc hu hi' hq hI hb h0 h1 h2c.1 hl (by intro q hq;cases hq;exact hc'), ?_⟩
       simp only[Pz,Option.getD_some,add_off]
       have:(if c'.toNat=l.toNat then some (⟨b,o,none⟩:Addr)else some ⟨b,o+l.toNat*P.cellsOf e,none⟩)=some ⟨b,if c'.toNat=l.toNat then o else o+l.toNat*P.cellsOf e,none⟩:=by split<;>rfl
       rw[this]
       refine .sl ht (by simp) (by omega) ?_
       rcases ho with ho|ho
       ·by_cases hcl:c'.toNat=l.toNat
        ·by_cases hl0:l.toNat=0
         ·left;rw[if_pos hcl,ho,hl0,Nat.add_zero]
         ·exact .inr (by omega)
        ·left;rw[if_neg hcl,ho,Nat.add_mul]
       ·exact .inr (by omega)
    ·cases hr
   ·rename_i d0 r' hns hh
    cases hh
    rw[Bz]at hr
    obtain⟨es,hes,hr⟩:=hr
    split at hr
    ·cases hr
    rename_i hall
    have hsz: ∀c∈es,c.length=P.cellsOf e:=fun c hc=>by
     have hall:es.all (fun c=>c.length==P.cellsOf e)=true:=by simpa only[Bool.not_eq_false]using hall
     simpa using Tz.1 hall c hc
    rw[Bz]at hr
    obtain⟨is,his,hr⟩:=hr
    rw[Bz]at hr
    obtain⟨⟨l,h,mo⟩,hb,hr⟩:=hr
    have hI:=intVals_of hrest his
    have hcut:(0≤l∧l≤h∧h≤es.length∧d= .list ((es.drop l.toNat).take (h.toNat-l.toNat)))∧ ∀c,mo=some c→h≤c∧c≤es.length:=by
     have cut:cutV es l h=some d→0≤l∧l≤h∧h≤es.length∧d= .list ((es.drop l.toNat).take (h.toNat-l.toNat)):=by
      intro hc
      unfold cutV at hc
      split at hc
      ·rename_i hcc
       exact⟨hcc.1,hcc.2.1,hcc.2.2,(Option.some.inj hc).symm⟩
      ·cases hc
     simp only[]at hr
     split at hr
     ·exact⟨cut hr,by simp⟩
     ·split at hr
      ·rename_i hcc
       exact⟨cut hr,by intro q hq;cases hq;exact hcc⟩
      ·cases hr
    obtain⟨⟨h0,h1,h2,hde⟩,hm⟩:=hcut
    generalize hq:E x=q at hx
    have hv:((q= .slice none 0 0∧es= [])∨ ∃a cap,q= .slice (some a) 0 cap∧es= [])∨ ∃b off cap,q= .slice (some ⟨b,off,none⟩) es.length cap∧es.length≤cap∧Rep w pr tk (.slice (some ⟨b,off,none⟩) es.length cap) (.list es):=by
     have fin:Rep w pr tk q (.list es)→((q= .slice none 0 0∧es= [])∨ ∃a cap,q= .slice (some a) 0 cap∧es= [])∨ ∃b off cap,q= .slice (some ⟨b,off,none⟩) es.length cap∧es.length≤cap∧Rep w pr tk (.slice (some ⟨b,off,none⟩) es.length cap) (.list es):=by
      intro h
      cases h with
      |nil'=>exact .inl (.inl ⟨rfl,rfl⟩)
      |emp=>exact .inl (.inr ⟨_,_,rfl,rfl⟩)
      |list us a b c dd=>exact .inr ⟨_,_,_,rfl,b, .list us a b c dd⟩
     split at hes<;>cases hes
     ·exact fin hx
     ·exact fin (mt_list hx)
     ·cases hx;exact .inl (.inl ⟨rfl,rfl⟩)
    rcases hv with(⟨rfl,rfl⟩|⟨a,cap,rfl,rfl⟩)|⟨b,off,cap,rfl,hcap,hrep⟩
    ·refine⟨_,by rw[←hq];exact run_slc hu hi' hq hI hb h0 h1 h2 (Nat.le_refl _) hm, ?_⟩
     simp only[List.length_nil]at h2
     have e1:h.toNat=0:=by omega
     have e2:l.toNat=0:=by omega
     have e3:(mo.map Int.toNat).getD 0=0:=by
      cases mo with
      |none=>rfl
      |some c=>have:=hm c rfl;simp at this⊢;omega
     rw[hde,e1,e2,e3]
     exact .nil'
    ·simp only[List.length_nil]at h2
     have e1:h.toNat=0:=by omega
     have e2:l.toNat=0:=by omega
     refine⟨_,by rw[←hq];exact run_slc hu hi' hq hI hb h0 h1 (by omega) (Nat.zero_le _) hm, ?_⟩
     rw[hde,e1,e2]
     split<;>exact .emp
    ·refine⟨_,by rw[←hq];exact run_slc hu hi' hq hI hb h0 h1 (by omega) hcap hm, ?_⟩
     have hhm:h.toNat≤(mo.map Int.toNat).getD cap:=by
      cases mo with
      |none=>simp;omega
      |some c=>have:=hm c rfl;simp;omega
     have:=cut_rep (P:=P) (e:=e) (l:=l.toNat) (h:=h.toNat) (k:=(mo.map Int.toNat).getD cap) hrep hsz (by omega) (by omega) hhm
     rw[hde]
     split
     ·rename_i hml;rw[if_pos hml]at this;exact this
     ·rename_i hml;rw[if_neg hml]at this;exact this
   ·cases hr
 ·cases hd
def PK.simple:PK→Bool
 | .call _| .ccall| .fbox _=>false
 |_=>true
theorem or3{α:Type}{a b c:Option α}{k:α}(h:(a.or b).or c=some k):a=some k∨b=some k∨c=some k:=by
 cases a<;>cases b<;>simp_all
theorem reps_get: ∀{vs:List Value} {ds:List D},Reps w pr tk vs ds→ ∀(i:Nat) (c:Value) (x:D),vs[i]?=some c→ds[i]?=some x→Rep w pr tk c x
 | [],[],_,i,c,x,h,_=>by simp at h
 |v::vs,d::ds,h,0,c,x,hc,hx=>by simp at hc hx;subst hc;subst hx;exact h.1
 |v::vs,d::ds,h,i+1,c,x,hc,hx=>reps_get h.2 i c x (by simpa using hc) (by simpa using hx)
 | [],_::_,h,_,_,_,_,_=>absurd h (by simp[Reps])
 |_::_,[],h,_,_,_,_,_=>absurd h (by simp[Reps])
theorem afld_sound{Γ:Env}{t f:Nat}{q:Nat×Nat×Bool}{v:Value}{x d:D}(hf:fieldOff P t f=some q)(hc:q.2.2=true∨q.2.1=1)(h:Rep w pr tk v x)(hr:(PK.afld q.1 q.2.1 q.2.2).run Γ m [x]=some d):
  ∃u,(Instr.field t v f).run P w= .ok u w∧Rep w pr tk u d:=by
 unfold fieldOff at hf
 cases hu:P.underlying t with
 |none=>simp[hu]at hf
 |some ds=>
  cases ds<;>simp only[hu]at hf<;>try (cases hf;done)
  rename_i fs
  rw[Bz]at hf
  obtain⟨fl,hfl,hf⟩:=hf
  rw[Bz]at hf
  obtain⟨g,hg,hf⟩:=hf
  split at hf<;>cases hf
  rename_i hsz
  have hinfo:(P.info? fl.type).isSome:=by
   cases hi:P.info? fl.type with
   |none=>simp[Program.cellsOf,hi]at hsz
   |some i=>rfl
  cases x<;>simp only[PK.run,afldV]at hr<;>try (cases hr;done)
  rename_i xs
  split at hr
  ·rename_i hl
   obtain⟨cs,rfl,hcs⟩:=rep_agg.1 h
   have hlc:fl.offset+P.cellsOf fl.type≤cs.size:=by rw[hcs.1];exact hl
   refine⟨_,by simp[Instr.field,run_underlying hu,hfl];exact run_part hg hinfo hlc hc, ?_⟩
   cases g
   ·have h1:P.cellsOf fl.type=1:=by simpa using hc
    have hlt:fl.offset<cs.size:=by omega
    simp only[Bool.false_eq_true,if_false]at hr⊢
    have:=hcs.2.2 _ _ d (Rz hlt) hr
    have hgd:cs.getD fl.offset undef=cs[fl.offset]:=by simp[Array.getD,hlt]
    rw[hgd]
    exact this
   ·simp only[if_true,Jz]at hr⊢
    subst hr
    exact rep_agg.2 ⟨_,rfl,agg_take hcs _ _⟩
  ·cases hr
theorem zeroD_sound{t:Nat}{z:D}(h:dZeroD P t=some z): ∃v,(zeroValue t).run P w= .ok v w∧Rep w pr tk v z:=by
 unfold dZeroD at h
 rw[Bz]at h
 obtain⟨v,hv,h⟩:=h
 rw[Bz]at hv
 obtain⟨i,hi,hzi⟩:=hv
 refine⟨v,by simp[zeroValue,typeInfo,hi,hzi], ?_⟩
 split at h
 ·rename_i cs
  obtain⟨xs,hxs,rfl⟩:=Mz.1 h
  exact rep_agg.2 ⟨cs,rfl,by have:=zero_cells (w:=w) (pr:=pr) (tk:=tk) hxs;simpa using this⟩
 ·exact(dVal_repV h).1
theorem eqKey_one{n:Nat}{x y:D}{r:Bool}(h:eqKey [n] x y=some r):eqCells [n] [x] [y]=some r∨(n=99∧ ∃xs ys,x= .agg xs∧y= .agg ys∧eqCells [] xs ys=some r):=by
 by_cases hn:n=99
 ·subst hn
  cases x<;>cases y<;>first|exact .inr ⟨rfl,_,_,rfl,rfl,h⟩|exact .inl (by simpa only[eqKey]using h)
 ·left
  unfold eqKey at h
  split at h
  ·rename_i h1
   simp only[List.cons.injEq]at h1
   exact absurd h1.1 hn
  ·rename_i hh _
   cases hh
   exact h
  ·cases h
theorem kindOf1_lt{k n:Nat}(hk:kindOf1 P k=some n):n≠99:=fun e=>by
 subst e
 unfold kindOf1 at hk
 have lt8: ∀p:IntKind,kindNo p<8:=by intro p;cases p<;>simp[kindNo]
 split at hk
 ·rename_i k0 _;have:=lt8 k0;simp at hk;omega
 ·simp at hk
 ·simp at hk
 ·cases hk
theorem sameNow_sound{k n:Nat}{kd:TypeDesc}(hu:P.underlying k=some kd)(hk:kindOf1 P k=some n){a b:Value}{x y:D}{r:Bool}(hx:Rep w pr tk a x)(hy:Rep w pr tk b y)(hr:eqKey [n] x y=some r):Instr.sameNow kd a b=some r:=by
 unfold kindOf1 at hk
 have hn:n≠99:=fun e=>by
  subst e
  have lt8: ∀p:IntKind,kindNo p<8:=by intro p;cases p<;>simp[kindNo]
  split at hk
  ·rename_i k0 _;have:=lt8 k0;simp at hk;omega
  ·simp at hk
  ·simp at hk
  ·cases hk
 rcases eqKey_one hr with hr|⟨h99,_⟩
 ·unfold eqCells at hr
  have inj: ∀p q:IntKind,kindNo p=kindNo q→p=q:=by intro p q;cases p<;>cases q<;>simp[kindNo]
  have lt8: ∀p:IntKind,kindNo p<8:=by intro p;cases p<;>simp[kindNo]
  split at hr
  ·rename_i hh _ _;cases hh
  ·rename_i n' ks q u xs q' v ys hh1 hh2 hh3
   cases hh1
   cases hh2
   cases hh3
   split at hr
   ·rename_i hc
    obtain⟨c1,c2⟩:=hc
    simp only[eqCells,Pz,Bool.and_true,Jz]at hr
    subst hr
    cases hx
    cases hy
    have hkk:q=q':=inj _ _ (c1.symm.trans c2)
    subst hkk
    rw[hu]at hk
    split at hk
    ·rename_i k0 e
     cases e
     simp[Instr.sameNow]
    ·have:=lt8 q;simp at hk;omega
    ·have:=lt8 q;simp at hk;omega
    ·cases hk
   ·cases hr
  ·rename_i ks u xs v ys hh1 hh2 hh3
   cases hh1
   cases hh2
   cases hh3
   simp only[eqCells,Pz,Bool.and_true,Jz]at hr
   subst hr
   cases hx
   cases hy
   rw[hu]at hk
   split at hk
   ·rename_i k0 _;have:=lt8 k0;simp at hk;omega
   ·rename_i e;cases e;simp[Instr.sameNow]
   ·simp at hk
   ·cases hk
  ·rename_i ks u xs v ys hh1 hh2 hh3
   cases hh1
   cases hh2
   cases hh3
   simp only[eqCells,Pz,Bool.and_true,Jz]at hr
   subst hr
   cases hx
   cases hy
   rw[hu]at hk
   split at hk
   ·rename_i k0 _;have:=lt8 k0;simp at hk;omega
   ·simp at hk
   ·rename_i e;cases e;simp[Instr.sameNow,beq_toListBytes]
   ·cases hk
  ·cases hr
 ·exact absurd h99 hn
theorem sameKey_eq{n:Nat}(hn:n≠99){a b:Value}{x y:D}(hx:Rep w pr tk a x)(hy:Rep w pr tk b y)(hr:eqKey [n] x y=some true):a=b∧ ∀i,Instr.sameBits i a a=true:=by
 have hr':=eqKey_one hr
 clear hr
 rcases hr' with hr|⟨h99,_⟩
 ·unfold eqCells at hr
  split at hr
  ·rename_i hh _ _;cases hh
  ·rename_i n' ks q u xs q' v ys hh1 hh2 hh3
   cases hh1
   cases hh2
   cases hh3
   split at hr
   ·rename_i hc
    obtain⟨c1,c2⟩:=hc
    have inj: ∀p q:IntKind,kindNo p=kindNo q→p=q:=by intro p q;cases p<;>cases q<;>simp[kindNo]
    have hkk:q=q':=inj _ _ (c1.symm.trans c2)
    subst hkk
    simp only[eqCells,Pz,Bool.and_true,Jz,beq_iff_eq]at hr
    subst hr
    cases hx
    cases hy
    exact⟨rfl,fun i=>by cases i<;>simp[Instr.sameBits]⟩
   ·cases hr
  ·rename_i ks u xs v ys hh1 hh2 hh3
   cases hh1
   cases hh2
   cases hh3
   simp only[eqCells,Pz,Bool.and_true,Jz,beq_iff_eq]at hr
   subst hr
   cases hx
   cases hy
   exact⟨rfl,fun i=>by cases i<;>simp[Instr.sameBits]⟩
  ·rename_i ks u xs v ys hh1 hh2 hh3
   cases hh1
   cases hh2
   cases hh3
   simp only[eqCells,Pz,Bool.and_true,Jz]at hr
   rw[←beq_toListBytes,MapKept.bytes_beq]at hr
   subst hr
   cases hx
   cases hy
   exact⟨rfl,fun i=>by cases i<;>simp[Instr.sameBits,MapKept.bytes_beq]⟩
  ·cases hr
 ·exact absurd h99 hn
theorem findNow_sound{k n:Nat}{kd:TypeDesc}(hu:P.underlying k=some kd)(hk:kindOf1 P k=some n){a:Value}{x:D}(hx:Rep w pr tk a x): ∀(l:List MapEntry) (es:List (D×D)) (i:Nat) (r:Option Nat),l.length=es.length→
  (∀(j:Nat) (en:MapEntry) (p:D×D),l[j]?=some en→es[j]?=some p→Rep w pr tk en.key p.1)→findV [n] x es i=some r→
  match r with
  |none=>Instr.findNow kd a l i=some none
  |some q=>i≤q∧ ∃en,l[q-i]?=some en∧Instr.findNow kd a l i=some (some (q,en.val))∧a=en.key∧ ∀z,Instr.sameBits z a a=true
 | [],[],i,r,_,_,h=>by
  simp only[findV,Jz]at h
  subst h
  rfl
 |en::l,p::es,i,r,hl,hrep,h=>by
  simp only[findV]at h
  rw[Bz]at h
  obtain⟨b,hb,h⟩:=h
  have h0:=hrep 0 en p (by simp) (by simp)
  have hs:=sameNow_sound hu hk hx h0 hb
  cases b
  ·simp only[Bool.false_eq_true,if_false]at h
   have ih:=findNow_sound hu hk hx l es (i+1) r (by simpa using hl) (fun j en p he hp=>hrep (j+1) en p (by simpa using he) (by simpa using hp)) h
   cases r with
   |none=>simpa[Instr.findNow,hs]using ih
   |some q=>
    obtain⟨g1,en',g2,g3,g4⟩:=ih
    refine⟨by omega,en', ?_,by simpa[Instr.findNow,hs]using g3,g4⟩
    rw[show q-i=(q-(i+1))+1 by omega]
    simpa using g2
  ·simp only[if_true,Jz]at h
   subst h
   exact⟨Nat.le_refl _,en,by simp,by simp[Instr.findNow,hs],sameKey_eq (kindOf1_lt hk) hx h0 hb⟩
 | [],_::_,_,_,h,_,_=>by simp at h
 |_::_,[],_,_,h,_,_=>by simp at h
theorem eqCells_same(nn:Nat): ∀{ks:List Nat} {xs ys:List D},eqCells ks xs ys=some true→ ∀{A B:List Value},A.length=xs.length→B.length=ys.length→(∀(i:Nat) (c:Value) (x:D),A[i]?=some c→xs[i]?=some x→Rep w pr tk c x)→
  (∀(i:Nat) (c:Value) (x:D),B[i]?=some c→ys[i]?=some x→Rep w pr tk c x)→A=B∧(A.zip A).all (fun(x,y)=>Instr.sameBits nn x y)=true
 | [],xs,ys,h,A,B,hA,hB,_,_=>by
  have hl:=eqCells_len h
  have h1:A= []:=List.eq_nil_of_length_eq_zero (by simp[hA,hl.1])
  have h2:B= []:=List.eq_nil_of_length_eq_zero (by simp[hB,hl.2])
  subst h1;subst h2;exact⟨rfl,rfl⟩
 |k::ks,xs,ys,h,A,B,hA,hB,rA,rB=>by
  obtain⟨x,xs',y,ys',r1,r2,rfl,rfl,h1,h2,h3⟩:=eqCells_cons h
  have hr:r1=true∧r2=true:=by first|simpa using h3|simpa using h3.symm
  obtain⟨rfl,rfl⟩:=hr
  cases A with
  |nil=>simp at hA
  |cons a A=>
   cases B with
   |nil=>simp at hB
   |cons b B=>
    have ha:=rA 0 a x rfl rfl
    have hb:=rB 0 b y rfl rfl
    have hone:a=b∧ ∀i,Instr.sameBits i a a=true:=by
     unfold eqCells at h1
     split at h1
     ·rename_i hh _ _;cases hh
     ·rename_i n' kk q u us q' v vs hh1 hh2 hh3
      cases hh1;cases hh2;cases hh3
      split at h1
      ·rename_i hc
       obtain⟨c1,c2⟩:=hc
       have inj: ∀p q:IntKind,kindNo p=kindNo q→p=q:=by intro p q;cases p<;>cases q<;>simp[kindNo]
       have hkk:q=q':=inj _ _ (c1.symm.trans c2)
       subst hkk
       simp only[eqCells,Pz,Bool.and_true,Jz,beq_iff_eq]at h1
       subst h1
       cases ha;cases hb
       exact⟨rfl,fun i=>by cases i<;>simp[Instr.sameBits]⟩
      ·cases h1
     ·rename_i kk u us v vs hh1 hh2 hh3
      cases hh1;cases hh2;cases hh3
      simp only[eqCells,Pz,Bool.and_true,Jz,beq_iff_eq]at h1
      subst h1
      cases ha;cases hb
      exact⟨rfl,fun i=>by cases i<;>simp[Instr.sameBits]⟩
     ·rename_i kk u us v vs hh1 hh2 hh3
      cases hh1;cases hh2;cases hh3
      simp only[eqCells,Pz,Bool.and_true,Jz]at h1
      rw[←beq_toListBytes,MapKept.bytes_beq]at h1
      subst h1
      cases ha;cases hb
      exact⟨rfl,fun i=>by cases i<;>simp[Instr.sameBits,MapKept.bytes_beq]⟩
     ·cases h1
    obtain⟨rfl,hs⟩:=hone
    obtain⟨e1,e2⟩:=eqCells_same nn (A:=A) (B:=B) h2 (by simpa using hA) (by simpa using hB) (fun i c z hc hz=>rA (i+1) c z (by simpa using hc) (by simpa using hz)) (fun i c z hc hz=>rB (i+1) c z (by simpa using hc) (by simpa using hz))
    subst e1
    refine⟨rfl, ?_⟩
    simp only[List.zip_cons_cons,List.all_cons,hs nn,Bool.true_and]
    exact e2
structure KeyLw(P:Program)(k:Nat)(ks:List Nat):Prop where
 check: ∀{w:World} {pr:Prot} {tk:Places} {a:Value} {x:D},Rep w pr tk a x→eqKey ks x x=some true→ ∀em,(Instr.checkKey em 10000 k a).run P w= .ok () w
 find: ∀{w:World} {pr:Prot} {tk:Places} {a:Value} {x:D},Rep w pr tk a x→ ∀{l:List MapEntry} {es:List (D×D)} {r:Option Nat},l.length=es.length→
  (∀(j:Nat) (en:MapEntry) (p:D×D),l[j]?=some en→es[j]?=some p→Rep w pr tk en.key p.1)→findV ks x es 0=some r→
  match r with
  |none=>(Instr.findKey k a l).run P w= .ok none w
  |some q=> ∃en,l[q]?=some en∧(Instr.findKey k a l).run P w= .ok (some (q,en.val)) w∧a=en.key∧Instr.sameBits 10000 a a=true
theorem kindOf1_checkKey{t n:Nat}(hk:kindOf1 P t=some n)(w:World)(em:Bool)(i:Nat)(v:Value):(Instr.checkKey em (i+1) t v).run P w= .ok () w:=by
 unfold kindOf1 at hk
 split at hk
 ·rename_i q hq;unfold Instr.checkKey;simp[run_underlying hq]
 ·rename_i hq;unfold Instr.checkKey;simp[run_underlying hq]
 ·rename_i hq;unfold Instr.checkKey;simp[run_underlying hq]
 ·cases hk
theorem plainFs_len {f : Nat} : ∀ {fs : List Field} {i : Nat} {ks : List Nat}, kindsFs P f i fs = some ks → (∀ g ∈ fs, (kindOf1 P g.type).isSome = true) → ks.length = fs.length ∧ ∀ (j : Nat) (g : Field), fs[j]? = some g → g.name ≠ "_" ∧ g.offset = i + j
 | [],i,ks,h,_=>by cases f<;>simp[kindsFs]at h<;>subst h<;>exact⟨rfl,fun j g hg=>by simp at hg⟩
 |g::gs,i,ks,h,hp=>by
  cases f with
  |zero=>simp[kindsFs]at h
  |succ f=>
   simp only[kindsFs]at h
   split at h
   ·rename_i hc
    obtain⟨k1,h1,h2⟩:=Bz.1 h
    obtain⟨k2,h3,rfl⟩:=Mz.1 h2
    obtain⟨n,hn⟩:=Option.isSome_iff_exists.1 (hp g (List.mem_cons_self ..))
    have hk1:k1= [n]:=by
     have hn':=hn
     unfold kindOf1 at hn'
     cases f with
     |zero=>simp[kindsT]at h1
     |succ f=>
      unfold kindsT at h1
      split at h1
      ·rename_i hu;rw[hu]at hn';simp at hn'
      ·rename_i hu;rw[hu]at hn';simp at hn'
      ·rw[hn]at h1;simpa using h1.symm
    subst hk1
    obtain⟨e1,e2⟩:=plainFs_len h3 fun q hq=>hp q (Cz _ hq)
    refine⟨by simp[e1],fun j q hq=> ?_⟩
    cases j with
    |zero=>simp at hq;subst hq;exact⟨hc.1,by simpa using hc.2⟩
    |succ j=>
     obtain⟨a1,a2⟩:=e2 j q (by simpa using hq)
     exact⟨a1,by rw[a2];simp;omega⟩
   ·cases h
theorem key_aggs{ks:List Nat}{x y:D}{r:Bool}(h:eqKey (99::ks) x y=some r): ∃xs ys,x= .agg xs∧y= .agg ys∧eqCells ks xs ys=some r:=by
 cases ks with
 |nil=>
  rcases eqKey_one h with h1|⟨_,xs,ys,rfl,rfl,h1⟩
  ·exfalso
   have lt8: ∀p:IntKind,kindNo p<8:=by intro p;cases p<;>simp[kindNo]
   unfold eqCells at h1
   split at h1
   ·rename_i hh _ _;cases hh
   ·rename_i n' kk q u us q' v vs hh1 hh2 hh3
    cases hh1
    split at h1
    ·rename_i hc;have:=lt8 q;omega
    ·cases h1
   ·rename_i hh _ _;simp at hh
   ·rename_i hh _ _;simp at hh
   ·cases h1
  ·exact⟨xs,ys,rfl,rfl,h1⟩
 |cons k0 r0=>cases x<;>cases y<;>first|exact⟨_,_,rfl,rfl,h⟩|(simp[eqKey]at h;done)
theorem keyLw_core{k:Nat}{ks:List Nat}(hko:kindsOf P k=some ks)(hw:(match P.underlying k with|some (.array _ _)|some (.struct _)=>true|_=>false)=true)
  (hck: ∀{w:World} {pr:Prot} {tk:Places} {a:Value} {x:D},Rep w pr tk a x→eqKey (99::ks) x x=some true→ ∀em,(Instr.checkKey em 10000 k a).run P w= .ok () w):KeyLw P k (99::ks):=by
 refine⟨fun hx hself em=>hck hx hself em,fun{w pr tk a x} hx {l es r} hl hrep hf=> ?_⟩
 have hfk:=run_findKey_eq (P:=P) (w:=w) (k:=k) hw a l
 have key: ∀(l:List MapEntry) (es:List (D×D)) (i:Nat) (r:Option Nat),l.length=es.length→(∀(j:Nat) (en:MapEntry) (p:D×D),l[j]?=some en→es[j]?=some p→Rep w pr tk en.key p.1)→findV (99::ks) x es i=some r→
   match r with
   |none=>(Instr.findAsking k a l i).run P w= .ok none w
   |some q=>i≤q∧ ∃en,l[q-i]?=some en∧(Instr.findAsking k a l i).run P w= .ok (some (q,en.val)) w∧a=en.key∧Instr.sameBits 10000 a a=true:=by
  intro l
  induction l with
  |nil=>
   intro es i r hl _ h
   cases es with
   |nil=>simp only[findV,Jz]at h;subst h;simp[Instr.findAsking]
   |cons=>simp at hl
  |cons en l ih=>
   intro es i r hl hrep h
   cases es with
   |nil=>simp at hl
   |cons p es=>
    simp only[findV,Bz]at h
    obtain⟨b,hb,h⟩:=h
    obtain⟨xs,ys,rfl,hp1,he⟩:=key_aggs hb
    have hy:=hrep 0 en p rfl rfl
    rw[hp1]at hy
    obtain⟨A,B,rfl,hB,hrun⟩:=aggEq_sound hko hx hy he
    have hrun':(Op.equal k (.agg A) en.key).run P w= .ok b w:=by rw[hB];exact hrun
    cases b
    ·simp only[Bool.false_eq_true,if_false]at h
     have:=ih es (i+1) r (by simpa using hl) (fun j en' p' h1 h2=>hrep (j+1) en' p' (by simpa using h1) (by simpa using h2)) h
     cases r with
     |none=>simpa[Instr.findAsking,hrun']using this
     |some q=>
      obtain⟨g1,en',g2,g3,g4⟩:=this
      refine⟨by omega,en', ?_,by simpa[Instr.findAsking,hrun']using g3,g4⟩
      rw[show q-i=(q-(i+1))+1 by omega]
      simpa using g2
    ·simp only[if_true,Jz]at h
     subst h
     obtain⟨A',hA',hAr⟩:=rep_agg.1 hx
     cases hA'
     obtain⟨B',hB',hBr⟩:=rep_agg.1 hy
     rw[hB]at hB';cases hB'
     obtain⟨e1,e2⟩:=eqCells_same (w:=w) (pr:=pr) (tk:=tk) 9999 he (A:=A.toList) (B:=B.toList) (by simpa using hAr.1) (by simpa using hBr.1) (fun i c z hc hz=>hAr.2.2 i c z (by simpa using hc) hz) (fun i c z hc hz=>hBr.2.2 i c z (by simpa using hc) hz)
     have hAB:A=B:=Array.toList_inj.1 e1
     refine⟨Nat.le_refl _,en,by simp,by simp[Instr.findAsking,hrun'],by rw[hB,hAB], ?_⟩
     simp only[Instr.sameBits,beq_self_eq_true,Bool.true_and]
     exact e2
 have:=key l es 0 r hl hrep hf
 cases r with
 |none=>exact hfk.trans this
 |some q=>
  obtain⟨_,en,g1,g2,g3⟩:=this
  exact⟨en,by simpa using g1,hfk.trans g2,g3⟩
theorem keyLw_struct{k:Nat}{fs:Array Field}{ks:List Nat}(hu:P.underlying k=some (.struct fs))(hp: ∀g∈fs.toList,(kindOf1 P g.type).isSome=true)(hst:P.stoodInHeld k=false)(hk:kindsFs P 40 0 fs.toList=some ks):KeyLw P k (99::ks):=by
 have hko:kindsOf P k=some ks:=by unfold kindsOf;rw[hu];simp[hst,hk]
 obtain⟨hlen,hfs⟩:=plainFs_len hk hp
 refine keyLw_core hko (by rw[hu]) fun{w pr tk a x} hx hself em=> ?_
 obtain⟨xs,_,rfl,_,he⟩:=key_aggs hself
 obtain⟨A,rfl,hA⟩:=rep_agg.1 hx
 have hxl:=(eqCells_len he).1
 rw[show(10000:Nat)=9999+1 from rfl,Instr.checkKey]
 simp only[Sem.run_bind,run_underlying hu,Result.andThen_ok]
 rw[←Array.forIn_toList]
 have each : ∀ g ∈ fs.toList, g.name ≠ "_" ∧ ∃ v, (part g.type A g.offset).run P w = .ok v w ∧ (Instr.checkKey em 9999 g.type v).run P w = .ok () w := fun g hg => by
  obtain⟨j,hj⟩:=List.getElem?_of_mem hg
  obtain⟨h1,h2⟩:=hfs j g hj
  obtain⟨n,hn⟩:=Option.isSome_iff_exists.1 (hp g hg)
  have hjl:j<fs.toList.length:=(Gz.1 hj).1
  have hA1:A[g.offset]?=some A[g.offset]!:=by
   have:g.offset<A.size:=by rw[hA.1,hxl,hlen];omega
   simp[this]
  exact⟨h1,_,kindOf1_part hn hA1,kindOf1_checkKey hn w em 9998 _⟩
 generalize fs.toList=L at each
 induction L with
 |nil=>simp
 |cons g L ih=>
  obtain⟨h1,v,h2,h3⟩:=each g (List.mem_cons_self ..)
  simp only[List.forIn_cons,Sem.run_bind,ne_eq,h1,not_false_eq_true,if_true,h2,h3,Result.andThen_ok,Sem.run_pure]
  exact ih fun q hq=>each q (Cz _ hq)
theorem keyLw_array{k n e q:Nat}{ks:List Nat}(hu:P.underlying k=some (.array n e))(hq:kindOf1 P e=some q)(hsz:(P.info? e).map (·.size)=some 1)(hko:kindsOf P k=some ks):KeyLw P k (99::ks):=by
 obtain⟨i,hi,hi1⟩:=Mz.1 hsz
 have hlen:ks.length=n:=by
  have hko':=hko
  unfold kindsOf at hko'
  rw[hu]at hko'
  simp only at hko'
  obtain⟨k1,h1,h2⟩:=Bz.1 hko'
  have hk1:k1= [q]:=by
   have hq':=hq
   unfold kindOf1 at hq'
   unfold kindsT at h1
   split at h1
   ·rename_i hh;rw[hh]at hq';simp at hq'
   ·rename_i hh;rw[hh]at hq';simp at hq'
   ·rw[hq]at h1;simpa using h1.symm
  subst hk1
  split at h2
  ·cases h2;simp
  ·cases h2
 refine keyLw_core hko (by rw[hu]) fun{w pr tk a x} hx hself em=> ?_
 obtain⟨xs,_,rfl,_,he⟩:=key_aggs hself
 obtain⟨A,rfl,hA⟩:=rep_agg.1 hx
 have hxl:=(eqCells_len he).1
 rw[show(10000:Nat)=9999+1 from rfl,Instr.checkKey]
 simp only[Sem.run_bind,run_underlying hu,Result.andThen_ok]
 simp only[Std.Legacy.Range.forIn_eq_forIn_range',Std.Legacy.Range.size,Nat.sub_zero,Nat.add_one_sub_one,Nat.div_one]
 have hcell:P.cellsOf e=1:=by simp[Program.cellsOf,hi,hi1]
 have each: ∀j∈List.range' 0 n,∃v,(part e A (j*P.cellsOf e)).run P w= .ok v w∧(Instr.checkKey em 9999 e v).run P w= .ok () w:=fun j hj=>by
  have hjn:j<n:=by simpa using(List.mem_range'_1.1 hj).2
  have hA1:A[j]?=some A[j]!:=by
   have:j<A.size:=by rw[hA.1,hxl,hlen];exact hjn
   simp[this]
  exact⟨_,kindOf1_part hq (by rw[hcell,Nat.mul_one];exact hA1),kindOf1_checkKey hq w em 9998 _⟩
 generalize List.range' 0 n=is at each
 induction is with
 |nil=>simp
 |cons j is ih=>
  obtain⟨v,p1,p2⟩:=each j (List.mem_cons_self ..)
  simp only[List.forIn_cons,Sem.run_bind,run_sizeOf w hi,Result.andThen_ok,p1,p2,Sem.run_pure]
  exact ih fun y hy=>each y (Cz _ hy)
theorem dKey_spec{t e:Nat}{ks:List Nat}(h:dKey P t=some (ks,e)): ∃k,P.underlying t=some (.map k e)∧KeyLw P k ks:=by
 unfold dKey at h
 split at h
 ·rename_i k e' hu
  split at h
  ·rename_i n hn
   cases h
   refine⟨k,hu,fun{w pr tk a x} hx hself em=>kindOf1_checkKey hn w em 9999 a,fun{w pr tk a x} hx {l es r} hl hrep hf=> ?_⟩
   obtain⟨kd,hkd⟩: ∃kd,P.underlying k=some kd:=by
    have hn':=hn
    unfold kindOf1 at hn'
    cases hh:P.underlying k with
    |none=>rw[hh]at hn';cases hn'
    |some kd=>exact⟨kd,rfl⟩
   have:=findNow_sound hkd hn hx l es 0 r hl hrep hf
   cases r with
   |none=>exact MapKept.run_findKey hkd this
   |some q=>
    obtain⟨_,en,g1,g2,g3,g4⟩:=this
    exact⟨en,by simpa using g1,MapKept.run_findKey hkd g2,g3,g4 _⟩
  ·split at h
   ·rename_i fs hfs
    split at h
    ·rename_i hc
     obtain⟨k',hk',h⟩:=Mz.1 h
     cases h
     exact⟨k,hu,keyLw_struct hfs (fun g hg=>Tz.1 hc.1 g hg) hc.2 hk'⟩
    ·cases h
   ·rename_i m el hfs
    split at h
    ·rename_i hc
     obtain⟨k',hk',h⟩:=Mz.1 h
     cases h
     obtain⟨q,hq⟩:=Option.isSome_iff_exists.1 hc.1
     exact⟨k,hu,keyLw_array hfs hq hc.2 hk'⟩
    ·cases h
   ·cases h
 ·cases h
def FKr(P:Program)(w:World)(k:Nat)(a:Value)(ents:Array MapEntry)(es:List (D×D)):Option Nat→Prop
 |none=>(Instr.findKey k a ents.toList).run P w= .ok none w
 |some q=> ∃en p,ents[q]?=some en∧es[q]?=some p∧(Instr.findKey k a ents.toList).run P w= .ok (some (q,en.val)) w∧a=en.key∧Instr.sameBits 10000 a a=true
theorem findKey_sound(M:MemOK P w pr tk m){k:Nat}{ks:List Nat}(L:KeyLw P k ks){t:Tok}{b cap:Nat}{es:List (D×D)}(hm:m t=some (.map es))(ht:tk t=some (b,cap)){a:Value}{x:D}(hx:Rep w pr tk a x){r:Option Nat}(hf:findV ks x es 0=some r):
  ∃ents,w.heap[b]?=some (.map ents es.length)∧ents.size=es.length∧es.length≤maxLen∧(∀(i:Nat) (en:MapEntry) (p:D×D),ents[i]?=some en→es[i]?=some p→en.born=i∧Rep w pr tk en.key p.1∧Rep w pr tk en.val p.2)∧
   FKr P w k a ents es r:=by
 obtain⟨b',cap',ents,h1,h2,h3,h4,h5⟩:=M.obj _ _ hm
 rw[ht]at h1;cases h1
 refine⟨ents,h2,h3,h4,h5, ?_⟩
 have:=L.find hx (l:=ents.toList) (by simpa using h3) (fun j en p he hp=>(h5 j en p (by simpa using he) hp).2.1) hf
 cases r with
 |none=>exact this
 |some q=>
  obtain⟨en,g1,g2,g3⟩:=this
  simp only[Array.getElem?_toList]at g1
  have hq:q<es.length:=by have:=(Array.getElem?_eq_some_iff.1 g1).1;omega
  exact⟨en,es[q],g1,Ez hq,g2,g3⟩
theorem findKey_fm{k:Nat}{ks:List Nat}(L:KeyLw P k ks){b:Nat}{rows:List (List D)}{es:List (D×D)}(hu:unpairR rows=some es){v:Value}(hr:Rep w pr tk v (.fm rows))(hv:v= .map (some b)){a:Value}{x:D}(hx:Rep w pr tk a x){r:Option Nat}(hf:findV ks x es 0=some r):
  ∃ents,w.heap[b]?=some (.map ents es.length)∧ents.size=es.length∧es.length≤maxLen∧(∀(i:Nat) (en:MapEntry) (p:D×D),ents[i]?=some en→es[i]?=some p→en.born=i∧Rep w pr tk en.key p.1∧Rep w pr tk en.val p.2)∧
   FKr P w k a ents es r:=by
 subst hv
 cases hr with
 | @fm _ _ ents es hb hp hs hl hn hk hv=>
  rw[unpair_pair]at hu;cases hu
  have h5: ∀(i:Nat) (en:MapEntry) (p:D×D),_→_→en.born=i∧Rep w pr tk en.key p.1∧Rep w pr tk en.val p.2:=fun i en p he hpp=>⟨hn i en he,(hk i en p he hpp).anyTok,(hv i en p he hpp).anyTok⟩
  refine⟨_,hb,hs,hl,h5, ?_⟩
  have:=L.find hx (l:=ents.toList) (by simpa using hs) (fun j en p he hp=>(h5 j en p (by simpa using he) hp).2.1) hf
  cases r with
  |none=>exact this
  |some q=>
   obtain⟨en,g1,g2,g3⟩:=this
   simp only[Array.getElem?_toList]at g1
   have hq:q<es.length:=by have:=(Array.getElem?_eq_some_iff.1 g1).1;omega
   exact⟨en,es[q],g1,Ez hq,g2,g3⟩
theorem lkp_sound(M:MemOK P w pr tk m){t e:Nat}{ks:List Nat}{z:D}{ok:Bool}{v u:Value}{x y d:D}(hk:dKey P t=some (ks,e))(hz:dZeroD P e=some z)(hx:Rep w pr tk v x)(hy:Rep w pr tk u y)(hr:lkpV m ks z ok [x,y]=some d):
  ∃q,(Instr.lookup t v u ok).run P w= .ok q w∧Rep w pr tk q d:=by
 obtain⟨k,hu,L⟩:=dKey_spec hk
 have core: ∀{b:Nat} {es:List (D×D)} {r:Option Nat},y.okM=true∧eqKey ks y y=some true→
   (∃ents,w.heap[b]?=some (.map ents es.length)∧ents.size=es.length∧es.length≤maxLen∧(∀(i:Nat) (en:MapEntry) (p:D×D),ents[i]?=some en→es[i]?=some p→en.born=i∧Rep w pr tk en.key p.1∧Rep w pr tk en.val p.2)∧
   FKr P w k u ents es r)→
   (match r with
    |none=>some (if ok then .tup [z,bv false]else z)
    |some i=>(es[i]?).map fun p=>if ok then D.tup [p.2,bv true]else p.2)=some d→ ∃q,(Instr.lookup t (.map (some b)) u ok).run P w= .ok q w∧Rep w pr tk q d:=by
  intro b es r hcnd hfacts hr
  have hchk:=L.check hy hcnd.2
  obtain⟨ents,h2,h3,h4,h5,h6⟩:=hfacts
  obtain⟨zv,hzr,hzrep⟩:=zeroD_sound (w:=w) (pr:=pr) (tk:=tk) hz
  have tup2: ∀{p:Value} {dd:D} {bb:Bool},Rep w pr tk p dd→Rep w pr tk (.tuple #[p, .bool bb]) (.tup [dd,bv bb]):=fun{p dd bb} h=>
   .tup (by simp) fun i c xx hc hxx=>by
    match i,hc,hxx with
    |0,hc,hxx=>simp at hc hxx;subst hc;subst hxx;exact h
    |1,hc,hxx=>simp at hc hxx;subst hc;subst hxx;exact .v rfl
    |_+2,hc,hxx=>simp at hc
  split at hr
  ·cases hr
   refine⟨if ok then .tuple #[zv, .bool false]else zv, ?_, ?_⟩
   ·have h6:(Instr.findKey k u ents.toList).run P w= .ok none w:=h6
    simp[Instr.lookup,run_underlying hu,MapKept.run_getObj_map h2,hchk,h6,hzr,Result.andThen]
   ·cases ok
    ·exact hzrep
    ·exact tup2 hzrep
  ·rename_i q
   obtain⟨p,hp,rfl⟩:=Mz.1 hr
   obtain⟨en,p',g1,g2,g3,_⟩:=h6
   rw[hp]at g2;cases g2
   have hv:=(h5 q en p g1 hp).2.2
   refine⟨if ok then .tuple #[en.val, .bool true]else en.val, ?_, ?_⟩
   ·simp[Instr.lookup,run_underlying hu,MapKept.run_getObj_map h2,hchk,g3,Result.andThen]
   ·cases ok
    ·exact hv
    ·exact tup2 hv
 unfold lkpV at hr
 split at hr
 ·rename_i t' k' hh
  cases hh
  split at hr
  ·rename_i es hm
   split at hr
   rotate_left
   ·cases hr
   rename_i hcnd
   rw[Bz]at hr
   obtain⟨r,hf,hr⟩:=hr
   cases hx with
   |mp ht=>exact core hcnd (findKey_sound M L hm ht hy hf) hr
  ·cases hr
 ·rename_i rows k' hh
  cases hh
  rw[Bz]at hr
  obtain⟨es,hue,hr⟩:=hr
  split at hr
  rotate_left
  ·cases hr
  rename_i hcnd
  rw[Bz]at hr
  obtain⟨r,hf,hr⟩:=hr
  obtain⟨b,hvb⟩: ∃b,v= .map (some b):=by cases hx;exact⟨_,rfl⟩
  have hfk:=findKey_fm (P:=P) L hue hx hvb hy hf
  subst hvb
  exact core hcnd hfk hr
 ·cases hr
theorem ent_sound(M:MemOK P w pr tk m){v:Value}{x d:D}(hx:Rep w pr tk v x)(hr:entV m [x]=some d): ∃q,(Instr.entry v).run P w= .ok q w∧Rep w pr tk q d:=by
 unfold entV at hr
 split at hr
 ·rename_i t hh
  cases hh
  split at hr
  ·rename_i u n seen hm
   split at hr
   ·rename_i es hm2
    split at hr
    ·rename_i hn
     rw[Bz]at hr
     obtain⟨i,hi,hr⟩:=hr
     obtain⟨p,hp,rfl⟩:=Mz.1 hr
     cases hx with
     |ptr ht=>
      rename_i b cap
      obtain⟨b1,c1,b2,c2,g1,g2,g3⟩:=M.obj _ _ hm
      rw[ht]at g1;cases g1
      obtain⟨b3,c3,ents,h1,h2,h3,h4,h5⟩:=M.obj _ _ hm2
      rw[g2]at h1;cases h1
      have hil:i<es.length:=(Gz.1 hp).1
      have hen:ents[i]?=some ents[i]:=Rz (by omega)
      obtain⟨k1,k2,k3⟩:=h5 i ents[i] p hen hp
      have hback:seen.toArray.back?=some i:=by simp[hi]
      have hfind:ents.find? (·.born==i)=some ents[i]:=by
       rw[Array.find?_eq_some_iff_getElem]
       refine⟨by simpa using k1,i,by omega,rfl,fun j hj=> ?_⟩
       have hjl:j<ents.size:=by omega
       have:=(h5 j ents[j] es[j] (Rz hjl) (Ez (by omega))).1
       simp[this];omega
      refine⟨.tuple #[ents[i].key,ents[i].val], ?_, ?_⟩
      ·simp only[Instr.entry,getObj,Sem.run_bind,Sem.run,g3,h2,Result.andThen,hback,hn,bne_self_eq_false,Bool.false_eq_true,if_false,hfind]
       rfl
      ·exact .tup (by simp) fun j c xx hc hxx=>by
        match j,hc,hxx with
        |0,hc,hxx=>simp at hc hxx;subst hc;subst hxx;exact k2
        |1,hc,hxx=>simp at hc hxx;subst hc;subst hxx;exact k3
        |_+2,hc,hxx=>simp at hc
    ·cases hr
   ·cases hr
  ·cases hr
 ·cases hr
theorem pure_sound(M:MemOK P w pr tk m){fr:Cfg}{Γ:Env}{o:Oper}{k:PK}{xs:List Operand}{E:Operand→Value}{ds:List D}{d:D}
  (hd:dPure P fr o.op=some (k,xs)) (hk:k.simple=true) (hrep:Reps w pr tk (xs.map E) ds) (hrun:k.run Γ m ds=some d):
  ∃v,(execOp E o).run P w= .ok (.value v) w∧Rep w pr tk v d:=by
 have one: ∀(e:Sem Value),(execOp E o=do pure (.value (←e)))→(∃u,e.run P w= .ok u w∧Rep w pr tk u d)→
   ∃v,(execOp E o).run P w= .ok (.value v) w∧Rep w pr tk v d:=fun e he ⟨u,hr,hu⟩=>
  ⟨u,by rw[he];simp[hr],hu⟩
 generalize ho:o.op=op at hd
 cases op<;>simp only[dPure]at hd<;>try (cases hd;done)
 case move x=>
  cases hd
  obtain⟨y,rfl,hy⟩:=hrep.one
  cases hrun
  exact⟨E x,by simp[execOp,ho],hy⟩
 case assign x=>
  cases hd
  obtain⟨y,rfl,hy⟩:=hrep.one
  cases hrun
  exact⟨E x,by simp[execOp,ho],hy⟩
 case pick c a b=>
  cases hd
  obtain⟨y,z,z',rfl,h1,h2,h3⟩:=hrep.three
  simp only[PK.run,pickV]at hrun
  cases y<;>simp only[D.asBool]at hrun<;>try (cases hrun;done)
  rename_i yv
  cases yv<;>simp only[]at hrun<;>try (cases hrun;done)
  rename_i bb
  obtain⟨h1,_⟩:=rep_v.1 h1
  simp only[Oz,Jz]at hrun
  subst hrun
  refine⟨if bb then E a else E b,by simp[execOp,ho,h1,asBool], ?_⟩
  cases bb
  ·exact h3
  ·exact h2
 case load t a=>
  unfold dLoad at hd
  cases hg:isAggT P t with
  |none=>simp[hg]at hd
  |some g=>
   simp only[hg,Oz]at hd
   split at hd<;>cases hd
   rename_i hc
   obtain⟨y,rfl,hy⟩:=hrep.one
   exact one _ (by simp[execOp,ho]) (load_sound M hg hc.1 hc.2 hy hrun)
 case fieldAddr t x f=>
  cases hf:fieldOff P t f with
  |none=>simp[hf]at hd
  |some q=>
   obtain⟨o',n,g⟩:=q
   simp only[hf,Pz]at hd
   cases hd
   obtain⟨y,rfl,hy⟩:=hrep.one
   exact one _ (by simp[execOp,ho]) (fld_sound hf hy hrun)
 case indexAddr t x i=>
  unfold dIdx at hd
  cases hu:P.underlying t with
  |none=>simp[hu]at hd
  |some dsc=>
   cases dsc<;>simp only[hu]at hd<;>try (cases hd;done)
   all_goals
    split at hd<;>cases hd
    rename_i hi
    obtain⟨y,z,rfl,hy,hz⟩:=hrep.two
    exact one (Instr.indexAt t (E x) (E i)) (by simp[execOp,ho]) (by first|exact idx_sound hu hi hy hz hrun|exact aidx_sound hu hi hy hz hrun)
 case binOp op t x y yt=>
  obtain⟨k',hk',hd⟩:=Mz.1 hd
  cases hd
  obtain⟨p,q,rfl,hp,hq⟩:=hrep.two
  rcases or3 hk' with hk'|hk'|hk'
  ·exact one _ (by simp[execOp,ho];rfl) (bin_sound hk' hp hq hrun)
  ·exact one _ (by simp[execOp,ho];rfl) (snil_sound hk' hp hq hrun)
  ·exact one _ (by simp[execOp,ho];rfl) (aeq_sound hk' hp hq hrun)
 case build t parts=>
  obtain⟨q,hq,hd⟩:=Mz.1 hd
  cases hd
  have hidx:(parts.toList.map fun p=>(p.1,E p.2)).map (·.1)=parts.toList.map (·.1):=by simp[List.map_map,Function.comp_def]
  obtain⟨C,h1,h2⟩:=built_sound (w:=w) (pr:=pr) (tk:=tk) (parts:=parts.toList.map fun p=>(p.1,E p.2)) hq hidx (by simpa[List.map_map,Function.comp_def]using hrep) hrun
  exact one _ (by simp[execOp,ho];rfl) ⟨.agg C,run_build w t _ C (by simpa using h1),h2⟩
 case makeFunc fn first captured=>
  cases fn<;>simp only[]at hd<;>try (cases hd;done)
  rename_i f
  split at hd
  ·cases hd
   rename_i hf
   simp only[PK.run,cloV]at hrun
   split at hrun<;>cases hrun
   refine one (Instr.makeFunc (.func f) (first.map E) (captured.map E)) (by simp[execOp,ho]) ⟨_,rfl, ?_⟩
   have hf0:first.map E= #[]:=by rw[Array.map_eq_empty_iff];exact Array.eq_empty_of_size_eq_zero hf.1
   rw[hf0]
   have hl:=hrep.length
   exact .clo hf.2 (by simpa using hl) fun i c x hc hx=>reps_get hrep i c x (by simpa using hc) hx
  ·split at hd<;>cases hd
   rename_i hf
   simp only[PK.run,cloV]at hrun
   split at hrun<;>cases hrun
   refine one (Instr.makeFunc (.func f) (first.map E) (captured.map E)) (by simp[execOp,ho]) ⟨_,rfl, ?_⟩
   have hf0:captured.map E= #[]:=by rw[Array.map_eq_empty_iff];exact Array.eq_empty_of_size_eq_zero hf
   rw[hf0]
   have hl:=hrep.length
   exact .bclo (by simpa using hl) fun i c x hc hx=>reps_get hrep i c x (by simpa using hc) hx
 case nilCheck x=>
  cases hd
  obtain⟨y,rfl,hy⟩:=hrep.one
  obtain⟨rfl,hv⟩:=chk_sound hy hrun
  refine⟨E x, ?_,hy⟩
  rcases hv with⟨a,hv⟩|⟨f,bv,cv,hv⟩<;>simp[execOp,ho,hv]
 case index t x i=>
  obtain⟨k',hk',hd⟩:=Mz.1 hd
  cases hd
  obtain⟨p,q,rfl,hp,hq⟩:=hrep.two
  exact one _ (by simp[execOp,ho]) (aix_sound hk' hp hq hrun)
 case field t x f=>
  obtain⟨q,hq,hd⟩:=Bz.1 hd
  split at hd<;>cases hd
  rename_i hc
  obtain⟨p,rfl,hp⟩:=hrep.one
  exact one _ (by simp[execOp,ho]) (afld_sound hq hc hp hrun)
 case slice t x lo hi mx=>
  exact one _ (by simp[execOp,ho]) (slc_sound M hd hrep hrun)
 case lookup t x i ok=>
  rw[Bz]at hd
  obtain⟨⟨ks,e⟩,hq,hd⟩:=hd
  obtain⟨z,hz,hd⟩:=Mz.1 hd
  cases hd
  obtain⟨p,q,rfl,hp,hq'⟩:=hrep.two
  exact one _ (by simp[execOp,ho]) (lkp_sound M hq hz hp hq' hrun)
 case entry x=>
  cases hd
  obtain⟨p,rfl,hp⟩:=hrep.one
  exact one _ (by simp[execOp,ho]) (ent_sound M hp hrun)
 case unOp op t x=>
  obtain⟨k',hk',hd⟩:=Mz.1 hd
  cases hd
  obtain⟨p,rfl,hp⟩:=hrep.one
  exact one _ (by simp[execOp,ho]) (un_sound hk' hp hrun)
 case convert src dst x=>
  obtain⟨k',hk',hd⟩:=Mz.1 hd
  cases hd
  obtain⟨p,rfl,hp⟩:=hrep.one
  exact one _ (by simp[execOp,ho]) (conv_sound hk' hp hrun)
 case extract x i=>
  cases hd
  obtain⟨p,rfl,hp⟩:=hrep.one
  exact one _ (by simp[execOp,ho]) (ext_sound hp hrun)
 case call c=>
  unfold dCall at hd
  split at hd
  ·rename_i b hc
   obtain⟨k',hk',hd⟩:=Mz.1 hd
   cases hd
   have hk2:dBuiltin P b c.argTypes.toList (c.args.map E).size=some k:=by simpa using hk'
   have e: ∃cn,(execOp E o).run P w=(builtin b c.argTypes o.type cn (c.args.map E)).run P w:=⟨_,by simp[execOp,ho,resolve,hc,invoke];rfl⟩
   obtain⟨cn,e⟩:=e
   obtain⟨u,h1,h2⟩:=builtin_sound (P:=P) (w:=w) (pr:=pr) (tk:=tk) (m:=m) (ty:=o.type) (cn:=cn) hk2 (by simpa using hrep) hrun
   exact⟨u,by rw[e,h1],h2⟩
  ·split at hd<;>cases hd
   simp[PK.simple]at hk
  ·cases hd
   simp[PK.simple]at hk
  ·cases hd
end
end
section
def gInts(l:List Int):List D:=l.map fun n=> .v (.int .i64 n)
def globT:Nat→Option (List D):=fun g=>match g with
 |2=>some (gInts [0,1,2])
 |3=>some (gInts [20,20,30,30,30])
 |4=>some (gInts [1,2,4])
 |5=>some (gInts [0,0,100,200,200,400])
 |6=>some (gInts [0,50,100])
 |_=>none
end
section
abbrev allPr(w:World):Prot:=fun b _=>b<w.heap.size
abbrev noMem:Mem:=fun _=>none
theorem mapM_get{α β:Type}{f:α→Option β}: ∀{l:List α} {l':List β},l.mapM f=some l'→l'.length=l.length∧ ∀(i:Nat) (x':β),l'[i]?=some x'→ ∃x:α,l[i]?=some x∧f x=some x'
 | [],l',h=>by simp at h;subst h;simp
 |a::l,l',h=>by
  simp only[List.mapM_cons,Option.bind_eq_bind,Bz,Option.pure_def,Jz]at h
  obtain⟨b,hb,r,hr,rfl⟩:=h
  obtain⟨h1,h2⟩:=mapM_get hr
  refine⟨by simp[h1],fun i x' hx=> ?_⟩
  match i,hx with
  |0,hx=>simp at hx;subst hx;exact⟨a,rfl,hb⟩
  |i+1,hx=>exact h2 i x' (by simpa using hx)
section
variable {P : Program} {w : World} {pr : Prot} {tk : Places} {m : Mem}
theorem rep_flatC{w':World}{pr':Prot}{tk':Places}{v:Value}{d:D}(h:Rep w pr tk v d)(hd:d.flatC=true):Rep w' pr' tk' v d:=by
 cases d<;>simp only[D.flatC]at hd<;>try (cases hd;done)
 cases h;exact .v ‹_›
theorem rep_flat{w':World}{pr':Prot}{tk':Places}{v:Value}{d:D}(h:Rep w pr tk v d)(hd:d.flat=true):Rep w' pr' tk' v d:=by
 cases d<;>simp only[D.flat]at hd<;>try (simp[D.flatC]at hd;done)
 ·exact rep_flatC h hd
 ·simp only[Tz]at hd
  cases h with
  |agg h1 h2 h3=>exact .agg h1 h2 fun i c x hc hx=>rep_flatC (h3 i c x hc hx) (hd x (Lz hx))
 ·simp only[Tz]at hd
  cases h with
  |tup h1 h3=>
   refine .tup h1 fun i c x hc hx=> ?_
   have hx':=hd x (Lz hx)
   have h4:=h3 i c x hc hx
   cases x
   case agg ys=>
    simp only[Tz]at hx'
    cases h4 with
    |agg h1 h2 h3=>exact .agg h1 h2 fun i c x hc hx=>rep_flatC (h3 i c x hc hx) (hx' x (Lz hx))
   all_goals first|exact rep_flatC h4 hx'|(simp[D.flatC]at hx';done)
theorem rep_noTB{v:Value}{d:D}(h:Rep w pr tk v d)(hd:d.noTB=true){tk':Places}:Rep w pr tk' v d:=by
 cases h<;>first
  |exact .v ‹_›
  |exact .nil
  |exact .nil'
  |exact .mt
  |exact .emp
  |exact .list _ ‹_› ‹_› ‹_› ‹_›
  |exact .lptr _ ‹_› ‹_›
  |exact .nilmap
  |exact .fm ‹_› ‹_› ‹_› ‹_› ‹_› ‹_› ‹_›
  |(simp[D.noTB]at hd;done)
theorem rep_noTC{v:Value}{d:D}(h:Rep w pr tk v d)(hd:d.noTC=true){tk':Places}:Rep w pr tk' v d:=by
 cases d
 case clo f xs=>
  simp only[D.noTC,Tz]at hd
  cases h with
  |clo hf h1 h3=>exact .clo hf h1 fun i c x hc hx=>rep_noTB (h3 i c x hc hx) (hd x (Lz hx))
  |bclo h1 h3=>exact .bclo h1 fun i c x hc hx=>rep_noTB (h3 i c x hc hx) (hd x (Lz hx))
 all_goals exact rep_noTB h hd
theorem rep_noT{v:Value}{d:D}(h:Rep w pr tk v d)(hd:d.noT=true){tk':Places}:Rep w pr tk' v d:=by
 cases d
 case agg xs=>
  simp only[D.noT,Tz]at hd
  cases h with
  |agg h1 h2 h3=>exact .agg h1 h2 fun i c x hc hx=>rep_noTC (h3 i c x hc hx) (hd x (Lz hx))
 case clo f xs=>
  simp only[D.noT,Tz]at hd
  cases h with
  |clo hf h1 h3=>exact .clo hf h1 fun i c x hc hx=>rep_noTC (h3 i c x hc hx) (hd x (Lz hx))
  |bclo h1 h3=>exact .bclo h1 fun i c x hc hx=>rep_noTC (h3 i c x hc hx) (hd x (Lz hx))
 case tup xs=>
  simp only[D.noT,Tz]at hd
  cases h with
  |tup h1 h3=>
   refine .tup h1 fun i c x hc hx=> ?_
   have hx':=hd x (Lz hx)
   have h4:=h3 i c x hc hx
   cases x
   case agg ys=>
    simp only[Tz]at hx'
    cases h4 with
    |agg h1 h2 h3=>exact .agg h1 h2 fun i c x hc hx=>rep_noTC (h3 i c x hc hx) (hx' x (Lz hx))
   all_goals exact rep_noTC h4 hx'
 all_goals exact rep_noTC h (by simpa only[D.noT]using hd)
theorem elems_cells(M:MemOK P w pr tk m){v:Value}{d:D}{es:List (List D)}(h:Rep w pr tk v d)(he:d.elems m=some es):
  ((v= .slice none 0 0∨ ∃a cap,v= .slice (some a) 0 cap)∧es= [])∨ ∃(b off cap size:Nat) (us:Nat→Value),v= .slice (some ⟨b,off,none⟩) es.length cap∧es.length≤cap∧(∀c∈es,c.length=size)∧
   (∀j,j<es.length*size→w.cell? ⟨b,off+j,none⟩=some (us j)∧(us j).oneCell'=true)∧
   ∀(i:Nat) (c:List D),es[i]?=some c→ ∀(j:Nat) (x:D),c[j]?=some x→Rep w pr tk (us (i*size+j)) x:=by
 cases d<;>simp only[D.elems]at he<;>try (cases he;done)
 case nil=>cases he;cases h;exact .inl ⟨.inl rfl,rfl⟩
 case mt=>cases he;cases h;exact .inl ⟨.inr ⟨_,_,rfl⟩,rfl⟩
 case list es'=>
  cases he
  cases h with
  |nil'=>exact .inl ⟨.inl rfl,rfl⟩
  |emp=>exact .inl ⟨.inr ⟨_,_,rfl⟩,rfl⟩
  |list us hes hcap hcell hrr=>
   exact .inr ⟨_,_,_,_,us,rfl,hcap,hes,fun j hj=>⟨(hcell j hj).1,(hcell j hj).2.2⟩,fun i c hc j x hx=>(hrr i c hc j x hx).anyTok⟩
 case sl t size off len lim=>
  split at he
  ·rename_i g e es0 hm
   split at he
   ·rename_i hc
    obtain⟨hlen,hall⟩:=hc
    cases he
    have hl:((es0.drop off).take len).length=len:=by simp;omega
    cases h with
    |sl ht hcc hll ho=>
     rename_i b cap c o
     have hsz: ∀q∈es0,q.length=size:=fun q hq=>by simpa using Tz.1 hall q hq
     have hsz':=row_size M hm
     have hse:es0= []∨size=P.cellsOf e:=by
      cases h0:es0 with
      |nil=>exact .inl rfl
      |cons q r=>exact .inr (by rw[←hsz q (by rw[h0];simp),hsz' q (by rw[h0];simp)])
     right
     refine⟨b,o,c,size,fun j=>(w.cell? ⟨b,o+j,none⟩).getD undef,by rw[hl],by rw[hl];exact hll,fun q hq=>hsz q (List.mem_of_mem_drop (List.mem_of_mem_take hq)),fun j hj=> ?_,fun i q hq j x hx=> ?_⟩
     ·rw[hl]at hj
      have hlen0:0<len:=by rcases Nat.eq_zero_or_pos len with h|h;subst h;simp at hj;exact h
      have hsize0:0<size:=by rcases Nat.eq_zero_or_pos size with h|h;subst h;simp at hj;exact h
      have ho:o=off*size:=by rcases ho with h|h;exact h;omega
      have hse:size=P.cellsOf e:=by rcases hse with h|h;subst h;simp at hlen;omega;exact h
      have hdiv:j/size<len:=Nat.div_lt_of_lt_mul (by rw[Nat.mul_comm];exact hj)
      have hmod:j%size<size:=Nat.mod_lt _ hsize0
      have hi:off+j/size<es0.length:=by omega
      have hcl:es0[off+j/size].length=size:=hsz _ (List.getElem_mem hi)
      obtain⟨u,h1,h2,_⟩:=row_cell M hm ht (i:=off+j/size) (j:=j%size) (c:=es0[off+j/size]) (d:=es0[off+j/size][j%size]'(by rw[hcl];exact hmod)) (Ez hi) (Ez _)
      have he1:(off+j/size)*P.cellsOf e+j%size=o+j:=by
       rw[←hse,ho,Nat.add_mul,Nat.add_assoc]
       congr 1
       rw[Nat.mul_comm];exact Nat.div_add_mod j size
      rw[he1]at h1
      simp only[h1,Option.getD_some]
      exact⟨trivial,h2⟩
     ·have hi:i<len:=by have:=(Gz.1 hq).1;omega
      rw[List.getElem?_take_of_lt hi,List.getElem?_drop]at hq
      have hcl:=hsz q (Lz hq)
      have hj:j<size:=by rw[←hcl];exact(Gz.1 hx).1
      have ho:o=off*size:=by rcases ho with h|h;exact h;omega
      have hse:size=P.cellsOf e:=by rw[←hcl,hsz' q (Lz hq)]
      obtain⟨u,h1,_,h3⟩:=row_cell M hm ht hq hx
      have he1:(off+i)*P.cellsOf e+j=o+(i*size+j):=by rw[←hse,ho,Nat.add_mul,Nat.add_assoc]
      rw[he1]at h1
      simp only[h1,Option.getD_some]
      exact h3
   ·cases he
  ·rename_i xs hm
   split at he
   ·rename_i hc
    obtain⟨rfl,hlen⟩:=hc
    cases he
    have hl:(((xs.drop off).take len).map fun d=> [d]).length=len:=by simp;omega
    cases h with
    |sl ht hcc hll ho=>
     rename_i b cap c o
     obtain⟨b',cap',C,ty,g1,g2,g3⟩:=M.obj _ _ hm
     rw[ht]at g1;cases g1
     right
     refine⟨b,o,c,1,fun j=>(w.cell? ⟨b,o+j,none⟩).getD undef,by rw[hl],by rw[hl];exact hll,fun q hq=> ?_,fun j hj=> ?_,fun i q hq j x hx=> ?_⟩
     ·obtain⟨_,_,rfl⟩:=List.mem_map.1 hq;rfl
     ·rw[hl]at hj
      have ho:o=off:=by rcases ho with h|h;omega;omega
      subst ho
      have hjl:o+j<C.size:=by rw[g3.1];omega
      have hcell:w.cell? ⟨b,o+j,none⟩=some C[o+j]:=by rw[cell_of_row w b _ C ty (0,0) g2];exact Rz hjl
      simp only[hcell,Option.getD_some]
      exact⟨trivial,g3.2.1 _ _ (Rz hjl)⟩
     ·have hi:i<len:=by have:=(Gz.1 hq).1;omega
      have ho:o=off:=by rcases ho with h|h;omega;omega
      subst ho
      rw[Dz,List.getElem?_take_of_lt hi,List.getElem?_drop]at hq
      obtain⟨d0,hd0,rfl⟩:=Mz.1 hq
      have hj:j=0:=by have:=(Gz.1 hx).1;simpa using this
      subst hj
      simp only[List.getElem?_cons_zero,Jz]at hx
      subst hx
      have hil:o+i<C.size:=by rw[g3.1];omega
      have hcell:w.cell? ⟨b,o+(i*1+0),none⟩=some C[o+i]:=by rw[Nat.mul_one,Nat.add_zero,cell_of_row w b _ C ty (0,0) g2];exact Rz hil
      simp only[hcell,Option.getD_some]
      exact g3.2.2 _ _ _ (Rz hil) hd0
   ·cases he
  ·cases he
theorem viewRow_get{f:D→Option D}{c c':List D}(h:viewRow f c=some c'):c'.length=c.length∧ ∀(i:Nat) (x':D),c'[i]?=some x'→ ∃x:D,c[i]?=some x∧(x.flatC=true∧x'=x∨f x=some x'):=by
 unfold viewRow at h
 split at h
 ·rename_i hall
  cases h
  exact⟨rfl,fun i x' hx=>⟨x',hx, .inl ⟨Tz.1 hall x' (Lz hx),rfl⟩⟩⟩
 ·obtain⟨h1,h2⟩:=mapM_get h
  exact⟨h1,fun i x' hx=>let⟨x,a,b⟩:=h2 i x' hx;⟨x,a, .inr b⟩⟩
theorem viewRows_get{f:D→Option D}{es es':List (List D)}(h:viewRows f es=some es'):es'.length=es.length∧ ∀(i:Nat) (c':List D),es'[i]?=some c'→ ∃c:List D,es[i]?=some c∧c'.length=c.length∧
  ∀(j:Nat) (x':D),c'[j]?=some x'→ ∃x:D,c[j]?=some x∧(x.flatC=true∧x'=x∨f x=some x'):=by
 unfold viewRows at h
 split at h
 ·rename_i hall
  cases h
  exact⟨rfl,fun i c hc=>⟨c,hc,rfl,fun j x hx=>⟨x,hx, .inl ⟨Tz.1 (Tz.1 hall c (Lz hc)) x (Lz hx),rfl⟩⟩⟩⟩
 ·obtain⟨h1,h2⟩:=mapM_get h
  exact⟨h1,fun i c' hc=>let⟨c,a,b⟩:=h2 i c' hc;⟨c,a,(viewRow_get b).1,(viewRow_get b).2⟩⟩
theorem World_lt{w:World}{b:Nat}{o:Obj}(h:w.heap[b]?=some o):b<w.heap.size:=(Array.getElem?_eq_some_iff.1 h).1
theorem mp_fm(M:MemOK P w pr tk m){t:Tok}{es:List (D×D)}(hm:m t=some (.map es))(hall:es.all (fun p=>p.1.noT&&p.2.noT)=true){v:Value}(hr:Rep w pr tk v (.mp t)){pr':Prot}(K:Keeps w w pr pr' tk tk)
  (hp: ∀b o,w.heap[b]?=some o→blocksOf tk m b→pr' b 0):Rep w pr' noTok v (.fm (pairR es)):=by
 cases hr with
 |mp ht=>
  obtain⟨b',cap',ents,h1,h2,h3,h4,h5⟩:=M.obj t _ hm
  rw[ht]at h1;cases h1
  have nt:=fun(i:Nat) (p:D×D) (h:es[i]?=some p)=>Tz.1 hall p (Lz h)
  simp only[Az]at nt
  refine .fm h2 (hp _ _ h2 ⟨t,_,_,hm,ht⟩) h3 h4 (fun i en he=> ?_) (fun i en p he hpp=>rep_noT ((h5 i en p he hpp).2.1.keeps K) (nt i p hpp).1) (fun i en p he hpp=>rep_noT ((h5 i en p he hpp).2.2.keeps K) (nt i p hpp).2)
  have hi:=(Array.getElem?_eq_some_iff.1 he).1
  exact(h5 i en _ he (Ez (show i<es.length by omega))).1
theorem viewC_sound(M:MemOK P w pr tk m)(hpr: ∀b o,pr b o→b<w.heap.size): ∀(n:Nat) (v:Value) (d d':D),viewC m n d=some d'→Rep w pr tk v d→Rep w (allPr w) noTok v d'
 |0,_,_,_,h,_=>by simp[viewC]at h
 |n+1,v,d,d',h,hr=>by
  have K:Keeps w w pr (allPr w) tk tk:=⟨fun b o h=>⟨rfl,hpr b o h⟩,fun _ _ h=>h⟩
  have cellpr: ∀{b o:Nat} {u:Value},w.cell? ⟨b,o,none⟩=some u→b<w.heap.size:=fun h=>World.block_lt_of_cell? w _ h
  have step: ∀{v:Value} {x x':D},Rep w pr tk v x→(x.flatC=true∧x'=x∨viewC m n x=some x')→Rep w (allPr w) noTok v x':=fun{v x x'} hv h=>by
   rcases h with⟨h1,rfl⟩|h1
   ·exact rep_flatC hv h1
   ·exact viewC_sound M hpr n v x x' h1 hv
  cases d<;>simp only[viewC]at h<;>try (cases h;done)
  case v x=>cases h;cases hr;exact .v ‹_›
  case nil=>cases h;cases hr;exact .nil'
  case mt=>cases h;exact rep_noTC ((mt_list hr).keeps K) rfl
  case list es=>cases h;exact rep_noTC (hr.keeps K) rfl
  case lptr xs=>cases h;exact rep_noTC (hr.keeps K) rfl
  case nilmap=>cases h;exact rep_noTC (hr.keeps K) rfl
  case fm es=>cases h;exact rep_noTC (hr.keeps K) rfl
  case mp t=>
   split at h
   ·rename_i es hm
    split at h<;>cases h
    rename_i hall
    exact mp_fm M hm hall hr K fun b _ hb _=>World_lt hb
   ·cases h
  case sl t size off len lim=>
   rw[Bz]at h
   obtain⟨es,he,h⟩:=h
   obtain⟨es',hv,rfl⟩:=Mz.1 h
   obtain⟨hl,hg⟩:=viewRows_get hv
   rcases elems_cells M hr he with⟨hv0,rfl⟩|⟨b,o,cap,sz,us,rfl,h1,h2,h3,h4⟩
   ·have:es'= []:=List.eq_nil_of_length_eq_zero (by simpa using hl)
    subst this
    rcases hv0 with rfl|⟨a,cap,rfl⟩
    ·exact .nil'
    ·exact .emp
   ·have hcap:es'.length≤cap:=by omega
    have:=Rep.list (w:=w) (pr:=allPr w) (tk:=noTok) (b:=b) (off:=o) (cap:=cap) (es:=es') (size:=sz) us (fun c' hc'=>by
      obtain⟨i,hi,rfl⟩:=List.getElem_of_mem hc'
      obtain⟨c,hc,hlc,_⟩:=hg i _ (Ez hi)
      rw[hlc,h2 c (Lz hc)]) hcap (fun j hj=>by
       rw[hl]at hj
       exact⟨(h3 j hj).1,cellpr (h3 j hj).1,(h3 j hj).2⟩) (fun i c' hc' j x' hx'=>by
        obtain⟨c,hc,_,hg2⟩:=hg i c' hc'
        obtain⟨x,hx,hfx⟩:=hg2 j x' hx'
        exact step (h4 i c hc j x hx) hfx)
    rw[hl]at this
    exact this
  case ptr t off=>
   split at h
   ·rename_i xs hm
    split at h
    ·obtain⟨c',hv,rfl⟩:=Mz.1 h
     obtain⟨hl,hg⟩:=viewRow_get hv
     cases hr with
     |ptr ht=>
      obtain⟨us,h1,h2⟩:=cellsAt_box M hm ht off
      refine .lptr us (fun j hj=> ?_) fun j x' hx'=> ?_
      ·rw[hl]at hj
       exact⟨(h1 j hj).1,cellpr (h1 j hj).1,(h1 j hj).2⟩
      ·obtain⟨x,hx,hfx⟩:=hg j x' hx'
       exact step (h2 j x hx) hfx
    ·cases h
   ·cases h
  case rptr t size i j=>
   split at h
   ·rename_i g e es hm
    rw[Bz]at h
    obtain⟨c,hc,h⟩:=h
    split at h
    ·rename_i hcond
     obtain⟨rfl,_⟩:=hcond
     obtain⟨c',hv,rfl⟩:=Mz.1 h
     obtain⟨hl,hg⟩:=viewRow_get hv
     cases hr with
     |rptr ht=>
      obtain⟨us,h1,h2⟩:=cellsAt_row M hm ht hc j
      refine .lptr us (fun k hk=> ?_) fun k x' hx'=> ?_
      ·rw[hl]at hk
       exact⟨(h1 k hk).1,cellpr (h1 k hk).1,(h1 k hk).2⟩
      ·obtain⟨x,hx,hfx⟩:=hg k x' hx'
       exact step (h2 k x hx) hfx
    ·cases h
   ·cases h
  case clo f xs=>
   obtain⟨c',hv,rfl⟩:=Mz.1 h
   obtain⟨hl,hg⟩:=viewRow_get hv
   cases hr with
   |clo hf h1 h3=>
    refine .clo hf (by rw[hl];exact h1) fun i c x' hc hx'=> ?_
    obtain⟨x,hx,hfx⟩:=hg i x' hx'
    exact step (h3 i c x hc hx) hfx
   |bclo h1 h3=>
    refine .bclo (by rw[hl];exact h1) fun i c x' hc hx'=> ?_
    obtain⟨x,hx,hfx⟩:=hg i x' hx'
    exact step (h3 i c x hc hx) hfx
theorem viewA_sound(M:MemOK P w pr tk m)(hpr: ∀b o,pr b o→b<w.heap.size){v:Value}{d d':D}(h:viewA m d=some d')(hr:Rep w pr tk v d):Rep w (allPr w) noTok v d':=by
 cases d
 case agg xs=>
  obtain⟨c',hv,rfl⟩:=Mz.1 h
  obtain⟨hl,hg⟩:=viewRow_get hv
  cases hr with
  |agg h1 h2 h3=>
   refine .agg (by rw[hl];exact h1) h2 fun i c x' hc hx'=> ?_
   obtain⟨x,hx,hfx⟩:=hg i x' hx'
   rcases hfx with⟨hf,rfl⟩|hf
   ·exact rep_flatC (h3 i c _ hc hx) hf
   ·exact viewC_sound M hpr 6 c x x' hf (h3 i c x hc hx)
 all_goals exact viewC_sound M hpr 6 v _ d' (by simpa only[viewA]using h) hr
theorem viewC_noTB{n:Nat}{v:Value}{d d':D}(h:viewC m n d=some d')(hd:d.noTB=true)(hr:Rep w pr tk v d):Rep w pr noTok v d':=by
 cases n with
 |zero=>simp[viewC]at h
 |succ n=>
  cases d<;>simp only[D.noTB]at hd<;>try (cases hd;done)
  all_goals simp only[viewC,Jz]at h;subst h
  case v x=>exact rep_noTC hr rfl
  case nil=>cases hr;exact .nil'
  case mt=>exact rep_noTC (mt_list hr) rfl
  case list=>exact rep_noTC hr rfl
  case lptr=>exact rep_noTC hr rfl
  case nilmap=>exact rep_noTC hr rfl
  case fm=>exact rep_noTC hr rfl
theorem viewC_noTC{n:Nat}{v:Value}{d d':D}(h:viewC m n d=some d')(hd:d.noTC=true)(hr:Rep w pr tk v d):Rep w pr noTok v d':=by
 cases d
 case clo f xs=>
  cases n with
  |zero=>cases h
  |succ n=>
   obtain⟨xs',h1,rfl⟩:=Mz.1 (show(viewRow (viewC m n) xs).map (D.clo f)=some d' from h)
   obtain⟨hl,hg⟩:=viewRow_get h1
   simp only[D.noTC,Tz]at hd
   have one: ∀(u:Value) (i:Nat) (x':D),xs'[i]?=some x'→(∀x,xs[i]?=some x→Rep w pr tk u x)→Rep w pr noTok u x':=fun u i x' hx' hu=>by
    obtain⟨x,hx,h⟩:=hg i x' hx'
    rcases h with⟨hf,rfl⟩|h
    ·exact rep_flatC (hu _ hx) hf
    ·exact viewC_noTB h (hd x (Lz hx)) (hu _ hx)
   cases hr with
   |clo hf h1 h3=>exact .clo hf (by rw[hl];exact h1) fun i c x' hc hx'=>one c i x' hx' fun x hx=>h3 i c x hc hx
   |bclo h1 h3=>exact .bclo (by rw[hl];exact h1) fun i c x' hc hx'=>one c i x' hx' fun x hx=>h3 i c x hc hx
 all_goals exact viewC_noTB h hd hr
theorem viewA_noT{v:Value}{d d':D}(h:viewA m d=some d')(hd:d.noT=true)(hr:Rep w pr tk v d):Rep w pr noTok v d':=by
 have row: ∀{xs c':List D} {n:Nat},xs.all D.noTC=true→viewRow (viewC m n) xs=some c'→c'.length=xs.length∧ ∀(u:Value) (i:Nat) (x':D),c'[i]?=some x'→ ∃x,xs[i]?=some x∧(Rep w pr tk u x→Rep w pr noTok u x'):=by
  intro xs c' n hall hv
  obtain⟨hl,hg⟩:=viewRow_get hv
  refine⟨hl,fun u i x' hx'=> ?_⟩
  obtain⟨x,hx,hfx⟩:=hg i x' hx'
  refine⟨x,hx,fun hu=> ?_⟩
  rcases hfx with⟨hf,rfl⟩|hf
  ·exact rep_flatC hu hf
  ·exact viewC_noTC hf (Tz.1 hall x (Lz hx)) hu
 cases d
 case agg xs=>
  obtain⟨c',hv,rfl⟩:=Mz.1 h
  obtain⟨hl,hg⟩:=row (by simpa only[D.noT]using hd) hv
  cases hr with
  |agg h1 h2 h3=>
   refine .agg (by rw[hl];exact h1) h2 fun i c x' hc hx'=> ?_
   obtain⟨x,hx,hfx⟩:=hg c i x' hx'
   exact hfx (h3 i c x hc hx)
 case clo f xs=>
  obtain⟨c',hv,rfl⟩:=Mz.1 h
  obtain⟨hl,hg⟩:=row (by simpa only[D.noT]using hd) hv
  cases hr with
  |clo hf h1 h3=>
   refine .clo hf (by rw[hl];exact h1) fun i c x' hc hx'=> ?_
   obtain⟨x,hx,hfx⟩:=hg c i x' hx'
   exact hfx (h3 i c x hc hx)
  |bclo h1 h3=>
   refine .bclo (by rw[hl];exact h1) fun i c x' hc hx'=> ?_
   obtain⟨x,hx,hfx⟩:=hg c i x' hx'
   exact hfx (h3 i c x hc hx)
 case tup xs=>simp[viewA,viewC]at h
 all_goals exact viewC_noTC (n:=6) (by simpa only[viewA]using h) (by simpa only[D.noT]using hd) hr
theorem reps_view{pr':Prot}{p:D→Bool}(H: ∀v d d',viewA m d=some d'→p d=true→Rep w pr tk v d→Rep w pr' noTok v d'): ∀{vs:List Value} {ds as:List D},Reps w pr tk vs ds→ds.mapM (viewA m)=some as→ds.all p=true→Reps w pr' noTok vs as
 | [],[],as,_,h,_=>by simp at h;subst h;trivial
 |v::vs,d::ds,as,hr,h,hp=>by
  simp only[List.mapM_cons,Option.bind_eq_bind,Bz,Option.pure_def,Jz]at h
  obtain⟨d',hd,r,hr',rfl⟩:=h
  simp only[List.all_cons,Az]at hp
  exact⟨H v d d' hd hp.1 hr.1,reps_view H hr.2 hr' hp.2⟩
 | [],_::_,_,h,_,_=>absurd h (by simp[Reps])
 |_::_,[],_,h,_,_=>absurd h (by simp[Reps])
end
def HasBody (P : Program) (f : Nat) : Prop := ∃ fn, P.funcs[f]? = some fn ∧ fn.body.isSome = true ∧ (fn.name == "runtime.NumGoroutine") = false
def GOK(w:World)(pr:Prot):Prop:= ∀g xs,globT g=some xs→Rep w pr noTok (.pointer (some ⟨g,0,none⟩)) (.lptr xs)
theorem GOK.keeps{w w':World}{pr pr':Prot}(h:GOK w pr)(K: ∀b o,pr b o→w'.heap[b]?=w.heap[b]?∧pr' b o):GOK w' pr':=
 fun g xs hx=>(h g xs hx).keeps ⟨K,fun _ _ h=>h⟩
def VCp(P:Program)(f:Nat)(ds:List D)(d:D):Prop:=
 (∀(w:World) (pr:Prot) (cargs:Array Value),Reps w pr noTok cargs.toList ds→ ∃v,(callFunc f cargs).run P w= .ok (.value v) w∧Rep w pr noTok v d)∨
 HasBody P f∧ ∀(w:World) (pr:Prot) (cargs:Array Value),(∀b o,pr b o→b<w.heap.size)→GOK w pr→Reps w pr noTok cargs.toList ds→
  Calls P f cargs w fun e w'=> ∃v pr',e= .returned v∧Chg (fun _=>False) w w'∧(∀b o,pr b o→pr' b o)∧(∀b o,pr' b o→pr b o∨(w.heap.size≤b∧b<w'.heap.size))∧Rep w' pr' noTok v d
def VCn(P:Program)(f:Nat)(ds:List D)(d:D):Prop:=
 HasBody P f∧ ∀(w:World) (pr:Prot) (cargs:Array Value),(∀b o,pr b o→b<w.heap.size)→GOK w pr→Reps w pr noTok cargs.toList ds→
  Calls P f cargs w fun e w'=> ∃v pr',e= .returned v∧Chg (fun _=>False) w w'∧(∀b o,pr' b o→w.heap.size≤b∧b<w'.heap.size)∧Rep w' pr' noTok v d
theorem VCn.toP{P:Program}{f:Nat}{ds:List D}{d:D}(h:VCn P f ds d):VCp P f ds d:=
 .inr ⟨h.1,fun w pr cargs h1 h2 h3=>(h.2 w pr cargs h1 h2 h3).mono fun _ _ ⟨v,pr',k1,k2,k3,k4⟩=>
  ⟨v,fun b o=>pr b o∨pr' b o,k1,k2,fun _ _ h=> .inl h,fun b o h=>h.elim .inl fun h=> .inr (k3 b o h),k4.keeps ⟨fun _ _ h=>⟨rfl, .inr h⟩,fun _ _ h=>h⟩⟩⟩
def VCr(P:Program)(f:Nat)(ds:List D)(r:D):Prop:=VCp P f ds r.bare∧(r.isOwn=true→VCn P f ds r.bare)
theorem bare_of{r:D}(h:r.isOwn=false):r.bare=r:=by
 unfold D.isOwn at h
 unfold D.bare
 split at h
 ·cases h
 ·rfl
theorem VCp.toR{P:Program}{f:Nat}{ds:List D}{d:D}(h:VCp P f ds d)(hd:d.isOwn=false):VCr P f ds d:=
 ⟨by rw[bare_of hd];exact h,fun h=>by rw[hd]at h;cases h⟩
def VCa(P:Program)(f e:Nat)(ds:List D)(es:List (List D)):Prop:=
 HasBody P f∧ ∀(w:World) (pr:Prot) (cargs:Array Value),(∀b o,pr b o→b<w.heap.size)→GOK w pr→Reps w pr noTok cargs.toList ds→
  Calls P f cargs w fun ex w'=> ∃b cap C,ex= .returned (.slice (some ⟨b,0,none⟩) es.length cap)∧Chg (fun _=>False) w w'∧w.heap.size≤b∧w'.heap[b]?=some (.cells C e (0,0))∧es.length≤cap∧cap≤maxLen∧C.size=cap*P.cellsOf e∧RepRow P w' (fun _ _=>False) noTok C e es
def VEp(P:Program)(k f:Nat)(ds:List D)(es es':List (List D))(d:D):Prop:=
 HasBody P f∧es'.length=es.length∧ ∀(w:World) (pr:Prot) (cargs:Array Value),(∀b o,pr b o→b<w.heap.size)→GOK w pr→cargs.size=ds.length→
  (∀(i:Nat) (v:Value) (x:D),i≠k→cargs[i]?=some v→ds[i]?=some x→Rep w pr noTok v x)→
  (es= []→cargs[k]?=some (.slice none 0 0)→Calls P f cargs w fun e w'=> ∃v pr',e= .returned v∧Chg (fun _=>False) w w'∧(∀b o,pr b o→pr' b o)∧(∀b o,pr' b o→pr b o∨(w.heap.size≤b∧b<w'.heap.size))∧Rep w' pr' noTok v d)∧
  ∀(b cap t:Nat) (C:Array Value),(∀o,¬pr b o)→w.heap[b]?=some (.cells C t (0,0))→es.length≤cap→cap≤maxLen→C.size=cap*P.cellsOf t→RepRow P w pr noTok C t es→cargs[k]?=some (.slice (some ⟨b,0,none⟩) es.length cap)→
   Calls P f cargs w fun e w'=> ∃v pr' C',e= .returned v∧Chg (fun k=>k=b) w w'∧(∀b o,pr b o→pr' b o)∧(∀b o,pr' b o→pr b o∨(w.heap.size≤b∧b<w'.heap.size))∧Rep w' pr' noTok v d∧
    w'.heap[b]?=some (.cells C' t (0,0))∧C'.size=C.size∧RepRow P w' pr' noTok C' t es'
structure Sound(P:Program)(Γ:Env):Prop where
 p: ∀f ds d,f<1000000→Γ.p f ds=some d→VCr P f ds d
 e: ∀k f ds r,f<1000000→k<1000000→Γ.e k f ds=some r→ ∃es es' d,ds[k]?=some (.list es)∧r= .tup [d, .list es']∧VEp P k f ds es es' d
 q: ∀e f ds r,f<1000000→Γ.q (1000000*e+f) ds=some r→ ∃es:List (List D),r.1= .list es∧VCa P f e ds es
structure Area where
 a:Nat→Prop
 z:Places
 sv:Nat→Value
def noArea:Area:=⟨fun _=>False,fun _=>none,fun _=>undef⟩
structure Rel(P:Program)(w0:World)(pr:Prot)(A:Area)(n:Nat)(w:World)(cs:Array Value)(J:St)(tk:Places):Prop where
 size:cs.size=n
 chg:Chg A.a w0 w
 prlt: ∀b o,pr b o→b<w0.heap.size
 prA: ∀b o,pr b o→ ¬A.a b
 glob:GOK w pr
 mem:MemOK P w pr tk J.m
 live: ∀t o b c,J.m t=some o→tk t=some (b,c)→w0.heap.size≤b∨A.a b
 fresh: ∀x k r,J.c x≤k→tk ((x+1)::k::r)=none
 zero: ∀t,tk (0::t)=A.z t
 one: ∀l p,tk [l+1]=some p→p=(l,0)
 slot: ∀i,i<n→Rep w pr tk (cs.getD i undef) (J.s i)
 sav: ∀i,n≤i→Rep w pr tk (A.sv i) (J.s i)
structure Base where
 w:World
 pr:Prot
 A:Area
structure Under(B:Base)(w1:World)(pr:Prot)(A:Area):Prop where
 chg:Chg B.A.a B.w w1
 sub: ∀b,b<B.w.heap.size→A.a b→B.A.a b
 z:A.z=B.A.z
 sv:A.sv=B.A.sv
 sup: ∀b o,B.pr b o→pr b o
 inf: ∀b o,pr b o→B.pr b o∨B.w.heap.size≤b∨B.A.a b
def RelE(P:Program)(B:Base)(n:Nat)(w:World)(cs:Array Value)(J:St):Prop:= ∃w1 pr A tk,Rel P w1 pr A n w cs J tk∧Under B w1 pr A
inductive VArg where
 |t (i:Nat)
 |c (d:D)
 deriving Inhabited
def VArg.val(s:Nat→D):VArg→D
 | .t i=>s i
 | .c d=>d
def dArg(n:Nat):Operand→Option VArg
 | .tmp t=>if t<n then some (.t t)else none
 | .const v=>(dVal v).map .c
 | .func f=>if f<1000000 then some (.c (.clo f []))else none
 | .global g=>(globT g).map fun xs=> .c (.lptr xs)
section
variable {P : Program} {w0 w : World} {pr : Prot} {A : Area} {n : Nat} {tk : Places} {J : St} {a : Act}
theorem dArg_rep(R:Rel P w0 pr A n w a.tmps J tk){x:Operand}{g:VArg}(h:dArg n x=some g):Rep w pr tk (a.eval x) (g.val J.s):=by
 cases x<;>simp only[dArg]at h
 case tmp t=>
  split at h<;>cases h
  exact R.slot t ‹_›
 case const v=>
  obtain⟨d,hd,rfl⟩:=Mz.1 h
  exact(dVal_repV hd).1
 case func f=>
  split at h<;>cases h
  exact .clo ‹_› (by simp) (fun i c x hc=>by simp at hc)
 case global g=>
  obtain⟨xs,hx,rfl⟩:=Mz.1 h
  exact(R.glob g xs hx).anyTok
theorem args_rep(R:Rel P w0 pr A n w a.tmps J tk): ∀{xs:List Operand} {gs:List VArg},xs.mapM (dArg n)=some gs→Reps w pr tk (xs.map a.eval) (gs.map (VArg.val J.s))
 | [],gs,h=>by simp at h;subst h;trivial
 |x::xs,gs,h=>by
  simp only[List.mapM_cons,Option.bind_eq_bind,Bz,Option.pure_def,Jz]at h
  obtain⟨g,hg,gs',hgs,rfl⟩:=h
  exact⟨dArg_rep R hg,args_rep R hgs⟩
theorem Rel.prw(R:Rel P w0 pr A n w a.tmps J tk): ∀b o,pr b o→b<w.heap.size:=fun b o h=>Nat.lt_of_lt_of_le (R.prlt b o h) R.chg.size
theorem Rel.free(R:Rel P w0 pr A n w a.tmps J tk){t:Tok}{o:HO}{b c x:Nat}(hm:J.m t=some o)(ht:tk t=some (b,c)): ¬pr b x:=fun h=>by
 rcases R.live t o b c hm ht with h1|h1
 ·have:=R.prlt b x h;omega
 ·exact R.prA b x h h1
theorem getD_put{cs:Array Value}{i x:Nat}{v:Value}(hx:x<cs.size):(cs.setIfInBounds x v).getD i undef=if i=x then v else cs.getD i undef:=by
 simp only[Array.getD_eq_getD_getElem?,Array.getElem?_setIfInBounds]
 by_cases h:x=i
 ·subst h;simp[hx]
 ·simp[h,show i≠x from fun e=>h e.symm]
theorem Rel.keepsN(R:Rel P w0 pr A n w a.tmps J tk){w':World}{tk':Places}(hc:Chg (fun _=>False) w w')(htk: ∀t p,tk t=some p→tk' t=some p):Keeps w w' pr pr tk tk':=
 ⟨fun b o h=>⟨hc.block b (R.prw b o h) id,h⟩,htk⟩
theorem Rel.put(R:Rel P w0 pr A n w a.tmps J tk){w':World}{x:Nat}{v:Value}{d:D}(hx:x<n)(hc:Chg (fun _=>False) w w')(hv:Rep w' pr tk v d):
  Rel P w0 pr A n w' (a.put (some x) v).tmps (J.set x d) tk:=by
 have K:=R.keepsN hc (fun _ _ h=>h)
 refine⟨by simp[Act.put,R.size],R.chg.trans hc (fun _ _ h=>h.elim),R.prlt,R.prA,R.glob.keeps K.cell,R.mem.keeps K fun t o b c h ht=> ?_,R.live,R.fresh,R.zero,R.one,fun i hi=> ?_,fun i hi=> ?_⟩
 ·obtain⟨b',c',h1,h2⟩:=(R.mem.obj t o h).place
  rw[ht]at h1
  cases h1
  exact hc.block b h2 id
 rotate_left
 ·rw[St.set_ne _ _ (show i≠x by omega)];exact(R.sav i hi).keeps K
 ·simp only[Act.put,getD_put (show x<a.tmps.size by rw[R.size];exact hx),St.set]
  split
  ·exact hv
  ·exact(R.slot i hi).keeps K
theorem Rel.drop(R:Rel P w0 pr A n w a.tmps J tk){x:Nat}(hx:x<n):Rel P w0 pr A n w (a.put (some x) undef).tmps (J.set x (.tup [])) tk:=
 R.put hx (Chg.refl _ _) (.tup (cs:= #[]) rfl (fun i c x hc=>by simp at hc))
def wF(r:Option Nat):Fence:={Fence.wide with round:=r}
theorem callsIn_wF{r:Option Nat}{n:Nat}{f:Nat}{args:Array Value}{w:World}{R:Ending→World→Prop}:CallsIn (wF r) n P f args w R↔Calls P f args w R:=callsIn_wide
def Oper.wpR(r:Option Nat)(P:Program)(o:Oper)(a:Act)(w:World)(next:Act→World→Prop)(Q:Exit→Act→World→Prop):Prop:=o.wpIn (wF r) 0 P a w next Q
def noDefer:Op→Bool
 | .defer _=>false
 |_=>true
section
variable {r : Option Nat} {o : Oper} {next : Act → World → Prop} {Q : Exit → Act → World → Prop}
theorem wpR_at(hd:noDefer o.op=true)(h:o.uponIn (wF r) 0 P a next Q ((execOp a.eval o).run P w)):Oper.wpR r P o a w next Q:=
 ⟨fun _ _=>trivial,by rw[Oper.semAt_plain _ _ _ (fun c hc=>by rw[hc]at hd;cases hd)];exact h⟩
theorem wpR_value{v:Value}{w':World}(hd:noDefer o.op=true)(h:(execOp a.eval o).run P w= .ok (.value v) w')(hn:next (a.put o.dst v) w'):Oper.wpR r P o a w next Q:=wpR_at hd (by rw[h];exact hn)
theorem wpR_skip{w':World}(hd:noDefer o.op=true)(h:(execOp a.eval o).run P w= .ok .skip w')(hn:next (a.put o.dst undef) w'):Oper.wpR r P o a w next Q:=wpR_at hd (by rw[h];exact hn)
theorem wpR_enter{f:Nat}{args:Array Value}{w':World}(hd:noDefer o.op=true)(h:(execOp a.eval o).run P w= .ok (.enter f args) w')
  (hn:Calls P f args w' fun e w''=> ∃v,e= .returned v∧next (a.put o.dst v) w''):Oper.wpR r P o a w next Q:=wpR_at hd (by
 rw[h,Oper.uponIn_enter]
 refine⟨fun h=>(by simp[wF,Fence.wide]at h),callsIn_wF.2 (hn.mono ?_)⟩
 rintro e w'' ⟨v,rfl,h⟩
 exact h)
end
theorem dPure_noDefer{fr:Cfg}{op:Op}{q:PK×List Operand}(h:dPure P fr op=some q):noDefer op=true:=by
 cases op<;>first|rfl|cases h
theorem step_pure{r:Option Nat}{fr:Cfg}{Γ:Env}{o:Oper}{k:PK}{xs:List Operand}{gs:List VArg}{d:D}{x:Nat}{next:Act→World→Prop}{Q:Exit→Act→World→Prop}
  (R:Rel P w0 pr A n w a.tmps J tk) (hd:dPure P fr o.op=some (k,xs)) (hk:k.simple=true) (hgs:xs.mapM (dArg n)=some gs) (hx:o.dst=some x) (hxn:x<n)
  (hrun:k.run Γ J.m (gs.map (VArg.val J.s))=some d) (h: ∀v w',Rel P w0 pr A n w' (a.put (some x) v).tmps (J.set x d) tk→next (a.put (some x) v) w'):Oper.wpR r P o a w next Q:=by
 obtain⟨v,h1,h3⟩:=pure_sound (o:=o) R.mem hd hk (args_rep R hgs) hrun
 refine wpR_value (dPure_noDefer hd) h1 ?_
 rw[hx]
 exact h v w (R.put hxn (Chg.refl _ _) h3)
theorem callV_sound{Γ:Env}(hΓ:Sound P Γ){m:Mem}(M:MemOK P w pr tk m){f:Nat}{cargs:Array Value}{ds:List D}{d:D}(hrep:Reps w pr tk cargs.toList ds)(hpr: ∀b o,pr b o→b<w.heap.size)(hG:GOK w pr)(hlt:f<1000000)
  (hrun:callV Γ m f ds=some d):(∃v,(callFunc f cargs).run P w= .ok (.value v) w∧Rep w pr tk v d)∨HasBody P f∧Calls P f cargs w fun e w'=> ∃v pr',e= .returned v∧Chg (fun _=>False) w w'∧(∀b o,pr b o→pr' b o)∧(∀b o,pr' b o→pr b o∨(w.heap.size≤b∧b<w'.heap.size))∧Rep w' pr' tk v d:=by
 unfold callV at hrun
 rw[Bz]at hrun
 obtain⟨as,has,hrun⟩:=hrun
 rw[Bz]at hrun
 obtain⟨d',h1,h2⟩:=hrun
 split at h2
 ·rename_i hc
  cases h2
  simp only[Bool.or_eq_true,Az]at hc
  obtain⟨hP,hN⟩:=hΓ.p f _ _ hlt h1
  rw[or_assoc,or_left_comm]at hc
  rcases hc with⟨how,hno⟩|hc
  ·obtain⟨hb,hcon⟩:=hN how
   refine .inr ⟨hb, ?_⟩
   have ha:=reps_view (pr':=allPr w) (p:=fun _=>true) (fun v d d' h _ hr=>viewA_sound M hpr h hr) hrep has (by simp)
   refine(hcon w (allPr w) cargs (fun _ _ h=>h) (hG.keeps fun b o h=>⟨rfl,hpr b o h⟩) ha).mono ?_
   rintro e w' ⟨v,pr',rfl,h3,k1,h5⟩
   exact⟨v,fun b o=>pr b o∨pr' b o,rfl,h3,fun _ _ h=> .inl h,fun b o h=>h.elim .inl fun h=> .inr (k1 b o h),rep_noT (h5.keeps ⟨fun b o h=>⟨rfl, .inr h⟩,fun _ _ h=>h⟩) hno⟩
  rcases hP with hcon|⟨hb,hcon⟩
  ·left
   rcases hc with hfl|⟨hall,hno⟩
   ·have ha:=reps_view (pr':=allPr w) (p:=fun _=>true) (fun v d d' h _ hr=>viewA_sound M hpr h hr) hrep has (by simp)
    obtain⟨v,g1,g2⟩:=hcon w (allPr w) cargs ha
    exact⟨v,g1,rep_flat g2 hfl⟩
   ·have ha:=reps_view (pr':=pr) (p:=D.noT) (fun v d d' h hp hr=>viewA_noT h hp hr) hrep has hall
    obtain⟨v,g1,g2⟩:=hcon w pr cargs ha
    exact⟨v,g1,rep_noT g2 hno⟩
  right
  refine⟨hb, ?_⟩
  rcases hc with hfl|⟨hall,hno⟩
  ·have ha:=reps_view (pr':=allPr w) (p:=fun _=>true) (fun v d d' h _ hr=>viewA_sound M hpr h hr) hrep has (by simp)
   refine(hcon w (allPr w) cargs (fun _ _ h=>h) (hG.keeps fun b o h=>⟨rfl,hpr b o h⟩) ha).mono ?_
   rintro e w' ⟨v,pr',rfl,h3,_,_,h5⟩
   exact⟨v,pr,rfl,h3,fun _ _ h=>h,fun _ _ h=> .inl h,rep_flat h5 hfl⟩
  ·have ha:=reps_view (pr':=pr) (p:=D.noT) (fun v d d' h hp hr=>viewA_noT h hp hr) hrep has hall
   refine(hcon w pr cargs hpr hG ha).mono ?_
   rintro e w' ⟨v,pr',rfl,h3,k1,k2,h5⟩
   exact⟨v,pr',rfl,h3,k1,k2,rep_noT h5 hno⟩
 ·cases h2
theorem run_callFunc{f:Nat}{cargs:Array Value}(h:HasBody P f):(callFunc f cargs).run P w= .ok (.enter f cargs) w:=by
 obtain⟨fn,h1,h2,h3⟩:=h
 have h3 : fn.name ≠ "runtime.NumGoroutine" := by simpa using h3
 obtain⟨c,hc⟩:=Option.isSome_iff_exists.1 h2
 simp[callFunc,h1,h3,hc]
theorem reps_append{pr:Prot}: ∀{l l':List Value} {m m':List D},Reps w pr tk l m→Reps w pr tk l' m'→Reps w pr tk (l++l') (m++m')
 | [],_,[],_,_,h'=>h'
 |_::l,_,_::m,_,h,h'=>⟨h.1,reps_append h.2 h'⟩
 | [],_,_::_,_,h,_=>absurd h (by simp[Reps])
 |_::_,_,[],_,h,_=>absurd h (by simp[Reps])
theorem reps_of{pr:Prot}: ∀{l:List Value} {m:List D},l.length=m.length→(∀(i:Nat) (c:Value) (x:D),l[i]?=some c→m[i]?=some x→Rep w pr tk c x)→Reps w pr tk l m
 | [],[],_,_=>trivial
 |y::l,z::m,hl,hh=>⟨hh 0 y z rfl rfl,reps_of (by simpa using hl) fun i c x hc hx=>hh (i+1) c x (by simpa using hc) (by simpa using hx)⟩
 | [],_::_,hl,_=>by simp at hl
 |_::_,[],hl,_=>by simp at hl
end
end
section
def boxV(x:Nat)(d:D)(J:St):Option St:=
 if d.cells.all D.okC then some (J.new x (.box d.cells) (.ptr (J.tok x) 0))else none
def storeV(n:Nat)(a v:D)(J:St):Option St:=
 match a with
 | .ptr t off=>match J.m t with
  |some (.box xs)=>if v.cells.length=n∧off+n≤xs.length∧v.cells.all D.okC=true then some (J.put t (some (.box (putAt xs off v.cells))))else none
  |_=>none
 | .rptr t size i j=>match J.m t with
  |some (.row g e es)=>(es[i]?).bind fun c=>if v.cells.length=n∧j+n≤size∧c.length=size∧v.cells.all D.okC=true then
    some ((J.strike g i).put t (some (.row g e (es.set i (putAt c j v.cells)))))else none
  |some (.box xs)=>if size=1∧v.cells.length=n∧i+j+n≤xs.length∧v.cells.all D.okC=true then some (J.put t (some (.box (putAt xs (i+j) v.cells))))else none
  |_=>none
 |_=>none
def appV(x e size:Nat)(a b:D)(J:St):Option St:=
 (b.elems J.m).bind fun es2=>if es2.all (fun c=>c.length==size)=false then none else
 match a with
 | .nil=>if es2.isEmpty then some (J.set x .nil)else if es2.length≤maxMade then some (J.new x (.row (J.tok x) e es2) (.sl (J.tok x) size 0 es2.length none))else none
 | .sl t size' off len lim=>if es2.isEmpty then some (J.set x (.sl t size' off len lim))else match J.m t with
  |some (.row g e' es1)=>if e'=e∧size'=size∧len+es2.length≤maxMade∧off+len≤es1.length then
    match lim with
    |none=>if off=0 then some ((J.strike g len).new x (.row g e (es1.take len++es2)) (.sl (J.tok x) size 0 (len+es2.length) none))else none
    |some c=>if c<len+es2.length then some (J.new x (.row (J.tok x) e ((es1.drop off).take len++es2)) (.sl (J.tok x) size 0 (len+es2.length) none))else none
   else none
  |_=>none
 |_=>none
def mksV(x e size:Nat)(zero:List D)(a b:D)(J:St):Option St:=
 match a,b with
 | .v (.int _ l), .v (.int _ c)=>if 0≤l∧l≤c∧c≤maxMade∧c.toNat*size≤16777216 then some (J.new x (.row (J.tok x) e (List.replicate l.toNat zero)) (.sl (J.tok x) size 0 l.toNat none))else none
 |_,_=>none
def litV(x e size len:Nat)(zero:List D)(places:List (Nat×Nat))(ds:List D)(J:St):Option St:=
 if ds.all (fun d=>d.cells.all D.okC)then(fillV zero places ds).bind fun cs=>if cs.length=len*size then
  some (J.new x (.row (J.tok x) e (chop size len (cs.map D.nz))) (.sl (J.tok x) size 0 len none))else none else none
section
variable {P : Program} {w0 w : World} {pr : Prot} {A : Area} {n : Nat} {tk : Places} {J : St} {a : Act}
theorem struck_some{g:Tok}{k:Nat}{o:Option HO}{q:HO}(h:HO.struck g k o=some q):o=some q∧ ∀e es,q= .row g e es→es.length≤k:=by
 unfold HO.struck at h
 split at h
 ·rename_i g' e es
  split at h
  ·cases h
  ·rename_i hn
   cases h
   refine⟨rfl,fun e' es' he=> ?_⟩
   cases he
   rcases Nat.lt_or_ge k es.length with h1|h1
   ·exact absurd ⟨rfl,h1⟩ hn
   ·exact h1
 ·rename_i hno
  subst h
  exact⟨rfl,fun e es he=>by subst he;exact absurd rfl (hno g e es)⟩
theorem Rel.allocAt(R:Rel P w0 pr A n w a.tmps J tk){x:Nat}(hx:x<n){w':World}(hc:Chg (fun _=>False) w w'){o:HO}{d:D}{v:Value}{cap b0:Nat}(hb0:w.heap.size≤b0)
  (ho: ∀tk':Places,tk' (J.tok x)=some (b0,cap)→(∀t p,tk t=some p→tk' t=some p)→RepO P w' pr tk' (J.tok x) o)
  (hv: ∀tk':Places,tk' (J.tok x)=some (b0,cap)→Rep w' pr tk' v d): ∃tk',Rel P w0 pr A n w' (a.put (some x) v).tmps (J.new x o d) tk':=by
 let tk':Places:=fun t=>if t=J.tok x then some (b0,cap)else tk t
 have hnone:tk (J.tok x)=none:=R.fresh x (J.c x) [] (Nat.le_refl _)
 have hself:tk' (J.tok x)=some (b0,cap):=by simp[tk']
 have hext: ∀t p,tk t=some p→tk' t=some p:=fun t p h=>by
  have:t≠J.tok x:=fun e=>by rw[e,hnone]at h;cases h
  simp[tk',this,h]
 have K:=R.keepsN hc hext
 have hsz:=R.chg.size
 have hm: ∀t q,(J.new x o d).m t=some q→(t=J.tok x∧q=o)∨(t≠J.tok x∧J.m t=some q):=fun t q h=>by
  simp only[St.new,St.inc_m,St.set_m,St.put]at h
  split at h
  ·cases h;exact .inl ⟨by assumption,rfl⟩
  ·exact .inr ⟨by assumption,h⟩
 have hold: ∀t q b c,t≠J.tok x→J.m t=some q→tk' t=some (b,c)→tk t=some (b,c)∧b<w.heap.size:=fun t q b c hne h ht=>by
  simp only[tk',if_neg hne]at ht
  obtain⟨b1,c1,h1,h2⟩:=(R.mem.obj t q h).place
  rw[ht]at h1;cases h1
  exact⟨ht,h2⟩
 refine⟨tk',by simp[Act.put,R.size],R.chg.trans hc (fun _ _ h=>h.elim),R.prlt,R.prA,R.glob.keeps K.cell,⟨fun t q h=> ?_,fun t t' q q' b c c' h h' ht ht'=> ?_⟩,fun t q b c h ht=> ?_,fun y k r hk=> ?_,fun t=>by simp only[tk',St.tok,List.cons.injEq,show¬(0=x+1) by omega,false_and,if_false];exact R.zero t,fun l p=>by simp only[tk',St.tok,List.cons.injEq,reduceCtorEq,and_false,if_false];exact R.one l p,fun i hi=> ?_,fun i hi=>by
  show Rep _ pr tk' (A.sv i) (if i=x then d else J.s i)
  rw[if_neg (show i≠x by omega)];exact(R.sav i hi).keeps K⟩
 ·rcases hm t q h with⟨rfl,rfl⟩|⟨hne,h⟩
  ·exact ho tk' hself hext
  ·exact(R.mem.obj t q h).keeps K fun b c hb=>by
    obtain⟨b1,c1,h1,h2⟩:=(R.mem.obj t q h).place
    rw[hb]at h1;cases h1
    exact hc.block b h2 id
 ·rcases hm t q h with⟨e1,e2⟩|⟨hne,k1⟩<;>rcases hm t' q' h' with⟨e3,e4⟩|⟨hne',k2⟩
  ·exact .inl (e1.trans e3.symm)
  ·rw[e1,hself]at ht;cases ht
   have:=hold t' q' _ c' hne' k2 ht'
   omega
  ·rw[e3,hself]at ht';cases ht'
   have:=hold t q _ c hne k1 ht
   omega
  ·exact R.mem.inj t t' q q' b c c' k1 k2 (hold t q b c hne k1 ht).1 (hold t' q' b c' hne' k2 ht').1
 ·rcases hm t q h with⟨rfl,rfl⟩|⟨hne,h⟩
  ·rw[hself]at ht;cases ht
   exact .inl (by omega)
  ·exact R.live t q b c h (hold t q b c hne h ht).1
 ·simp only[St.new,St.inc,St.set_c,St.put_c]at hk
  have hne:(y+1)::k::r≠J.tok x:=fun e=>by
   simp only[St.tok,List.cons.injEq]at e
   obtain⟨e1,e2,_⟩:=e
   have:y=x:=by omega
   subst this
   rw[if_pos rfl]at hk
   omega
  simp only[tk',if_neg hne]
  refine R.fresh y k r ?_
  split at hk<;>omega
 ·simp only[Act.put,getD_put (show x<a.tmps.size by rw[R.size];exact hx),St.new,St.inc_s,St.set]
  split
  ·exact hv tk' hself
  ·exact(R.slot i hi).keeps K
theorem Rel.alloc(R:Rel P w0 pr A n w a.tmps J tk){x:Nat}(hx:x<n){w':World}(hc:Chg (fun _=>False) w w'){o:HO}{d:D}{v:Value}{cap:Nat}
  (ho: ∀tk':Places,tk' (J.tok x)=some (w.heap.size,cap)→(∀t p,tk t=some p→tk' t=some p)→RepO P w' pr tk' (J.tok x) o)
  (hv: ∀tk':Places,tk' (J.tok x)=some (w.heap.size,cap)→Rep w' pr tk' v d): ∃tk',Rel P w0 pr A n w' (a.put (some x) v).tmps (J.new x o d) tk':=R.allocAt hx hc (Nat.le_refl _) ho hv
theorem Rel.write(R:Rel P w0 pr A n w a.tmps J tk){t:Tok}{o o':HO}{b c:Nat}(hm:J.m t=some o)(ht:tk t=some (b,c)){w':World}(hc:Chg (fun k=>k=b) w w')(hg:o'.grp=o.grp){m':Mem}
  (hself:m' t=some o') (hrest: ∀t' q,t'≠t→m' t'=some q→J.m t'=some q) (ho:RepO P w' pr tk t o')
  (hgrp: ∀t' q c',t'≠t→m' t'=some q→tk t'=some (b,c')→RepO P w pr tk t' q→RepO P w' pr tk t' q):Rel P w0 pr A n w' a.tmps ⟨J.s,m',J.c⟩ tk:=by
 have K:Keeps w w' pr pr tk tk:=⟨fun b' x h=>⟨hc.block b' (R.prw b' x h) (fun e=>by subst e;exact R.free hm ht h),h⟩,fun _ _ h=>h⟩
 have hin:=fun t' q (h:m' t'=some q)=>show∃q',J.m t'=some q'∧q'.grp=q.grp from by
  by_cases e:t'=t
  ·subst e;rw[hself]at h;cases h;exact⟨o,hm,hg.symm⟩
  ·exact⟨q,hrest t' q e h,rfl⟩
 refine⟨R.size,R.chg.trans hc (fun k hk e=> ?_),R.prlt,R.prA,R.glob.keeps K.cell,⟨fun t' q (h:m' t'=some q)=> ?_,fun t1 t2 q1 q2 b' c1 c2 h1 h2 g1 g2=> ?_⟩,fun t' q b' c' h h1=> ?_,R.fresh,R.zero,R.one,fun i hi=>(R.slot i hi).keeps K,fun i hi=>(R.sav i hi).keeps K⟩
 ·subst e
  rcases R.live t o k c hm ht with h|h
  ·omega
  ·exact h
 ·by_cases e:t'=t
  ·subst e;rw[hself]at h;cases h;exact ho
  ·have h0:=hrest t' q e h
   have hr:=R.mem.obj t' q h0
   obtain⟨b1,c1,h1,h2⟩:=hr.place
   by_cases hb:b1=b
   ·subst hb;exact hgrp t' q c1 e h h1 hr
   ·exact hr.keeps K fun b2 c2 h3=>by
     rw[h1]at h3;cases h3
     exact hc.block b1 h2 hb
 ·obtain⟨q1',k1,e1⟩:=hin t1 q1 h1
  obtain⟨q2',k2,e2⟩:=hin t2 q2 h2
  rw[←e1,←e2]
  exact R.mem.inj t1 t2 q1' q2' b' c1 c2 k1 k2 g1 g2
 ·obtain⟨q',k,_⟩:=hin t' q h
  exact R.live t' q' b' c' k h1
theorem rel_box(R:Rel P w0 pr A n w a.tmps J tk){t x:Nat}{v:Value}{d:D}{J':St}(hv:Rep w pr tk v d)(hx:x<n)(h:boxV x d J=some J'):
  ∃tk',Rel P w0 pr A n (w.alloc (.cells v.cells t)) (a.put (some x) (.pointer (some ⟨w.heap.size,0,none⟩))).tmps J' tk':=by
 unfold boxV at h
 split at h<;>cases h
 rename_i hd
 have hc:=Chg.alloc (fun _=>False) w (.cells v.cells t)
 refine R.alloc hx (cap:=0) hc (fun tk' hs he=> ?_) fun tk' hs=> .ptr hs
 exact⟨w.heap.size,0,v.cells,t,hs,(Go.MapKept.heap_alloc w _).1,(cells_of_rep hv hd).keeps (R.keepsN hc he)⟩
def putCells(C:Array Value)(off:Nat)(V:Array Value):Array Value:=(C.toList.take off++V.toList++C.toList.drop (off+V.size)).toArray
theorem putCells_size{C V:Array Value}{off:Nat}(h:off+V.size≤C.size):(putCells C off V).size=C.size:=by
 simp[putCells];omega
theorem putCells_get{C V:Array Value}{off:Nat}(h:off+V.size≤C.size)(i:Nat):(putCells C off V)[i]?=if off≤i∧i<off+V.size then V[i-off]? else C[i]?:=by
 simp only[putCells,List.getElem?_toArray]
 by_cases h1:i<off
 ·rw[if_neg (by omega),List.append_assoc,Yz (by simp;omega),List.getElem?_take_of_lt h1,Array.getElem?_toList]
 ·by_cases h2:i<off+V.size
  ·rw[if_pos (by omega),Yz (by simp;omega),Xz (by simp;omega),Array.getElem?_toList]
   congr 1
   simp;omega
  ·rw[if_neg (by omega),Xz (by simp;omega),List.getElem?_drop,Array.getElem?_toList]
   congr 1
   simp;omega
theorem run_store{t b off tt:Nat}{C:Array Value}{v:Value}{ds:List D}(hi:(P.info? t).isSome)(h3:w.heap[b]?=some (.cells C tt (0,0)))(hv:RepCs w pr tk v.cells ds)(hl:ds.length=P.cellsOf t)(ho:off+P.cellsOf t≤C.size):
  (Instr.storeAt t (.pointer (some ⟨b,off,none⟩)) v).run P w= .ok () (w.setRow b (putCells C off v.cells)):=by
 have hvs:v.cells.size=P.cellsOf t:=by rw[hv.1,hl]
 have hone: ∀u∈v.cells.toList,u.oneCell'=true:=fun u hu=>by
  obtain⟨i,hi,rfl⟩:=List.getElem_of_mem hu
  exact hv.2.1 i _ (by rw[←Array.getElem?_toList,Ez hi])
 have hrun:=run_storeCells_at P b off tt v.cells.toList 0 C w h3 (by simp only[Nat.add_zero,Array.length_toList];omega) hone
 simp only[Nat.add_zero,Array.length_toList]at hrun
 simp[Instr.storeAt,Instr.sureAddr,storeVar,sizeOf_run hi,hvs]
 exact hrun
theorem Chg.setRow(w:World)(b:Nat)(C:Array Value):Chg (fun k=>k=b) w (w.setRow b C):=⟨rfl,rfl,rfl,by simp,fun k _ h=>setRow_other w b k C h,Nat.le_refl _⟩
theorem rel_storeBox(R:Rel P w0 pr A n w a.tmps J tk){t:Nat}{τ:Tok}{b cap off:Nat}{xs:List D}{v:Value}{d2:D}(hm:J.m τ=some (.box xs))(ht:tk τ=some (b,cap))(hv:Rep w pr tk v d2)(hi:(P.info? t).isSome)
  (hlen:d2.cells.length=P.cellsOf t) (hoff:off+P.cellsOf t≤xs.length) (hok:d2.cells.all D.okC=true):
  ∃w',(Instr.storeAt t (.pointer (some ⟨b,off,none⟩)) v).run P w= .ok () w'∧Rel P w0 pr A n w' a.tmps (J.put τ (some (.box (putAt xs off d2.cells)))) tk:=by
 obtain⟨b',cap',C,tt,h1,h3,h4⟩:=R.mem.obj τ _ hm
 rw[ht]at h1;cases h1
 have hcv:=cells_of_rep hv hok
 have hvs:v.cells.size=P.cellsOf t:=by rw[hcv.1,hlen]
 have ho:off+P.cellsOf t≤C.size:=by rw[h4.1];omega
 refine⟨_,run_store hi h3 hcv hlen ho, ?_⟩
 have hchg:=Chg.setRow w b (putCells C off v.cells)
 have K:Keeps w (w.setRow b (putCells C off v.cells)) pr pr tk tk:=⟨fun b' x h=>⟨hchg.block b' (R.prw b' x h) (fun e=>by subst e;exact R.free hm ht h),h⟩,fun _ _ h=>h⟩
 refine R.write hm ht hchg (o':= .box (putAt xs off d2.cells)) rfl (m':=(J.put τ (some (.box (putAt xs off d2.cells)))).m) (by simp[St.put]) (fun t' q hne hq=>by simpa[St.put,hne]using hq) ?_ (fun t' q c' hne hq htk hr=> ?_)
 ·refine⟨b,cap,putCells C off v.cells,tt,ht,setRow_heap w b C _ tt _ h3, ?_⟩
  have hcs:RepCs w pr tk (putCells C off v.cells) (putAt xs off d2.cells):=by
   have g:=fun i=>putCells_get (C:=C) (V:=v.cells) (off:=off) (by omega) i
   refine⟨by rw[putCells_size (by omega),putAt_length (by omega)];exact h4.1,fun i c hc=> ?_,fun i c x hc hx=> ?_⟩
   ·rw[g]at hc
    split at hc
    ·exact hcv.2.1 _ c hc
    ·exact h4.2.1 _ c hc
   ·rw[g]at hc
    rw[putAt_get (by omega)]at hx
    have e:=hcv.1
    split at hc
    ·rw[if_pos (by omega)]at hx
     exact hcv.2.2 _ c x hc hx
    ·rename_i hn
     rw[if_neg (by omega)]at hx
     exact h4.2.2 _ c x hc hx
  exact hcs.keeps K
 ·have hq':J.m t'=some q:=by simpa[St.put,hne]using hq
  rcases R.mem.inj t' τ q _ b c' cap hq' hm htk ht with h|⟨h1,h2⟩
  ·exact absurd h hne
  ·rw[h2]at h1;simp[HO.grp]at h1
theorem rel_store(R:Rel P w0 pr A n w a.tmps J tk){t:Nat}{av v:Value}{d1 d2:D}{J':St}(ha:Rep w pr tk av d1)(hv:Rep w pr tk v d2)(hi:(P.info? t).isSome)
  (h:storeV (P.cellsOf t) d1 d2 J=some J'): ∃w',(Instr.storeAt t av v).run P w= .ok () w'∧Rel P w0 pr A n w' a.tmps J' tk:=by
 cases d1<;>simp only[storeV]at h<;>try (cases h;done)
 case ptr τ off=>
  split at h
  ·rename_i xs hm
   split at h<;>cases h
   rename_i hc
   obtain⟨hlen,hoff,hok⟩:=hc
   cases ha with
   |ptr ht=>exact rel_storeBox R hm ht hv hi hlen hoff hok
  ·cases h
 case rptr τ size i j=>
  split at h
  ·rename_i g e es hm
   rw[Bz]at h
   obtain⟨c,hc,h⟩:=h
   split at h<;>cases h
   rename_i hcond
   obtain⟨hlen,hj,hcl,hok⟩:=hcond
   cases ha with
   |rptr ht=>
    rename_i b cap
    obtain⟨b',cap',C,h1,h3,h5,h6,h7,h8,h9⟩:=R.mem.obj τ _ hm
    rw[ht]at h1;cases h1
    have hsz:=h8 c (Lz hc)
    have hse:size=P.cellsOf e:=by omega
    subst hse
    have hcv:=cells_of_rep hv hok
    have hvs:v.cells.size=P.cellsOf t:=by rw[hcv.1,hlen]
    have hil:=(Gz.1 hc).1
    have hend:(i+1)*P.cellsOf e≤cap*P.cellsOf e:=Nat.mul_le_mul_right _ (by omega)
    rw[Nat.add_mul]at hend
    have ho:i*P.cellsOf e+j+P.cellsOf t≤C.size:=by omega
    refine⟨_,run_store hi h3 hcv hlen ho, ?_⟩
    have hchg:=Chg.setRow w b (putCells C (i*P.cellsOf e+j) v.cells)
    have K:Keeps w (w.setRow b (putCells C (i*P.cellsOf e+j) v.cells)) pr pr tk tk:=⟨fun b' x h=>⟨hchg.block b' (R.prw b' x h) (fun e=>by subst e;exact R.free hm ht h),h⟩,fun _ _ h=>h⟩
    have gget:=fun k=>putCells_get (C:=C) (V:=v.cells) (off:=i*P.cellsOf e+j) (by omega) k
    refine R.write hm ht hchg (o':= .row g e (es.set i (putAt c j d2.cells))) rfl (m':=((J.strike g i).put τ (some (.row g e (es.set i (putAt c j d2.cells))))).m) (by simp[St.put]) (fun t' q hne hq=> ?_) ?_ (fun t' q c' hne hq htk hr=> ?_)
    ·simp only[St.put,hne,if_false,St.strike]at hq
     exact(struck_some hq).1
    ·refine⟨b,cap,putCells C (i*P.cellsOf e+j) v.cells,ht,setRow_heap w b C _ e _ h3,by simpa using h5,h6,by rw[putCells_size (by omega)];exact h7, ?_⟩
     have hrow:RepRow P w pr tk (putCells C (i*P.cellsOf e+j) v.cells) e (es.set i (putAt c j d2.cells)):=by
      refine⟨fun q hq=> ?_,fun k q hq l d hd=> ?_⟩
      ·rcases List.mem_or_eq_of_mem_set hq with hq|rfl
       ·exact h8 q hq
       ·rw[putAt_length (by omega)];exact hsz
      ·rw[gget]
       by_cases hk:k=i
       ·subst hk
        rw[List.getElem?_set_self (by omega)]at hq
        cases hq
        rw[putAt_get (by omega)]at hd
        have hcs1:=hcv.1
        split at hd
        ·rw[if_pos (by omega)]
         have hlt:l-j<v.cells.size:=by omega
         have ge:=Rz hlt
         have e2:k*P.cellsOf e+l-(k*P.cellsOf e+j)=l-j:=by omega
         rw[e2]
         exact⟨_,ge,hcv.2.1 _ _ ge,hcv.2.2 _ _ d ge hd⟩
        ·rw[if_neg (by omega)]
         exact h9 k c hc l d hd
       ·rw[List.getElem?_set_ne (by omega)]at hq
        have hll:l<P.cellsOf e:=by rw[←h8 q (Lz hq)];exact(Gz.1 hd).1
        have hne2: ¬(i*P.cellsOf e+j≤k*P.cellsOf e+l∧k*P.cellsOf e+l<i*P.cellsOf e+j+v.cells.size):=by
         rintro⟨g1,g2⟩
         rcases Nat.lt_or_ge k i with hki|hki
         ·have:(k+1)*P.cellsOf e≤i*P.cellsOf e:=Nat.mul_le_mul_right _ hki
          rw[Nat.add_mul]at this
          omega
         ·have:(i+1)*P.cellsOf e≤k*P.cellsOf e:=Nat.mul_le_mul_right _ (by omega)
          rw[Nat.add_mul]at this
          omega
        rw[if_neg hne2]
        exact h9 k q hq l d hd
     exact hrow.keeps K
    ·simp only[St.put,hne,if_false,St.strike]at hq
     obtain⟨hq1,hq2⟩:=struck_some hq
     rcases R.mem.inj t' τ q _ b c' cap hq1 hm htk ht with h|⟨g1,g2⟩
     ·exact absurd h hne
     ·cases q with
      |box=>simp[HO.grp]at g1
      |map=>simp[HO.grp]at g1
      |iter=>simp[HO.grp]at g1
      |raw=>simp[HO.grp]at g1
      |row g' e' es'=>
       simp only[HO.grp,Jz]at g2
       subst g2
       have hshort:=hq2 e' es' rfl
       obtain⟨b2,cap2,C2,k1,k3,k5,k6,k7,k8,k9⟩:=hr
       rw[htk]at k1;cases k1
       rw[h3]at k3;cases k3
       refine⟨b,c',putCells C (i*P.cellsOf e+j) v.cells,htk,setRow_heap w b C _ e _ h3,k5,k6,by rw[putCells_size (by omega)];exact k7, ?_⟩
       refine RepRow.keeps ⟨k8,fun k q hq l d hd=> ?_⟩ K
       rw[gget]
       have hkl:=(Gz.1 hq).1
       have hll:l<P.cellsOf e:=by rw[←k8 q (Lz hq)];exact(Gz.1 hd).1
       have:(k+1)*P.cellsOf e≤i*P.cellsOf e:=Nat.mul_le_mul_right _ (by omega)
       rw[Nat.add_mul]at this
       rw[if_neg (by omega)]
       exact k9 k q hq l d hd
  ·rename_i xs hm
   split at h<;>cases h
   rename_i hcond
   obtain⟨rfl,hlen,hoff,hok⟩:=hcond
   cases ha with
   |rptr ht=>
    have:=rel_storeBox R (off:=i+j) hm ht hv hi hlen hoff hok
    rw[Nat.mul_one];exact this
  ·cases h
def copyV(x:Option Nat)(a b:D)(J:St):Option St:=
 match a,b with
 | .sl t 1 o l _, .sl t' 1 o' l' _=>match J.m t,J.m t' with
  |some (.box xs),some (.box ys)=>if 0<l∧0<l'∧o+l≤xs.length∧o'+l'≤ys.length then
    some (match x with
     |some i=>(J.put t (some (.box (putAt xs o ((ys.drop o').take (min l' l)))))).set i (iv ((min l' l:Nat):Int))
     |none=>J.put t (some (.box (putAt xs o ((ys.drop o').take (min l' l))))))else none
  |_,_=>none
 |_,_=>none
theorem rel_copy(R:Rel P w0 pr A n w a.tmps J tk){dT sT ty e:Nat}{av bv':Value}{d1 d2:D}{x:Option Nat}{J':St}(hu:P.underlying dT=some (.slice e))(hsz:(P.info? e).map (·.size)=some 1)
  (ha:Rep w pr tk av d1) (hb:Rep w pr tk bv' d2) (hx: ∀i,x=some i→i<n) (h:copyV x d1 d2 J=some J'):
  ∃v w',(Builtin.copy_ #[dT,sT] ty #[av,bv']).run P w= .ok v w'∧Rel P w0 pr A n w' (a.put x v).tmps J' tk:=by
 unfold copyV at h
 split at h
 ·rename_i t o l lim t' o' l' lim'
  split at h
  ·rename_i xs ys hm hm'
   split at h
   ·rename_i hc
    obtain⟨hl0,hl0',hol,hol'⟩:=hc
    cases ha with
    |sl ht hcc hll ho=>
     rename_i b cap c oo
     have hoo:oo=o:=by rcases ho with h|h<;>omega
     subst hoo
     cases hb with
     |sl ht' hcc' hll' ho'=>
      rename_i b' cap' c' oo'
      have hoo':oo'=o':=by rcases ho' with h|h<;>omega
      subst hoo'
      obtain⟨b1,cap1,C,tt,g1,g2,g3⟩:=R.mem.obj t _ hm
      rw[ht]at g1;cases g1
      obtain⟨b2,cap2,C',tt',k1,k2,k3⟩:=R.mem.obj t' _ hm'
      rw[ht']at k1;cases k1
      have hC:=g3.1
      have hC':=k3.1
      let cs:=(C'.toList.drop oo').take (min l' l)
      have hcl:cs.length=min l' l:=by simp[cs];omega
      have hget: ∀j,j<min l' l→cs[j]?=C'[oo'+j]?:=fun j hj=>by
       simp only[cs,List.getElem?_take_of_lt hj,List.getElem?_drop,Array.getElem?_toList]
      have hone: ∀u∈cs,u.oneCell'=true:=fun u hu=>by
       obtain⟨j,hj⟩:=List.getElem?_of_mem hu
       have hjl:=(Gz.1 hj).1
       rw[hget j (by omega)]at hj
       exact k3.2.1 _ _ hj
      have hrun:=run_copy_row (P:=P) w dT sT ty e b oo l c ⟨b',oo',none⟩ l' c' C tt cs hu hsz g2 (by rw[hcl]) (fun j u hj=>by
       have hjl:=(Gz.1 hj).1
       rw[hget j (by omega)]at hj
       rw[add_off,cell_of_row w b' _ C' tt' (0,0) k2];exact hj) (by omega) hone
      rw[hcl]at hrun
      have hput:(C.toList.take oo++cs++C.toList.drop (oo+min l' l)).toArray=putCells C oo cs.toArray:=by simp[putCells,hcl]
      rw[hput]at hrun
      have hns:cs.toArray.size=min l' l:=by simp[hcl]
      have hchg:=Chg.setRow w b (putCells C oo cs.toArray)
      have K:Keeps w (w.setRow b (putCells C oo cs.toArray)) pr pr tk tk:=⟨fun b' x h=>⟨hchg.block b' (R.prw b' x h) (fun e=>by subst e;exact R.free hm ht h),h⟩,fun _ _ h=>h⟩
      have hdl:((ys.drop oo').take (min l' l)).length=min l' l:=by simp;omega
      have R':Rel P w0 pr A n (w.setRow b (putCells C oo cs.toArray)) a.tmps (J.put t (some (.box (putAt xs oo ((ys.drop oo').take (min l' l)))))) tk:=by
       refine R.write hm ht hchg (o':= .box (putAt xs oo ((ys.drop oo').take (min l' l)))) rfl (m':=(J.put t (some (.box (putAt xs oo ((ys.drop oo').take (min l' l)))))).m) (by simp[St.put]) (fun t'' q hne hq=>by simpa[St.put,hne]using hq) ?_ (fun t'' q c' hne hq htk hr=> ?_)
       ·refine⟨b,cap,putCells C oo cs.toArray,tt,ht,setRow_heap w b C _ tt _ g2, ?_⟩
        have hcs:RepCs w pr tk (putCells C oo cs.toArray) (putAt xs oo ((ys.drop oo').take (min l' l))):=by
         have g:=fun i=>putCells_get (C:=C) (V:=cs.toArray) (off:=oo) (by omega) i
         refine⟨by rw[putCells_size (by omega),putAt_length (by omega)];exact hC,fun i c hc=> ?_,fun i c x hc hx=> ?_⟩
         ·rw[g]at hc
          split at hc
          ·exact hone c (Lz (by simpa using hc))
          ·exact g3.2.1 _ c hc
         ·rw[g]at hc
          rw[putAt_get (by omega)]at hx
          split at hc
          ·rename_i hi
           rw[if_pos (by omega)]at hx
           have hlt:i-oo<min l' l:=by omega
           rw[List.getElem?_toArray,hget _ hlt]at hc
           rw[List.getElem?_take_of_lt hlt,List.getElem?_drop]at hx
           exact k3.2.2 _ c x hc hx
          ·rename_i hi
           rw[if_neg (by omega)]at hx
           exact g3.2.2 _ c x hc hx
        exact hcs.keeps K
       ·have hq':J.m t''=some q:=by simpa[St.put,hne]using hq
        rcases R.mem.inj t'' t q _ b c' cap hq' hm htk ht with h|⟨h1,h2⟩
        ·exact absurd h hne
        ·rw[h2]at h1;simp[HO.grp]at h1
      refine⟨_,_,hrun, ?_⟩
      cases x with
      |none=>cases h;exact R'
      |some i=>cases h;exact R'.put (hx i rfl) (Chg.refl _ _) (.v rfl)
   ·cases h
  ·cases h
 ·cases h
theorem Rel.alias(R:Rel P w0 pr A n w a.tmps J tk){x:Nat}(hx:x<n){g:Tok}{e:Nat}{es:List (List D)}{d:D}{v:Value}{b cap:Nat}(hblk:w0.heap.size≤b∨A.a b)(_:b<w.heap.size)
  (hgrp: ∀t q c,J.m t=some q→tk t=some (b,c)→q.grp=some g)
  (ho: ∀tk':Places,tk' (J.tok x)=some (b,cap)→(∀t p,tk t=some p→tk' t=some p)→RepO P w pr tk' (J.tok x) (.row g e es))
  (hv: ∀tk':Places,tk' (J.tok x)=some (b,cap)→Rep w pr tk' v d): ∃tk',Rel P w0 pr A n w (a.put (some x) v).tmps (J.new x (.row g e es) d) tk':=by
 let tk':Places:=fun t=>if t=J.tok x then some (b,cap)else tk t
 have hnone:tk (J.tok x)=none:=R.fresh x (J.c x) [] (Nat.le_refl _)
 have hself:tk' (J.tok x)=some (b,cap):=by simp[tk']
 have hext: ∀t p,tk t=some p→tk' t=some p:=fun t p h=>by
  have:t≠J.tok x:=fun e=>by rw[e,hnone]at h;cases h
  simp[tk',this,h]
 have K:=R.keepsN (Chg.refl _ _) hext
 have hm: ∀t q,(J.new x (.row g e es) d).m t=some q→(t=J.tok x∧q= .row g e es)∨(t≠J.tok x∧J.m t=some q):=fun t q h=>by
  simp only[St.new,St.inc_m,St.set_m,St.put]at h
  split at h
  ·cases h;exact .inl ⟨by assumption,rfl⟩
  ·exact .inr ⟨by assumption,h⟩
 have hold: ∀t b c,t≠J.tok x→tk' t=some (b,c)→tk t=some (b,c):=fun t b c hne ht=>by
  simpa only[tk',if_neg hne]using ht
 refine⟨tk',by simp[Act.put,R.size],R.chg,R.prlt,R.prA,R.glob,⟨fun t q h=> ?_,fun t t' q q' b1 c c' h h' ht ht'=> ?_⟩,fun t q b1 c h ht=> ?_,fun y k r hk=> ?_,fun t=>by simp only[tk',St.tok,List.cons.injEq,show¬(0=x+1) by omega,false_and,if_false];exact R.zero t,fun l p=>by simp only[tk',St.tok,List.cons.injEq,reduceCtorEq,and_false,if_false];exact R.one l p,fun i hi=> ?_,fun i hi=>by
  show Rep _ pr tk' (A.sv i) (if i=x then d else J.s i)
  rw[if_neg (show i≠x by omega)];exact(R.sav i hi).keeps K⟩
 ·rcases hm t q h with⟨rfl,rfl⟩|⟨hne,h⟩
  ·exact ho tk' hself hext
  ·exact(R.mem.obj t q h).keeps K fun _ _ _=>rfl
 ·rcases hm t q h with⟨e1,e2⟩|⟨hne,k1⟩<;>rcases hm t' q' h' with⟨e3,e4⟩|⟨hne',k2⟩
  ·exact .inl (e1.trans e3.symm)
  ·rw[e1,hself]at ht;cases ht
   right
   rw[e2,hgrp t' q' c' k2 (hold t' _ c' hne' ht')]
   exact⟨rfl,rfl⟩
  ·rw[e3,hself]at ht';cases ht'
   right
   rw[e4,hgrp t q c k1 (hold t _ c hne ht)]
   exact⟨rfl,rfl⟩
  ·exact R.mem.inj t t' q q' b1 c c' k1 k2 (hold t b1 c hne ht) (hold t' b1 c' hne' ht')
 ·rcases hm t q h with⟨rfl,rfl⟩|⟨hne,h⟩
  ·rw[hself]at ht;cases ht
   exact hblk
  ·exact R.live t q b1 c h (hold t b1 c hne ht)
 ·simp only[St.new,St.inc,St.set_c,St.put_c]at hk
  have hne:(y+1)::k::r≠J.tok x:=fun e=>by
   simp only[St.tok,List.cons.injEq]at e
   obtain⟨e1,e2,_⟩:=e
   have:y=x:=by omega
   subst this
   rw[if_pos rfl]at hk
   omega
  simp only[tk',if_neg hne]
  refine R.fresh y k r ?_
  split at hk<;>omega
 ·simp only[Act.put,getD_put (show x<a.tmps.size by rw[R.size];exact hx),St.new,St.inc_s,St.set]
  split
  ·exact hv tk' hself
  ·exact(R.slot i hi).keeps K
theorem Rel.writeG(R:Rel P w0 pr A n w a.tmps J tk){t:Tok}{o:HO}{b c:Nat}(hm:J.m t=some o)(ht:tk t=some (b,c)){w':World}(hc:Chg (fun k=>k=b) w w'){m':Mem}
  (hrest: ∀t' q,m' t'=some q→J.m t'=some q) (hgrp: ∀t' q c',m' t'=some q→tk t'=some (b,c')→RepO P w pr tk t' q→RepO P w' pr tk t' q):Rel P w0 pr A n w' a.tmps ⟨J.s,m',J.c⟩ tk:=by
 have K:Keeps w w' pr pr tk tk:=⟨fun b' x h=>⟨hc.block b' (R.prw b' x h) (fun e=>by subst e;exact R.free hm ht h),h⟩,fun _ _ h=>h⟩
 refine⟨R.size,R.chg.trans hc (fun k hk e=> ?_),R.prlt,R.prA,R.glob.keeps K.cell,⟨fun t' q (h:m' t'=some q)=> ?_,fun t1 t2 q1 q2 b' c1 c2 h1 h2 g1 g2=> ?_⟩,fun t' q b' c' h h1=> ?_,R.fresh,R.zero,R.one,fun i hi=>(R.slot i hi).keeps K,fun i hi=>(R.sav i hi).keeps K⟩
 ·subst e
  rcases R.live t o k c hm ht with h|h
  ·omega
  ·exact h
 ·have hr:=R.mem.obj t' q (hrest t' q h)
  obtain⟨b1,c1,h1,h2⟩:=hr.place
  by_cases hb:b1=b
  ·subst hb;exact hgrp t' q c1 h h1 hr
  ·exact hr.keeps K fun b2 c2 h3=>by
    rw[h1]at h3;cases h3
    exact hc.block b1 h2 hb
 ·exact R.mem.inj t1 t2 q1 q2 b' c1 c2 (hrest _ _ h1) (hrest _ _ h2) g1 g2
 ·exact R.live t' q b' c' (hrest _ _ h) h1
theorem row_of_us{e:Nat}{es:List (List D)}{us:Nat→Value}{C:Array Value}(hsz: ∀c∈es,c.length=P.cellsOf e)(hC: ∀j,j<es.length*P.cellsOf e→C[j]?=some (us j))
  (h1: ∀j,j<es.length*P.cellsOf e→(us j).oneCell'=true) (hr: ∀(i:Nat) (c:List D),es[i]?=some c→ ∀(j:Nat) (x:D),c[j]?=some x→Rep w pr tk (us (i*P.cellsOf e+j)) x):RepRow P w pr tk C e es:=by
 refine⟨hsz,fun i c hc j d hd=> ?_⟩
 have hi:=(Gz.1 hc).1
 have hj:j<P.cellsOf e:=by rw[←hsz c (Lz hc)];exact(Gz.1 hd).1
 have hlt:i*P.cellsOf e+j<es.length*P.cellsOf e:=by
  have:(i+1)*P.cellsOf e≤es.length*P.cellsOf e:=Nat.mul_le_mul_right _ hi
  rw[Nat.add_mul]at this
  omega
 exact⟨_,hC _ hlt,h1 _ hlt,hr i c hc j d hd⟩
theorem row_append{e:Nat}{es1 es2:List (List D)}{C C1 C2:Array Value}(h1:RepRow P w pr tk C1 e es1)(h2:RepRow P w pr tk C2 e es2)(g1: ∀j,j<es1.length*P.cellsOf e→C[j]?=C1[j]?)
  (g2: ∀j,j<es2.length*P.cellsOf e→C[es1.length*P.cellsOf e+j]?=C2[j]?):RepRow P w pr tk C e (es1++es2):=by
 refine⟨fun c hc=>(List.mem_append.1 hc).elim (h1.1 c) (h2.1 c),fun i c hc j d hd=> ?_⟩
 have below: ∀{es:List (List D)} {i:Nat},(∀c∈es,c.length=P.cellsOf e)→es[i]?=some c→i*P.cellsOf e+j<es.length*P.cellsOf e:=fun{es i} hs hc=>by
  have hi:=(Gz.1 hc).1
  have hj:j<P.cellsOf e:=by rw[←hs c (Lz hc)];exact(Gz.1 hd).1
  have:(i+1)*P.cellsOf e≤es.length*P.cellsOf e:=Nat.mul_le_mul_right _ hi
  rw[Nat.add_mul]at this
  omega
 by_cases hi:i<es1.length
 ·rw[Yz hi]at hc
  obtain⟨u,hu,k1,k2⟩:=h1.2 i c hc j d hd
  exact⟨u,by rw[g1 _ (below h1.1 hc)];exact hu,k1,k2⟩
 ·rw[Xz (by omega)]at hc
  obtain⟨u,hu,k1,k2⟩:=h2.2 _ c hc j d hd
  refine⟨u, ?_,k1,k2⟩
  have e1:i*P.cellsOf e+j=es1.length*P.cellsOf e+((i-es1.length)*P.cellsOf e+j):=by
   rw[←Nat.add_assoc,←Nat.add_mul]
   congr 2
   omega
  rw[e1,g2 _ (below h2.1 hc)]
  exact hu
theorem RepRow.take{e k:Nat}{es:List (List D)}{C:Array Value}(h:RepRow P w pr tk C e es):RepRow P w pr tk C e (es.take k):=
 ⟨fun c hc=>h.1 c (List.mem_of_mem_take hc),fun i c hc j d hd=>by
  have hlt:i<k:=by have:=(Gz.1 hc).1;simp at this;omega
  rw[List.getElem?_take_of_lt hlt]at hc
  exact h.2 i c hc j d hd⟩
theorem RepRow.drop{e k:Nat}{es:List (List D)}{C C':Array Value}(h:RepRow P w pr tk C e es)(hC: ∀j,j<(es.length-k)*P.cellsOf e→C'[j]?=C[k*P.cellsOf e+j]?):RepRow P w pr tk C' e (es.drop k):=
 ⟨fun c hc=>h.1 c (List.mem_of_mem_drop hc),fun i c hc j d hd=>by
  rw[List.getElem?_drop]at hc
  obtain⟨u,hu,k1,k2⟩:=h.2 (k+i) c hc j d hd
  have hi:=(Gz.1 hc).1
  have hj:j<P.cellsOf e:=by rw[←h.1 c (Lz hc)];exact(Gz.1 hd).1
  have hlt:i*P.cellsOf e+j<(es.length-k)*P.cellsOf e:=by
   have:(i+1)*P.cellsOf e≤(es.length-k)*P.cellsOf e:=Nat.mul_le_mul_right _ (by omega)
   rw[Nat.add_mul]at this
   omega
  refine⟨u, ?_,k1,k2⟩
  rw[hC _ hlt,←hu]
  congr 1
  rw[Nat.add_mul];omega⟩
end
end
section
section
variable {P : Program} {w0 w : World} {pr : Prot} {A : Area} {n : Nat} {tk : Places} {J : St} {a : Act}
theorem Chg.drew_alloc(A:Nat→Prop)(w:World)(o:Obj):Chg A w (w.drew.alloc o):=
 ⟨rfl,rfl,rfl,Nat.le_of_lt ((Array.getElem?_eq_some_iff.1 (Go.MapKept.heap_alloc w.drew o).1).1),fun k hk _=>(Go.MapKept.heap_alloc w.drew o).2 k hk,Nat.le_succ _⟩
theorem Rel.less(R:Rel P w0 pr A n w a.tmps J tk){m':Mem}(h: ∀t q,m' t=some q→J.m t=some q):Rel P w0 pr A n w a.tmps ⟨J.s,m',J.c⟩ tk:=
 ⟨R.size,R.chg,R.prlt,R.prA,R.glob,⟨fun t o ho=>R.mem.obj t o (h t o ho),fun t t' o o' b c c' h1 h2=>R.mem.inj t t' o o' b c c' (h _ _ h1) (h _ _ h2)⟩,fun t o b c ho=>R.live t o b c (h t o ho),R.fresh,R.zero,R.one,R.slot,R.sav⟩
theorem run_append_empty{t ty e:Nat}{i:TypeInfo}(ht:P.underlying t=some (.slice e))(hi:P.info? e=some i){b o len c:Nat}(hlc:len≤c){v2:Value}(h2:v2= .slice none 0 0∨ ∃a c2,v2= .slice (some a) 0 c2):
  (Builtin.append_ #[t,t] ty #[.slice (some ⟨b,o,none⟩) len c,v2]).run P w= .ok (.slice (some ⟨b,o,none⟩) len c) w:=by
 rcases h2 with rfl|⟨a,c2,rfl⟩
 ·simp[Builtin.append_,run_underlying ht,sizeOf,typeInfo,hi,Builtin.lenOf,Builtin.firstCells,hlc,storeCells]
 ·simp[Builtin.append_,run_underlying ht,sizeOf,typeInfo,hi,Builtin.lenOf,Builtin.firstCells,hlc,storeCells,loadCells,loadCellsFrom]
theorem news_of(M:MemOK P w pr tk J.m){v:Value}{d:D}{es:List (List D)}{e:Nat}(h:Rep w pr tk v d)(he:d.elems J.m=some es)(hsz: ∀c∈es,c.length=P.cellsOf e)(hne:es≠ []):
  ∃(a:Addr) (cap:Nat) (news:List Value),v= .slice (some a) es.length cap∧news.length=es.length*P.cellsOf e∧(∀(j:Nat) (u:Value),news[j]?=some u→w.cell? (a.add j)=some u)∧(∀u∈news,u.oneCell'=true)∧
   ∀C:Array Value,(∀j,j<es.length*P.cellsOf e→C[j]?=news[j]?)→RepRow P w pr tk C e es:=by
 rcases elems_cells M h he with⟨_,h0⟩|⟨b,off,cap,size,us,rfl,h1,h2,h3,h4⟩
 ·exact absurd h0 hne
 ·have hse:size=P.cellsOf e:=by
   cases es with
   |nil=>exact absurd rfl hne
   |cons c r=>rw[←h2 c (by simp),hsz c (by simp)]
  subst hse
  refine⟨⟨b,off,none⟩,cap,(List.range (es.length*P.cellsOf e)).map us,rfl,by simp,fun j u hu=> ?_,fun u hu=> ?_,fun C hC=> ?_⟩
  ·simp only[Dz,Mz]at hu
   obtain⟨k,hk,rfl⟩:=hu
   obtain⟨hlt,rfl⟩:=Gz.1 hk
   simp only[List.length_range]at hlt
   rw[add_off,List.getElem_range]
   exact(h3 j hlt).1
  ·simp only[List.mem_map,List.mem_range]at hu
   obtain⟨k,hk,rfl⟩:=hu
   exact(h3 k hk).2
  ·refine row_of_us hsz (us:=us) (fun j hj=> ?_) (fun j hj=>(h3 j hj).2) h4
   rw[hC j hj]
   simp[List.getElem?_range hj]
theorem rel_app (R : Rel P w0 pr A n w a.tmps J tk) {t ty e x : Nat} {i : TypeInfo} {z : Value} {av bv' : Value} {d1 d2 : D} {J' : St} (ht : P.underlying t = some (.slice e)) (hi : P.info? e = some i) (hz : i.zero = some z)
    (hzs : z.cells.size = i.size) (hby : i.bytes ≤ 8192) (hx : x < n)
    (ha : Rep w pr tk av d1) (hb : Rep w pr tk bv' d2) (h : appV x e i.size d1 d2 J = some J') :
    ∃ v' w' tk', (Builtin.append_ #[t, t] ty #[av, bv']).run P w = .ok v' w' ∧ Rel P w0 pr A n w' (a.put (some x) v').tmps J' tk' := by
  have hce : P.cellsOf e = i.size := by simp [Program.cellsOf, hi]
  unfold appV at h
  rw [Bz] at h
  obtain ⟨es2, he2, h⟩ := h
  split at h
  · cases h
  rename_i hall
  have hs2 : ∀ c ∈ es2, c.length = P.cellsOf e := fun c hc => by
    have hall : es2.all (fun c => c.length == i.size) = true := by simpa only [Bool.not_eq_false] using hall
    rw [hce]; simpa using Tz.1 hall c hc
  have hempty : es2 = [] → bv' = .slice none 0 0 ∨ ∃ a c2, bv' = .slice (some a) 0 c2 := fun h0 => by
    subst h0
    rcases elems_cells R.mem hb he2 with ⟨rfl | ⟨a, cap, rfl⟩, _⟩ | ⟨b, off, cap, size, us, rfl, _⟩
    · exact .inl rfl
    · exact .inr ⟨_, _, rfl⟩
    · exact .inr ⟨_, _, rfl⟩
  have grown : ∀ (J1 : St) (_ : Rel P w0 pr A n w a.tmps J1 tk) (C : Array Value) (g : Tok) (es : List (List D)) (old : Nat), es.length ≤ maxLen → C.size = grownCap w es.length old e * P.cellsOf e → RepRow P w pr tk C e es →
      ∃ tk', Rel P w0 pr A n (w.drew.alloc (.cells C e)) (a.put (some x) (.slice (some ⟨w.heap.size, 0, none⟩) es.length (grownCap w es.length old e))).tmps (J1.new x (.row g e es) (.sl (J1.tok x) i.size 0 es.length none)) tk' := by
    intro J1 R C g es old hmax hC hrow
    have hc := Chg.drew_alloc (fun _ => False) w (.cells C e)
    have hge := grownCap_ge w es.length old e
    refine R.alloc hx (cap := grownCap w es.length old e) hc (fun tk' hs he => ?_) fun tk' hs => ?_
    · exact ⟨w.heap.size, _, C, hs, heap_alloc_new w.drew _, hge, grownCap_le_maxLen w _ _ e hmax, hC, hrow.keeps (R.keepsN hc he)⟩
    · exact .sl hs (by simp) hge (.inl (by simp))
  have m63 : ∀ {k : Nat}, k ≤ maxMade → k ≤ maxLen := fun {k} h => by simp only [maxMade] at h; simp only [maxLen]; omega
  have mby : ∀ {k : Nat}, k ≤ maxMade → k * i.bytes ≤ 140737488355328 := fun {k} h => by
    simp only [maxMade] at h
    calc k * i.bytes ≤ 1048576 * 8192 := Nat.mul_le_mul h hby
      _ ≤ _ := by decide
  have zc : ∀ k : Nat, (Builtin.zeroCells z.cells k).size = k * P.cellsOf e := fun k => by rw [size_zeroCells, hzs, hce]
  have grownC : ∀ (olds news : List Value) (n1 n2 old : Nat), olds.length = n1 * P.cellsOf e → news.length = n2 * P.cellsOf e →
      (olds.toArray ++ news.toArray ++ Builtin.zeroCells z.cells (grownCap w (n1 + n2) old e - (n1 + n2))).size = grownCap w (n1 + n2) old e * P.cellsOf e := by
    intro olds news n1 n2 old h1 h2
    have hge := grownCap_ge w (n1 + n2) old e
    rw [Array.size_append, zc, Array.size_append, List.size_toArray, List.size_toArray, h1, h2, ← Nat.add_mul, ← Nat.add_mul]
    congr 1
    omega
  cases d1 <;> simp only [] at h <;> try (cases h; done)
  case nil =>
    cases ha
    by_cases h0 : es2 = []
    · subst h0
      simp only [List.isEmpty_nil, if_true, Jz] at h
      subst h
      rcases hempty rfl with rfl | ⟨a2, c2, rfl⟩
      · exact ⟨.slice none 0 0, w, tk, by simp [Builtin.append_, run_underlying ht, sizeOf, typeInfo, hi, Builtin.lenOf, Builtin.firstCells], R.put hx (Chg.refl _ _) .nil⟩
      · exact ⟨.slice none 0 0, w, tk, by simp [Builtin.append_, run_underlying ht, sizeOf, typeInfo, hi, Builtin.lenOf, Builtin.firstCells, loadCells, loadCellsFrom], R.put hx (Chg.refl _ _) .nil⟩
    · rw [if_neg (by simpa using h0)] at h
      split at h <;> cases h
      rename_i hmax
      obtain ⟨ad, cap, news, rfl, h1, h2, h3, h4⟩ := news_of R.mem hb he2 hs2 h0
      have hpos : 0 < es2.length := List.length_pos_iff.2 h0
      have hrun := run_append_nil (P := P) w t ty e i z ht hi hz ad es2.length cap news (by rw [← hce]; exact h1) h2 hpos (by have := m63 hmax; simp only [maxLen] at this; omega) (by have := mby hmax; omega)
      obtain ⟨tk', R'⟩ := grown J R (news.toArray ++ Builtin.zeroCells z.cells (grownCap w es2.length 0 e - es2.length)) (J.tok x) es2 0 (m63 hmax) (by
          have := grownC [] news 0 es2.length 0 (by simp) h1
          simpa using this) (h4 _ fun j hj => by
            rw [Array.getElem?_append_left (by simp; omega)]; simp)
      exact ⟨_, _, tk', hrun, R'⟩
  case sl τ size' off len lim =>
    cases ha with
    | sl htk hcc hl ho =>
      rename_i b cap c o
      by_cases h0 : es2 = []
      · subst h0
        simp only [List.isEmpty_nil, if_true, Jz] at h
        subst h
        exact ⟨_, w, tk, run_append_empty ht hi hl (hempty rfl), R.put hx (Chg.refl _ _) (.sl htk hcc hl ho)⟩
      · rw [if_neg (by simpa using h0)] at h
        obtain ⟨ad, cap2, news, rfl, h1, h2, h3, h4⟩ := news_of R.mem hb he2 hs2 h0
        have hpos : 0 < es2.length := List.length_pos_iff.2 h0
        split at h
        · rename_i g e' es1 hm
          split at h
          · rename_i hcond
            obtain ⟨rfl, rfl, hmax, hle⟩ := hcond
            obtain ⟨b', cap', C, k1, k3, k5, k6, k7, k8⟩ := R.mem.obj τ _ hm
            rw [htk] at k1; cases k1
            have hsub : RepRow P w pr tk C e' es1 := k8
            have holds : ∀ (oo : Nat), (oo = off * P.cellsOf e' ∨ len = 0) → ∃ olds : List Value, olds.length = len * P.cellsOf e' ∧ (∀ (j : Nat) (u : Value), olds[j]? = some u → w.cell? ((⟨b, oo, none⟩ : Addr).add j) = some u) ∧
                ∀ C' : Array Value, (∀ j, j < len * P.cellsOf e' → C'[j]? = olds[j]?) → RepRow P w pr tk C' e' ((es1.drop off).take len) := by
              intro oo hoo
              by_cases hl0 : len = 0
              · subst hl0
                exact ⟨[], by simp, by simp, fun C' _ => ⟨by simp, by simp⟩⟩
              have hoo : oo = off * P.cellsOf e' := hoo.resolve_right hl0
              subst hoo
              have hend : (off + len) * P.cellsOf e' ≤ cap * P.cellsOf e' := Nat.mul_le_mul_right _ (by omega)
              rw [Nat.add_mul] at hend
              have hget : ∀ j, j < len * P.cellsOf e' → (List.take (len * P.cellsOf e') (List.drop (off * P.cellsOf e') C.toList))[j]? = C[off * P.cellsOf e' + j]? := fun j hj => by
                rw [List.getElem?_take_of_lt hj, List.getElem?_drop, Array.getElem?_toList]
              refine ⟨(C.toList.drop (off * P.cellsOf e')).take (len * P.cellsOf e'), by simp; omega, fun j u hu => ?_, fun C' hC' => ?_⟩
              · have hj : j < len * P.cellsOf e' := by have := (Gz.1 hu).1; simp at this; omega
                rw [hget j hj] at hu
                rw [add_off, cell_of_row w b _ C e' (0, 0) k3]
                exact hu
              · have : RepRow P w pr tk C' e' ((es1.take (off + len)).drop off) := RepRow.drop (C := C) hsub.take (fun j hj => by
                    have hj' : j < len * P.cellsOf e' := by
                      have e1 : (es1.take (off + len)).length - off = len := by simp; omega
                      rw [e1] at hj; exact hj
                    rw [hC' j hj', hget j hj'])
                rw [List.drop_take] at this
                have e1 : off + len - off = len := by omega
                rwa [e1] at this
            have grow : ∀ (oo : Nat), (oo = off * P.cellsOf e' ∨ len = 0) → c < len + es2.length → (es1.drop off).length ≥ len → ∀ (g' : Tok) (J1 : St) (_ : Rel P w0 pr A n w a.tmps J1 tk), ∃ v' w' tk', (Builtin.append_ #[t, t] ty #[.slice (some ⟨b, oo, none⟩) len c, .slice (some ad) es2.length cap2]).run P w = .ok v' w' ∧
                Rel P w0 pr A n w' (a.put (some x) v').tmps (J1.new x (.row g' e' ((es1.drop off).take len ++ es2)) (.sl (J1.tok x) i.size 0 (len + es2.length) none)) tk' := by
              intro oo hoo hlt hlen g' J1 R1
              obtain ⟨olds, q1, q2, q3⟩ := holds oo hoo
              have hrun := run_append_grow (P := P) w t ty e' i z ht hi hz ⟨b, oo, none⟩ len c olds (by rw [← hce]; exact q1) q2 ad es2.length cap2 news (by rw [← hce]; exact h1) h2 hlt (by have := m63 hmax; simp only [maxLen] at this; omega) (growslice_fits hlt (mby hmax))
              have hl2 : ((es1.drop off).take len ++ es2).length = len + es2.length := by simp at hlen ⊢; omega
              have hrow : RepRow P w pr tk (olds.toArray ++ news.toArray ++ Builtin.zeroCells z.cells (grownCap w (len + es2.length) c e' - (len + es2.length))) e' ((es1.drop off).take len ++ es2) := by
                have e1 : ((es1.drop off).take len).length = len := by simp at hlen ⊢; omega
                refine row_append (C1 := olds.toArray) (C2 := news.toArray) (q3 _ fun j hj => by simp) (h4 _ fun j hj => by simp) (fun j hj => ?_) (fun j hj => ?_)
                · rw [e1] at hj
                  rw [Array.getElem?_append_left (by simp; omega), Array.getElem?_append_left (by simp; omega)]
                · rw [e1]
                  rw [Array.getElem?_append_left (by simp; omega), Array.getElem?_append_right (by simp; omega)]
                  congr 1
                  simp; omega
              obtain ⟨tk', R'⟩ := grown J1 R1 _ g' ((es1.drop off).take len ++ es2) c (by rw [hl2]; exact m63 hmax) (by rw [hl2]; exact grownC olds news len es2.length c q1 h1) hrow
              rw [hl2] at R'
              exact ⟨_, _, tk', hrun, R'⟩
            split at h
            · split at h <;> cases h
              rename_i hoff
              subst hoff
              have ho0 : o = 0 := by rcases ho with h | h; simpa using h; omega
              subst ho0
              simp only [Option.getD_none, Nat.sub_zero] at hcc
              subst hcc
              have hless : Rel P w0 pr A n w a.tmps (J.strike g len) tk := R.less fun t q h => (struck_some h).1
              by_cases hroom : len + es2.length ≤ c
              · have hfit : len * i.size + news.length ≤ C.size := by
                  rw [h1, k7, hce, ← Nat.add_mul]
                  exact Nat.mul_le_mul_right _ hroom
                have hrun := run_append_room (P := P) w t ty e' i ht hi b len c C k3 ad es2.length cap2 news (by rw [← hce]; exact h1) h2 h3 hroom hfit
                have hC' : (C.toList.take (len * i.size) ++ news ++ C.toList.drop (len * i.size + news.length)).toArray = putCells C (len * i.size) news.toArray := by simp [putCells]
                rw [hC'] at hrun
                have hns : news.toArray.size = news.length := by simp
                have hget := fun k => putCells_get (C := C) (V := news.toArray) (off := len * i.size) (by simpa using hfit) k
                have hchg := Chg.setRow w b (putCells C (len * i.size) news.toArray)
                have hkeep : ∀ (es' : List (List D)), es'.length ≤ len → RepRow P w pr tk C e' es' → RepRow P w pr tk (putCells C (len * i.size) news.toArray) e' es' := fun es' hl hr => by
                  refine ⟨hr.1, fun k q hq l d hd => ?_⟩
                  rw [hget]
                  have hkl := (Gz.1 hq).1
                  have hll : l < P.cellsOf e' := by rw [← hr.1 q (Lz hq)]; exact (Gz.1 hd).1
                  have : (k + 1) * P.cellsOf e' ≤ len * P.cellsOf e' := Nat.mul_le_mul_right _ (by omega)
                  rw [Nat.add_mul] at this
                  rw [if_neg (by rw [← hce]; omega)]
                  exact hr.2 k q hq l d hd
                have K : Keeps w (w.setRow b (putCells C (len * i.size) news.toArray)) pr pr tk tk := ⟨fun b' x h => ⟨hchg.block b' (R.prw b' x h) (fun e => by subst e; exact R.free hm htk h), h⟩, fun _ _ h => h⟩
                have ingrp : ∀ t' q c', J.m t' = some q → tk t' = some (b, c') → q.grp = some g := fun t' q c' hq ht' => by
                  rcases R.mem.inj t' τ q _ b c' c hq hm ht' htk with rfl | ⟨_, g2⟩
                  · rw [hm] at hq; cases hq; rfl
                  · rw [g2]; rfl
                have R1 : Rel P w0 pr A n (w.setRow b (putCells C (len * i.size) news.toArray)) a.tmps (J.strike g len) tk := R.writeG hm htk hchg (m' := (J.strike g len).m) (fun t' q h => (struck_some h).1) (fun t' q c' h ht' hr => by
                  obtain ⟨hq1, hq2⟩ := struck_some h
                  have hg := ingrp t' q c' hq1 ht'
                  cases q with
                  | box => simp [HO.grp] at hg
                  | map => simp [HO.grp] at hg
                  | iter => simp [HO.grp] at hg
                  | raw => simp [HO.grp] at hg
                  | row g' e'' es' =>
                    simp only [HO.grp, Jz] at hg
                    subst hg
                    have hshort := hq2 e'' es' rfl
                    obtain ⟨b2, cap2', C2, j1, j3, j5, j6, j7, j8⟩ := hr
                    rw [ht'] at j1; cases j1
                    rw [k3] at j3; cases j3
                    exact ⟨b, c', _, ht', setRow_heap w b C _ e' _ k3, j5, j6, by rw [putCells_size (by simpa using hfit)]; exact j7, (hkeep es' hshort j8).keeps K⟩)
                obtain ⟨tk', R2⟩ := R1.alias hx (g := g) (e := e') (es := es1.take len ++ es2) (d := .sl (J.tok x) i.size 0 (len + es2.length) none) (v := .slice (some ⟨b, 0, none⟩) (len + es2.length) c) (b := b) (cap := c)
                  (R.live τ _ b c hm htk) (by have := (Array.getElem?_eq_some_iff.1 k3).1; simpa using this) (fun t' q c' h ht' => ingrp t' q c' (struck_some h).1 ht') (fun tk' hs he => by
                    have K2 := R.keepsN (Chg.refl _ w) he
                    have K3 : Keeps w (w.setRow b (putCells C (len * i.size) news.toArray)) pr pr tk tk' := ⟨K.cell, he⟩
                    have hl1 : (es1.take len).length = len := by simp; omega
                    refine ⟨b, c, _, hs, setRow_heap w b C _ e' _ k3, by rw [List.length_append, hl1]; exact hroom, k6, by rw [putCells_size (by simpa using hfit)]; exact k7, ?_⟩
                    refine RepRow.keeps ?_ K3
                    refine row_append (C1 := putCells C (len * i.size) news.toArray) (C2 := news.toArray) (hkeep _ (by omega) k8.take) (h4 _ fun j hj => by simp) (fun j hj => rfl) (fun j hj => ?_)
                    rw [hce] at hj
                    rw [hce] at h1
                    rw [hget, hl1, hce, if_pos (by rw [hns, h1]; omega)]
                    congr 1
                    omega) (fun tk' hs => .sl hs (by simp) hroom (.inl (by simp)))
                exact ⟨_, _, tk', hrun, R2⟩
              · have := grow 0 (.inl (by simp)) (by omega) (by simp; omega) g (J.strike g len) hless
                simpa [St.tok] using this
            · rename_i cl
              split at h <;> cases h
              rename_i hlt
              simp only [Option.getD_some] at hcc
              subst hcc
              exact grow o (ho.imp (fun h => by rw [hce]; exact h) fun h => by omega) hlt (by simp; omega) _ J R
          · cases h
        · cases h
theorem zero_row{e k l:Nat}{z:Value}{zd:List D}(h:RepCs w pr tk z.cells zd)(hz:z.cells.size=P.cellsOf e)(hl:l≤k):RepRow P w pr tk (madeCells z.cells (k*P.cellsOf e)) e (List.replicate l zd):=by
 have hzl:zd.length=P.cellsOf e:=by rw[←h.1,hz]
 refine⟨fun c hc=>by rw[List.eq_of_mem_replicate hc];exact hzl,fun i c hc j d hd=> ?_⟩
 have hi:i<l:=by have:=(Gz.1 hc).1;simpa using this
 have:c=zd:=List.eq_of_mem_replicate (Lz hc)
 subst this
 have hj:j<P.cellsOf e:=by rw[←hzl];exact(Gz.1 hd).1
 have hlt:i*P.cellsOf e+j<k*P.cellsOf e:=by
  have:(i+1)*P.cellsOf e≤k*P.cellsOf e:=Nat.mul_le_mul_right _ (by omega)
  rw[Nat.add_mul]at this
  omega
 have hjz:j<z.cells.size:=by omega
 have hmod:(i*P.cellsOf e+j)%z.cells.size=j:=by
  rw[hz,Nat.mul_comm,Nat.mul_add_mod,Nat.mod_eq_of_lt hj]
 refine⟨z.cells[j], ?_,h.2.1 j _ (Rz hjz),h.2.2 j _ d (Rz hjz) hd⟩
 simp only[madeCells,Array.getElem?_map,Array.getElem?_range]
 rw[if_pos hlt]
 simp only[Pz,hmod]
 rw[getElem!_pos z.cells j hjz]
theorem rel_mks(R:Rel P w0 pr A n w a.tmps J tk){t e x:Nat}{i:TypeInfo}{z:Value}{zd:List D}{av bv':Value}{d1 d2:D}{J':St}(ht:P.underlying t=some (.slice e))(hi:P.info? e=some i)(hz:i.zero=some z)
  (hzs:z.cells.size=i.size) (hzd:RepCs w pr tk z.cells zd) (_:i.size≤40) (hby:i.bytes≤8192) (hx:x<n) (ha:Rep w pr tk av d1) (hb:Rep w pr tk bv' d2) (h:mksV x e i.size zd d1 d2 J=some J'):
  ∃v' w' tk',(Instr.makeSlice t av bv').run P w= .ok v' w'∧Rel P w0 pr A n w' (a.put (some x) v').tmps J' tk':=by
 have hce:P.cellsOf e=i.size:=by simp[Program.cellsOf,hi]
 unfold mksV at h
 split at h
 ·rename_i k1 l k2 c
  split at h<;>cases h
  rename_i hc
  obtain⟨h0,h1,h2,hcs⟩:=hc
  obtain⟨rfl,_⟩:=rep_v.1 ha
  obtain⟨rfl,_⟩:=rep_v.1 hb
  have hmm:c≤1048576:=h2
  have hrun:=run_makeSlice (P:=P) w t e i z ht hi hz k1 k2 l c h0 h1 (by omega) (by
    have:i.bytes*c.toNat≤8192*1048576:=Nat.mul_le_mul hby (by omega)
    have e1:((i.bytes*c.toNat:Nat):Int)=(i.bytes:Int)*c:=by rw[Int.natCast_mul,Int.toNat_of_nonneg (by omega)]
    omega) (by omega)
  have hchg:=Chg.alloc (fun _=>False) w (.cells (madeCells z.cells (c.toNat*i.size)) e)
  obtain⟨tk',R'⟩:=R.alloc hx (cap:=c.toNat) hchg (o:= .row (J.tok x) e (List.replicate l.toNat zd)) (d:= .sl (J.tok x) i.size 0 l.toNat none) (v:= .slice (some ⟨w.heap.size,0,none⟩) l.toNat c.toNat) (fun tk' hs he=>by
    refine⟨w.heap.size,c.toNat,_,hs,(Go.MapKept.heap_alloc w _).1,by simp;omega,by simp only[maxLen];omega,by simp[madeCells,hce], ?_⟩
    have q:=zero_row (e:=e) (k:=c.toNat) (l:=l.toNat) hzd (by rw[hce];exact hzs) (by omega)
    rw[hce]at q
    exact q.keeps (R.keepsN hchg he)) (fun tk' hs=> .sl hs (by simp) (by omega) (.inl (by simp)))
  exact⟨_,_,tk',hrun,R'⟩
 ·cases h
theorem run_lit{t e len:Nat}{ie:TypeInfo}{zv:Value}{parts:Array (Nat×Value)}{C:Array Value}(hu:P.underlying t=some (.slice e))(hie:P.info? e=some ie)(hzv:ie.zero=some zv)(hsm:len*ie.size≤65536)(hpos:0<ie.size)
  (g1:Instr.fill (fun i=>some (i*ie.size,ie.size)) ((Array.range (len*ie.size)).map (zv.cells[· %zv.cells.size]!)) parts.toList=some C):
  (Instr.buildSlice t len parts).run P w= .ok (.slice (some ⟨w.heap.size,0,none⟩) len len) (w.alloc (.cells C e)):=by
 by_cases h0:len=0
 ·subst h0
  have e0: ∀g:Nat→Value,(Array.range 0).map g= #[]:=fun g=>Array.eq_empty_of_size_eq_zero (by simp)
  simp only[Nat.zero_mul,e0]at g1
  simp[Instr.buildSlice,run_underlying hu,sizeOf,typeInfo,hie,newRow,e0,g1]
 ·exact run_buildSlice w t e len parts C ie zv hu hie hzv (by omega) (by
   intro h
   rcases Nat.mul_eq_zero.1 h with h|h
   ·exact h0 h
   ·omega) g1
theorem rel_lit(R:Rel P w0 pr A n w a.tmps J tk){t e size len x:Nat}{zero:List D}{places:List (Nat×Nat)}{parts:Array (Nat×Operand)}{E:Operand→Value}{ds:List D}{J':St}
  (hd:dBslice P t len (parts.toList.map (·.1))=some (e,size,zero,places)) (hx:x<n) (hrep:Reps w pr tk ((parts.toList.map (·.2)).map E) ds) (h:litV x e size len zero places ds J=some J'):
  ∃v' w' tk',(Instr.buildSlice t len (parts.map fun(i,x)=>(i,E x))).run P w= .ok v' w'∧Rel P w0 pr A n w' (a.put (some x) v').tmps J' tk':=by
 unfold dBslice at hd
 split at hd
 ·rename_i e' hu
  rw[Bz]at hd
  obtain⟨ie,hie,hd⟩:=hd
  split at hd
  ·rename_i hsz
   rw[Bz]at hd
   obtain⟨z,hz,hd⟩:=hd
   split at hd
   ·rename_i hzl
    simp only[Jz,Prod.mk.injEq]at hd
    obtain⟨rfl,rfl,rfl,rfl⟩:=hd
    have hce:P.cellsOf e'=ie.size:=by simp[Program.cellsOf,hie]
    unfold litV at h
    split at h
    ·rename_i hall
     rw[Bz]at h
     obtain⟨out,hout,h⟩:=h
     split at h<;>cases h
     rename_i hlen
     obtain⟨i',zv,hi',hzv,hzr⟩:=dZero_spec (w:=w) (pr:=pr) (tk:=tk) hz
     obtain rfl:ie=i':=by rw[hie]at hi';exact Option.some.inj hi'
     have hzs:zv.cells.size=ie.size:=by rw[hzr.1,hzl]
     have hzero:RepCs w pr tk ((Array.range (len*ie.size)).map (zv.cells[· %zv.cells.size]!)) ((List.range (len*ie.size)).map fun j=>z.getD (j%ie.size) .undef):=by
      have hj: ∀j,j%ie.size<zv.cells.size:=fun j=>by rw[hzs];exact Nat.mod_lt _ hsz.2
      refine⟨by simp,fun i c hc=> ?_,fun i c x hc hx=> ?_⟩
      ·simp only[Array.getElem?_map,Mz]at hc
       obtain⟨j,_,rfl⟩:=hc
       refine hzr.2.1 (j%ie.size) _ ?_
       rw[hzs,getElem!_pos zv.cells _ (hj j)]
       exact Rz (hj j)
      ·simp only[Array.getElem?_map,Dz,Mz]at hc hx
       obtain⟨j,hj1,rfl⟩:=hc
       obtain⟨j',hj2,rfl⟩:=hx
       have hjj:j=j':=by
        have a1:=(Array.getElem?_eq_some_iff.1 hj1)
        have a2:=(Gz.1 hj2)
        obtain⟨b1,c1⟩:=a1
        obtain⟨b2,c2⟩:=a2
        simp at c1 c2
        omega
       subst hjj
       refine hzr.2.2 (j%ie.size) _ _ ?_ ?_
       ·rw[hzs,getElem!_pos zv.cells _ (hj j)]
        exact Rz (hj j)
       ·have hl:j%ie.size<z.length:=by rw[hzl];exact Nat.mod_lt _ hsz.2
        rw[Ez hl]
        simp[List.getD,hl]
     have hpl:(parts.toList.map fun p=>(p.1,E p.2)).mapM (fun p=>(fun i=>some (i*ie.size,ie.size)) p.1)=some ((parts.toList.map (·.1)).map fun k=>(k*ie.size,ie.size)):=by
      generalize parts.toList=l
      induction l with
      |nil=>rfl
      |cons a l ih=>simp only[List.map_cons,List.mapM_cons,ih];rfl
     obtain⟨C,g1,g2⟩:=fill_rep (w:=w) (pr:=pr) (tk:=tk) (place:=fun i=>some (i*ie.size,ie.size)) (parts.toList.map fun p=>(p.1,E p.2)) _ _ _ _ out hzero hpl
      (by simpa[List.map_map,Function.comp_def]using hrep) hall hout
     have hCl:C.size=len*P.cellsOf e':=by rw[g2.1,hlen,hce]
     have hrun:=run_lit (w:=w) hu hie hzv (by omega) hsz.2 (parts:=parts.map fun(i,x)=>(i,E x)) (len:=len) (C:=C) (by simpa using g1)
     have hchg:=Chg.alloc (fun _=>False) w (.cells C e')
     have hlb:len≤65536:=by
      have:len*1≤len*ie.size:=Nat.mul_le_mul_left _ hsz.2
      omega
     obtain⟨tk',R'⟩:=R.alloc hx (cap:=len) hchg (o:= .row (J.tok x) e' (chop ie.size len (out.map D.nz))) (d:= .sl (J.tok x) ie.size 0 len none) (v:= .slice (some ⟨w.heap.size,0,none⟩) len len) (fun tk' hs he=>by
       refine⟨w.heap.size,len,C,hs,(Go.MapKept.heap_alloc w _).1,by rw[chop_length];exact Nat.le_refl _,by simp only[maxLen];omega,hCl, ?_⟩
       rw[←hce]
       exact(row_of_cells (repCs_nz g2) (by rw[hce,List.length_map];exact hlen)).keeps (R.keepsN hchg he)) (fun tk' hs=> .sl hs (by simp) (Nat.le_refl _) (.inl (by simp)))
     exact⟨_,_,tk',hrun,R'⟩
    ·cases h
   ·cases hd
  ·cases hd
 ·cases hd
theorem Rel.called(R:Rel P w0 pr A n w a.tmps J tk){B:Base}(U:Under B w0 pr A){x:Nat}(hx:x<n){w':World}(hc:Chg (fun _=>False) w w'){pr':Prot}{v:Value}{d:D}
  (h1: ∀b o,pr b o→pr' b o) (h2: ∀b o,pr' b o→pr b o∨(w.heap.size≤b∧b<w'.heap.size)) (hv:Rep w' pr' tk v d):RelE P B n w' (a.put (some x) v).tmps (J.set x d):=by
 have K:Keeps w w' pr pr' tk tk:=⟨fun b o h=>⟨hc.block b (R.prw b o h) id,h1 b o h⟩,fun _ _ h=>h⟩
 have lt: ∀t q b c,J.m t=some q→tk t=some (b,c)→b<w.heap.size:=fun t q b c hm ht=>by
  obtain⟨b1,c1,g1,g2⟩:=(R.mem.obj t q hm).place
  rw[ht]at g1;cases g1;exact g2
 have s1:=R.chg.size
 have s2:=U.chg.size
 have s3:=hc.size
 refine⟨w',pr',⟨blocksOf tk J.m,A.z,A.sv⟩,tk,⟨by simp[Act.put,R.size],Chg.refl _ _,fun b o h=> ?_,fun b o h hb=> ?_,R.glob.keeps K.cell,R.mem.keeps K fun t q b c hm ht=>hc.block b (lt t q b c hm ht) id,
  fun t q b c hm ht=> .inr ⟨t,q,c,hm,ht⟩,R.fresh,R.zero,R.one,fun i hi=> ?_,fun i hi=>by rw[St.set_ne _ _ (show i≠x by omega)];exact(R.sav i hi).keeps K⟩,⟨U.chg.trans (R.chg.trans hc fun _ _ h=>h.elim) fun b hb h=>U.sub b hb h,fun b hb h=> ?_,U.z,U.sv,fun b o h=>h1 b o (U.sup b o h),fun b o h=> ?_⟩⟩
 ·rcases h2 b o h with h|h
  ·have:=R.prw b o h;omega
  ·exact h.2
 ·obtain⟨t,q,c,hm,ht⟩:=hb
  rcases h2 b o h with h|h
  ·exact R.free hm ht h
  ·have:=lt t q b c hm ht;omega
 ·simp only[Act.put,getD_put (show x<a.tmps.size by rw[R.size];exact hx),St.set]
  split
  ·exact hv
  ·exact(R.slot i hi).keeps K
 ·obtain⟨t,q,c,hm,ht⟩:=h
  rcases R.live t q b c hm ht with h|h
  ·omega
  ·exact U.sub b hb h
 ·rcases h2 b o h with h|h
  ·exact U.inf b o h
  ·exact .inr (.inl (by omega))
def isCall:Op→Bool
 | .call _=>true
 |_=>false
theorem dBin_simple{op:BinOp}{t:Nat}{k:PK}(h:dBin P op t=some k):k.simple=true:=by
 unfold dBin at h
 (repeat' split at h)<;>(try cases h)<;>rfl
theorem dSnil_simple{op:BinOp}{t:Nat}{k:PK}(h:dSnil P op t=some k):k.simple=true:=by
 unfold dSnil at h
 (repeat' split at h)<;>(try cases h)<;>rfl
theorem dAeq_simple{op:BinOp}{t:Nat}{k:PK}(h:dAeq P op t=some k):k.simple=true:=by
 unfold dAeq at h
 (repeat' split at h)<;>first|(cases h;done)|(obtain⟨ks,_,rfl⟩:=Mz.1 h;rfl)
theorem dUn_simple{op:UnOp}{k:PK}(h:dUn op=some k):k.simple=true:=by
 unfold dUn at h
 (repeat' split at h)<;>(try cases h)<;>rfl
theorem dConv_simple{s t:Nat}{k:PK}(h:dConv P s t=some k):k.simple=true:=by
 unfold dConv at h
 (repeat' split at h)<;>(try cases h)<;>rfl
theorem dIdx_simple{t:Nat}{k:PK}(h:dIdx P t=some k):k.simple=true:=by
 unfold dIdx at h
 (repeat' split at h)<;>(try cases h)<;>rfl
theorem dLoad_simple{t:Nat}{k:PK}(h:dLoad P t=some k):k.simple=true:=by
 unfold dLoad at h
 obtain⟨g,_,h⟩:=Bz.1 h
 (repeat' split at h)<;>(try cases h)<;>rfl
theorem dAix_simple{t:Nat}{k:PK}(h:dAix P t=some k):k.simple=true:=by
 unfold dAix at h
 split at h
 ·obtain⟨g,_,h⟩:=Bz.1 h
  (repeat' split at h)<;>(try cases h)<;>rfl
 ·cases h
theorem dSlc_simple{t:Nat}{x:Operand}{lo hi mx:Option Operand}{k:PK}{xs:List Operand}(h:dSlc P t x lo hi mx=some (k,xs)):k.simple=true:=by
 unfold dSlc at h
 (repeat' split at h)<;>(try cases h)<;>rfl
theorem simple_of {fr : Cfg} {op : Op} {k : PK} {xs : List Operand} (ho : isCall op = false) (h : dPure P fr op = some (k, xs)) : k.simple = true := by
  unfold dPure at h
  split at h
  case h_11 => simp [isCall] at ho
  all_goals first
    | (cases h; rfl)
    | (cases h; done)
    | (obtain ⟨q, hq, he⟩ := Mz.1 h
       cases he
       first
         | rfl
         | exact dLoad_simple hq
         | exact dIdx_simple hq
         | exact dUn_simple hq
         | exact dConv_simple hq
         | exact dAix_simple hq
         | (rcases or3 hq with hq | hq | hq
            · exact dBin_simple hq
            · exact dSnil_simple hq
            · exact dAeq_simple hq))
    | exact dSlc_simple h
    | (split at h <;> cases h <;> rfl)
    | (split at h
       · cases h; rfl
       · split at h <;> cases h; rfl)
    | (obtain ⟨q, hq, he⟩ := Bz.1 h
       first
         | (split at he <;> cases he <;> rfl)
         | (obtain ⟨z, hz, he⟩ := Mz.1 he
            cases he
            rfl))
theorem step_call{r:Option Nat}{B:Base}{fr:Cfg}{Γ:Env}(hΓ:Sound P Γ){o:Oper}{k:PK}{xs:List Operand}{gs:List VArg}{d:D}{x:Nat}{next:Act→World→Prop}{Q:Exit→Act→World→Prop}
  (R:Rel P w0 pr A n w a.tmps J tk) (U:Under B w0 pr A) (hd:dPure P fr o.op=some (k,xs)) (hk:k.simple=false) (hgs:xs.mapM (dArg n)=some gs) (hx:o.dst=some x) (hxn:x<n)
  (hrun:k.run Γ J.m (gs.map (VArg.val J.s))=some d) (h: ∀v w',RelE P B n w' (a.put (some x) v).tmps (J.set x d)→next (a.put (some x) v) w'):Oper.wpR r P o a w next Q:=by
 have fin: ∀(f:Nat) (cargs:Array Value),(execOp a.eval o).run P w= .ok (.enter f cargs) w→
   (Calls P f cargs w fun e w'=> ∃v pr',e= .returned v∧Chg (fun _=>False) w w'∧(∀b o,pr b o→pr' b o)∧(∀b o,pr' b o→pr b o∨(w.heap.size≤b∧b<w'.heap.size))∧Rep w' pr' tk v d)→Oper.wpR r P o a w next Q:=fun f cargs he hc=>by
  refine wpR_enter (dPure_noDefer hd) he (hc.mono ?_)
  rintro e w' ⟨v,pr',rfl,h2,h3,h4,h5⟩
  refine⟨v,rfl, ?_⟩
  rw[hx]
  exact h v w' (R.called U hxn h2 h3 h4 h5)
 have hrep:=args_rep R hgs
 generalize ho:o.op=op at hd
 have hd0:=hd
 have ho2:(∃c,op= .call c)∨isCall op=false:=by cases op<;>first|exact .inl ⟨_,rfl⟩|exact .inr rfl
 rcases ho2 with⟨c,rfl⟩|ho2
 case inr=>rw[simple_of ho2 hd0]at hk;cases hk
 case inl=>
  simp only[dPure]at hd
  unfold dCall at hd
  split at hd
  ·rename_i b hc
   obtain⟨k',hk',hd⟩:=Mz.1 hd
   cases hd
   unfold dBuiltin at hk'
   split at hk'<;>first
    |(cases hk';done)
    |(cases hk';simp[PK.simple]at hk;done)
    |(split at hk'<;>cases hk'<;>simp[PK.simple]at hk)
  ·rename_i f hc
   split at hd<;>cases hd
   rename_i hlt
   rcases callV_sound (P:=P) (cargs:=c.args.map a.eval) hΓ R.mem (by simpa using hrep) R.prw R.glob hlt.2 hrun with⟨v,hv,hr⟩|⟨hb,hcall⟩
   ·refine wpR_value (by rw[ho];rfl) (show(execOp a.eval o).run P w= .ok (.value v) w by simp[execOp,ho,resolve,hc,Act.eval,Deferred.ofValue,invoke,hv]) ?_
    rw[hx]
    exact h v w ⟨_,_,_,_,R.put hxn (Chg.refl _ _) hr,U⟩
   exact fin f _ (by simp[execOp,ho,resolve,hc,Act.eval,Deferred.ofValue,invoke,run_callFunc hb]) hcall
  ·rename_i t hc
   cases hd
   simp only[List.mapM_cons,Option.bind_eq_bind,Bz,Option.pure_def,Jz]at hgs
   obtain⟨g,hg,gs',hgs',rfl⟩:=hgs
   simp only[List.map_cons,PK.run]at hrun
   have hfv:Rep w pr tk (a.eval (.tmp t)) (g.val J.s):=hrep.1
   have hrest:Reps w pr tk (c.args.toList.map a.eval) (gs'.map (VArg.val J.s)):=hrep.2
   cases hgv:g.val J.s<;>rw[hgv]at hrun<;>simp only[ccallV]at hrun<;>try (cases hrun;done)
   rename_i f caps
   split at hrun
   rotate_left
   ·cases hrun
   rename_i hflt
   rw[hgv]at hfv
   generalize hev:a.eval (.tmp t)=fv at hfv
   cases hfv with
   | @clo _ _ cv _ _ hs hr=>
    have happ:Reps w pr tk ((c.args.map a.eval)++cv).toList (gs'.map (VArg.val J.s)++caps):=by
     rw[Array.toList_append]
     exact reps_append (by simpa using hrest) (reps_of (by simpa using hs) fun i c x hc hx=>hr i c x (by simpa using hc) hx)
    rcases callV_sound (P:=P) hΓ R.mem happ R.prw R.glob hflt hrun with⟨v,hv,hr⟩|⟨hb,hcall⟩
    ·refine wpR_value (by rw[ho];rfl) (show(execOp a.eval o).run P w= .ok (.value v) w by simp[execOp,ho,resolve,hc,hev,Deferred.ofValue,invoke,hv]) ?_
     rw[hx]
     exact h v w ⟨_,_,_,_,R.put hxn (Chg.refl _ _) hr,U⟩
    exact fin f _ (by simp[execOp,ho,resolve,hc,hev,Deferred.ofValue,invoke,run_callFunc hb]) hcall
   |bclo=>omega
  ·cases hd
end
end
section
def mkmV(x:Nat)(J:St):Option St:=some (J.new x (.map []) (.mp (J.tok x)))
def mupdV(ks:List Nat)(a k v:D)(J:St):Option St:=
 match a with
 | .mp t=>match J.m t with
  |some (.map es)=>if v.okM=true∧k.okM=true∧eqKey ks k k=some true then(findV ks k es 0).bind fun r=>match r with
   |some i=>(es[i]?).map fun p=>J.put t (some (.map (es.set i (p.1,v))))
   |none=>if es.length<maxMade then some (J.put t (some (.map (es++ [(k,v)]))))else none
   else none
  |_=>none
 |_=>none
section
variable {P : Program} {w0 w : World} {pr : Prot} {A : Area} {n : Nat} {tk : Places} {J : St} {a : Act}
theorem rel_mkm(R:Rel P w0 pr A n w a.tmps J tk){x:Nat}(hx:x<n){t:Nat}{J':St}(h:mkmV x J=some J'):
  ∃v w' tk',(Instr.makeMap t none).run P w= .ok v w'∧Rel P w0 pr A n w' (a.put (some x) v).tmps J' tk':=by
 cases h
 obtain⟨tk',R'⟩:=R.alloc hx (cap:=0) (Chg.alloc _ w (.map #[] 0)) (o:= .map []) (d:= .mp (J.tok x)) (v:= .map (some w.heap.size))
  (fun tk' hs _=>⟨_,_,#[],hs,(MapKept.heap_alloc w _).1,rfl,by simp,fun i en p he=>by simp at he⟩) (fun tk' hs=> .mp hs)
 exact⟨_,_,tk',by simp[Instr.makeMap,Result.andThen],R'⟩
theorem chg_set{b:Nat}{o o':Obj}(hb:w.heap[b]?=some o):Chg (fun k=>k=b) w {w with heap:=w.heap.setIfInBounds b o'}:=
 ⟨rfl,rfl,rfl,by simp,fun k _ hk=>(MapKept.heap_set hb).2 k hk,Nat.le_refl _⟩
theorem rel_mupd(R:Rel P w0 pr A n w a.tmps J tk){t e:Nat}{ks:List Nat}(hk:dKey P t=some (ks,e)){av kv vv:Value}{d k v:D}{J':St}(ha:Rep w pr tk av d)(hkr:Rep w pr tk kv k)(hv:Rep w pr tk vv v)
  (h:mupdV ks d k v J=some J'): ∃w',(Instr.mapUpdate t av kv vv).run P w= .ok () w'∧Rel P w0 pr A n w' a.tmps J' tk:=by
 obtain⟨kt,hu,L⟩:=dKey_spec hk
 unfold mupdV at h
 split at h
 ·rename_i u
  split at h
  ·rename_i es hm
   split at h
   rotate_left
   ·cases h
   rename_i hcnd
   have hchk:=L.check hkr hcnd.2.2
   rw[Bz]at h
   obtain⟨r,hf,h⟩:=h
   cases ha with
   |mp ht=>
    rename_i b cap
    obtain⟨ents,h2,h3,h4,h5,h6⟩:=findKey_sound R.mem L hm ht hkr hf
    have fin: ∀(o':Obj) (es':List (D×D)),RepO P {w with heap:=w.heap.setIfInBounds b o'} pr tk u (.map es')→Rel P w0 pr A n {w with heap:=w.heap.setIfInBounds b o'} a.tmps (J.put u (some (.map es'))) tk:=fun o' es' ho=>
     R.write hm ht (chg_set h2) (o':= .map es') rfl (m':=(J.put u (some (.map es'))).m) (by simp[St.put]) (fun t' q hne hq=>by simpa[St.put,hne]using hq) ho
      (fun t' q c' hne hq ht' _=>by
       have hq:J.m t'=some q:=by simpa[St.put,hne]using hq
       rcases R.mem.inj t' u q _ b c' cap hq hm ht' ht with h|⟨h1,h2⟩
       ·exact absurd h hne
       ·rw[h2]at h1;cases h1)
    have hK: ∀o',Keeps w {w with heap:=w.heap.setIfInBounds b o'} pr pr tk tk:=fun o'=>⟨fun b' x hp=>⟨(chg_set h2).block b' (R.prw b' x hp) (fun e=>by subst e;exact R.free hm ht hp),hp⟩,fun _ _ h=>h⟩
    split at h
    ·rename_i i
     obtain⟨p,hp,rfl⟩:=Mz.1 h
     obtain⟨en,p',g1,g2,g3,g4,g5⟩:=h6
     rw[hp]at g2;cases g2
     have hstay:(Instr.keyThatStays en.key kv).run P w= .ok kv w:=by
      rw[←g4]
      simp[Instr.keyThatStays,g5]
     refine⟨_, ?_,fin (.map (ents.modify i fun e=>{e with key:=kv,val:=vv}) es.length) _ ?_⟩
     ·simp[Instr.mapUpdate,run_underlying hu,MapKept.run_getObj_map h2,hchk,g3,g1,hstay,MapKept.run_setObj_map _ h2,Result.andThen]
     ·refine⟨b,cap,ents.modify i fun e=>{e with key:=kv,val:=vv},ht,by rw[(MapKept.heap_set h2).1];simp,by simpa using h3,by simpa using h4,fun j en' p' he hp'=> ?_⟩
      rw[Array.getElem?_modify]at he
      rw[List.getElem?_set]at hp'
      have hi:i<es.length:=(Gz.1 hp).1
      by_cases hij:i=j
      ·subst hij
       simp only[if_true,g1,Pz,Jz]at he
       simp only[if_true,hi,Jz]at hp'
       subst he;subst hp'
       obtain⟨q1,q2,q3⟩:=h5 i en p g1 hp
       exact⟨q1,by rw[g4];exact q2.keeps (hK _),hv.keeps (hK _)⟩
      ·simp only[hij,if_false]at he hp'
       obtain⟨q1,q2,q3⟩:=h5 j en' p' he hp'
       exact⟨q1,q2.keeps (hK _),q3.keeps (hK _)⟩
    ·split at h<;>cases h
     rename_i hlt
     refine⟨_, ?_,fin (.map (ents.push {key:=kv,val:=vv,born:=es.length}) (es.length+1)) _ ?_⟩
     ·have h6:(Instr.findKey kt kv ents.toList).run P w= .ok none w:=h6
      simp[Instr.mapUpdate,run_underlying hu,MapKept.run_getObj_map h2,hchk,h6,MapKept.run_setObj_map _ h2,Result.andThen]
     ·refine⟨b,cap,ents.push {key:=kv,val:=vv,born:=es.length},ht,by rw[(MapKept.heap_set h2).1];simp,by simp[h3],by simp[maxMade,maxLen]at hlt⊢;omega,fun j en' p' he hp'=> ?_⟩
      rw[Array.getElem?_push,h3]at he
      by_cases hj:j=es.length
      ·subst hj
       simp only[if_true,Jz]at he
       rw[Xz (Nat.le_refl _)]at hp'
       simp only[Nat.sub_self,List.getElem?_cons_zero,Jz]at hp'
       subst he;subst hp'
       exact⟨rfl,hkr.keeps (hK _),hv.keeps (hK _)⟩
      ·rw[if_neg hj]at he
       have hjl:j<es.length:=by have:=(Array.getElem?_eq_some_iff.1 he).1;omega
       rw[Yz hjl]at hp'
       obtain⟨q1,q2,q3⟩:=h5 j en' p' he hp'
       exact⟨q1,q2.keeps (hK _),q3.keeps (hK _)⟩
  ·cases h
 ·cases h
end
end
section
def ecallV(Γ:Env)(x k f:Nat)(ds:List D)(J:St):Option St:=
 if(ds.set k .nil).all D.noT=true∧f<1000000 then
  match ds[k]? with
  |some .nil=>(Γ.e k f (ds.set k (.list []))).bind fun r=>match r with
   | .tup [d, .list _]=>if d.noT=true then some (J.set x d)else none
   |_=>none
  |some (.sl t _ off len none)=>match J.m t with
   |some (.row g e es)=>if(off=0∧len=es.length)∧es.all (fun c=>c.all D.noTC)=true then
     (Γ.e k f (ds.set k (.list es))).bind fun r=>match r with
     | .tup [d, .list es']=>if d.noT=true then some (((J.strike g 0).put t (some (.row g e es'))).set x d)else none
     |_=>none
    else none
   |_=>none
  |_=>none
 else none
def acallV(Γ:Env)(x e size f:Nat)(ds:List D)(J:St):Option St:=
 if ds.all D.noT=true∧f<1000000 then(Γ.q (1000000*e+f) ds).bind fun r=>match r.1 with
  | .list es=>if es.all (fun c=>c.length==size)=true then some (J.new x (.row (J.tok x) e es) (.sl (J.tok x) size 0 es.length none))else none
  |_=>none
 else none
section
variable {P : Program} {w0 w : World} {pr : Prot} {A : Area} {n : Nat} {tk : Places} {J : St} {a : Act}
theorem Rel.ecalled(R:Rel P w0 pr A n w a.tmps J tk){B:Base}(U:Under B w0 pr A){x:Nat}(hx:x<n){t g:Tok}{e b cap:Nat}{es es':List (List D)}{C':Array Value}(hm:J.m t=some (.row g e es))(ht:tk t=some (b,cap))
  {w':World} (hc:Chg (fun k=>k=b) w w') {pr':Prot} {v:Value} {d:D} (h1: ∀b o,pr b o→pr' b o) (h2: ∀b o,pr' b o→pr b o∨(w.heap.size≤b∧b<w'.heap.size)) (hv:Rep w' pr' tk v d)
  (hb':w'.heap[b]?=some (.cells C' e (0,0))) (hsz: ∀C,w.heap[b]?=some (.cells C e (0,0))→C'.size=C.size) (hlen:es'.length=es.length) (hrow:RepRow P w' pr' tk C' e es'):
  RelE P B n w' (a.put (some x) v).tmps (((J.strike g 0).put t (some (.row g e es'))).set x d):=by
 have K:Keeps w w' pr pr' tk tk:=⟨fun b' o h=>⟨hc.block b' (R.prw b' o h) (fun e=>by subst e;exact R.free hm ht h),h1 b' o h⟩,fun _ _ h=>h⟩
 have lt: ∀t q b c,J.m t=some q→tk t=some (b,c)→b<w.heap.size:=fun t q b c hm ht=>by
  obtain⟨b1,c1,g1,g2⟩:=(R.mem.obj t q hm).place
  rw[ht]at g1;cases g1;exact g2
 have s1:=R.chg.size
 have s2:=U.chg.size
 have s3:=hc.size
 obtain⟨b0,cap0,C0,k1,k2,k3,k4,k5,k6⟩:=R.mem.obj t _ hm
 rw[ht]at k1;cases k1
 have hm': ∀t' q,(((J.strike g 0).put t (some (.row g e es'))).set x d).m t'=some q→(t'=t∧q= .row g e es')∨(t'≠t∧J.m t'=some q∧ ∀e1 es1,q= .row g e1 es1→es1.length≤0):=fun t' q h=>by
  simp only[St.set_m,St.put]at h
  split at h
  ·cases h;exact .inl ⟨by assumption,rfl⟩
  ·obtain⟨g1,g2⟩:=struck_some (show HO.struck g 0 (J.m t')=some q from h)
   exact .inr ⟨by assumption,g1,g2⟩
 have hin: ∀t' q,(((J.strike g 0).put t (some (.row g e es'))).set x d).m t'=some q→ ∃q',J.m t'=some q'∧q'.grp=q.grp:=fun t' q h=>by
  rcases hm' t' q h with⟨rfl,rfl⟩|⟨_,h,_⟩
  ·exact⟨_,hm,rfl⟩
  ·exact⟨q,h,rfl⟩
 refine⟨w',pr',⟨blocksOf tk (((J.strike g 0).put t (some (.row g e es'))).set x d).m,A.z,A.sv⟩,tk,⟨by simp[Act.put,R.size],Chg.refl _ _,fun b o h=> ?_,fun b o h hb=> ?_,R.glob.keeps K.cell,⟨fun t' q h=> ?_,fun t1 t2 q1 q2 b1 c1 c2 g1 g2 j1 j2=> ?_⟩,
  fun t q b c hm ht=> .inr ⟨t,q,c,hm,ht⟩,R.fresh,R.zero,R.one,fun i hi=> ?_,fun i hi=>by rw[St.set_ne _ _ (show i≠x by omega)];exact(R.sav i hi).keeps K⟩,
  ⟨U.chg.trans (R.chg.trans hc fun k hk e=> ?_) fun b hb h=>U.sub b hb h,fun b hb h=> ?_,U.z,U.sv,fun b o h=>h1 b o (U.sup b o h),fun b o h=> ?_⟩⟩
 ·rcases h2 b o h with h|h
  ·have:=R.prw b o h;omega
  ·exact h.2
 ·obtain⟨t1,q,c,hq,ht1⟩:=hb
  obtain⟨q',hq',_⟩:=hin t1 q hq
  rcases h2 b o h with h|h
  ·exact R.free hq' ht1 h
  ·have:=lt t1 q' b c hq' ht1;omega
 ·rcases hm' t' q h with⟨rfl,rfl⟩|⟨hne,h0,hlen0⟩
  ·exact⟨b,cap,C',ht,hb',by omega,k4,(hsz C0 k2).trans k5,hrow⟩
  ·have hr:=R.mem.obj t' q h0
   obtain⟨b1,c1,g1,g2⟩:=hr.place
   by_cases hbb:b1=b
   ·subst hbb
    rcases R.mem.inj t' t q _ b1 c1 cap h0 hm g1 ht with h|⟨_,h⟩
    ·exact absurd h hne
    ·obtain⟨eq',esq,rfl⟩: ∃eq' esq,q= .row g eq' esq:=by
      cases q<;>simp only[HO.grp,reduceCtorEq,Jz]at h
      subst h;exact⟨_,_,rfl⟩
     have:=List.length_eq_zero_iff.1 (Nat.le_zero.1 (hlen0 eq' esq rfl))
     subst this
     obtain⟨b2,c2,C2,j1,j2,j3,j4,j5,j6⟩:=hr
     rw[g1]at j1;cases j1
     rw[k2]at j2;cases j2
     exact⟨b1,c1,C',g1,hb',j3,j4,(hsz C0 k2).trans j5,fun c hc=>by simp at hc,fun i c hc=>by simp at hc⟩
   ·exact hr.keeps K fun b2 c2 hb2=>by
     rw[g1]at hb2;cases hb2
     exact hc.block b1 g2 hbb
 ·obtain⟨q1',l1,l2⟩:=hin t1 q1 g1
  obtain⟨q2',l3,l4⟩:=hin t2 q2 g2
  have:=R.mem.inj t1 t2 q1' q2' b1 c1 c2 l1 l3 j1 j2
  rwa[l2,l4]at this
 ·simp only[Act.put,getD_put (show x<a.tmps.size by rw[R.size];exact hx),St.set]
  split
  ·exact hv
  ·exact(R.slot i hi).keeps K
 ·subst e
  rcases R.live t _ _ _ hm ht with h|h
  ·omega
  ·exact h
 ·obtain⟨t1,q,c,hq,ht1⟩:=h
  obtain⟨q',hq',_⟩:=hin t1 q hq
  rcases R.live t1 q' b c hq' ht1 with h|h
  ·omega
  ·exact U.sub b hb h
 ·rcases h2 b o h with h|h
  ·exact U.inf b o h
  ·exact .inr (.inl (by omega))
theorem step_ecall{r:Option Nat}{B:Base}{Γ:Env}(hΓ:Sound P Γ){o:Oper}{c:Call}{gs:List VArg}{x k f:Nat}{J':St}{next:Act→World→Prop}{Q:Exit→Act→World→Prop}
  (R:Rel P w0 pr A n w a.tmps J tk) (U:Under B w0 pr A) (ho:o.op= .call c) (hcal:c.callee= .value (.func f)) (hgs:c.args.toList.mapM (dArg n)=some gs) (hx:o.dst=some x) (hxn:x<n) (hk6:k<1000000)
  (hrun:ecallV Γ x k f (gs.map (VArg.val J.s)) J=some J') (h: ∀v w',RelE P B n w' (a.put (some x) v).tmps J'→next (a.put (some x) v) w'):Oper.wpR r P o a w next Q:=by
 have hrep:Reps w pr tk (c.args.map a.eval).toList (gs.map (VArg.val J.s)):=by simpa using args_rep R hgs
 generalize hds:gs.map (VArg.val J.s)=ds at hrun hrep
 generalize hca:c.args.map a.eval=cargs at hrep
 obtain⟨hl,hget⟩:cargs.size=ds.length∧ ∀(i:Nat) (v:Value) (x:D),cargs[i]?=some v→ds[i]?=some x→Rep w pr tk v x:=by
  have key: ∀{l:List Value} {m:List D},Reps w pr tk l m→l.length=m.length∧ ∀(i:Nat) (v:Value) (x:D),l[i]?=some v→m[i]?=some x→Rep w pr tk v x:=by
   intro l
   induction l with
   |nil=>intro m h;cases m with
    |nil=>exact⟨rfl,fun i v x h=>by simp at h⟩
    |cons y m=>exact absurd h (by simp[Reps])
   |cons y l ih=>intro m h;cases m with
    |nil=>exact absurd h (by simp[Reps])
    |cons z m=>
     obtain⟨i1,i2⟩:=ih h.2
     refine⟨by simp[i1],fun i v x hv hx=> ?_⟩
     cases i with
     |zero=>simp at hv hx;subst hv hx;exact h.1
     |succ i=>exact i2 i v x (by simpa using hv) (by simpa using hx)
  obtain⟨q1,q2⟩:=key hrep
  exact⟨by simpa using q1,fun i v x hv hx=>q2 i v x (by simpa using hv) hx⟩
 have fin:(execOp a.eval o).run P w=(callFunc f cargs).run P w:=by
  simp[execOp,ho,resolve,hcal,Act.eval,Deferred.ofValue,invoke,hca]
 unfold ecallV at hrun
 split at hrun
 rotate_left
 ·cases hrun
 rename_i hcond
 obtain⟨hno,hlt⟩:=hcond
 have others: ∀(es:List (List D)) (i:Nat) (v:Value) (x:D),i≠k→cargs[i]?=some v→(ds.set k (.list es))[i]?=some x→Rep w pr noTok v x:=fun es i v x hik hv hx=>by
  rw[List.getElem?_set_ne (Ne.symm hik)]at hx
  refine rep_noT (hget i v x hv hx) (Tz.1 hno x ?_)
  exact Lz (show(ds.set k .nil)[i]?=some x by rw[List.getElem?_set_ne (Ne.symm hik)];exact hx)
 split at hrun
 ·rename_i hk
  obtain⟨q,hq,hrun⟩:=Bz.1 hrun
  obtain⟨es,es',d,e1,e2,hb,e3,hcon⟩:=hΓ.e k f _ _ hlt hk6 hq
  subst e2
  simp only[]at hrun
  split at hrun<;>cases hrun
  have hkl:=(Gz.1 hk).1
  rw[List.getElem?_set_self hkl]at e1
  cases e1
  obtain⟨g1,_⟩:=hcon w pr cargs R.prw R.glob (by simpa using hl) (others [])
  have hck:cargs[k]?=some (.slice none 0 0):=by
   have hlt':k<cargs.size:=by omega
   have hv:=Rz hlt'
   have:=hget k _ _ hv hk
   rw[hv]
   generalize cargs[k]=vk at this
   cases this;rfl
  refine wpR_enter (by rw[ho];rfl) (by rw[fin];exact run_callFunc hb) ((g1 rfl hck).mono ?_)
  rintro e w' ⟨v,pr',rfl,g2,g3,g4,g5⟩
  refine⟨v,rfl, ?_⟩
  rw[hx]
  exact h v w' (R.called U hxn g2 g3 g4 (rep_noT g5 ‹_›))
 ·rename_i t sz off len hk
  split at hrun
  ·rename_i g e es hm
   split at hrun
   ·rename_i hcc
    obtain⟨⟨rfl,rfl⟩,hall⟩:=hcc
    obtain⟨q,hq,hrun⟩:=Bz.1 hrun
    obtain⟨es0,es',d,e1,e2,hb,e3,hcon⟩:=hΓ.e k f _ _ hlt hk6 hq
    subst e2
    simp only[]at hrun
    split at hrun<;>cases hrun
    rename_i hdn
    have hkl:=(Gz.1 hk).1
    rw[List.getElem?_set_self hkl]at e1
    cases e1
    obtain⟨b,cap,C,k1,k2,k3,k4,k5,k6⟩:=R.mem.obj t _ hm
    obtain⟨_,g1⟩:=hcon w pr cargs R.prw R.glob (by simpa using hl) (others es)
    have hck: ∃o,cargs[k]?=some (.slice (some ⟨b,o,none⟩) es.length cap)∧(o=0∨cap=0∧0<0):=by
     have hlt':k<cargs.size:=by omega
     have hv:=Rz hlt'
     have:=hget k _ _ hv hk
     rw[hv]
     generalize cargs[k]=vk at this
     cases this with
     |sl ht hc hl ho=>
      rw[k1]at ht;cases ht
      simp only[Option.getD_none,Nat.sub_zero]at hc
      subst hc
      exact⟨_,rfl,by simpa using ho⟩
    obtain⟨o',hck,ho'⟩:=hck
    have ho':o'=0:=by omega
    subst ho'
    have hrow:RepRow P w pr noTok C e es:=⟨k6.1,fun i c hc j d hd=>let⟨u,u1,u2,u3⟩:=k6.2 i c hc j d hd;⟨u,u1,u2,rep_noTC u3 (Tz.1 (Tz.1 hall c (Lz hc)) d (Lz hd))⟩⟩
    refine wpR_enter (by rw[ho];rfl) (by rw[fin];exact run_callFunc hb) ((g1 b cap e C (fun o h=>R.free hm k1 h) k2 k3 k4 k5 hrow hck).mono ?_)
    rintro ex w' ⟨v,pr',C',rfl,g2,g3,g4,g5,g6,g7,g8⟩
    refine⟨v,rfl, ?_⟩
    rw[hx]
    refine h v w' (R.ecalled U hxn hm k1 g2 g3 g4 (rep_noT g5 hdn) g6 (fun C1 h1=> ?_) e3 ⟨g8.1,fun i c hc j d hd=>let⟨u,u1,u2,u3⟩:=g8.2 i c hc j d hd;⟨u,u1,u2,u3.anyTok⟩⟩)
    rw[k2]at h1;cases h1
    exact g7
   ·cases hrun
  ·cases hrun
 ·cases hrun
theorem step_acall{r:Option Nat}{B:Base}{Γ:Env}(hΓ:Sound P Γ){o:Oper}{c:Call}{gs:List VArg}{x e size f:Nat}{J':St}{next:Act→World→Prop}{Q:Exit→Act→World→Prop}
  (R:Rel P w0 pr A n w a.tmps J tk) (U:Under B w0 pr A) (ho:o.op= .call c) (hcal:c.callee= .value (.func f)) (hgs:c.args.toList.mapM (dArg n)=some gs) (hx:o.dst=some x) (hxn:x<n)
  (hrun:acallV Γ x e size f (gs.map (VArg.val J.s)) J=some J') (h: ∀v w',RelE P B n w' (a.put (some x) v).tmps J'→next (a.put (some x) v) w'):Oper.wpR r P o a w next Q:=by
 have hrep:Reps w pr tk (c.args.map a.eval).toList (gs.map (VArg.val J.s)):=by simpa using args_rep R hgs
 generalize hds:gs.map (VArg.val J.s)=ds at hrun hrep
 generalize hca:c.args.map a.eval=cargs at hrep
 have fin:(execOp a.eval o).run P w=(callFunc f cargs).run P w:=by
  simp[execOp,ho,resolve,hcal,Act.eval,Deferred.ofValue,invoke,hca]
 unfold acallV at hrun
 split at hrun
 rotate_left
 ·cases hrun
 rename_i hcond
 obtain⟨hno,hlt⟩:=hcond
 obtain⟨q,hq,hrun⟩:=Bz.1 hrun
 obtain⟨es,e1,hb,hcon⟩:=hΓ.q e f _ _ hlt hq
 rw[e1]at hrun
 simp only at hrun
 split at hrun<;>cases hrun
 have hno2: ∀{l:List Value} {m:List D},Reps w pr tk l m→m.all D.noT=true→Reps w pr noTok l m:=by
  intro l
  induction l with
  |nil=>intro m h hm;cases m with
   |nil=>exact trivial
   |cons y m=>exact absurd h (by simp[Reps])
  |cons y l ih=>intro m h hm;cases m with
   |nil=>exact absurd h (by simp[Reps])
   |cons z m=>
    simp only[List.all_cons,Az]at hm
    exact⟨rep_noT h.1 hm.1,ih h.2 hm.2⟩
 refine wpR_enter (by rw[ho];rfl) (by rw[fin];exact run_callFunc hb) ((hcon w pr cargs R.prw R.glob (hno2 hrep hno)).mono ?_)
 rintro ex w' ⟨b,cap,C,rfl,g1,g2,g3,g4,g5,g6,g7⟩
 refine⟨_,rfl, ?_⟩
 rw[hx]
 obtain⟨tk',R'⟩:=R.allocAt hxn g1 g2 (cap:=cap) (o:= .row (J.tok x) e es) (d:= .sl (J.tok x) size 0 es.length none) (v:= .slice (some ⟨b,0,none⟩) es.length cap)
  (fun tk' hs he=>⟨b,cap,C,hs,g3,g4,g5,g6,g7.1,fun i c hc j d hd=>let⟨u,u1,u2,u3⟩:=g7.2 i c hc j d hd;⟨u,u1,u2,(u3.keeps (pr':=pr) ⟨fun _ _ h=>h.elim,fun _ _ h=>h⟩).anyTok⟩⟩)
  (fun tk' hs=> .sl hs (by simp) (by omega) (.inl (by simp)))
 exact h _ w' ⟨_,_,_,tk',R',U⟩
end
end
section
def clrV(size:Nat)(zero:List D)(a:D)(J:St):Option St:=
 match a with
 | .list []| .nil| .mt=>some J
 | .sl t size' off len _=>if len=0 then some J else match J.m t with
  |some (.row g e es)=>if(size'=size∧zero.length=size)∧off+len≤es.length∧es.all (fun c=>c.length==size)=true then some ((J.strike g off).put t (some (.row g e (es.take off++List.replicate len zero++es.drop (off+len)))))else none
  |_=>none
 |_=>none
section
variable {P : Program} {w0 w : World} {pr : Prot} {A : Area} {n : Nat} {tk : Places} {J : St} {a : Act}
theorem rel_clr(R:Rel P w0 pr A n w a.tmps J tk){t e ty:Nat}{i:TypeInfo}{z:Value}{zd:List D}{av:Value}{d:D}{J':St}(ht:P.underlying t=some (.slice e))(hi:P.info? e=some i)(hz:i.zero=some z)
  (hzs:z.cells.size=i.size) (hzd:RepCs w pr tk z.cells zd) (ha:Rep w pr tk av d) (h:clrV i.size zd d J=some J'):
  ∃w',(Builtin.clear_ #[t] ty #[av]).run P w= .ok (.tuple #[]) w'∧Rel P w0 pr A n w' a.tmps J' tk:=by
 have hce:P.cellsOf e=i.size:=by simp[Program.cellsOf,hi]
 have none': ∀q:Option Addr,∀c,(Builtin.clear_ #[t] ty #[.slice q 0 c]).run P w= .ok (.tuple #[]) w:=fun q c=>by cases q<;>simp[Builtin.clear_,run_underlying ht]
 unfold clrV at h
 split at h
 ·cases h
  cases ha with
  |nil'=>exact⟨w,none' _ _,R⟩
  |emp=>exact⟨w,none' _ _,R⟩
  |list us _ _ _ _=>exact⟨w,none' _ _,R⟩
 ·cases h;cases ha;exact⟨w,none' _ _,R⟩
 ·cases h;cases ha;exact⟨w,none' _ _,R⟩
 ·rename_i τ size' off len lim
  cases ha with
  |sl htk hc hl ho=>
   rename_i b cap c o
   split at h
   ·rename_i h0
    subst h0
    cases h
    exact⟨w,none' _ _,R⟩
   ·rename_i hlen
    split at h
    ·rename_i g e' es hm
     split at h<;>cases h
     rename_i hcond
     obtain⟨⟨rfl,hzl⟩,hle,hall⟩:=hcond
     obtain⟨b',cap',C,k1,k3,k5,k6,k7,k8,k9⟩:=R.mem.obj τ _ hm
     rw[htk]at k1;cases k1
     have ho:o=off*i.size:=by
      rcases ho with ho|ho
      ·exact ho
      ·omega
     have hsz:P.cellsOf e'=i.size:=by
      have h0:0<es.length:=by omega
      have hm0:es[0]∈es:=List.getElem_mem h0
      rw[←k8 _ hm0]
      simpa using Tz.1 hall _ hm0
     have hV:Builtin.zeroCells z.cells len=madeCells z.cells (len*P.cellsOf e'):=by simp only[Builtin.zeroCells,madeCells,hzs,hsz]
     have hz0:=zero_row (e:=e') (k:=len) (l:=len) hzd (by rw[hsz];exact hzs) (Nat.le_refl _)
     rw[←hV]at hz0
     have hVs:(Builtin.zeroCells z.cells len).size=len*P.cellsOf e':=by rw[hV];simp[madeCells]
     have hend:(off+len)*P.cellsOf e'≤cap*P.cellsOf e':=Nat.mul_le_mul_right _ (by omega)
     rw[Nat.add_mul]at hend
     have hfit:off*P.cellsOf e'+(Builtin.zeroCells z.cells len).size≤C.size:=by omega
     have hone: ∀u∈(Builtin.zeroCells z.cells len).toList,u.oneCell'=true:=fun u hu=>by
      obtain⟨j,hj,rfl⟩:=List.getElem_of_mem hu
      have hj':j<len*P.cellsOf e':=by simpa[hVs]using hj
      have hpos:0<P.cellsOf e':=by
       rcases Nat.eq_zero_or_pos (P.cellsOf e')with h|h
       ·rw[h]at hj';simp at hj'
       ·exact h
      have hlt:j%z.cells.size<z.cells.size:=Nat.mod_lt _ (by omega)
      have:(Builtin.zeroCells z.cells len).toList[j]=z.cells[j%z.cells.size]:=by
       simp only[Builtin.zeroCells,Array.getElem_toList,Array.getElem_map,Array.getElem_range]
       rw[getElem!_pos z.cells _ hlt]
      rw[this]
      exact hzd.2.1 _ _ (Rz hlt)
     have hrun:=run_storeCells_at P b (off*P.cellsOf e') e' (Builtin.zeroCells z.cells len).toList 0 C w k3 (by simpa using hfit) hone
     simp only[Nat.add_zero]at hrun
     refine⟨w.setRow b (putCells C (off*P.cellsOf e') (Builtin.zeroCells z.cells len)), ?_, ?_⟩
     ·obtain⟨m,rfl⟩: ∃m,len=m+1:=⟨len-1,by omega⟩
      have hzv:(zeroValue e).run P w= .ok z w:=by simp[zeroValue,typeInfo,hi,hz]
      rw[hsz]at hrun
      simp[Builtin.clear_,run_underlying ht,hzv,ho,hrun,putCells,hsz]
     ·have hchg:=Chg.setRow w b (putCells C (off*P.cellsOf e') (Builtin.zeroCells z.cells len))
      have K:Keeps w (w.setRow b (putCells C (off*P.cellsOf e') (Builtin.zeroCells z.cells len))) pr pr tk tk:=⟨fun b' x h=>⟨hchg.block b' (R.prw b' x h) (fun e=>by subst e;exact R.free hm htk h),h⟩,fun _ _ h=>h⟩
      have gget:=fun k=>putCells_get (C:=C) (V:=Builtin.zeroCells z.cells len) (off:=off*P.cellsOf e') hfit k
      have keep: ∀(k:Nat) (q:List D),es[k]?=some q→(k<off∨off+len≤k)→ ∀(l:Nat) (d:D),q[l]?=some d→ ∃u,(putCells C (off*P.cellsOf e') (Builtin.zeroCells z.cells len))[k*P.cellsOf e'+l]?=some u∧u.oneCell'=true∧Rep w pr tk u d:=fun k q hq hk l d hd=>by
       have hll:l<P.cellsOf e':=by rw[←k8 q (Lz hq)];exact(Gz.1 hd).1
       rw[gget,if_neg]
       ·exact k9 k q hq l d hd
       ·rintro⟨g1,g2⟩
        rcases hk with hk|hk
        ·have:(k+1)*P.cellsOf e'≤off*P.cellsOf e':=Nat.mul_le_mul_right _ hk
         rw[Nat.add_mul]at this
         omega
        ·have:(off+len)*P.cellsOf e'≤k*P.cellsOf e':=Nat.mul_le_mul_right _ hk
         rw[Nat.add_mul]at this
         omega
      have hrow:RepRow P w pr tk (putCells C (off*P.cellsOf e') (Builtin.zeroCells z.cells len)) e' (es.take off++List.replicate len zd++es.drop (off+len)):=by
       have hl1:(es.take off).length=off:=by simp;omega
       have hl2:(es.take off++List.replicate len zd).length=off+len:=by simp;omega
       refine⟨fun q hq=> ?_,fun k q hq l d hd=> ?_⟩
       ·rcases List.mem_append.1 hq with hq|hq
        ·rcases List.mem_append.1 hq with hq|hq
         ·exact k8 q (List.mem_of_mem_take hq)
         ·exact hz0.1 q hq
        ·exact k8 q (List.mem_of_mem_drop hq)
       ·by_cases hk1:k<off
        ·rw[Yz (by omega),Yz (by omega),List.getElem?_take_of_lt hk1]at hq
         exact keep k q hq (.inl hk1) l d hd
        ·by_cases hk2:k<off+len
         ·rw[Yz (by omega),Xz (by omega),hl1]at hq
          obtain⟨u,u1,u2,u3⟩:=hz0.2 (k-off) q hq l d hd
          have hll:l<P.cellsOf e':=by rw[←hz0.1 q (Lz hq)];exact(Gz.1 hd).1
          have e1:k*P.cellsOf e'=off*P.cellsOf e'+(k-off)*P.cellsOf e':=by rw[←Nat.add_mul];congr 1;omega
          have e2:(k-off+1)*P.cellsOf e'≤len*P.cellsOf e':=Nat.mul_le_mul_right _ (by omega)
          rw[Nat.add_mul]at e2
          refine⟨u, ?_,u2,u3⟩
          rw[gget,if_pos (by omega)]
          rw[←u1];congr 1;omega
         ·rw[Xz (by omega),hl2,List.getElem?_drop,show off+len+(k-(off+len))=k by omega]at hq
          exact keep k q hq (.inr (by omega)) l d hd
      have hln:(es.take off++List.replicate len zd++es.drop (off+len)).length=es.length:=by simp;omega
      refine R.write hm htk hchg (o':= .row g e' (es.take off++List.replicate len zd++es.drop (off+len))) rfl (m':=((J.strike g off).put τ (some (.row g e' (es.take off++List.replicate len zd++es.drop (off+len))))).m) (by simp[St.put]) (fun t' q hne hq=> ?_) ?_ (fun t' q c' hne hq htk' hr=> ?_)
      ·simp only[St.put,hne,if_false,St.strike]at hq
       exact(struck_some hq).1
      ·exact⟨b,cap,_,htk,setRow_heap w b C _ e' _ k3,by rw[hln];exact k5,k6,by rw[putCells_size hfit];exact k7,hrow.keeps K⟩
      ·simp only[St.put,hne,if_false,St.strike]at hq
       obtain⟨hq1,hq2⟩:=struck_some hq
       rcases R.mem.inj t' τ q _ b c' cap hq1 hm htk' htk with h|⟨h1,h2⟩
       ·exact absurd h hne
       ·obtain⟨e2,es2,rfl⟩: ∃e2 es2,q= .row g e2 es2:=by
         cases q<;>simp only[HO.grp,reduceCtorEq,Jz]at h2
         subst h2;exact⟨_,_,rfl⟩
        have hshort:=hq2 e2 es2 rfl
        obtain⟨b2,cap2,C2,j1,j3,j5,j6,j7,j8,j9⟩:=hr
        rw[htk']at j1;cases j1
        rw[k3]at j3;cases j3
        refine⟨b,c',_,htk',setRow_heap w b C _ e' _ k3,j5,j6,by rw[putCells_size hfit];exact j7,RepRow.keeps ⟨j8,fun k q hq l d hd=> ?_⟩ K⟩
        have hkl:=(Gz.1 hq).1
        have hll:l<P.cellsOf e':=by rw[←j8 q (Lz hq)];exact(Gz.1 hd).1
        rw[gget,if_neg]
        ·exact j9 k q hq l d hd
        ·rintro⟨g1,g2⟩
         have:(k+1)*P.cellsOf e'≤off*P.cellsOf e':=Nat.mul_le_mul_right _ (by omega)
         rw[Nat.add_mul]at this
         omega
    ·cases h
 ·cases h
end
end
end Go.Proofs.YtkcfpgaepmllhaaGreatDoor
