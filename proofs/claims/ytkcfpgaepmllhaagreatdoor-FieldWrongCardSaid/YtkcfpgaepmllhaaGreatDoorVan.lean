/- Part of the proof: symbolic execution of the program, its soundness, and the closing lemmas. No condition. -/
import Derived.Test.YtkcfpgaepmllhaaGreatDoorVag
import Derived.Test.YtkcfpgaepmllhaaGreatDoorVah
import Derived.Test.YtkcfpgaepmllhaaGreatDoorVai
import Derived.Test.YtkcfpgaepmllhaaGreatDoorVaj
import Derived.Test.YtkcfpgaepmllhaaGreatDoorVak
import Derived.Test.YtkcfpgaepmllhaaGreatDoorVal
import Derived.Test.YtkcfpgaepmllhaaGreatDoorVam
import Derived.Test.YtkcfpgaepmllhaaGreatDoorVae
import Derived.ProofKit
import Derived.Deep.DeepHandedRow
import Derived.OpenShut
import Derived.FnData
import Derived.Test.YtkcfpgaepmllhaaGreatDoorTie
import Derived.Test.YtkcfpgaepmllhaaGreatDoorCards
import Derived.Handed
import Derived.Shelf.Spec.BitsCarry
import Derived.Shelf.SlSortCmp.WholeK
import Derived.Shelf.SlGeneric
import Derived.Ground.SlsfProg
import Derived.Shelf.SlSortCmp.NoneTotal
import Derived.Test.YtkcfpgaepmllhaaGreatDoorVaf
namespace Go.Proofs.YtkcfpgaepmllhaaGreatDoor
open Go.RowKit
set_option maxRecDepth 100000
section
theorem tr_ok : tr.All cx:=⟨⟨⟨⟨⟨⟨⟨ok9,ok11⟩,⟨ok12,⟨ok13,ok14⟩⟩⟩,⟨⟨ok15,⟨ok16,ok18⟩⟩,⟨ok19,⟨ok20,ok21⟩⟩⟩⟩,⟨⟨⟨ok22,ok23⟩,⟨ok24,⟨ok25,ok39⟩⟩⟩,⟨⟨ok40,⟨ok41,ok42⟩⟩,⟨ok43,⟨ok44,ok45⟩⟩⟩⟩⟩,⟨⟨⟨⟨ok46,ok47⟩,⟨ok48,⟨ok49,ok50⟩⟩⟩,⟨⟨ok51,⟨ok52,ok53⟩⟩,⟨ok54,⟨ok55,ok56⟩⟩⟩⟩,⟨⟨⟨ok57,ok58⟩,⟨ok59,⟨ok60,ok61⟩⟩⟩,⟨⟨ok62,⟨ok63,ok78⟩⟩,⟨ok79,⟨ok80,ok81⟩⟩⟩⟩⟩⟩,⟨⟨⟨⟨⟨ok82,ok83⟩,⟨ok84,⟨ok85,ok86⟩⟩⟩,⟨⟨ok87,⟨ok88,ok89⟩⟩,⟨ok90,⟨ok91,ok92⟩⟩⟩⟩,⟨⟨⟨ok93,ok94⟩,⟨ok95,⟨ok96,ok97⟩⟩⟩,⟨⟨ok98,⟨ok99,ok100⟩⟩,⟨ok101,⟨ok102,ok103⟩⟩⟩⟩⟩,⟨⟨⟨⟨ok104,ok105⟩,⟨ok106,⟨ok107,ok121⟩⟩⟩,⟨⟨ok122,⟨ok123,ok132⟩⟩,⟨ok133,⟨ok134,ok135⟩⟩⟩⟩,⟨⟨⟨ok136,⟨ok137,ok138⟩⟩,⟨ok139,⟨ok148,ok149⟩⟩⟩,⟨⟨ok150,⟨ok151,ok154⟩⟩,⟨ok166,⟨ok167,ok168⟩⟩⟩⟩⟩⟩⟩,⟨⟨⟨⟨⟨⟨ok169,ok170⟩,⟨ok171,⟨ok172,ok178⟩⟩⟩,⟨⟨ok179,⟨ok180,ok181⟩⟩,⟨ok182,⟨ok183,ok184⟩⟩⟩⟩,⟨⟨⟨ok185,ok189⟩,⟨ok190,⟨ok191,ok192⟩⟩⟩,⟨⟨ok193,⟨ok194,ok195⟩⟩,⟨ok196,⟨ok197,ok198⟩⟩⟩⟩⟩,⟨⟨⟨⟨ok209,ok210⟩,⟨ok211,⟨ok212,ok213⟩⟩⟩,⟨⟨ok214,⟨ok215,ok216⟩⟩,⟨ok217,⟨ok218,ok220⟩⟩⟩⟩,⟨⟨⟨ok221,⟨ok222,ok223⟩⟩,⟨ok224,⟨ok225,ok226⟩⟩⟩,⟨⟨ok227,⟨ok228,ok229⟩⟩,⟨ok230,⟨ok231,ok232⟩⟩⟩⟩⟩⟩,⟨⟨⟨⟨⟨ok233,ok234⟩,⟨ok235,⟨ok236,ok237⟩⟩⟩,⟨⟨ok239,⟨ok240,ok241⟩⟩,⟨ok242,⟨ok243,ok244⟩⟩⟩⟩,⟨⟨⟨ok245,ok250⟩,⟨ok251,⟨ok252,ok253⟩⟩⟩,⟨⟨ok254,⟨ok255,ok256⟩⟩,⟨ok257,⟨ok258,ok259⟩⟩⟩⟩⟩,⟨⟨⟨⟨ok260,ok261⟩,⟨ok262,⟨ok263,ok264⟩⟩⟩,⟨⟨ok265,⟨ok270,ok271⟩⟩,⟨ok272,⟨ok273,ok274⟩⟩⟩⟩,⟨⟨⟨ok275,⟨ok276,ok277⟩⟩,⟨ok278,⟨ok279,ok280⟩⟩⟩,⟨⟨ok281,⟨ok282,ok283⟩⟩,⟨ok286,⟨ok287,ok288⟩⟩⟩⟩⟩⟩⟩⟩
end
section
open Go.ChangeShapes Go.WideShapes Go.ChangeAt Go.RowKit
set_option linter.unusedVariables false
def HasTy(P:Program):Nat→TypeId→List D→Prop
 |0,_,_=>False
 |n+1,t,ds=>match P.underlying t with
  |some .bool=> ∃b,ds= [bv b]
  |some (.int k)=> ∃z,ds= [.v (.int k z)]∧(Lit.int k z).wf=true
  |some .string=> ∃s:ByteArray,ds= [.v (.string s)]∧s.size≤maxLen
  |some (.slice e)=> ∃es,ds= [.list es]∧es.length≤maxLen∧ ∀c∈es,HasTy P n e c
  |some (.struct fs)=>ds.length=P.cellsOf t∧ ∀f∈fs.toList,HasTy P n f.type ((ds.drop f.offset).take (P.cellsOf f.type))
  |some (.array m e)=>ds.length=P.cellsOf t∧ ∀i,i<m→HasTy P n e ((ds.drop (i*P.cellsOf e)).take (P.cellsOf e))
  |_=>False
def okTy(P:Program):Nat→TypeId→Bool
 |0,_=>false
 |n+1,t=>match P.underlying t with
  |some .bool|some (.int _)|some .string=>true
  |some (.slice e)=>decide (0<P.cellsOf e)&&okTy P n e
  |some (.struct fs)=>fs.toList.all fun f=>okTy P n f.type
  |some (.array _ e)=>okTy P n e
  |_=>false
def RepL(w:World)(cs:List Value)(ds:List D):Prop:=cs.length=ds.length∧ ∀(j:Nat) (c:Value) (d:D),cs[j]?=some c→ds[j]?=some d→c.oneCell'=true∧Rep w (allPr w) noTok c d
theorem RepL.nil{w:World}:RepL w [] []:=⟨rfl,fun j c d h=>by simp at h⟩
theorem RepL.one{w:World}{c:Value}{d:D}(h1:c.oneCell'=true)(h2:Rep w (allPr w) noTok c d):RepL w [c] [d]:=
 ⟨rfl,fun j c' d' hc hd=>by
  cases j with
  |zero=>simp only[List.getElem?_cons_zero,Jz]at hc hd;subst hc;subst hd;exact⟨h1,h2⟩
  |succ j=>simp at hc⟩
theorem RepL.append{w:World}{a b:List Value}{x y:List D}(h:RepL w a x)(k:RepL w b y):RepL w (a++b) (x++y):=by
 refine⟨by simp[h.1,k.1],fun j c d hc hd=> ?_⟩
 by_cases hj:j<a.length
 ·rw[Yz hj]at hc
  rw[Yz (by rw[←h.1];exact hj)]at hd
  exact h.2 j c d hc hd
 ·rw[Xz (by omega)]at hc
  rw[Xz (by rw[←h.1];omega),←h.1]at hd
  exact k.2 _ c d hc hd
theorem sum_le (cell : Nat → Nat) : ∀ m k, k ≤ m → ((List.range k).map cell).sum ≤ ((List.range m).map cell).sum
  | 0, k, hk => by have : k = 0 := by omega
                   subst this; exact Nat.le_refl _
  | m + 1, k, hk => by
    by_cases h : k ≤ m
    · have := sum_le cell m k h
      simp only [List.range_succ, List.map_append, List.sum_append, List.map_cons, List.map_nil, List.sum_cons, List.sum_nil]
      omega
    · have : k = m + 1 := by omega
      subst this; exact Nat.le_refl _
theorem sum_take{α:Type}(g:α→Nat)(x0:α): ∀(l:List α) (j:Nat),j≤l.length→((l.take j).map g).sum=((List.range j).map fun i=>g (l.getD i x0)).sum
 |l,0,_=>by simp
 |l,j+1,h=>by
  rw[List.take_succ_eq_append_getElem (by omega),List.map_append,List.sum_append,sum_take g x0 l j (by omega),List.range_succ,List.map_append,List.sum_append]
  simp[List.getD,show j<l.length by omega]
theorem sum_const(c:Nat): ∀m,((List.range m).map fun _=>c).sum=m*c
 |0=>by simp
 |m+1=>by simp[List.range_succ,sum_const c m,Nat.succ_mul]
theorem parts_rep{w:World}(Q:Nat→List D→Prop)(cell off:Nat→Nat)(cs:List Value): ∀(m:Nat),(∀i,i<m→off i=((List.range i).map cell).sum)→((List.range m).map cell).sum≤cs.length→
  (∀i,i<m→ ∃ds,Q i ds∧RepL w ((cs.drop (off i)).take (cell i)) ds)→
  ∃ds,RepL w (cs.take ((List.range m).map cell).sum) ds∧ ∀i,i<m→Q i ((ds.drop (off i)).take (cell i))
 |0,_,_,_=>⟨[],by simpa using RepL.nil,fun i hi=>by omega⟩
 |m+1,hoff,hlen,h=>by
  have hs:((List.range (m+1)).map cell).sum=((List.range m).map cell).sum+cell m:=by simp[List.range_succ]
  rw[hs]at hlen⊢
  obtain⟨ds,h1,h2⟩:=parts_rep Q cell off cs m (fun i hi=>hoff i (by omega)) (by omega) fun i hi=>h i (by omega)
  obtain⟨dl,h3,h4⟩:=h m (by omega)
  have ho:=hoff m (by omega)
  have hdl:=h1.1
  have hl4:=h4.1
  simp only[List.length_take,List.length_drop]at hdl hl4
  refine⟨ds++dl, ?_,fun i hi=> ?_⟩
  ·have e:cs.take (((List.range m).map cell).sum+cell m)=cs.take ((List.range m).map cell).sum++(cs.drop (off m)).take (cell m):=by
    rw[List.take_add,←ho]
   rw[e]
   exact h1.append h4
  ·by_cases hm:i<m
   ·have h5:=h2 i hm
    have h6:=sum_le cell m (i+1) (by omega)
    have e2:((List.range (i+1)).map cell).sum=((List.range i).map cell).sum+cell i:=by simp[List.range_succ]
    have h7:=hoff i (by omega)
    rwa[List.drop_append_of_le_length (by omega),List.take_append_of_le_length (by simp;omega)]
   ·obtain rfl:i=m:=by omega
    have e1:off i=ds.length:=by omega
    rw[e1,List.drop_left,List.take_of_length_le (by omega)]
    exact h3
theorem list_choice{α:Type}(R:Nat→α→Prop): ∀n,(∀i,i<n→ ∃x,R i x)→ ∃l:List α,l.length=n∧ ∀i x,l[i]?=some x→R i x
 |0,_=>⟨[],rfl,fun i x h=>by simp at h⟩
 |n+1,h=>by
  obtain⟨l,h1,h2⟩:=list_choice R n fun i hi=>h i (by omega)
  obtain⟨x,hx⟩:=h n (by omega)
  refine⟨l++ [x],by simp[h1],fun i y hy=> ?_⟩
  by_cases hi:i<l.length
  ·rw[Yz hi]at hy;exact h2 i y hy
  ·rw[Xz (by omega)]at hy
   have hi':i-l.length=0:=by
    have:=(Gz.1 hy).1
    simp at this;omega
   rw[hi']at hy
   simp only[List.getElem?_cons_zero,Jz]at hy
   subst hy
   have:i=n:=by omega
   subst this;exact hx
section
variable {H : Type} {enc : TypeId × Value → H} {P : Program} {w : World} {held : Bool}
theorem trod_rep(hl:laidOutB P=true): ∀(n:Nat) (t:TypeId) (fuel:Nat) (cs:List Value) (x:DataW H×List MemPlace),t<P.types.size→okTy P n t=true→
  DataW.trod enc P w 0 (fun _=>true) held fuel t cs=some x→ ∃ds,HasTy P n t ds∧RepL w cs ds:=by
 intro n
 induction n with
 |zero=>intro t fuel cs x _ hk;simp[okTy]at hk
 |succ n ih=>
  intro t fuel cs x ht hk h
  simp only[okTy]at hk
  cases hu:P.underlying t with
  |none=>rw[hu]at hk;cases hk
  |some ty=>
   rw[hu]at hk
   cases ty<;>simp only[]at hk<;>try (cases hk;done)
   case bool=>
    obtain⟨b,rfl,_⟩:=DataW.trod_bool hu h
    exact⟨[bv b],by simp[HasTy,hu],RepL.one rfl (.v rfl)⟩
   case int k=>
    obtain⟨z,rfl,_,hz⟩:=DataW.trod_int hu h
    exact⟨[.v (.int k z)],by simp[HasTy,hu,hz],RepL.one rfl (.v rfl)⟩
   case string=>
    obtain⟨s,rfl,_,hz⟩:=DataW.trod_string hu h
    exact⟨[.v (.string s)],by simp[HasTy,hu,hz],RepL.one rfl (.v rfl)⟩
   case slice e=>
    simp only[Az,decide_eq_true_eq]at hk
    obtain⟨hpos,hk⟩:=hk
    have he:=kid_slice hl ht hu
    rcases DataW.trod_slice hu h with⟨rfl,rfl⟩|⟨a,len,cap,elems,rest,m,rfl,rfl,rfl,_,hlc,hcm,hlen,hel,_,_⟩
    ·exact⟨[.list []],by simp[HasTy,hu],RepL.one rfl .nil'⟩
    ·obtain⟨ll,hll,hR⟩:=list_choice (fun i (q:List Value×List D)=>w.cells? 0 (a.add (i*P.cellsOf e)) (P.cellsOf e)=some q.1∧HasTy P n e q.2∧RepL w q.1 q.2) len fun i hi=>by
      have h1:=hel i hi
      rw[Ez (by omega),Bz]at h1
      obtain⟨c,hc,h1⟩:=h1
      obtain⟨ds,h2,h3⟩:=ih e m c _ he hk h1
      exact⟨(c,ds),hc,h2,h3⟩
     have hes:(ll.map (·.2)).length=len:=by simpa using hll
     refine⟨[.list (ll.map (·.2))], ?_,RepL.one rfl ?_⟩
     ·simp only[HasTy,hu]
      refine⟨_,rfl,by omega,fun c hc=> ?_⟩
      obtain⟨q,hq,rfl⟩:=List.mem_map.1 hc
      obtain⟨i,hi⟩:=List.mem_iff_getElem?.1 hq
      exact(hR i q hi).2.1
     ·by_cases h0:len=0
      ·subst h0
       have:ll= []:=List.eq_nil_of_length_eq_zero hll
       subst this
       exact .emp
      ·have cell: ∀(i:Nat) (q:List Value×List D),ll[i]?=some q→ ∀k,k<P.cellsOf e→w.cell? ((a.add (i*P.cellsOf e)).add k)=q.1[k]?∧q.1.length=P.cellsOf e:=fun i q hq k hk'=>
        let⟨_,h2,h3⟩:=World.cells?_some (hR i q hq).1
        ⟨h3 k hk',h2⟩
       have hspot:a.spot=none:=by
        have hq:=Ez (show 0<ll.length by omega)
        obtain⟨h2,h3⟩:=cell 0 _ hq 0 hpos
        rw[Ez (by omega)]at h2
        have:=World.cell?_spot h2
        simpa[Addr.add]using this
       obtain⟨b,off,sp⟩:=a
       simp only at hspot
       subst hspot
       have key: ∀(i:Nat) (q:List Value×List D),ll[i]?=some q→ ∀k,k<P.cellsOf e→ ∃c,q.1[k]?=some c∧w.cell? ⟨b,off+(i*P.cellsOf e+k),none⟩=some c:=fun i q hq k hk'=>by
        obtain⟨h2,h3⟩:=cell i q hq k hk'
        rw[add_off,add_off,Ez (by omega)]at h2
        exact⟨_,Ez (by omega),by rw[←Nat.add_assoc];exact h2⟩
       have:=Rep.list (w:=w) (pr:=allPr w) (tk:=noTok) (b:=b) (off:=off) (cap:=cap) (size:=P.cellsOf e) (es:=ll.map (·.2)) (fun j=>(w.cell? ⟨b,off+j,none⟩).getD undef) (fun c hc=>by
         obtain⟨q,hq,rfl⟩:=List.mem_map.1 hc
         obtain⟨i,hi⟩:=List.mem_iff_getElem?.1 hq
         rw[←(hR i q hi).2.2.1]
         exact(cell i q hi 0 hpos).2) (by omega) (fun j hj=>by
         have hi:j/P.cellsOf e<ll.length:=by
          rw[List.length_map]at hj
          exact Nat.div_lt_of_lt_mul (by rw[Nat.mul_comm];exact hj)
         have hk':=Nat.mod_lt j hpos
         have hq:=Ez hi
         obtain⟨c,h1,h2⟩:=key _ _ hq _ hk'
         have ej:j/P.cellsOf e*P.cellsOf e+j%P.cellsOf e=j:=Nat.div_add_mod' j _
         rw[ej]at h2
         refine⟨by rw[h2];rfl,World.block_lt_of_cell? w _ h2, ?_⟩
         rw[h2]
         have hrl:=(hR _ _ hq).2.2
         exact(hrl.2 _ c _ h1 (Ez (by rw[←hrl.1];exact(Gz.1 h1).1))).1) (fun i c hc j d hd=>by
         rw[Dz,Mz]at hc
         obtain⟨q,hq,rfl⟩:=hc
         have hrl:=(hR i q hq).2.2
         have hj:j<P.cellsOf e:=by
          have:=(Gz.1 hd).1
          rw[←hrl.1,(cell i q hq 0 hpos).2]at this
          exact this
         obtain⟨c,h1,h2⟩:=key i q hq j hj
         simp only[h2,Option.getD_some]
         exact(hrl.2 j c d h1 hd).2)
       rw[hes]at this
       exact this
   case struct fs=>
    obtain⟨k1,k2,k3⟩:=kid_struct hl ht hu
    obtain⟨xs,m,rfl,rfl,hlen,hxs,hx⟩:=DataW.trod_struct hu h
    rw[Tz]at hk
    have hdef: ∀i,i<fs.toList.length→fs.toList[i]?=some (fs.toList.getD i default):=fun i hi=>by
     have hi':i<fs.size:=by simpa using hi
     simp[List.getD,hi']
    have hsum:=sum_take (fun f:Field=>P.cellsOf f.type) default fs.toList fs.toList.length (Nat.le_refl _)
    rw[List.take_length]at hsum
    rw[hsum]at k2
    obtain⟨ds,h1,h2⟩:=parts_rep (w:=w) (fun i ds=>HasTy P n (fs.toList.getD i default).type ds) (fun i=>P.cellsOf (fs.toList.getD i default).type) (fun i=>(fs.toList.getD i default).offset) cs fs.toList.length
     (fun i hi=>by rw[k3 i _ (hdef i hi),sum_take _ default _ i (by omega)]) (by omega) fun i hi=>by
      have hf:=hdef i hi
      have hf':fs[i]?=some (fs.toList.getD i default):=by rw[←hf];simp
      have h3:=hx i _ hf'
      rw[Ez (by rw[hxs];simpa using hi)]at h3
      have hm:=Lz hf
      exact ih _ m _ _ (k1 _ hm) (hk _ hm) h3
    rw[List.take_of_length_le (by omega)]at h1
    refine⟨ds, ?_,h1⟩
    simp only[HasTy,hu]
    refine⟨by rw[←h1.1,hlen],fun f hf=> ?_⟩
    obtain⟨i,hi,rfl⟩:=List.getElem_of_mem hf
    have hi':i<fs.size:=by simpa using hi
    have:=h2 i hi
    simpa[List.getD,hi']using this
   case array m e=>
    obtain⟨k1,k2⟩:=kid_array hl ht hu
    obtain⟨xs,q,rfl,rfl,hlen,hxs,hx⟩:=DataW.trod_array hu h
    obtain⟨ds,h1,h2⟩:=parts_rep (w:=w) (fun i ds=>HasTy P n e ds) (fun i=>P.cellsOf e) (fun i=>i*P.cellsOf e) cs m
     (fun i hi=>(sum_const _ i).symm) (by rw[sum_const];omega) fun i hi=>by
      have h3:=hx i hi
      rw[Ez (by omega)]at h3
      exact ih _ q _ _ k1 hk h3
    rw[sum_const,List.take_of_length_le (by omega)]at h1
    refine⟨ds, ?_,h1⟩
    simp only[HasTy,hu]
    exact⟨by rw[←h1.1,hlen],h2⟩
def ArgTy(P:Program)(n:Nat)(t:TypeId)(d:D):Prop:=match P.underlying t with
 |some (.struct _)|some (.array _ _)=> ∃ds,d= .agg ds∧HasTy P n t ds
 |_=>HasTy P n t [d]
def ArgsTy(P:Program)(n:Nat):List TypeId→List D→Prop
 | [],[]=>True
 |t::ts,d::ds=>ArgTy P n t d∧ArgsTy P n ts ds
 |_,_=>False
theorem trod_arg(hl:laidOutB P=true){n:Nat}{t:TypeId}{v:Value}{d:DataW H}{p:List MemPlace}{base:Nat}(ht:t<P.types.size)(hk:okTy P n t=true)(hv:Value.okWide P w .any base t v)
  (h:DataW.Trod enc P w 0 (fun _=>true) held t v d p): ∃d',ArgTy P n t d'∧Rep w (allPr w) noTok v d':=by
 obtain⟨fuel,h⟩:=h
 obtain⟨ds,h1,h2⟩:=trod_rep hl n t fuel _ _ ht hk h
 have plain:(∀cs,v≠ .agg cs)→ArgTy P n t (ds.getD 0 .undef)=HasTy P n t [ds.getD 0 .undef]→ ∃d',ArgTy P n t d'∧Rep w (allPr w) noTok v d':=fun hne e=>by
  have hc:v.cells.toList= [v]:=by
   cases v<;>first|rfl|exact absurd rfl (hne _)
  rw[hc]at h2
  have hl1:=h2.1
  match ds,hl1 with
  | [d0],_=>exact⟨d0,by simp only[List.getD_cons_zero]at e;rw[e];exact h1,(h2.2 0 v d0 rfl rfl).2⟩
 have agg: ∀cs,v= .agg cs→ArgTy P n t (.agg ds)=(∃ds',D.agg ds= .agg ds'∧HasTy P n t ds')→ ∃d',ArgTy P n t d'∧Rep w (allPr w) noTok v d':=fun cs e e2=>by
  subst e
  refine⟨.agg ds,by rw[e2];exact⟨ds,rfl,h1⟩, .agg (by simpa[Value.cells]using h2.1) (fun i c hc=> ?_) fun i c x hc hx=>(h2.2 i c x (by simpa[Value.cells]using hc) hx).2⟩
  have hi:i<ds.length:=by
   have:=(Array.getElem?_eq_some_iff.1 hc).1
   have:=h2.1
   simp[Value.cells]at this
   omega
  exact(h2.2 i c _ (by simpa[Value.cells]using hc) (Ez hi)).1
 cases hu:P.underlying t with
 |none=>cases n<;>simp[okTy,hu]at hk
 |some ty=>
  cases ty
  case struct fs=>
   simp only[Value.okWide,hu]at hv
   obtain⟨cs,rfl,_⟩:=hv
   exact agg cs rfl (by simp only[ArgTy,hu])
  case array m e=>
   simp only[Value.okWide,hu]at hv
   obtain⟨cs,rfl,_⟩:=hv
   exact agg cs rfl (by simp only[ArgTy,hu])
  all_goals
   refine plain (fun cs e=> ?_) (by simp only[ArgTy,hu])
   subst e
   simp[Value.okWide,hu,Cell.okWide,Cell.ok]at hv
theorem trod_args(hl:laidOutB P=true){n:Nat}{base:Nat}: ∀{ts:List TypeId} {vs:List Value} {ds:List (DataW H)} {p:List MemPlace},(∀t∈ts,t<P.types.size∧okTy P n t=true)→
  (∀(j:Nat) t v,ts[j]?=some t→vs[j]?=some v→Value.okWide P w .any base t v)→DataW.TrodAll enc P w 0 (fun _=>true) held ts vs ds p→ ∃Ds,ArgsTy P n ts Ds∧Reps w (allPr w) noTok vs Ds
 | [],vs,ds,p,_,_,h=>by
  obtain⟨rfl,rfl,rfl⟩:=trodAll_nil h
  exact⟨[],trivial,trivial⟩
 |t::ts,vs,ds,p,hk,hv,h=>by
  obtain⟨v,vs1,d,ds1,a,b,rfl,rfl,rfl,h1,h2⟩:=trodAll_cons h
  obtain⟨d',e1,e2⟩:=trod_arg hl (hk t List.mem_cons_self).1 (hk t List.mem_cons_self).2 (hv 0 t v rfl rfl) h1
  obtain⟨Ds,e3,e4⟩:=trod_args hl (fun t' ht'=>hk t' (Cz _ ht')) (fun j t' v' ht' hv'=>hv (j+1) t' v' ht' hv') h2
  exact⟨d'::Ds,⟨e1,e3⟩,⟨e2,e4⟩⟩
theorem trod_again(hl:laidOutB P=true){W W':World}(hb:Below W.heap.size W W'){sp:Nat→Bool}: ∀{ts:List TypeId} {vs:List Value} {ds:List (DataW H)} {p:List MemPlace},(∀t∈ts,t<P.types.size∧P.readableRec t=true)→
  (∀x∈p,x.block<W.heap.size∧sp x.block=true)→DataW.TrodAll enc P W 0 (fun _=>true) true ts vs ds p→DataW.TrodAll enc P W' 0 sp true ts vs ds p
 | [],vs,ds,p,_,_,h=>by
  obtain⟨rfl,rfl,rfl⟩:=trodAll_nil h
  exact trodAll_mk0
 |t::ts,vs,ds,p,hk,hp,h=>by
  obtain⟨v,vs1,d,ds1,a,b,rfl,rfl,rfl,h1,h2⟩:=trodAll_cons h
  refine trodAll_cons_mk (WideElems.Trod_stays hl (hk t List.mem_cons_self).2 (hk t List.mem_cons_self).1 h1 (fun x hx=>hb.same (hp x (List.mem_append_left _ hx)).1) fun x hx=>(hp x (List.mem_append_left _ hx)).2) ?_
  exact trod_again hl hb (fun t' ht'=>hk t' (Cz _ ht')) (fun x hx=>hp x (List.mem_append_right _ hx)) h2
theorem trodAll_len{W:World}{sp:Nat→Bool}: ∀{ts:List TypeId} {vs:List Value} {ds:List (DataW H)} {p:List MemPlace},DataW.TrodAll enc P W 0 sp held ts vs ds p→ds.length=ts.length
 | [],vs,ds,p,h=>by
  obtain⟨rfl,rfl,rfl⟩:=trodAll_nil h
  rfl
 |t::ts,vs,ds,p,h=>by
  obtain⟨v,vs1,d,ds1,a,b,rfl,rfl,rfl,h1,h2⟩:=trodAll_cons h
  simp[trodAll_len h2]
theorem VCp.body{f:Nat}{ds:List D}{d:D}(h:VCp P f ds d)(hb:HasBody P f)(w0:World)(pr0:Prot)(c0:Array Value)(hr:Reps w0 pr0 noTok c0.toList ds):HasBody P f∧ ∀(w:World) (pr:Prot) (cargs:Array Value),(∀b o,pr b o→b<w.heap.size)→GOK w pr→Reps w pr noTok cargs.toList ds→
  Calls P f cargs w fun e w'=> ∃v pr',e= .returned v∧Chg (fun _=>False) w w'∧(∀b o,pr b o→pr' b o)∧(∀b o,pr' b o→pr b o∨(w.heap.size≤b∧b<w'.heap.size))∧Rep w' pr' noTok v d:=by
 rcases h with h|h
 ·obtain⟨v,h1,_⟩:=h w0 pr0 c0 hr
  rw[run_callFunc hb]at h1
  cases h1
 ·exact h
theorem law_contract(hl:laidOutB P=true){f:FuncId}{fn:Func}{s:ChangeSpec}{n tb:Nat}(hvars:s.vars= [])(hspec: ∀ds:List (DataW H),ds.length=fn.params.size→s.fn H ds={results:= [.lit (.bool true)],args:=ds})
  (hres:fn.resultTypes= #[tb]) (hb:P.underlying tb=some .bool) (hts: ∀t∈fn.params.toList,t<P.types.size∧okTy P n t=true∧P.readableRec t=true)
  (hc: ∀Ds,ArgsTy P n fn.params.toList Ds→VCp P f Ds (bv true))
  (W:World) (base:Nat) (args:Array Value) (ds gs:List (DataW H)) (before:List MemPlace)
  (hval: ∀(j:Nat) t v,fn.params[j]?=some t→args[j]?=some v→Value.okWide P W .any base t v) (hG:GOK W (allPr W)) (hbody:HasBody P f)
  (hW:DataW.Whole enc P fn.params.toList s.vars false W args.toList ds gs before):
  Calls P f args W fun e W'=> ∃v,e= .returned v∧s.post enc P fn false true false false W args v W':=by
 have hlt: ∀p∈before,p.block<W.heap.size:=fun p hp=>hW.lt p hp
 have hW':=hW
 obtain⟨p,q,hA,hV,rfl,hfz,hnd⟩:=hW
 rw[hvars]at hV
 obtain⟨rfl,rfl⟩:=trodVars_none hV
 rw[List.append_nil]at hlt hW' hfz hnd
 obtain⟨Ds,h1,h2⟩:=trod_args (held:=true) hl (n:=n) (base:=base) (fun t ht=>⟨(hts t ht).1,(hts t ht).2.1⟩) (fun j t v ht hv=>hval j t v (by simpa using ht) (by simpa using hv)) hA
 obtain⟨_,hcon⟩:=(hc Ds h1).body hbody W _ args h2
 refine(hcon W (allPr W) args (fun b o h=>h) hG h2).mono ?_
 rintro e W' ⟨v,pr',rfl,hch,_,_,hr⟩
 obtain⟨rfl,_⟩:=rep_v.1 hr
 refine⟨_,rfl, ?_⟩
 have hbel:Below W.heap.size W W':=⟨hch.os,hch.tape,hch.output,hch.size,fun k hk=>hch.block k hk (fun h=>h)⟩
 have hlen:ds.length=fn.params.size:=by have:=trodAll_len hA;simpa using this
 have hsp:=hspec ds hlen
 have hA': ∀sp:Nat→Bool,(∀x∈p,sp x.block=true)→DataW.TrodAll enc P W' 0 sp true fn.params.toList args.toList ds p:=fun sp hs=>
  trod_again hl hbel (fun t ht=>⟨(hts t ht).1,(hts t ht).2.2⟩) (fun x hx=>⟨hlt x hx,hs x hx⟩) hA
 have hR: ∀(b:Nat) (sp:Nat→Bool) (hd:Bool),DataW.TrodAll enc P W' b sp hd fn.resultTypes.toList ((Value.bool true).resultList fn.resultTypes.size) [.lit (.bool true)] []:=fun b sp hd=>by
  rw[hres]
  exact trodAll_mk1 (shut_bool hb true)
 have hap:ds++([]:List (DataW H))=ds:=List.append_nil ds
 refine⟨ds,[],p,[],p,[],hW', ?_, ?_, ?_,hbel.frame _,fun _=> ?_⟩
 ·rw[hap,hsp];exact hR _ _ _
 ·rw[hap,hsp];exact hA' _ fun x hx=>by simpa using hlt x hx
 ·rw[hvars,hap,hsp];exact rfl
 ·refine⟨ok_one hres rfl (okWide_bool_mk hb true),[.lit (.bool true)]++ds,[],([]++p)++ [],⟨[]++p,[],trodAll_append (hA' _ fun _ _=>rfl) (hR _ _ _),by rw[hvars];exact rfl,rfl, ?_, ?_⟩, ?_⟩
  ·intro b off hp
   have hm:MemPlace.cell b off∈p:=by simpa using hp
   rw[hbel.frozen (p:=⟨b,off,none⟩) (hlt _ hm)]
   exact hfz b off hm
  ·intro ha;cases ha
  ·intro x hx _
   simpa using hx
end
end
section
open Go.ChangeShapes Go.WideShapes Go.ChangeAt Go.RowKit
def litsN{H:Type}:Nat→DataW H→Option (List Value)
 |0,_=>none
 |_+1, .lit (.int k z)=>some [.int k z]
 |n+1, .agg xs=>(xs.mapM (litsN n)).map List.flatten
 |_+1,_=>none
def intsTy(P:Program):Nat→TypeId→Bool
 |0,_=>false
 |n+1,t=>match P.underlying t with
  |some (.int _)=>true
  |some (.array _ e)=>intsTy P n e
  |_=>false
theorem chunks{α:Type}(c:Nat): ∀(ls:List (List α)) (cs:List α),cs.length=ls.length*c→(∀i l,ls[i]?=some l→(cs.drop (i*c)).take c=l)→cs=ls.flatten
 | [],cs,hl,_=>by simpa using hl
 |l::r,cs,hl,h=>by
  have h0:=h 0 l rfl
  simp only[Nat.zero_mul,List.drop_zero]at h0
  have hr:=chunks c r (cs.drop c) (by simp only[List.length_cons,Nat.add_mul,Nat.one_mul]at hl;simp[hl]) fun i l hi=>by
   have:=h (i+1) l (by simpa using hi)
   rwa[Nat.add_mul,Nat.one_mul,Nat.add_comm,←List.drop_drop]at this
  rw[List.flatten_cons,←hr,←h0,List.take_append_drop]
section
variable {H : Type} {enc : TypeId × Value → H} {P : Program} {w : World} {base : Nat} {sp : Nat → Bool} {held : Bool}
theorem trod_lits(hl:laidOutB P=true): ∀(n:Nat) (t:TypeId) (fuel:Nat) (cs:List Value) (d:DataW H) (p:List MemPlace) (vs:List Value),t<P.types.size→intsTy P n t=true→DataW.trod enc P w base sp held fuel t cs=some (d,p)→litsN n d=some vs→cs=vs:=by
 intro n
 induction n with
 |zero=>intro t fuel cs d p vs _ hk;cases hk
 |succ n ih=>
  intro t fuel cs d p vs ht hk h hv
  simp only[intsTy]at hk
  split at hk
  ·rename_i k hu
   obtain⟨z,rfl,e,_⟩:=DataW.trod_int hu h
   cases e
   simp only[litsN,Jz]at hv
   exact hv
  ·rename_i m e hu
   obtain⟨k1,k2⟩:=kid_array hl ht hu
   obtain⟨xs,q,rfl,e,hlen,hxs,hx⟩:=DataW.trod_array hu h
   cases e
   simp only[litsN]at hv
   obtain⟨ls,h1,rfl⟩:=Mz.1 hv
   obtain⟨l1,l2⟩:=mapM_get h1
   simp only[List.length_map]at l1
   refine chunks (P.cellsOf e) ls cs (by rw[hlen,k2,l1,hxs]) fun i l hi=> ?_
   have hil:=(Gz.1 hi).1
   have h3:=hx i (by omega)
   have hxi:=Ez (show i<xs.length by omega)
   rw[hxi]at h3
   obtain⟨a,ha,hla⟩:=l2 i l hi
   rw[Dz,hxi]at ha
   cases ha
   exact ih e q _ _ _ _ k1 hk h3 hla
  ·cases hk
theorem laid_mem: ∀{l:List (String×DataW Unit)} {ps:List MemPlace},DataW.LaidVars P w l ps→ ∀{n:String} {d:DataW Unit},(n,d)∈l→
  ∃g t cs fuel p,P.globalNamed n=some g∧(P.globals[g]?).map (·.type)=some t∧w.var? P n=some cs∧DataW.trod (fun _=>()) P w 0 (fun _=>true) false fuel t cs.toList=some (d,p)
 | [],ps,h,n,d,hm=>by cases hm
 |(n',d')::r,ps,h,n,d,hm=>by
  obtain⟨g,t,cs,fuel,p,q,h1,h2,h3,h4,h5,_⟩:=h
  rcases List.mem_cons.1 hm with e|hm
  ·cases e
   exact⟨g,t,cs,fuel,p,h1,h2,h3,h4⟩
  ·exact laid_mem h5 hm
theorem gok_of_laid(hl:laidOutB P=true){laid:List (String×DataW Unit)}(h:laidMet P laid w)
  (hc: ∀g xs,globT g=some xs→ ∃n d vs t,(n,d)∈laid∧P.globalNamed n=some g∧(P.globals[g]?).map (·.type)=some t∧t<P.types.size∧intsTy P 3 t=true∧litsN 3 d=some vs∧xs=vs.map D.v∧vs.all plainV=true):GOK w (allPr w):=by
 obtain⟨ps,hv,_,_⟩:=h
 intro g xs hg
 obtain⟨n,d,vs,t,hm,h1,h2,h3,h4,h5,rfl,h6⟩:=hc g xs hg
 obtain⟨g',t',cs,fuel,p,k1,k2,k3,k4⟩:=laid_mem hv hm
 rw[h1]at k1;cases k1
 rw[h2]at k2;cases k2
 have e:=trod_lits hl 3 t fuel _ _ _ _ h3 h4 k4 h5
 have cell: ∀i v,vs[i]?=some v→w.cell? ⟨g,0+i,none⟩=some v:=fun i v hi=>by
  rw[Nat.zero_add,World.var?_cell h1 k3 i,←Array.getElem?_toList,e];exact hi
 refine .lptr (fun j=>vs.getD j undef) (fun j hj=> ?_) fun j d hd=> ?_
 ·have hj':j<vs.length:=by simpa using hj
  have hv':=Ez hj'
  have:=cell j _ hv'
  simp only[List.getD,hv',Option.getD_some]
  exact⟨this,World.block_lt_of_cell? w _ this,plainV_oneCell (Tz.1 h6 _ (List.getElem_mem hj'))⟩
 ·rw[Dz,Mz]at hd
  obtain⟨v,hv',rfl⟩:=hd
  simp only[List.getD,hv',Option.getD_some]
  exact .v (Tz.1 h6 v (Lz hv'))
end
end
section
open Go.ChangeShapes Go.WideShapes Go.ChangeAt Go.RowKit
theorem laidOut:laidOutB Tryz.prog=true:=by kernel_rfl
theorem ownK:ownKnob Tryz.prog.godebug=none:=by kernel_rfl
theorem mixedP:Tryz.prog.follows .mixedOrders=true:=by kernel_rfl
def laidL:List (String×DataW Unit):=Rows.fieldSmallRow.laid
theorem gok_seat{W:World}(h:laidMet Tryz.prog laidL W):GOK W (allPr W):=by
 refine gok_of_laid laidOut h fun g xs hg=> ?_
 unfold globT at hg
 split at hg<;>cases hg
 ·exact⟨_,Rows.laid_finesse_match_gets,[.int .i64 0, .int .i64 1, .int .i64 2],103,show _∈Rows.fieldSmallRow.laid from .head _,by kernel_rfl,by kernel_rfl,of_decide_eq_true (by kernel_rfl),by kernel_rfl,rfl,rfl,rfl⟩
 ·exact⟨_,Rows.laid_finesse_score_value,[.int .i64 20, .int .i64 20, .int .i64 30, .int .i64 30, .int .i64 30],378,show _∈Rows.fieldSmallRow.laid from .tail _ (.head _),by kernel_rfl,by kernel_rfl,of_decide_eq_true (by kernel_rfl),by kernel_rfl,rfl,rfl,rfl⟩
 ·exact⟨_,Rows.laid_finesse_score_factor,[.int .i64 1, .int .i64 2, .int .i64 4],103,show _∈Rows.fieldSmallRow.laid from .tail _ (.tail _ (.head _)),by kernel_rfl,by kernel_rfl,of_decide_eq_true (by kernel_rfl),by kernel_rfl,rfl,rfl,rfl⟩
 ·exact⟨_,Rows.laid_finesse_score_more,[.int .i64 0, .int .i64 0, .int .i64 100, .int .i64 200, .int .i64 200, .int .i64 400],379,show _∈Rows.fieldSmallRow.laid from .tail _ (.tail _ (.tail _ (.tail _ (.head _)))),by kernel_rfl,by kernel_rfl,of_decide_eq_true (by kernel_rfl),by kernel_rfl,rfl,rfl,rfl⟩
 ·exact⟨_,Rows.laid_finesse_score_insult,[.int .i64 0, .int .i64 50, .int .i64 100],103,show _∈Rows.fieldSmallRow.laid from .tail _ (.tail _ (.tail _ (.head _))),by kernel_rfl,by kernel_rfl,of_decide_eq_true (by kernel_rfl),by kernel_rfl,rfl,rfl,rfl⟩
noncomputable def laidWorld(os:Os):World:=
 let w0:=World.holding Tryz.prog os ⟨#[],#[],[]⟩
 let put:=fun(h:Array Obj) (g:Nat) (l:List Int)=>h.modify g fun
  | .cells _ t frozen=> .cells (l.map fun z=>Value.int .i64 z).toArray t frozen
  |o=>o
 {w0 with heap:=put (put (put (put (put w0.heap 2 [0,1,2]) 3 [20,20,30,30,30]) 4 [1,2,4]) 5 [0,0,100,200,200,400]) 6 [0,50,100]}
theorem laidWorld_met(os:Os)(args:Array Value):laidMet Tryz.prog laidL ((laidWorld os).forCall (fun _ _=>0) ⟨#[],args,[]⟩).memory:=
 laidMet_of_run' 8 (by kernel_rfl) (by kernel_rfl)
end
section
abbrev two64:Int:=18446744073709551616
def add64V:List D→Option D
 | [.v (.int .u64 x), .v (.int .u64 y), .v (.int .u64 c)]=>if 0≤x∧0≤y∧0≤c∧c≤1 then some (.tup [.v (.int .u64 ((x+y+c)%two64)), .v (.int .u64 ((x+y+c)/two64))])else none
 |_=>none
def sub64V:List D→Option D
 | [.v (.int .u64 x), .v (.int .u64 y), .v (.int .u64 c)]=>if(0≤x∧0≤y∧y<two64)∧0≤c∧c≤1 then some (.tup [.v (.int .u64 ((x+two64-y-c)%two64)), .v (.int .u64 (if x<y+c then 1 else 0))])else none
 |_=>none
def bitsH:FP:=fun f ds=>if f=152 then add64V ds else if f=153 then sub64V ds else none
theorem rep3{w:World}{pr:Prot}{tk:Places}{cargs:Array Value}{x y c:Value}(h:Reps w pr tk cargs.toList [.v x, .v y, .v c]):cargs= #[x,y,c]:=by
 obtain⟨l⟩:=cargs
 match l,h with
 | [a,b,d],⟨h1,h2,h3,_⟩=>
  obtain⟨rfl,_⟩:=rep_v.1 h1
  obtain⟨rfl,_⟩:=rep_v.1 h2
  obtain⟨rfl,_⟩:=rep_v.1 h3
  rfl
theorem rep_pair{w:World}{pr:Prot}{tk:Places}(k q:IntKind)(a b:Int):Rep w pr tk (.tuple #[.int k a, .int q b]) (.tup [.v (.int k a), .v (.int q b)]):=
 .tup rfl fun i c x hc hx=>by
  match i with
  |0=>simp at hc hx;subst hc hx;exact .v rfl
  |1=>simp at hc hx;subst hc hx;exact .v rfl
  |i+2=>simp at hx
theorem bits_sound:Sound Tryz.prog (env0 bitsH) where
 p f ds d _ h:=by
  replace h:(if f=152 then add64V ds else if f=153 then sub64V ds else none)=some d:=h
  split at h
  ·rename_i hf
   subst hf
   unfold add64V at h
   split at h
   ·rename_i x y c
    split at h<;>cases h
    rename_i hc
    refine VCp.toR (.inl fun w pr cargs hr=> ?_) rfl
    rw[rep3 hr]
    refine⟨_, ?_,rep_pair _ _ _ _⟩
    rw[run_callFunc_extern (fn:=Tryz.f152) Tryz.func152 (by kernel_rfl) (by kernel_rfl) (by kernel_rfl) (e:=add64Entry) (by kernel_rfl),run_add64 x y c hc.1 hc.2.1 hc.2.2.1 hc.2.2.2]
    rfl
   ·cases h
  split at h
  ·rename_i hf
   subst hf
   unfold sub64V at h
   split at h
   ·rename_i x y c
    split at h<;>cases h
    rename_i hc
    obtain⟨⟨h1,h2,h3⟩,h4,h5⟩:=hc
    refine VCp.toR (.inl fun w pr cargs hr=> ?_) rfl
    rw[rep3 hr]
    refine⟨_, ?_,rep_pair _ _ _ _⟩
    obtain⟨X,rfl⟩:=Int.eq_ofNat_of_zero_le h1
    obtain⟨Y,rfl⟩:=Int.eq_ofNat_of_zero_le h2
    obtain⟨b,rfl⟩:=Int.eq_ofNat_of_zero_le h4
    rw[run_callFunc_extern (fn:=Tryz.f153) Tryz.func153 (by kernel_rfl) (by kernel_rfl) (by kernel_rfl) (e:=sub64Entry) (by kernel_rfl),run_sub64 X Y b (by omega)]
    simp only[Result.andThen]
    have e1:(((X+18446744073709551616-Y-b)%18446744073709551616:Nat):Int)=((X:Int)+two64-Y-b)%two64:=by unfold two64 at h3⊢;omega
    have e2:((if X<Y+b then 1 else 0:Nat):Int)=if(X:Int)<Y+b then 1 else 0:=by
     split<;>split<;>first|rfl|omega
    rw[e1,e2]
   ·cases h
  ·cases h
 e k f ds r hf _ h:=by
  have h:(if 1000000+(1000000*k+f)=152 then add64V ds else if 1000000+(1000000*k+f)=153 then sub64V ds else none)=some r:=h
  rw[if_neg (by omega),if_neg (by omega)]at h
  cases h
 q e f ds r hf h:=by
  obtain⟨d,hd,rfl⟩:=Mz.1 (show(bitsH (1000001000000+(1000000*e+f)) ds).map _=some r from h)
  have hd:(if 1000001000000+(1000000*e+f)=152 then add64V ds else if 1000001000000+(1000000*e+f)=153 then sub64V ds else none)=some d:=hd
  rw[if_neg (by omega),if_neg (by omega)]at hd
  cases hd
end
end Go.Proofs.YtkcfpgaepmllhaaGreatDoor
namespace Go.Proofs
open Go.Shelf
def Tryz.sortKey_ren:Go.Shelf.Ren:=⟨fun|6=>57|15=>81|14=>94|28=>132|29=>133|20=>140|21=>141|22=>142|23=>143|24=>144|25=>145|26=>146|27=>147|46=>186|47=>174|48=>175|49=>187|50=>188|57=>238|n=>n,fun|22=>62|24=>68|25=>135|3=>3|39=>170|0=>0|53=>228|55=>198|4=>4|46=>222|45=>221|50=>182|5=>5|9=>9|66=>265|70=>269|76=>332|77=>307|n=>n,fun|n=>n⟩
theorem Tryz.sortKey:Go.Proofs.SlLaysF0.n6 Tryz.prog Tryz.sortKey_ren:={
 mixed:=by kernel_rfl
 f6:=⟨Tryz.f57.name,by decide,Tryz.func57.trans (congrArg some (by kernel_rfl))⟩
 f14:=⟨Tryz.f94.name,by decide,Tryz.func94.trans (congrArg some (by kernel_rfl))⟩
 f15:=Tryz.func81.trans (congrArg some (by kernel_rfl))
 f20:=⟨Tryz.f140.name,by decide,Tryz.func140.trans (congrArg some (by kernel_rfl))⟩
 f21:=⟨Tryz.f141.name,by decide,Tryz.func141.trans (congrArg some (by kernel_rfl))⟩
 f22:=⟨Tryz.f142.name,by decide,Tryz.func142.trans (congrArg some (by kernel_rfl))⟩
 f23:=⟨Tryz.f143.name,by decide,Tryz.func143.trans (congrArg some (by kernel_rfl))⟩
 f24:=⟨Tryz.f144.name,by decide,Tryz.func144.trans (congrArg some (by kernel_rfl))⟩
 f25:=⟨Tryz.f145.name,by decide,Tryz.func145.trans (congrArg some (by kernel_rfl))⟩
 f26:=⟨Tryz.f146.name,by decide,Tryz.func146.trans (congrArg some (by kernel_rfl))⟩
 f27:=⟨Tryz.f147.name,by decide,Tryz.func147.trans (congrArg some (by kernel_rfl))⟩
 f28:=Tryz.func132.trans (congrArg some (by kernel_rfl))
 f29:=Tryz.func133.trans (congrArg some (by kernel_rfl))
 f46:=⟨Tryz.f186.name,by decide,Tryz.func186.trans (congrArg some (by kernel_rfl))⟩
 f47:=Tryz.func174.trans (congrArg some (by kernel_rfl))
 f48:=Tryz.func175.trans (congrArg some (by kernel_rfl))
 f49:=⟨Tryz.f187.name,by decide,Tryz.func187.trans (congrArg some (by kernel_rfl))⟩
 f50:=⟨Tryz.f188.name,by decide,Tryz.func188.trans (congrArg some (by kernel_rfl))⟩
 f57:=⟨Tryz.f238.name,by decide,Tryz.func238.trans (congrArg some (by kernel_rfl))⟩
 t0:=Tryz.underlying0
 a0:=Tryz.isAgg0
 z0:=Tryz.sizeOf0
 v0:=Tryz.zeroValue0
 t3:=Tryz.underlying3
 a3:=Tryz.isAgg3
 z3:=Tryz.sizeOf3
 v3:=Tryz.zeroValue3
 t4:=Tryz.underlying4
 a4:=Tryz.isAgg4
 z4:=Tryz.sizeOf4
 v4:=Tryz.zeroValue4
 t5:=Tryz.underlying5
 a5:=Tryz.isAgg5
 z5:=Tryz.sizeOf5
 v5:=Tryz.zeroValue5
 t9:=Tryz.underlying9
 a9:=Tryz.isAgg9
 z9:=Tryz.sizeOf9
 v9:=Tryz.zeroValue9
 t22:=Tryz.underlying62
 a22:=Tryz.isAgg62
 z22:=Tryz.sizeOf62
 v22:=Tryz.zeroValue62
 t25:=Tryz.underlying135
 a25:=Tryz.isAgg135
 z25:=Tryz.sizeOf135
 v25:=Tryz.zeroValue135
 t39:=Tryz.underlying170
 a39:=Tryz.isAgg170
 z39:=Tryz.sizeOf170
 v39:=Tryz.zeroValue170
 t45:=Tryz.underlying221
 a45:=Tryz.isAgg221
 z45:=Tryz.sizeOf221
 v45:=Tryz.zeroValue221
 t46:=Tryz.underlying222
 a46:=Tryz.isAgg222
 z46:=Tryz.sizeOf222
 v46:=Tryz.zeroValue222
 t50:=Tryz.underlying182
 a50:=Tryz.isAgg182
 z50:=Tryz.sizeOf182
 v50:=Tryz.zeroValue182
 t53:=Tryz.underlying228
 a53:=Tryz.isAgg228
 z53:=Tryz.sizeOf228
 v53:=Tryz.zeroValue228
 t55:=Tryz.underlying198
 a55:=Tryz.isAgg198
 z55:=Tryz.sizeOf198
 v55:=Tryz.zeroValue198
 t66:=Tryz.underlying265
 a66:=Tryz.isAgg265
 z66:=Tryz.sizeOf265
 v66:=Tryz.zeroValue265
 t70:=Tryz.underlying269
 a70:=Tryz.isAgg269
 z70:=Tryz.sizeOf269
 v70:=Tryz.zeroValue269
 t76:=Tryz.underlying332
 a76:=Tryz.isAgg332
 z76:=Tryz.sizeOf332
 v76:=Tryz.zeroValue332
 t77:=Tryz.underlying307
 a77:=Tryz.isAgg307
 z77:=Tryz.sizeOf307
 v77:=Tryz.zeroValue307}
end Go.Proofs
namespace Go.Proofs.YtkcfpgaepmllhaaGreatDoor
open Go.RowKit
set_option maxRecDepth 100000
section
open Go.RowKit Go.Lib Go.Sort
theorem chg_grow{w w':World}(h:Chg (fun _=>False) w w'): ∃q os',w'=grow (w.drewN q) os':=by
 refine⟨w'.drawn-w.drawn,w'.heap.extract w.heap.size w'.heap.size, ?_⟩
 have hh:w'.heap=w.heap++w'.heap.extract w.heap.size w'.heap.size:=by
  apply Array.ext_getElem?
  intro i
  by_cases hi:i<w.heap.size
  ·rw[Array.getElem?_append_left hi];exact h.block i hi id
  ·rw[Array.getElem?_append_right (by omega)]
   have hs:=h.size
   by_cases hj:i<w'.heap.size
   ·rw[Rz hj,Rz (by simp;omega)]
    simp only[Array.getElem_extract]
    congr 2;omega
   ·rw[Array.getElem?_eq_none (by omega),Array.getElem?_eq_none (by simp;omega)]
 have hd:=h.drawn
 have h1:=h.os
 have h2:=h.tape
 have h3:=h.output
 obtain⟨heap,tape,drawn,os,output⟩:=w
 obtain⟨heap',tape',drawn',os',output'⟩:=w'
 simp only[grow,World.drewN]at*
 subst h1 h2 h3
 rw[←hh]
 congr 1;omega
end
section
open Go.RowKit Go.Lib Go.Sort Go.Shelf
def valOf:D→Value
 | .v x=>x
 |_=>undef
def plainD:D→Bool
 | .v x=>plainV x
 |_=>false
theorem rep_plainD{w:World}{pr:Prot}{tk:Places}{u:Value}{d:D}(h:Rep w pr tk u d)(hd:plainD d=true):u=valOf d:=by
 cases d<;>simp only[plainD]at hd<;>try (cases hd;done)
 exact(rep_v.1 h).1
theorem plainD_rep{w:World}{pr:Prot}{tk:Places}{d:D}(hd:plainD d=true):Rep w pr tk (valOf d) d:=by
 cases d<;>simp only[plainD]at hd<;>try (cases hd;done)
 exact .v hd
structure CmpD(P:Program)(g k:Nat)(good:List D→Bool)(cf:List D→List D→Int):Prop where
 len: ∀x,good x=true→x.length=k
 pl: ∀x,good x=true→ ∀d∈x,plainD d=true
 ok: ∀x y,good x=true→good y=true→VCp P g [.agg x, .agg y] (.v (.int .i64 (cf x y)))
 body:HasBody P g
 lt:g<1000000
 irrefl: ∀x,good x=true→ ¬cf x x<0
 trans: ∀x y z,good x=true→good y=true→good z=true→cf x y<0→cf y z<0→cf x z<0
 ntrans: ∀x y z,good x=true→good y=true→good z=true→ ¬cf x y<0→ ¬cf y z<0→ ¬cf x z<0
 anti: ∀x y,good x=true→good y=true→ ¬cf x y<0→ ¬cf y x<0→x=y
theorem VCp.calls{P:Program}{f:Nat}{ds:List D}{d:D}(h:VCp P f ds d)(hb:HasBody P f){w:World}{pr:Prot}{cargs:Array Value}(hpr: ∀b o,pr b o→b<w.heap.size)(hG:GOK w pr)(hr:Reps w pr noTok cargs.toList ds):
  Calls P f cargs w fun e w'=> ∃v pr',e= .returned v∧Chg (fun _=>False) w w'∧(∀b o,pr b o→pr' b o)∧(∀b o,pr' b o→pr b o∨(w.heap.size≤b∧b<w'.heap.size))∧Rep w' pr' noTok v d:=by
 rcases h with h|⟨_,h⟩
 ·obtain⟨v,h1,_⟩:=h w pr cargs hr
  rw[run_callFunc hb]at h1
  cases h1
 ·exact h w pr cargs hpr hG hr
def insS{α:Type}(lt:α→α→Bool)(x:α):List α→List α
 | []=> [x]
 |y::r=>bif lt x y then x::y::r else y::insS lt x r
def sortS{α:Type}(lt:α→α→Bool):List α→List α
 | []=> []
 |x::r=>insS lt x (sortS lt r)
theorem insS_perm{α:Type}(lt:α→α→Bool)(x:α): ∀(l:List α),(insS lt x l).Perm (x::l)
 | []=> .refl _
 |y::r=>by
  simp only[insS]
  cases lt x y
  ·exact((insS_perm lt x r).cons y).trans (.swap x y r)
  ·exact .refl _
theorem sortS_perm{α:Type}(lt:α→α→Bool): ∀(l:List α),(sortS lt l).Perm l
 | []=> .refl _
 |x::r=>(insS_perm lt x _).trans ((sortS_perm lt r).cons x)
theorem insS_sorted{α:Type}{lt:α→α→Bool}(h:SWO lt)(x:α): ∀{l:List α},l.Pairwise (fun a b=>lt b a=false)→(insS lt x l).Pairwise (fun a b=>lt b a=false)
 | [],_=>by simp[insS]
 |y::r,hp=>by
  obtain⟨h1,h2⟩:=List.pairwise_cons.1 hp
  simp only[insS]
  cases hl:lt x y
  ·refine List.pairwise_cons.2 ⟨fun z hz=> ?_,insS_sorted h x h2⟩
   rcases List.mem_cons.1 ((insS_perm lt x r).mem_iff.1 hz)with rfl|hz
   ·exact hl
   ·exact h1 z hz
  ·refine List.pairwise_cons.2 ⟨fun z hz=> ?_,hp⟩
   rcases List.mem_cons.1 hz with rfl|hz
   ·cases hq:lt z x
    ·rfl
    ·have:=h.trans _ _ _ hl hq;rw[h.irrefl]at this;cases this
   ·cases hq:lt z x
    ·rfl
    ·have:=h.trans _ _ _ hq hl;rw[h1 z hz]at this;cases this
theorem sortS_sorted{α:Type}{lt:α→α→Bool}(h:SWO lt): ∀(l:List α),(sortS lt l).Pairwise (fun a b=>lt b a=false)
 | []=> .nil
 |x::r=>insS_sorted h x (sortS_sorted h r)
theorem insS_map{α β:Type}{lt:α→α→Bool}{lt':β→β→Bool}{f:α→β}(h: ∀x y,lt' (f x) (f y)=lt x y)(x:α): ∀(l:List α),(insS lt x l).map f=insS lt' (f x) (l.map f)
 | []=>rfl
 |y::r=>by
  simp only[insS,List.map_cons,h]
  cases lt x y
  ·simp[insS_map h x r]
  ·simp
theorem sortS_map{α β:Type}{lt:α→α→Bool}{lt':β→β→Bool}{f:α→β}(h: ∀x y,lt' (f x) (f y)=lt x y): ∀(l:List α),(sortS lt l).map f=sortS lt' (l.map f)
 | []=>rfl
 |x::r=>by simp only[sortS,List.map_cons,insS_map h,sortS_map h r]
theorem pdq_sortS{α:Type} [Inhabited α]{lt:α→α→Bool}(h:SWO lt)(ha: ∀x y,lt x y=false→lt y x=false→x=y)(l:List α):(pdq lt l.toArray 0 l.toArray.size (Lib.bitLen l.toArray.size) true true).toList=sortS lt l:=by
 obtain⟨h1,h2⟩:=pdq_sorts lt h l.toArray 0 l.toArray.size (Lib.bitLen l.toArray.size) true true (Nat.zero_le _) (Nat.le_refl _) (Or.inl rfl)
 rw[sorted_unique_holds h ha _ _ h1 h2]
 have hp:=sortS_perm lt l
 have hl:=hp.length_eq
 refine(sorted_unique_holds h ha l.toArray (sortS lt l).toArray ⟨by simpa using hl,fun i hi=> ?_,by simpa[hl,List.take_of_length_le (Nat.le_of_eq hl)]using hp⟩ ?_).symm
 ·have hi:l.length≤i:=by rcases hi with h|h;omega;simpa using h
  rw[getElem!_neg _ _ (by simp;omega),getElem!_neg _ _ (by simp;omega)]
 ·intro i j _ hij hj
  have hj:j<l.length:=by simpa using hj
  have hs:=List.pairwise_iff_getElem.1 (sortS_sorted h l) i j (by omega) (by omega) hij
  rw[getElem!_pos _ _ (by simp;omega),getElem!_pos _ _ (by simp;omega)]
  simpa using hs
section
variable {P : Program} {g k : Nat} {good : List D → Bool} {cf : List D → List D → Int}
def ltD(cf:List D→List D→Int)(x y:List D):Bool:=decide (cf x y<0)
abbrev Good(good:List D→Bool):={x:List D//good x=true}
def encD(x:Good good):List Value:=x.1.map valOf
theorem CmpD.swo(K:CmpD P g k good cf):SWO (ltOf fun x y:Good good=>cf x.1 y.1):=
 ⟨fun x=>decide_eq_false (K.irrefl x.1 x.2),fun x y z h1 h2=>decide_eq_true (K.trans x.1 y.1 z.1 x.2 y.2 z.2 (of_decide_eq_true h1) (of_decide_eq_true h2)),
  fun x y z h1 h2=>decide_eq_false (K.ntrans x.1 y.1 z.1 x.2 y.2 z.2 (of_decide_eq_false h1) (of_decide_eq_false h2))⟩
theorem CmpD.antiG(K:CmpD P g k good cf)(x y:Good good)(h1:ltOf (fun x y:Good good=>cf x.1 y.1) x y=false)(h2:ltOf (fun x y:Good good=>cf x.1 y.1) y x=false):x=y:=
 Subtype.ext (K.anti x.1 y.1 x.2 y.2 (of_decide_eq_false h1) (of_decide_eq_false h2))
theorem CmpD.sort (K : CmpD P g k good cf) {ρ : Shelf.Ren} (L : SlLaysF0.n6 P ρ) (aE : ∀ w, (isAgg (ρ.t 24)).run P w = .ok true w) (zE : ∀ w, (Go.sizeOf (ρ.t 24)).run P w = .ok k w) (hb : HasBody P (ρ.f 6))
     {x0 : List D} (hx0 : good x0 = true) {es : List (List D)} (hes : ∀ x ∈ es, good x = true) (hlen : es.length < 4611686018427387904) (hnil : es = [] → VCp P (ρ.f 6) [.list [], .clo g []] (.tup [])) :
    VEp P 0 (ρ.f 6) [.list es, .clo g []] es (sortS (ltD cf) es) (.tup []) := by
  refine ⟨hb, (sortS_perm _ es).length_eq, fun w pr cargs hpr hG hcs hoth => ?_⟩
  have hc1 : cargs[1]? = some (.func (.func g) #[] #[]) := by
    have h1 : (1 : Nat) < cargs.size := by rw [hcs]; simp
    have h := hoth 1 _ _ (by decide) (Rz h1) rfl
    rw [Rz h1]
    generalize cargs[1] = v at h
    have hlt := K.lt
    cases h with
    | clo hf hs hr => have := Array.eq_empty_of_size_eq_zero hs; subst this; rfl
    | bclo hs hr => omega
  have two : ∀ v, cargs[0]? = some v → cargs = #[v, .func (.func g) #[] #[]] := fun v hv => by
    obtain ⟨l⟩ := cargs
    match l, hcs, hv, hc1 with
    | [a, b], _, hv, hc1 => simp at hv hc1; subst hv hc1; rfl
  refine ⟨fun he hk => ?_, fun b cap t C hnb hheap hle hcap hCs hrow hk => ?_⟩
  · subst he
    rw [two _ hk]
    exact (hnil rfl).calls hb hpr hG ⟨.nil', .clo K.lt rfl fun i c x h => by simp at h, trivial⟩
  rw [two _ hk]
  letI : Inhabited (Good good) := ⟨⟨x0, hx0⟩⟩
  obtain ⟨l, rfl⟩ : ∃ l : List (Good good), es = l.map (·.1) := ⟨es.pmap Subtype.mk hes, by simp [List.map_pmap]⟩
  have hbs : b < w.heap.size := (Array.getElem?_eq_some_iff.1 hheap).1
  have hkt : l ≠ [] → k = P.cellsOf t := fun hne => by
    cases l with
    | nil => exact absurd rfl hne
    | cons x r => rw [← hrow.1 x.1 (by simp)]; exact (K.len x.1 x.2).symm
  have encl : ∀ x : Good good, (encD x).length = k := fun x => by simp [encD, K.len x.1 x.2]
  have cellE : ∀ (d : Array (Good good)) (j : Nat), j < d.size * k → (flatK encD k d)[j]! = valOf ((d[j / k]!).1[j % k]!) := fun d j hj => by
    have hk0 : 0 < k := by rcases Nat.eq_zero_or_pos k with h | h; subst h; simp at hj; exact h
    have hm : j % k < k := Nat.mod_lt _ hk0
    have hl := K.len _ (d[j / k]!).2
    rw [get_flatK _ _ _ _ hj]
    have e1 : (encD (d[j / k]!))[j % k]! = (encD (d[j / k]!))[j % k]'(by rw [encl]; exact hm) := getElem!_pos _ _ _
    have e2 : (d[j / k]!).1[j % k]! = (d[j / k]!).1[j % k]'(by rw [hl]; exact hm) := getElem!_pos _ _ _
    rw [e1, e2]
    simp [encD]
  have hH : HoldsK encD k w b 0 l.toArray := fun j hj => by
    simp only [size_flatK, List.size_toArray] at hj
    have hk0 : 0 < k := by rcases Nat.eq_zero_or_pos k with h | h; subst h; simp at hj; exact h
    have hm : j % k < k := Nat.mod_lt _ hk0
    have hd : j / k < l.length := Nat.div_lt_of_lt_mul (by rw [Nat.mul_comm]; exact hj)
    have hne : l ≠ [] := by rintro rfl; simp at hd
    have hx := K.len _ (l[j / k]).2
    obtain ⟨u, h1, h2, h3⟩ := hrow.2 (j / k) (l[j / k]).1 (by simp [hd]) (j % k) _ (Ez (by rw [hx]; exact hm))
    rw [← hkt hne, Nat.mul_comm, Nat.div_add_mod] at h1
    have hu := rep_plainD h3 (K.pl _ (l[j / k]).2 _ (List.getElem_mem _))
    refine ⟨?_, ?_⟩
    · rw [cellE _ _ (by simpa using hj), getElem!_pos l.toArray (j / k) (by simpa using hd)]
      simp only [List.getElem_toArray]
      rw [getElem!_pos _ _ (by rw [hx]; exact hm), ← hu, Nat.zero_add, cell_of_row w b _ C t (0, 0) hheap]
      exact h1
    · simp [World.frozen?, hheap]
  have hcmp : CmpLays P g #[] encD k (fun x y : Good good => cf x.1 y.1) b 0 l.toArray.size w := fun m os dk hdk x y => by
    have hrep : ∀ x : Good good, Rep (sortWorldK encD k w b 0 m dk os) pr noTok (.agg (encD x).toArray) (.agg x.1) := fun x => .agg (by simp [encD]) (fun i c hc => by
        simp only [encD, List.getElem?_toArray, Dz, Mz] at hc
        obtain ⟨d, hd, rfl⟩ := hc
        have := K.pl _ x.2 d (Lz hd)
        cases d <;> simp only [plainD] at this <;> try (cases this; done)
        exact plainV_oneCell this) (fun i c d hc hd => by
        simp only [encD, List.getElem?_toArray, Dz, hd, Pz, Jz] at hc
        subst hc
        exact plainD_rep (K.pl _ x.2 d (Lz hd)))
    have hblk : ∀ b' o, pr b' o → (sortWorldK encD k w b 0 m dk os).heap[b']? = w.heap[b']? := fun b' o h => by
      have hlt := hpr b' o h
      unfold sortWorldK
      rw [heap_grow_old _ _ (by simpa [putRowK, ahead] using hlt)]
      have : b ≠ b' := fun e => hnb o (e ▸ h)
      simp [putRowK, putRow, mapBlock, Array.getElem?_modify, this]
    have hsize : w.heap.size ≤ (sortWorldK encD k w b 0 m dk os).heap.size := by simp [sortWorldK, putRowK]
    refine ((K.ok x.1 y.1 x.2 y.2).calls K.body (cargs := #[.agg (encD x).toArray, .agg (encD y).toArray]) (pr := pr) (fun b' o h => Nat.lt_of_lt_of_le (hpr b' o h) hsize) (hG.keeps fun b' o h => ⟨hblk b' o h, h⟩) ⟨hrep x, hrep y, trivial⟩).mono ?_
    rintro e w' ⟨v, pr', rfl, hchg, _, _, hv⟩
    obtain ⟨rfl, _⟩ := rep_v.1 hv
    exact ⟨rfl, chg_grow hchg⟩
  have law := AnyQ.slices_SortFunc_eq (P := P) (ρ := ρ) L k aE zE encD encl (fun x v hv => by
    obtain ⟨d, hd, rfl⟩ := List.mem_map.1 hv
    have := K.pl _ x.2 d hd
    cases d <;> simp only [plainD] at this <;> try (cases this; done)
    exact plainV_oneCell this) (fun x y : Good good => cf x.1 y.1) K.swo g #[] b 0 cap l.toArray w (fun args w => run_callFunc K.body) hcmp hH hbs (by simpa using hlen)
  have hp := pdq_sortS K.swo K.antiG l
  have hd2 : (pdq (ltOf fun x y : Good good => cf x.1 y.1) l.toArray 0 l.toArray.size (Lib.bitLen l.toArray.size) true true) = (sortS (ltOf fun x y : Good good => cf x.1 y.1) l).toArray := by rw [← hp]
  rw [hd2] at law
  clear hd2 hp
  have hsl := (sortS_perm (ltOf fun x y : Good good => cf x.1 y.1) l).length_eq
  have hmap : (sortS (ltOf fun x y : Good good => cf x.1 y.1) l).map (·.1) = sortS (ltD cf) (l.map (·.1)) := sortS_map (lt := ltOf fun x y : Good good => cf x.1 y.1) (lt' := ltD cf) (f := fun x => x.1) (fun x y => rfl) l
  generalize sortS (ltOf fun x y : Good good => cf x.1 y.1) l = l' at law hsl hmap
  rw [← hmap]
  simp only [List.size_toArray] at law
  simp only [List.length_map]
  refine law.mono ?_
  rintro e w' ⟨rfl, n, os, rfl⟩
  have hheap' : (sortWorldK encD k w b 0 n l'.toArray os).heap[b]? = some (.cells (Sort.putCells id 0 (flatK encD k l'.toArray) C) t (0, 0)) := by
    unfold sortWorldK
    rw [heap_grow_old _ _ (by simpa [putRowK, ahead] using hbs)]
    simp [putRowK, putRow, mapBlock, Array.getElem?_modify, hheap, onCells]
  have hsize : w.heap.size ≤ (sortWorldK encD k w b 0 n l'.toArray os).heap.size := by simp [sortWorldK, putRowK]
  refine ⟨_, pr, Sort.putCells id 0 (flatK encD k l'.toArray) C, rfl, ⟨rfl, rfl, rfl, hsize, fun b' hb' hne => ?_, ?_⟩, fun _ _ h => h, fun _ _ h => .inl h, .tup rfl (fun i c x h => by simp at h), hheap', by simp [Sort.putCells], ?_, ?_⟩
  · unfold sortWorldK
    rw [heap_grow_old _ _ (by simpa [putRowK, ahead] using hb')]
    have : b ≠ b' := fun e => hne e.symm
    simp [putRowK, putRow, mapBlock, Array.getElem?_modify, this]
  · simp [sortWorldK, grow, putRowK]
  · intro c hc
    obtain ⟨x, hx, rfl⟩ := List.mem_map.1 hc
    rw [K.len _ x.2]
    exact hkt (by rintro rfl; simp at hsl; simp [hsl] at hx)
  · intro i c hc j d hd
    simp only [Dz, Mz] at hc
    obtain ⟨x, hx, rfl⟩ := hc
    have hi : i < l'.length := (Gz.1 hx).1
    have hj : j < k := by rw [← K.len _ x.2]; exact (Gz.1 hd).1
    have hne : l ≠ [] := by rintro rfl; simp at hsl; simp [hsl] at hi
    have hk := hkt hne
    have e1 : (i * k + j) / k = i := (blk_iff k i _ (by omega)).1 ⟨by omega, by omega⟩
    have e2 : (i * k + j) % k = j := by rw [Nat.mod_eq_sub_div_mul, e1]; omega
    have lt : i * k + j < l'.length * k := by
      have := Nat.mul_le_mul_right k (show i + 1 ≤ l'.length from hi); rw [Nat.add_mul, Nat.one_mul] at this; omega
    have hCl : i * k + j < C.size := by
      rw [hCs, ← hk]
      have := Nat.mul_le_mul_right k (show l'.length ≤ cap by rw [hsl]; simpa using hle)
      omega
    have hpl := K.pl _ x.2 d (Lz hd)
    refine ⟨valOf d, ?_, ?_, plainD_rep hpl⟩
    · rw [← hk]
      simp only [Sort.putCells, Array.getElem?_mapIdx, Rz hCl, Pz]
      rw [if_pos ⟨Nat.zero_le _, by rw [size_flatK]; simpa using lt⟩, Nat.sub_zero, cellE _ _ (by simpa using lt), e1, e2, getElem!_pos l'.toArray i (by simpa using hi)]
      simp only [List.getElem_toArray, id]
      rw [(Gz.1 hx).2]
      obtain ⟨hd1, hd2⟩ := Gz.1 hd
      rw [getElem!_pos x.1 j hd1, hd2]
    · cases d <;> simp only [plainD] at hpl <;> try (cases hpl; done)
      exact plainV_oneCell hpl
end
end
section
theorem tm148_eq:tm148= .lets [.mk (.pk (.ibin .neq)) [.t 0, .t 0]] (.ret (.mk .nrm [.t 1])):=by kernel_rfl
theorem tm96_eq:tm96= .lets [.mk (.call false 148) [.mk .nrm [.t 0]]] (.lets [.mk (.call false 148) [.mk .nrm [.t 1]]] (.ite (.t 2) (.ite (.t 3) (.ret (.mk .nrm [.q (.v (.int .i64 0))])) (.ret (.mk .nrm [.q (.v (.int .i64 (-1)))]))) (.ite (.t 3) (.ret (.mk .nrm [.q (.v (.int .i64 1))])) (.lets [.mk (.pk (.ibin .lss)) [.t 0, .t 1]] (.ite (.t 4) (.ret (.mk .nrm [.q (.v (.int .i64 (-1)))])) (.lets [.mk (.pk (.ibin .gtr)) [.t 0, .t 1]] (.ite (.t 5) (.ret (.mk .nrm [.q (.v (.int .i64 1))])) (.ret (.mk .nrm [.q (.v (.int .i64 0))]))))))))):=by kernel_rfl
theorem tm95_eq:tm95= .lets [.mk (.pk .llen) [.t 0]] (.loop [.q (.v (.int .i64 0)), .q (.v (.int .i64 0))] (.lets [.mk (.pk (.ibin .lss)) [.t 2, .t 1]] (.ite (.t 4) (.lets [.mk (.pk (.load 1 false)) [.mk (.pk (.idx 3 1)) [.t 0, .t 2]]] (.lets [.mk (.pk (.ibin .neq)) [.t 5, .q (.v (.int .i64 0))]] (.ite (.t 6) (.ret (.mk .nrm [.t 5])) (.lets [.mk (.pk (.ibin .add)) [.t 2, .q (.v (.int .i64 1))]] (.next 0 [.t 7, .t 3]))))) (.ret (.mk .nrm [.q (.v (.int .i64 0))]))))):=by kernel_rfl
theorem tm58_eq:tm58= .lets [.mk (.pk (.fbox 3)) [.t 1]] (.lets [.mk (.pk (.fbox 3)) [.t 0]] (.lets [.mk (.call false 96) [.mk .nrm [.mk (.pk (.load 1 false)) [.mk (.pk (.fld 0)) [.t 3]]], .mk .nrm [.mk (.pk (.load 1 false)) [.mk (.pk (.fld 0)) [.t 2]]]]] (.lets [.mk (.call false 96) [.mk .nrm [.mk (.pk (.load 1 false)) [.mk (.pk (.fld 1)) [.t 3]]], .mk .nrm [.mk (.pk (.load 1 false)) [.mk (.pk (.fld 1)) [.t 2]]]]] (.lets [.mk (.call false 96) [.mk .nrm [.mk (.pk (.load 1 false)) [.mk (.pk (.fld 2)) [.t 3]]], .mk .nrm [.mk (.pk (.load 1 false)) [.mk (.pk (.fld 2)) [.t 2]]]]] (.lets [.mk (.call true 95) [.mk (.lit 1 3 [(.v (.int .i64 0)),(.v (.int .i64 0)),(.v (.int .i64 0))] [(0,1),(1,1),(2,1)]) [.t 4, .t 5, .t 6]]] (.ret (.mk .nrm [.t 7]))))))):=by kernel_rfl
theorem GG_evalT{C:Cx}{H:FP}{N f n:Nat}{t:FT}(ho:OKF C f n t){ds:List D}{d:D}(h0:H f ds=none)(hlt:f<1000000)(hl:ds.length=n)(hn:ds.all D.noT=true)(he:evalFT (GG C H N) N t [] ds=some d):GG C H N f ds=some d:=by
 obtain⟨t0,h1,h2⟩:=ho
 exact GG_eval h1 h0 hlt hl hn (cseF_ok (q:=(n,t0)) hl (by rw[←h2]at he;exact he))
noncomputable abbrev GK:FP:=GG cx bitsH 10000
theorem f148_ok(a:Int):GK 148 [iv a]=some (bv false):=by
 refine GG_evalT ok148 rfl (by decide) rfl rfl ?_
 rw[tm148_eq]
 simp[evalFT,X.ev,X.evs,XK.run,PK.run,binV,ibinV,D.noT,D.noTC,D.noTB,viewA,viewC,tagN,D.flat,D.flatC]
def cmp1(a b:Int):Int:=if a<b then-1 else if b<a then 1 else 0
theorem f96_ok(a b:Int):GK 96 [iv a,iv b]=some (iv (cmp1 a b)):=by
 refine GG_evalT ok96 rfl (by decide) rfl rfl ?_
 rw[tm96_eq]
 have h: ∀a,GG cx bitsH 10000 148 [iv a]=some (bv false):=f148_ok
 unfold cmp1
 by_cases h1:a<b
 ·simp[evalFT,X.ev,X.evs,XK.run,callX,h,D.bare,PK.run,binV,ibinV,D.noT,D.noTC,D.noTB,viewA,viewC,tagN,D.flat,D.flatC,D.asBool,h1]
 ·by_cases h2:b<a
  ·simp[evalFT,X.ev,X.evs,XK.run,callX,h,D.bare,PK.run,binV,ibinV,D.noT,D.noTC,D.noTB,viewA,viewC,tagN,D.flat,D.flatC,D.asBool,h1,h2]
  ·simp[evalFT,X.ev,X.evs,XK.run,callX,h,D.bare,PK.run,binV,ibinV,D.noT,D.noTC,D.noTB,viewA,viewC,tagN,D.flat,D.flatC,D.asBool,h1,h2]
def first3(a b c:Int):Int:=if a≠0 then a else if b≠0 then b else c
def body95:FT:= .lets [.mk (.pk (.ibin .lss)) [.t 2, .t 1]] (.ite (.t 4) (.lets [.mk (.pk (.load 1 false)) [.mk (.pk (.idx 3 1)) [.t 0, .t 2]]] (.lets [.mk (.pk (.ibin .neq)) [.t 5, .q (.v (.int .i64 0))]] (.ite (.t 6) (.ret (.mk .nrm [.t 5])) (.lets [.mk (.pk (.ibin .add)) [.t 2, .q (.v (.int .i64 1))]] (.next 0 [.t 7, .t 3]))))) (.ret (.mk .nrm [.q (.v (.int .i64 0))])))
theorem step95{G:FP}{N:Nat}{rec:List D→Option D}{es:List (List D)}{i j x:Int}(hx:idxV 3 1 [.list es,iv i]=some (.lptr [iv x]))(hl:i<3)(hj:IntKind.wrap .i64 (i+1)=j):
  evalFT G N body95 [rec] [.list es,iv 3,iv i,iv 0]=if x=0 then rec [iv j,iv 0]else some (iv x):=by
 unfold body95
 by_cases h:x=0
 ·simp[evalFT,X.ev,X.evs,XK.run,PK.run,binV,ibinV,loadV,D.noT,D.noTC,D.noTB,D.asBool,hx,hl,hj,h]
 ·have hb:(x !=0)=true:=by simpa using h
  simp[evalFT,X.ev,X.evs,XK.run,PK.run,binV,ibinV,loadV,D.noT,D.noTC,D.noTB,D.asBool,viewA,viewC,tagN,D.flat,D.flatC,hx,hl,hj,h]
  rw[hb];rfl
theorem last95{G:FP}{N:Nat}{rec:List D→Option D}{es:List (List D)}:evalFT G N body95 [rec] [.list es,iv 3,iv 3,iv 0]=some (iv 0):=by
 unfold body95
 simp[evalFT,X.ev,X.evs,XK.run,PK.run,binV,ibinV,D.noT,D.noTC,D.noTB,D.asBool,viewA,viewC,tagN,D.flat,D.flatC]
theorem core95(G:FP)(n:Nat)(a b c:Int):evalFT G (n+4) (.lets [.mk (.pk .llen) [.t 0]] (.loop [.q (.v (.int .i64 0)), .q (.v (.int .i64 0))] body95)) [] [.list [[iv a],[iv b],[iv c]]]=some (iv (first3 a b c)):=by
 have h1:X.evs G [.list [[iv a],[iv b],[iv c]]] [.mk (.pk .llen) [.t 0]]=some [iv 3]:=rfl
 have h2: ∀ρ,X.evs G ρ [.q (.v (.int .i64 0)), .q (.v (.int .i64 0))]=some [iv 0,iv 0]:=fun ρ=>rfl
 have s0: ∀rec,evalFT G (n+4) body95 [rec] ([.list [[iv a],[iv b],[iv c]]]++ [iv 3]++ [iv 0,iv 0])=if a=0 then rec [iv 1,iv 0]else some (iv a):=fun rec=>step95 rfl (by decide) (by decide)
 have s1: ∀rec,evalFT G (n+4) body95 [rec] ([.list [[iv a],[iv b],[iv c]]]++ [iv 3]++ [iv 1,iv 0])=if b=0 then rec [iv 2,iv 0]else some (iv b):=fun rec=>step95 rfl (by decide) (by decide)
 have s2: ∀rec,evalFT G (n+4) body95 [rec] ([.list [[iv a],[iv b],[iv c]]]++ [iv 3]++ [iv 2,iv 0])=if c=0 then rec [iv 3,iv 0]else some (iv c):=fun rec=>step95 rfl (by decide) (by decide)
 have s3: ∀rec,evalFT G (n+4) body95 [rec] ([.list [[iv a],[iv b],[iv c]]]++ [iv 3]++ [iv 3,iv 0])=some (iv 0):=fun rec=>last95
 generalize body95=B at*
 simp only[evalFT,h1,h2,Oz,iter]
 rw[s0]
 by_cases ha:a=0
 ·rw[if_pos ha,s1]
  by_cases hb:b=0
  ·rw[if_pos hb,s2]
   by_cases hc:c=0
   ·rw[if_pos hc,s3];simp[first3,ha,hb,hc]
   ·rw[if_neg hc];simp[first3,ha,hb]
  ·rw[if_neg hb];simp[first3,ha,hb]
 ·rw[if_neg ha];simp[first3,ha]
theorem f95_ok(a b c:Int):GK 95 [.list [[iv a],[iv b],[iv c]]]=some (iv (first3 a b c)):=by
 refine GG_evalT ok95 rfl (by decide) rfl rfl ?_
 rw[tm95_eq]
 exact core95 (GG cx bitsH 10000) 9996 a b c
def key3(a b c:Int):D:= .agg [iv a,iv b,iv c]
theorem f58_ok(a b c x y z:Int):GK 58 [key3 a b c,key3 x y z]=some (iv (first3 (cmp1 a x) (cmp1 b y) (cmp1 c z))):=by
 refine GG_evalT ok58 rfl (by decide) rfl rfl ?_
 rw[tm58_eq]
 have h: ∀a b,GG cx bitsH 10000 96 [iv a,iv b]=some (iv (cmp1 a b)):=f96_ok
 have k: ∀a b c,GG cx bitsH 10000 95 [.list [[iv a],[iv b],[iv c]]]=some (iv (first3 a b c)):=f95_ok
 generalize GG cx bitsH 10000=G at*
 simp[evalFT,key3,X.ev,X.evs,XK.run,callX,h,k,D.bare,PK.run,fboxV,fldV,loadV,D.noT,D.noTC,D.noTB,viewA,viewC,tagN,D.flat,D.flatC,D.cells,D.okC,D.nz,fillV,chop,rowsOK,D.nfC,D.nfB,putAt]
end
section
def goodK:List D→Bool
 | [.v (.int .i64 _), .v (.int .i64 _), .v (.int .i64 _)]=>true
 |_=>false
def cfK:List D→List D→Int
 | [.v (.int .i64 a), .v (.int .i64 b), .v (.int .i64 c)],[.v (.int .i64 x), .v (.int .i64 y), .v (.int .i64 z)]=>first3 (cmp1 a x) (cmp1 b y) (cmp1 c z)
 |_,_=>0
theorem goodK_of{x:List D}(h:goodK x=true): ∃a b c,x= [iv a,iv b,iv c]:=by
 unfold goodK at h
 split at h
 ·exact⟨_,_,_,rfl⟩
 ·cases h
theorem cfK_lt(a b c x y z:Int):cfK [iv a,iv b,iv c] [iv x,iv y,iv z]<0↔a<x∨a=x∧(b<y∨b=y∧c<z):=by
 show first3 (cmp1 a x) (cmp1 b y) (cmp1 c z)<0↔_
 unfold first3 cmp1
 repeat' split
 all_goals omega
theorem keyCmp:CmpD Tryz.prog 58 3 goodK cfK where
 len x h:=by obtain⟨a,b,c,rfl⟩:=goodK_of h;rfl
 pl x h d hd:=by
  obtain⟨a,b,c,rfl⟩:=goodK_of h
  simp only[List.mem_cons,List.not_mem_nil,or_false]at hd
  rcases hd with rfl|rfl|rfl<;>rfl
 ok x y hx hy:=by
  obtain⟨a,b,c,rfl⟩:=goodK_of hx
  obtain⟨a',b',c',rfl⟩:=goodK_of hy
  exact((GG_sound (C:=cx) (N:=10000) rfl bits_sound mixedP).p 58 _ _ (by decide) (f58_ok a b c a' b' c')).1
 body:=⟨Tryz.f58,Tryz.func58,rfl,by kernel_rfl⟩
 lt:=by decide
 irrefl x h:=by
  obtain⟨a,b,c,rfl⟩:=goodK_of h
  rw[cfK_lt];omega
 trans x y z hx hy hz:=by
  obtain⟨a,b,c,rfl⟩:=goodK_of hx
  obtain⟨a',b',c',rfl⟩:=goodK_of hy
  obtain⟨a2,b2,c2,rfl⟩:=goodK_of hz
  simp only[cfK_lt];omega
 ntrans x y z hx hy hz:=by
  obtain⟨a,b,c,rfl⟩:=goodK_of hx
  obtain⟨a',b',c',rfl⟩:=goodK_of hy
  obtain⟨a2,b2,c2,rfl⟩:=goodK_of hz
  simp only[cfK_lt];omega
 anti x y hx hy:=by
  obtain⟨a,b,c,rfl⟩:=goodK_of hx
  obtain⟨a',b',c',rfl⟩:=goodK_of hy
  simp only[cfK_lt]
  intro h1 h2
  have e1:a=a':=by omega
  have e2:b=b':=by omega
  have e3:c=c':=by omega
  rw[e1,e2,e3]
theorem keySort{es:List (List D)}(hne:es≠ [])(hes: ∀x∈es,goodK x=true)(hlen:es.length<4611686018427387904):VEp Tryz.prog 0 57 [.list es, .clo 58 []] es (sortS (ltD cfK) es) (.tup []):=
 keyCmp.sort (ρ:=Tryz.sortKey_ren) Tryz.sortKey (fun w=>by rfl) (fun w=>by rfl) ⟨Tryz.f57,Tryz.func57,rfl,by kernel_rfl⟩ (x0:= [iv 0,iv 0,iv 0]) rfl hes hlen (fun h=>absurd h hne)
def handH:FP:=fun f ds=>if f=1000057 then(match ds with
  | [.list es, .clo 58 []]=>if es.isEmpty=false∧es.all goodK=true∧es.length<65536 then some (.tup [.tup [], .list (sortS (ltD cfK) es)])else none
  |_=>none)else bitsH f ds
theorem hand_sound:Sound Tryz.prog (env0 handH) where
 p f ds d hlt h:=by
  have h:handH f ds=some d:=h
  unfold handH at h
  rw[if_neg (by omega)]at h
  exact bits_sound.p f ds d hlt h
 e k f ds r hf h6 h:=by
  replace h:handH (1000000+(1000000*k+f)) ds=some r:=h
  unfold handH at h
  split at h
  ·rename_i he
   have hk:k=0:=by omega
   have hf7:f=57:=by omega
   rw[hk,hf7]
   split at h
   ·rename_i es
    split at h<;>cases h
    rename_i hc
    exact⟨es,_,_,rfl,rfl,keySort (fun e=>by rw[e]at hc;cases hc.1) (fun x hx=>Tz.1 hc.2.1 x hx) (by omega)⟩
   ·cases h
  ·exact bits_sound.e k f ds r hf h6 h
 q e f ds r hf h:=by
  obtain⟨d,hd,rfl⟩:=Mz.1 (show(handH (1000001000000+(1000000*e+f)) ds).map _=some r from h)
  unfold handH at hd
  rw[if_neg (by omega)]at hd
  exact bits_sound.q e f ds _ hf (show Option.map _ _=_ by rw[hd];rfl)
end
noncomputable section
def obk{α β:Type}(o:Option α)(f:α→Option β):Option β:= @Option.rec α (fun _=>Option β) none f o
theorem obk_eq{α β:Type}(o:Option α)(f:α→Option β):obk o f=o.bind f:=by cases o<;>rfl
def ifk{α:Type}(b:Bool)(x y:α):α:= @Bool.rec (fun _=>α) y x b
theorem ifk_eq{α:Type}(b:Bool)(x y:α):ifk b x y=if b=true then x else y:=by cases b<;>rfl
theorem ifk_true{α:Type}(x y:α):ifk true x y=x:=rfl
theorem ifk_false{α:Type}(x y:α):ifk false x y=y:=rfl
def dV{α:Type}(z:α)(f:Value→α)(d:D):α:= @D.casesOn (fun _=>α) d z f z z (fun _=>z) (fun _=>z) (fun _=>z) (fun _=>z) (fun _ _=>z) (fun _ _ _ _ _=>z) (fun _ _=>z) (fun _ _ _ _=>z) (fun _=>z) z (fun _=>z)
def dList{α:Type}(z:α)(f:List (List D)→α)(d:D):α:= @D.casesOn (fun _=>α) d z (fun _=>z) z z f (fun _=>z) (fun _=>z) (fun _=>z) (fun _ _=>z) (fun _ _ _ _ _=>z) (fun _ _=>z) (fun _ _ _ _=>z) (fun _=>z) z (fun _=>z)
def dAgg{α:Type}(z:α)(f:List D→α)(d:D):α:= @D.casesOn (fun _=>α) d z (fun _=>z) z z (fun _=>z) f (fun _=>z) (fun _=>z) (fun _ _=>z) (fun _ _ _ _ _=>z) (fun _ _=>z) (fun _ _ _ _=>z) (fun _=>z) z (fun _=>z)
def dTup{α:Type}(z:α)(f:List D→α)(d:D):α:= @D.casesOn (fun _=>α) d z (fun _=>z) z z (fun _=>z) (fun _=>z) f (fun _=>z) (fun _ _=>z) (fun _ _ _ _ _=>z) (fun _ _=>z) (fun _ _ _ _=>z) (fun _=>z) z (fun _=>z)
def dLptr{α:Type}(z:α)(f:List D→α)(d:D):α:= @D.casesOn (fun _=>α) d z (fun _=>z) z z (fun _=>z) (fun _=>z) (fun _=>z) f (fun _ _=>z) (fun _ _ _ _ _=>z) (fun _ _=>z) (fun _ _ _ _=>z) (fun _=>z) z (fun _=>z)
def vI{α:Type}(z:α)(f:IntKind→Int→α)(v:Value):α:= @Value.casesOn (fun _=>α) v (fun _=>z) f (fun _ _=>z) (fun _ _ _=>z) (fun _=>z) (fun _=>z) (fun _ _ _=>z) (fun _=>z) (fun _=>z) (fun _ _ _=>z) z (fun _ _=>z) z (fun _=>z) (fun _=>z)
def vB{α:Type}(z:α)(f:Bool→α)(v:Value):α:= @Value.casesOn (fun _=>α) v f (fun _ _=>z) (fun _ _=>z) (fun _ _ _=>z) (fun _=>z) (fun _=>z) (fun _ _ _=>z) (fun _=>z) (fun _=>z) (fun _ _ _=>z) z (fun _ _=>z) z (fun _=>z) (fun _=>z)
def allF(p:D→Bool)(l:List D):Bool:= @List.rec D (fun _=>Bool) true (fun a _ ih=>ifk (p a) ih false) l
theorem allF_eq(p:D→Bool): ∀l,allF p l=l.all p
 | []=>rfl
 |a::r=>by
  show ifk (p a) (allF p r) false=_
  rw[allF_eq p r,List.all_cons]
  cases p a<;>rfl
def fTB(d:D):Bool:= @D.casesOn (fun _=>Bool) d false (fun _=>true) true true (fun _=>true) (fun _=>false) (fun _=>false) (fun _=>true) (fun _ _=>false) (fun _ _ _ _ _=>false) (fun _ _=>false) (fun _ _ _ _=>false) (fun _=>false) true (fun _=>true)
theorem fTB_eq:fTB=D.noTB:=by funext d;cases d<;>rfl
def fTC(d:D):Bool:= @D.casesOn (fun _=>Bool) d false (fun _=>true) true true (fun _=>true) (fun _=>false) (fun _=>false) (fun _=>true) (fun _ xs=>allF fTB xs) (fun _ _ _ _ _=>false) (fun _ _=>false) (fun _ _ _ _=>false) (fun _=>false) true (fun _=>true)
theorem fTC_eq:fTC=D.noTC:=by
 funext d;cases d<;>try rfl
 show allF fTB _=_
 rw[allF_eq,fTB_eq];rfl
def fTU(d:D):Bool:= @D.casesOn (fun _=>Bool) d false (fun _=>true) true true (fun _=>true) (fun xs=>allF fTC xs) (fun _=>false) (fun _=>true) (fun _ xs=>allF fTB xs) (fun _ _ _ _ _=>false) (fun _ _=>false) (fun _ _ _ _=>false) (fun _=>false) true (fun _=>true)
theorem fTU_eq:fTU=fun d=>match d with
  | .agg ys=>ys.all D.noTC
  |d=>d.noTC:=by
 funext d;cases d<;>first|rfl|(show allF fTC _=_;rw[allF_eq,fTC_eq];done)|(show allF fTB _=_;rw[allF_eq,fTB_eq];rfl)
def fT(d:D):Bool:= @D.casesOn (fun _=>Bool) d false (fun _=>true) true true (fun _=>true) (fun xs=>allF fTC xs) (fun xs=>allF fTU xs) (fun _=>true) (fun _ xs=>allF fTC xs) (fun _ _ _ _ _=>false) (fun _ _=>false) (fun _ _ _ _=>false) (fun _=>false) true (fun _=>true)
theorem fT_eq:fT=D.noT:=by
 funext d;cases d<;>first|rfl|(show allF fTC _=_;rw[allF_eq,fTC_eq];rfl)|(show allF fTU _=_;rw[allF_eq,fTU_eq];rfl)
def fOk(d:D):Bool:= @D.casesOn (fun _=>Bool) d false (fun _=>true) true true (fun _=>true) (fun _=>false) (fun _=>false) (fun _=>true) (fun _ xs=>allF fTB xs) (fun _ _ _ _ _=>false) (fun _ _=>false) (fun _ _ _ _=>false) (fun _=>false) true (fun _=>true)
theorem fOk_eq(d:D):fOk d=(d.okC&&d.noTC):=by
 cases d<;>first|rfl|(show allF fTB _=_;rw[allF_eq,fTB_eq];rfl)
def fFl(d:D):Bool:=dV false (fun _=>true) d
theorem fFl_eq:fFl=D.flatC:=by funext d;cases d<;>rfl
def lenF{α:Type}(l:List α):Nat→Nat:= @List.rec α (fun _=>Nat→Nat) (fun n=>n) (fun _ _ ih n=>ih (Nat.add n 1)) l
theorem lenF_eq{α:Type}: ∀(l:List α) (n:Nat),lenF l n=n+l.length
 | [],_=>rfl
 |_::r,n=>by
  show lenF r (n+1)=_
  rw[lenF_eq r,List.length_cons];omega
def lenIs(l:List D)(n:Nat):Bool:=Nat.beq (lenF l 0) n
theorem lenIs_eq(l:List D)(n:Nat):lenIs l n=decide (l.length=n):=by
 unfold lenIs
 rw[lenF_eq,Nat.zero_add]
 cases h:Nat.beq l.length n with
 |true=>simp[Nat.eq_of_beq_eq_true h]
 |false=>symm;simp only[decide_eq_false_iff_not];intro e;rw[e,Nat.beq_refl]at h;cases h
def fcN{α:Type}(n:Nat)(f:Nat→α):α:= @Nat.casesOn (fun _=>α) n (f 0) fun m=>f (Nat.succ m)
theorem fcN_eq{α:Type}(n:Nat)(f:Nat→α):fcN n f=f n:=by cases n<;>rfl
def fcI{α:Type}(z:Int)(f:Int→α):α:= @Int.casesOn (fun _=>α) z (fun n=>fcN n fun n=>f (Int.ofNat n)) fun n=>fcN n fun n=>f (Int.negSucc n)
theorem fcI_eq{α:Type}(z:Int)(f:Int→α):fcI z f=f z:=by
 cases z with
 |ofNat n=>exact fcN_eq n fun n=>f (Int.ofNat n)
 |negSucc n=>exact fcN_eq n fun n=>f (Int.negSucc n)
def nsub(m n:Nat):Int:=ifk (Nat.ble n m) (Int.ofNat (Nat.sub m n)) (Int.negSucc (Nat.sub (Nat.sub n m) 1))
theorem nsub_eq(m n:Nat):nsub m n=(m:Int)-n:=by
 unfold nsub
 cases h:Nat.ble n m with
 |true=>
  have h:=Nat.le_of_ble_eq_true h
  show((m-n:Nat):Int)=_;omega
 |false=>
  have h: ¬n≤m:=fun e=>by rw[Nat.ble_eq_true_of_le e]at h;cases h
  show Int.negSucc (n-m-1)=_;omega
def addK(a b:Int):Int:= @Int.casesOn (fun _=>Int) a (fun m=> @Int.casesOn (fun _=>Int) b (fun n=>Int.ofNat (Nat.add m n)) fun n=>nsub m (Nat.succ n)) fun m=> @Int.casesOn (fun _=>Int) b (fun n=>nsub n (Nat.succ m)) fun n=>Int.negSucc (Nat.succ (Nat.add m n))
theorem addK_eq(a b:Int):addK a b=a+b:=by
 cases a<;>cases b<;>rename_i m n
 ·rfl
 ·show nsub _ _=_;rw[nsub_eq,Int.ofNat_eq_natCast];omega
 ·show nsub _ _=_;rw[nsub_eq,Int.ofNat_eq_natCast];omega
 ·rfl
def subK(a b:Int):Int:= @Int.casesOn (fun _=>Int) a (fun m=> @Int.casesOn (fun _=>Int) b (fun n=>nsub m n) fun n=>Int.ofNat (Nat.add m (Nat.succ n))) fun m=> @Int.casesOn (fun _=>Int) b (fun n=>Int.negSucc (Nat.add m n)) fun n=>nsub n m
theorem subK_eq(a b:Int):subK a b=a-b:=by
 cases a<;>cases b
 ·show nsub _ _=_;rw[nsub_eq];rfl
 ·rename_i m n;show((m+(n+1):Nat):Int)=(m:Int)-Int.negSucc n;omega
 ·rename_i m n;show Int.negSucc (m+n)=Int.negSucc m-(n:Int);omega
 ·rename_i m n;show nsub _ _=_;rw[nsub_eq];omega
def ltK(a b:Int):Bool:= @Int.casesOn (fun _=>Bool) a (fun m=> @Int.casesOn (fun _=>Bool) b (fun n=>Nat.blt m n) fun _=>false) fun m=> @Int.casesOn (fun _=>Bool) b (fun _=>true) fun n=>Nat.blt n m
theorem ltK_eq(a b:Int):ltK a b=decide (a<b):=by
 cases a<;>cases b<;>rename_i m n
 ·show Nat.blt m n=_;rw[Bool.eq_iff_iff];simp[Nat.blt_eq]
 ·symm;show decide ((m:Int)<Int.negSucc n)=false;simp only[decide_eq_false_iff_not];omega
 ·symm;show decide (Int.negSucc m<(n:Int))=true;simp only[decide_eq_true_eq];omega
 ·show Nat.blt n m=_;rw[Bool.eq_iff_iff,Nat.blt_eq,decide_eq_true_eq];omega
def eqI(a b:Int):Bool:= @Int.casesOn (fun _=>Bool) a (fun m=> @Int.casesOn (fun _=>Bool) b (fun n=>Nat.beq m n) fun _=>false) fun m=> @Int.casesOn (fun _=>Bool) b (fun _=>false) fun n=>Nat.beq m n
theorem nbeq(m n:Nat):Nat.beq m n=decide (m=n):=by
 cases h:Nat.beq m n with
 |true=>simp[Nat.eq_of_beq_eq_true h]
 |false=>symm;simp only[decide_eq_false_iff_not];intro e;rw[e,Nat.beq_refl]at h;cases h
theorem eqI_eq(a b:Int):eqI a b=(a==b):=by
 have e:(a==b)=decide (a=b):=by rw[Bool.eq_iff_iff];simp
 rw[e]
 cases a<;>cases b<;>rename_i m n
 ·show Nat.beq m n=_;rw[nbeq,Bool.eq_iff_iff];simp;omega
 ·rfl
 ·rfl
 ·show Nat.beq m n=_;rw[nbeq,Bool.eq_iff_iff];simp
def hiK(k:IntKind):Nat:= @IntKind.casesOn (fun _=>Nat) k 128 32768 2147483648 9223372036854775808 256 65536 4294967296 18446744073709551616
def loK(k:IntKind):Nat:= @IntKind.casesOn (fun _=>Nat) k 128 32768 2147483648 9223372036854775808 0 0 0 0
def wrapK(k:IntKind)(z:Int):Int:= @Int.casesOn (fun _=>Int) z (fun n=>ifk (Nat.blt n (hiK k)) (Int.ofNat n) (k.wrap (Int.ofNat n))) fun n=>ifk (Nat.blt n (loK k)) (Int.negSucc n) (k.wrap (Int.negSucc n))
theorem wrap_in(k:IntKind)(z:Int)(h1: -(loK k:Int)≤z)(h2:z<(hiK k:Int)):k.wrap z=z:=by
 cases k
 case i8=>replace h1: -(128:Int)≤z:=h1;replace h2:z<(128:Int):=h2;simp only[IntKind.wrap,IntKind.bits,IntKind.signed,Bool.true_and];split<;>rename_i h<;>simp at h<;>omega
 case i16=>replace h1: -(32768:Int)≤z:=h1;replace h2:z<(32768:Int):=h2;simp only[IntKind.wrap,IntKind.bits,IntKind.signed,Bool.true_and];split<;>rename_i h<;>simp at h<;>omega
 case i32=>replace h1: -(2147483648:Int)≤z:=h1;replace h2:z<(2147483648:Int):=h2;simp only[IntKind.wrap,IntKind.bits,IntKind.signed,Bool.true_and];split<;>rename_i h<;>simp at h<;>omega
 case i64=>replace h1: -(9223372036854775808:Int)≤z:=h1;replace h2:z<(9223372036854775808:Int):=h2;simp only[IntKind.wrap,IntKind.bits,IntKind.signed,Bool.true_and];split<;>rename_i h<;>simp at h<;>omega
 case u8=>replace h1: -(0:Int)≤z:=h1;replace h2:z<(256:Int):=h2;simp[IntKind.wrap,IntKind.bits,IntKind.signed];omega
 case u16=>replace h1: -(0:Int)≤z:=h1;replace h2:z<(65536:Int):=h2;simp[IntKind.wrap,IntKind.bits,IntKind.signed];omega
 case u32=>replace h1: -(0:Int)≤z:=h1;replace h2:z<(4294967296:Int):=h2;simp[IntKind.wrap,IntKind.bits,IntKind.signed];omega
 case u64=>replace h1: -(0:Int)≤z:=h1;replace h2:z<(18446744073709551616:Int):=h2;simp[IntKind.wrap,IntKind.bits,IntKind.signed];omega
theorem wrapK_eq(k:IntKind)(z:Int):wrapK k z=k.wrap z:=by
 cases z with
 |ofNat n=>
  show ifk (Nat.blt n (hiK k)) (Int.ofNat n) (k.wrap (Int.ofNat n))=_
  cases h:Nat.blt n (hiK k)with
  |false=>rfl
  |true=>
   rw[Nat.blt_eq]at h
   rw[ifk_true,wrap_in k _ (by rw[Int.ofNat_eq_natCast];omega) (by rw[Int.ofNat_eq_natCast];omega)]
 |negSucc n=>
  show ifk (Nat.blt n (loK k)) (Int.negSucc n) (k.wrap (Int.negSucc n))=_
  cases h:Nat.blt n (loK k)with
  |false=>rfl
  |true=>
   rw[Nat.blt_eq]at h
   rw[ifk_true,wrap_in k _ (by omega) (by omega)]
def ktn(k:IntKind):Nat:= @IntKind.casesOn (fun _=>Nat) k 0 1 2 3 4 5 6 7
def eqKd(k k':IntKind):Bool:=Nat.beq (ktn k) (ktn k')
theorem eqKd_eq(k k':IntKind):eqKd k k'=decide (k=k'):=by cases k<;>cases k'<;>rfl
end
noncomputable section
def op1z(z:Option D)(f:D→Option D)(ds:List D):Option D:=ds.casesOn z fun a r=>r.casesOn (f a) fun _ _=>z
def op2z(z:Option D)(f:D→D→Option D)(ds:List D):Option D:=ds.casesOn z fun a r=>r.casesOn z fun b s=>s.casesOn (f a b) fun _ _=>z
theorem op1z_eq{z:Option D}{f:D→Option D}{ds:List D}(h: ∀a,ds= [a]→f a=z):op1z z f ds=z:=by
 rcases ds with _|⟨a,_|⟨b,r⟩⟩
 ·rfl
 ·exact h a rfl
 ·rfl
theorem op2z_eq{z:Option D}{f:D→D→Option D}{ds:List D}(h: ∀a b,ds= [a,b]→f a b=z):op2z z f ds=z:=by
 rcases ds with _|⟨a,_|⟨b,_|⟨c,r⟩⟩⟩
 ·rfl
 ·rfl
 ·exact h a b rfl
 ·rfl
theorem dV_eq{α:Type}{z:α}{f:Value→α}{d:D}(h: ∀v,d= .v v→f v=z):dV z f d=z:=by cases d<;>first|rfl|exact h _ rfl
theorem dList_eq{α:Type}{z:α}{f:List (List D)→α}{d:D}(h: ∀v,d= .list v→f v=z):dList z f d=z:=by cases d<;>first|rfl|exact h _ rfl
theorem dAgg_eq{α:Type}{z:α}{f:List D→α}{d:D}(h: ∀v,d= .agg v→f v=z):dAgg z f d=z:=by cases d<;>first|rfl|exact h _ rfl
theorem dTup_eq{α:Type}{z:α}{f:List D→α}{d:D}(h: ∀v,d= .tup v→f v=z):dTup z f d=z:=by cases d<;>first|rfl|exact h _ rfl
theorem dLptr_eq{α:Type}{z:α}{f:List D→α}{d:D}(h: ∀v,d= .lptr v→f v=z):dLptr z f d=z:=by cases d<;>first|rfl|exact h _ rfl
theorem vI_eq{α:Type}{z:α}{f:IntKind→Int→α}{v:Value}(h: ∀k n,v= .int k n→f k n=z):vI z f v=z:=by cases v<;>first|rfl|exact h _ _ rfl
theorem vB_eq{α:Type}{z:α}{f:Bool→α}{v:Value}(h: ∀b,v= .bool b→f b=z):vB z f v=z:=by cases v<;>first|rfl|exact h _ rfl
def takeC{α:Type}(p:α→Bool)(n:Nat):List α→(List α→Option D)→Option D:= @Nat.rec (fun _=>List α→(List α→Option D)→Option D) (fun _ f=>f []) (fun _ ih l f=>l.casesOn none fun a r=>ifk (p a) (ih r fun t=>f (a::t)) none) n
theorem takeC_eq{α:Type}(p:α→Bool): ∀(n:Nat) (l:List α) (f:List α→Option D),takeC p n l f=if n≤l.length∧(l.take n).all p=true then f (l.take n)else none
 |0,l,f=>by show f []=_;simp
 |n+1,[],f=>by simp[takeC]
 |n+1,a::r,f=>by
  show ifk (p a) (takeC p n r fun t=>f (a::t)) none=_
  rw[takeC_eq p n r,ifk_eq]
  simp only[List.length_cons,List.take_succ_cons,List.all_cons,Az,Nat.add_le_add_iff_right]
  cases p a<;>simp
def dropC(n:Nat):List D→(List D→Option D)→Option D:= @Nat.rec (fun _=>List D→(List D→Option D)→Option D) (fun l f=>f l) (fun _ ih l f=>l.casesOn (f []) fun _ r=>ih r f) n
theorem dropC_eq: ∀(n:Nat) (l:List D) (f:List D→Option D),dropC n l f=f (l.drop n)
 |0,_,_=>rfl
 |n+1,[],f=>rfl
 |n+1,a::r,f=>by
  show dropC n r f=_
  rw[dropC_eq n r,List.drop_succ_cons]
theorem nthA_eq{α:Type}: ∀(i:Nat) (l:List α),nthA i l=l[i]?
 |0,[]=>rfl
 |0,_::_=>rfl
 |_+1,[]=>rfl
 |i+1,_::r=>nthA_eq i r
def okL(n:Nat)(l:List D):Nat→Bool:= @List.rec D (fun _=>Nat→Bool) (fun m=>Nat.beq m n) (fun a _ ih m=>ifk (fOk a) (ih (Nat.add m 1)) false) l
theorem okL_eq(n:Nat): ∀(l:List D) (m:Nat),okL n l m=(decide (m+l.length=n)&&(l.all D.okC&&l.all D.noTC))
 | [],m=>by show Nat.beq m n=_;rw[nbeq];simp
 |a::r,m=>by
  show ifk (fOk a) (okL n r (m+1)) false=_
  rw[okL_eq n r,fOk_eq,List.length_cons,List.all_cons,List.all_cons,show m+1+r.length=m+(r.length+1) by omega]
  cases a.okC<;>cases a.noTC<;>simp[ifk]
def sB(b:Bool):Option D:=ifk b (some (bv true)) (some (bv false))
theorem sB_eq(b:Bool):sB b=some (bv b):=by cases b<;>rfl
def sI(k:IntKind)(z:Int):Option D:=fcI z fun z=>some (.v (.int k z))
theorem sI_eq(k:IntKind)(z:Int):sI k z=some (.v (.int k z)):=fcI_eq _ _
def ibK(op:BinOp):IntKind→Int→Int→Option D:=match op with
 | .add=>fun k a b=>sI k (wrapK k (addK a b))
 | .sub=>fun k a b=>sI k (wrapK k (subK a b))
 | .eql=>fun _ a b=>sB (eqI a b)
 | .neq=>fun _ a b=>sB (not (eqI a b))
 | .lss=>fun _ a b=>sB (ltK a b)
 | .leq=>fun _ a b=>sB (not (ltK b a))
 | .gtr=>fun _ a b=>sB (ltK b a)
 | .geq=>fun _ a b=>sB (not (ltK a b))
 |op=>fun k a b=>ibinV op k a b
theorem ibK_eq(op:BinOp)(k:IntKind)(a b:Int):ibK op k a b=ibinV op k a b:=by
 cases op<;>try rfl
 all_goals simp only[ibK,ibinV,sB_eq,sI_eq,wrapK_eq,addK_eq,subK_eq,eqI_eq,ltK_eq]
 ·rfl
 ·congr 2;simp[←Bool.decide_eq_false,Int.not_lt]
 ·congr 2;simp[←Bool.decide_eq_false,Int.not_lt]
theorem ibinV_noT{op:BinOp}{k:IntKind}{a b:Int}{d:D}(h:ibinV op k a b=some d):d.noT=true:=by
 unfold ibinV at h
 split at h<;>first|(cases h;rfl)|(split at h<;>cases h;rfl)|cases h
def kb2(op:BinOp)(k:IntKind)(a:Int)(k':IntKind)(b:Int):Option D:=ifk (eqKd k k') (ibK op k a b) none
def kb1(z:Option D)(op:BinOp)(y:D)(k:IntKind)(a:Int):Option D:=dV z (vI z (kb2 op k a)) y
def k_bin(op:BinOp)(ds:List D):Option D:=op2z (x_pk (.ibin op) ds) (fun x y=>dV (x_pk (.ibin op) ds) (vI (x_pk (.ibin op) ds) (kb1 (x_pk (.ibin op) ds) op y)) x) ds
theorem k_bin_eq(op:BinOp):k_bin op=x_pk (.ibin op):=funext fun ds=>op2z_eq fun x y e=>dV_eq fun v ev=>vI_eq fun k a ea=>dV_eq fun w ew=>vI_eq fun k' b eb=>by
 subst e ev ea ew eb
 show ifk (eqKd k k') (ibK op k a b) none=(if k=k' then ibinV op k a b else none).bind fun d=>if d.noT then some d else none
 rw[eqKd_eq,ifk_eq,ibK_eq]
 by_cases h:k=k'
 ·rw[if_pos h,if_pos (by simp[h])]
  cases hb:ibinV op k a b with
  |none=>rfl
  |some d=>rw[Oz,if_pos (ibinV_noT hb)]
 ·rw[if_neg h,if_neg (by simp[h])];rfl
def k_len(ds:List D):Option D:=op1z (x_pk .llen ds) (dList (x_pk .llen ds) fun es=>fcN (lenF es 0) fun n=>some (.v (.int .i64 (Int.ofNat n)))) ds
theorem k_len_eq:k_len=x_pk .llen:=funext fun ds=>op1z_eq fun d e=>dList_eq fun es ee=>by
 subst e ee
 rw[fcN_eq,lenF_eq,Nat.zero_add];rfl
def kl1(n:Nat)(xs:List D):Option D:=ifk (Nat.ble n (lenF xs 0)) (obk (nth xs 0) fun d=>ifk (fT d) (some d) none) none
def k_load(n:Nat)(g:Bool)(ds:List D):Option D:=op1z (x_pk (.load n g) ds) (dLptr (x_pk (.load n g) ds) fun xs=>ifk g (takeC fTC n xs fun l=>some (.agg l)) (kl1 n xs)) ds
theorem k_load_eq(n:Nat)(g:Bool):k_load n g=x_pk (.load n g):=funext fun ds=>op1z_eq fun d e=>dLptr_eq fun xs ee=>by
 subst e ee
 show _=(if n≤xs.length then(if g then some (.agg (xs.take n))else xs[0]?)else none).bind fun d=>if d.noT then some d else none
 cases g with
 |true=>
  rw[ifk_true,takeC_eq,fTC_eq]
  by_cases h1:n≤xs.length
  ·rw[if_pos h1]
   show _=if(xs.take n).all D.noTC=true then _ else none
   by_cases h2:(xs.take n).all D.noTC=true
   ·rw[if_pos ⟨h1,h2⟩,if_pos h2]
   ·rw[if_neg (fun c=>h2 c.2),if_neg h2]
  ·rw[if_neg h1,if_neg (fun c=>h1 c.1)];rfl
 |false=>
  rw[ifk_false]
  unfold kl1
  rw[lenF_eq,Nat.zero_add,nth_eq,obk_eq,ifk_eq,fT_eq]
  by_cases h1:n≤xs.length
  ·rw[if_pos (Nat.ble_eq_true_of_le h1),if_pos h1]
   congr 1
   funext d
   rw[ifk_eq]
  ·rw[if_neg h1,if_neg (fun c=>h1 (Nat.le_of_ble_eq_true c))];rfl
def ki1(size:Nat)(c:List D):Option D:=ifk (lenIs c size) (some (.lptr c)) none
def ki2(es:List (List D))(size:Nat)(i:Int):Option D:= @Int.casesOn (fun _=>Option D) i (fun n=>obk (nthA n es) (ki1 size)) fun _=>none
def ki3(z:Option D)(size:Nat)(b:D)(es:List (List D)):Option D:=dV z (vI z fun _ i=>ki2 es size i) b
def k_idx(e size:Nat)(ds:List D):Option D:=op2z (x_pk (.idx e size) ds) (fun a b=>dList (x_pk (.idx e size) ds) (ki3 (x_pk (.idx e size) ds) size b) a) ds
theorem k_idx_eq(e size:Nat):k_idx e size=x_pk (.idx e size):=funext fun ds=>op2z_eq fun a b e1=>dList_eq fun es e2=>dV_eq fun v e3=>vI_eq fun k i e4=>by
 subst e1 e2 e3 e4
 show ki2 es size i=(if i<0 then none else(es[i.toNat]?).bind fun c=>if c.length=size then some (D.lptr c)else none).bind fun d=>if d.noT then some d else none
 cases i with
 |ofNat n=>
  show obk (nthA n es) (ki1 size)=_
  rw[if_neg (by rw[Int.ofNat_eq_natCast];omega),obk_eq,nthA_eq]
  show _=((es[n]?).bind _).bind _
  cases es[n]? with
  |none=>rfl
  |some c=>
   rw[Oz,Oz]
   unfold ki1
   rw[lenIs_eq,ifk_eq]
   by_cases h:c.length=size
   ·rw[if_pos h,if_pos (by simp[h])];rfl
   ·rw[if_neg h,if_neg (by simp[h])];rfl
 |negSucc n=>rw[if_pos (by omega)];rfl
def k_fld(off:Nat)(ds:List D):Option D:=op1z (x_pk (.fld off) ds) (dLptr (x_pk (.fld off) ds) fun xs=>dropC off xs fun l=>some (.lptr l)) ds
theorem k_fld_eq(off:Nat):k_fld off=x_pk (.fld off):=funext fun ds=>op1z_eq fun d e=>dLptr_eq fun xs ee=>by
 subst e ee
 rw[dropC_eq];rfl
def k_not(ds:List D):Option D:=op1z (x_pk .inot ds) (dV (x_pk .inot ds) (vB (x_pk .inot ds) fun b=>sB (not b))) ds
theorem k_not_eq:k_not=x_pk .inot:=funext fun ds=>op1z_eq fun d e=>dV_eq fun v e1=>vB_eq fun b e2=>by
 subst e e1 e2
 rw[sB_eq];rfl
def kc1(d:D):Option D:=ifk (fT d) (some d) none
def k_ext(k:Nat)(ds:List D):Option D:=op1z (x_pk (.ext k) ds) (dTup (x_pk (.ext k) ds) fun xs=>obk (nth xs k) kc1) ds
theorem k_ext_eq(k:Nat):k_ext k=x_pk (.ext k):=funext fun ds=>op1z_eq fun d e=>dTup_eq fun xs ee=>by
 subst e ee
 rw[obk_eq,nth_eq]
 show(xs[k]?).bind kc1=(xs[k]?).bind _
 congr 1
 funext d
 unfold kc1
 rw[ifk_eq,fT_eq]
def cell1(n:Nat)(x y:D):Option Bool:=eqCells [n] [x] [y]
def kq2(z:Option Bool)(n:Nat)(k:IntKind)(a:Int)(k':IntKind)(b:Int):Option Bool:=ifk (Nat.beq n (ktn k)) (ifk (Nat.beq n (ktn k')) (some (eqI a b)) z) z
def kq1(z:Option Bool)(n:Nat)(y:D)(k:IntKind)(a:Int):Option Bool:=dV z (vI z (kq2 z n k a)) y
def cellK(n:Nat)(x y:D):Option Bool:=dV (cell1 n x y) (vI (cell1 n x y) (kq1 (cell1 n x y) n y)) x
theorem ktn_eq(k:IntKind):ktn k=kindNo k:=by cases k<;>rfl
theorem cellK_eq(n:Nat)(x y:D):cellK n x y=cell1 n x y:=dV_eq fun v e1=>vI_eq fun k a e2=>dV_eq fun w e3=>vI_eq fun k' b e4=>by
 subst e1 e2 e3 e4
 unfold kq2
 rw[ktn_eq,ktn_eq,nbeq,nbeq,ifk_eq,ifk_eq]
 by_cases h:n=kindNo k
 ·by_cases h':n=kindNo k'
  ·rw[if_pos (by simp[h]),if_pos (by simpa using h')]
   show _=if n=kindNo k∧n=kindNo k' then _ else none
   rw[if_pos ⟨h,h'⟩,eqI_eq]
   simp[eqCells]
  ·rw[if_pos (by simp[h]),if_neg (by simpa using h')]
 ·rw[if_neg (by simpa using h)]
def eqCk(ks:List Nat):List D→List D→Option Bool:= @List.rec Nat (fun _=>List D→List D→Option Bool) (fun xs ys=>xs.casesOn (ys.casesOn (some true) fun _ _=>none) fun _ _=>none)
 (fun n _ ih xs ys=>xs.casesOn none fun x r=>ys.casesOn none fun y s=>obk (cellK n x y) fun a=>obk (ih r s) fun b=>some (ifk a b false)) ks
theorem eqCells_c2(n:Nat)(ks:List Nat)(x:D)(xs:List D)(y:D)(ys:List D):eqCells (n::ks) (x::xs) (y::ys)=(cell1 n x y).bind fun a=>(eqCells ks xs ys).bind fun b=>some (a&&b):=by
 unfold cell1
 have key:eqCells [] [] []=some true:=rfl
 have a: ∀(a:Bool),((eqCells ks xs ys).map fun r=>a&&r)=(eqCells ks xs ys).bind fun b=>some (a&&b):=fun a=>by cases eqCells ks xs ys<;>rfl
 rw[eqCells.eq_def (n::ks),eqCells.eq_def [n]]
 split
 ·rename_i h _ _;cases h
 ·rename_i n0 ks0 k a0 xs0 k' b0 ys0 h1 h2 h3
  cases h1;cases h2;cases h3
  simp only[key,Pz,Bool.and_true]
  split
  ·exact a _
  ·rfl
 ·rename_i h1 h2 h3
  cases h1;cases h2;cases h3
  simp only[key,Pz,Bool.and_true]
  exact a _
 ·rename_i h1 h2 h3
  cases h1;cases h2;cases h3
  simp only[key,Pz,Bool.and_true]
  exact a _
 ·rename_i h0 h1 h2 h3
  split
  ·rename_i h _ _;cases h
  ·rename_i e1 e2 e3;cases e1;cases e2;cases e3;exact(h1 _ _ _ _ _ _ _ _ rfl rfl rfl).elim
  ·rename_i e1 e2 e3;cases e1;cases e2;cases e3;exact(h2 _ _ _ _ _ rfl rfl rfl).elim
  ·rename_i e1 e2 e3;cases e1;cases e2;cases e3;exact(h3 _ _ _ _ _ rfl rfl rfl).elim
  ·rfl
theorem eqCk_eq: ∀(ks:List Nat) (xs ys:List D),eqCk ks xs ys=eqCells ks xs ys
 | [],[],[]=>rfl
 | [],[],_::_=>by simp[eqCells];rfl
 | [],_::_,_=>by simp[eqCells];rfl
 |n::ks,[],_=>by simp[eqCells];rfl
 |n::ks,x::xs,[]=>by simp[eqCells];rfl
 |n::ks,x::xs,y::ys=>by
  show obk (cellK n x y) (fun a=>obk (eqCk ks xs ys) fun b=>some (ifk a b false))=_
  rw[eqCells_c2,obk_eq,cellK_eq,eqCk_eq ks xs ys]
  congr 1
  funext a
  rw[obk_eq]
  congr 1
  funext b
  cases a<;>rfl
def kae(neg:Bool)(r:Bool):Option D:=ifk neg (sB (not r)) (sB r)
def k_aeq(neg:Bool)(ks:List Nat)(ds:List D):Option D:=op2z (x_pk (.aeq neg ks) ds) (fun a b=>dAgg (x_pk (.aeq neg ks) ds) (fun xs=>dAgg (x_pk (.aeq neg ks) ds) (fun ys=>obk (eqCk ks xs ys) (kae neg)) b) a) ds
theorem k_aeq_eq(neg:Bool)(ks:List Nat):k_aeq neg ks=x_pk (.aeq neg ks):=funext fun ds=>op2z_eq fun a b e=>dAgg_eq fun xs e1=>dAgg_eq fun ys e2=>by
 subst e e1 e2
 rw[obk_eq,eqCk_eq]
 show _=((eqCells ks xs ys).map fun r=>bv (if neg then !r else r)).bind fun d=>if d.noT then some d else none
 cases eqCells ks xs ys with
 |none=>rfl
 |some r=>cases neg<;>cases r<;>rfl
def pkK(k:PK):List D→Option D:=match k with
 | .ibin op=>k_bin op
 | .llen=>k_len
 | .load n g=>k_load n g
 | .idx e s=>k_idx e s
 | .fld o=>k_fld o
 | .inot=>k_not
 | .ext k=>k_ext k
 | .aeq n ks=>k_aeq n ks
 |k=>x_pk k
theorem pkK_eq(k:PK):pkK k=x_pk k:=by
 cases k<;>first|rfl|exact k_bin_eq _|exact k_len_eq|exact k_load_eq _ _|exact k_idx_eq _ _|exact k_fld_eq _|exact k_not_eq|exact k_ext_eq _|exact k_aeq_eq _ _
def kce(j n:Nat)(v:Value):Option D:=ifk (Nat.beq n 1) (ifk (Nat.beq j 0) (some (.v v)) none) none
def k_cell(j n:Nat)(ds:List D):Option D:=op1z (x_cell j n ds) (fun d=>dAgg (dV (x_cell j n ds) (kce j n) d) (fun xs=>ifk (okL n xs 0) (nth xs j) none) d) ds
theorem k_cell_eq(j n:Nat):k_cell j n=x_cell j n:=funext fun ds=>op1z_eq fun d e=>by
 subst e
 cases d<;>try rfl
 ·rename_i v
  show kce j n v=if([D.v v].length=n∧ [D.v v].all D.okC=true∧ [D.v v].all D.noTC=true)then [D.v v][j]? else none
  unfold kce
  rw[nbeq,ifk_eq]
  by_cases h:n=1
  ·rw[if_pos (by simp[h]),if_pos ⟨by simp[h],rfl,rfl⟩,nbeq,ifk_eq]
   cases j<;>simp
  ·rw[if_neg (by simp[h]),if_neg (fun c=>h c.1.symm)]
 ·rename_i xs
  show ifk (okL n xs 0) (nth xs j) none=if(xs.length=n∧xs.all D.okC=true∧xs.all D.noTC=true)then xs[j]? else none
  rw[okL_eq,ifk_eq,nth_eq,Nat.zero_add]
  by_cases h:xs.length=n<;>cases xs.all D.okC<;>cases xs.all D.noTC<;>simp[h]
def k_gv(w:Bool)(ds:List D):Option D:=op1z (x_gv w ds) (dV (x_gv w ds) (vB (x_gv w ds) fun b=>ifk b (sB w) (sB (not w)))) ds
theorem k_gv_eq(w:Bool):k_gv w=x_gv w:=funext fun ds=>op1z_eq fun d e=>dV_eq fun v e1=>vB_eq fun b e2=>by
 subst e e1 e2
 cases b<;>cases w<;>rfl
def k_nrm(ds:List D):Option D:=op1z (x_nrm ds) (fun d=>dAgg (dV (dList (x_nrm ds) (fun _=>some d) d) (fun _=>some d) d) (fun xs=>ifk (allF fFl xs) (some d) (x_nrm ds)) d) ds
theorem k_nrm_eq:k_nrm=x_nrm:=funext fun ds=>op1z_eq fun d e=>by
 subst e
 cases d<;>try rfl
 rename_i xs
 show ifk (allF fFl xs) (some (.agg xs)) (x_nrm [.agg xs])=x_nrm [.agg xs]
 rw[allF_eq,fFl_eq,ifk_eq]
 by_cases h:xs.all D.flatC=true
 ·rw[if_pos h]
  have hn:(D.agg xs).noT=true:=by
   show xs.all D.noTC=true
   rw[Tz]at h⊢
   intro x hx
   have:=h x hx
   cases x<;>first|rfl|(simp[D.flatC]at this;done)
  show _=if(D.agg xs).noT then viewA noMem (.agg xs)else none
  rw[if_pos hn]
  show _=(viewRow (viewC noMem 6) xs).map D.agg
  unfold viewRow
  rw[if_pos h];rfl
 ·rw[if_neg h]
def k_nrmC(ds:List D):Option D:=op1z (x_nrmC ds) (fun d=>dV (dList (x_nrmC ds) (fun _=>some d) d) (fun _=>some d) d) ds
theorem k_nrmC_eq:k_nrmC=x_nrmC:=funext fun ds=>op1z_eq fun d e=>by
 subst e
 cases d<;>rfl
def kt1(es:List (List D))(k:Int):Option D:= @Int.casesOn (fun _=>Option D) k (fun n=>takeC (fun _=>true) n es fun l=>some (.list l)) fun _=>none
def k_take(ds:List D):Option D:=op2z (x_take ds) (fun a b=>dList (x_take ds) (fun es=>dV (x_take ds) (vI (x_take ds) fun _ i=>kt1 es i) b) a) ds
theorem k_take_eq:k_take=x_take:=funext fun ds=>op2z_eq fun a b e1=>dList_eq fun es e2=>dV_eq fun v e3=>vI_eq fun k i e4=>by
 subst e1 e2 e3 e4
 show kt1 es i=if 0≤i∧i≤es.length then some (D.list (es.take i.toNat))else none
 cases i with
 |ofNat n=>
  show takeC (fun _=>true) n es _=_
  rw[takeC_eq]
  by_cases h:n≤es.length
  ·rw[if_pos ⟨h,by simp⟩,if_pos ⟨by rw[Int.ofNat_eq_natCast];omega,by rw[Int.ofNat_eq_natCast];omega⟩];rfl
  ·rw[if_neg (fun c=>h c.1),if_neg (fun c=>h (by have:=c.2;rw[Int.ofNat_eq_natCast]at this;omega))]
 |negSucc n=>rw[if_neg (fun c=>by omega)];rfl
def k_agg(ds:List D):Option D:=ifk (allF fTC ds) (some (.agg ds)) none
theorem k_agg_eq:k_agg=x_agg:=funext fun ds=>by
 unfold k_agg x_agg
 rw[allF_eq,fTC_eq,ifk_eq]
def fFU(d:D):Bool:=dAgg (fFl d) (fun ys=>allF fFl ys) d
def fF(d:D):Bool:=dAgg (dTup (fFl d) (fun xs=>allF fFU xs) d) (fun xs=>allF fFl xs) d
theorem fF_eq:fF=D.flat:=by
 funext d
 cases d<;>try rfl
 ·show allF fFl _=_;rw[allF_eq,fFl_eq];rfl
 ·rename_i xs
  show allF fFU xs=_
  rw[allF_eq]
  unfold D.flat
  congr 1
  funext x
  cases x<;>try rfl
  show allF fFl _=_;rw[allF_eq,fFl_eq]
def kr2(fl:Bool)(r b:D):Option D:=ifk (ifk fl (ifk (fF b) true (ifk r.isOwn (fT b) false)) (fT b)) (some b) none
def k_call(G:FP)(fl:Bool)(f:Nat)(ds:List D):Option D:=obk (G f ds) fun r=>kr2 fl r r.bare
theorem k_call_eq(G:FP)(fl:Bool)(f:Nat):k_call G fl f=x_call G fl f:=funext fun ds=>by
 unfold k_call x_call callX
 rw[obk_eq]
 congr 1
 funext r
 unfold kr2
 rw[ifk_eq,fF_eq,fT_eq]
 cases fl<;>cases r.bare.flat<;>cases r.isOwn<;>cases r.bare.noT<;>rfl
def keyEq(ks:List Nat)(x y:D):Option Bool:= @List.casesOn Nat (fun _=>Option Bool) ks none fun n r=>ifk (Nat.beq n 99) (dAgg (eqKey (n::r) x y) (fun xs=>dAgg (eqKey (n::r) x y) (fun ys=>eqCk r xs ys) y) x) (r.casesOn (cellK n x y) fun _ _=>none)
theorem keyEq_eq(ks:List Nat)(x y:D):keyEq ks x y=eqKey ks x y:=by
 cases ks with
 |nil=>rfl
 |cons n r=>
  show ifk (Nat.beq n 99) (dAgg (eqKey (n::r) x y) (fun xs=>dAgg (eqKey (n::r) x y) (fun ys=>eqCk r xs ys) y) x) (r.casesOn (cellK n x y) fun _ _=>none)=_
  rw[nbeq,ifk_eq]
  by_cases h:n=99
  ·subst h
   rw[if_pos (by simp)]
   exact dAgg_eq fun xs e1=>dAgg_eq fun ys e2=>by subst e1 e2;rw[eqCk_eq];rfl
  ·rw[if_neg (by simpa using h)]
   cases r with
   |nil=>
    show cellK n x y=_
    rw[cellK_eq]
    unfold cell1
    simp[eqKey,h]
   |cons m s=>
    show(none:Option Bool)=_
    simp[eqKey,h]
def row2{α:Type}(z:α)(f:D→D→α)(c:List D):α:= @List.casesOn D (fun _=>α) c z fun a r=> @List.casesOn D (fun _=>α) r z fun b s=> @List.casesOn D (fun _=>α) s (f a b) fun _ _=>z
def rows2(l:List (List D)):Bool:= @List.rec (List D) (fun _=>Bool) true (fun c _ ih=>row2 false (fun _ _=>ih) c) l
def getS(ks:List Nat)(k:D)(l:List (List D)):Option (Option D):= @List.rec (List D) (fun _=>Option (Option D)) (some none) (fun c r ih=>row2 none (fun a b=>obk (keyEq ks k a) fun e=>ifk e (ifk (rows2 r) (some (some b)) none) ih) c) l
def setS(ks:List Nat)(k v:D)(l:List (List D)):Option (List (List D)):= @List.rec (List D) (fun _=>Option (List (List D))) (some [[k,v]]) (fun c r ih=>row2 none (fun a _=>obk (keyEq ks k a) fun e=>ifk e (ifk (rows2 r) (some ([a,v]::r)) none) (obk ih fun t=>some (c::t))) c) l
theorem row2_eq{α:Type}{z:α}{f:D→D→α}{c:List D}:(∃a b,c= [a,b]∧row2 z f c=f a b)∨(∀a b,c≠ [a,b])∧row2 z f c=z:=by
 rcases c with _|⟨a,_|⟨b,_|⟨d,s⟩⟩⟩
 ·exact .inr ⟨fun a b h=>by simp at h,rfl⟩
 ·exact .inr ⟨fun a b h=>by simp at h,rfl⟩
 ·exact .inl ⟨a,b,rfl,rfl⟩
 ·exact .inr ⟨fun a b h=>by simp at h,rfl⟩
theorem unpair_bad{c:List D}{r:List (List D)}(h: ∀a b,c≠ [a,b]):unpairR (c::r)=none:=by
 rcases c with _|⟨a,_|⟨b,_|⟨d,s⟩⟩⟩<;>first|rfl|exact absurd rfl (h _ _)
theorem rows2_eq: ∀(l:List (List D)),rows2 l=(unpairR l).isSome
 | []=>rfl
 |c::r=>by
  show row2 false (fun _ _=>rows2 r) c=_
  rcases row2_eq (z:=false) (f:=fun _ _=>rows2 r) (c:=c)with⟨a,b,rfl,h⟩|⟨h1,h⟩
  ·rw[h,rows2_eq r];simp[unpairR]
  ·rw[h,unpair_bad h1];rfl
theorem findV_ge{ks:List Nat}{k:D}: ∀{es:List (D×D)} {j i:Nat},findV ks k es j=some (some i)→j≤i
 | [],_,_,h=>by simp[findV]at h
 |p::r,j,i,h=>by
  simp only[findV,Bz]at h
  obtain⟨b,_,h⟩:=h
  cases b with
  |true=>simp at h;omega
  |false=>have:=findV_ge (by simpa using h);omega
theorem getS_eq{ks:List Nat}{k:D}: ∀{l:List (List D)} {es:List (D×D)} {j:Nat},unpairR l=some es→getS ks k l=(findV ks k es j).bind fun r=>match r with
  |none=>some none
  |some i=>(es[i-j]?).map fun p=>some p.2
 | [],es,j,h=>by cases h;rfl
 |c::r,es,j,h=>by
  show row2 none (fun a b=>obk (keyEq ks k a) fun e=>ifk e (ifk (rows2 r) (some (some b)) none) (getS ks k r)) c=_
  rcases row2_eq (z:=none) (f:=fun a b=>obk (keyEq ks k a) fun e=>ifk e (ifk (rows2 r) (some (some b)) none) (getS ks k r)) (c:=c)with⟨a,b,rfl,h1⟩|⟨h1,_⟩
  ·rw[h1]
   obtain⟨es',h2,rfl⟩:=Mz.1 (show(unpairR r).map ((a,b):: ·)=some es from h)
   rw[obk_eq,keyEq_eq,rows2_eq,h2]
   simp only[findV,Option.bind_assoc]
   congr 1
   funext e
   cases e with
   |true=>simp[ifk]
   |false=>
    rw[ifk_eq,if_neg (by simp),if_neg (by simp),getS_eq (j:=j+1) h2]
    cases hf:findV ks k es' (j+1)with
    |none=>rfl
    |some o=>
     cases o with
     |none=>rfl
     |some i=>
      have:=findV_ge hf
      simp only[Oz]
      rw[show i-j=(i-(j+1))+1 by omega,List.getElem?_cons_succ]
  ·rw[unpair_bad h1]at h;cases h
theorem getS_none{ks:List Nat}{k:D}: ∀{l:List (List D)},unpairR l=none→getS ks k l=none
 | [],h=>by cases h
 |c::r,h=>by
  show row2 none (fun a b=>obk (keyEq ks k a) fun e=>ifk e (ifk (rows2 r) (some (some b)) none) (getS ks k r)) c=_
  rcases row2_eq (z:=none) (f:=fun a b=>obk (keyEq ks k a) fun e=>ifk e (ifk (rows2 r) (some (some b)) none) (getS ks k r)) (c:=c)with⟨a,b,rfl,h1⟩|⟨_,h1⟩
  ·rw[h1]
   have h2:unpairR r=none:=by
    cases hr:unpairR r with
    |none=>rfl
    |some es=>simp[unpairR,hr]at h
   rw[obk_eq,rows2_eq,h2,getS_none h2]
   cases keyEq ks k a with
   |none=>rfl
   |some e=>cases e<;>rfl
  ·exact h1
theorem setS_eq{ks:List Nat}{k v:D}: ∀{l:List (List D)} {es:List (D×D)} {j:Nat},unpairR l=some es→setS ks k v l=(findV ks k es j).bind fun r=>match r with
  |none=>some (pairR (es++ [(k,v)]))
  |some i=>(es[i-j]?).map fun p=>pairR (es.set (i-j) (p.1,v))
 | [],es,j,h=>by cases h;rfl
 |c::r,es,j,h=>by
  show row2 none (fun a _=>obk (keyEq ks k a) fun e=>ifk e (ifk (rows2 r) (some ([a,v]::r)) none) (obk (setS ks k v r) fun t=>some (c::t))) c=_
  rcases row2_eq (z:=none) (f:=fun a _=>obk (keyEq ks k a) fun e=>ifk e (ifk (rows2 r) (some ([a,v]::r)) none) (obk (setS ks k v r) fun t=>some (c::t))) (c:=c)with⟨a,b,rfl,h1⟩|⟨h1,_⟩
  ·rw[h1]
   obtain⟨es',h2,rfl⟩:=Mz.1 (show(unpairR r).map ((a,b):: ·)=some es from h)
   have h3:pairR es'=r:=by
    have: ∀{r:List (List D)} {es:List (D×D)},unpairR r=some es→pairR es=r:=by
     intro r
     induction r with
     |nil=>intro es h;cases h;rfl
     |cons c r ih=>
      intro es h
      rcases row2_eq (z:=0) (f:=fun _ _=>1) (c:=c)with⟨a,b,rfl,_⟩|⟨h1,_⟩
      ·obtain⟨es',h2,rfl⟩:=Mz.1 (show(unpairR r).map ((a,b):: ·)=some es from h)
       show [a,b]::pairR es'=_
       rw[ih h2]
      ·rw[unpair_bad h1]at h;cases h
    exact this h2
   rw[obk_eq,keyEq_eq,rows2_eq,h2]
   simp only[findV,Option.bind_assoc]
   congr 1
   funext e
   cases e with
   |true=>simp[ifk,pairR]at h3⊢;exact h3.symm
   |false=>
    rw[ifk_eq,if_neg (by simp),if_neg (by simp),obk_eq,setS_eq (j:=j+1) h2]
    cases hf:findV ks k es' (j+1)with
    |none=>rfl
    |some o=>
     cases o with
     |none=>rfl
     |some i=>
      have:=findV_ge hf
      simp only[Oz]
      rw[show i-j=(i-(j+1))+1 by omega,List.getElem?_cons_succ]
      cases es'[i-(j+1)]? with
      |none=>rfl
      |some p=>rfl
  ·rw[unpair_bad h1]at h;cases h
theorem setS_none{ks:List Nat}{k v:D}: ∀{l:List (List D)},unpairR l=none→setS ks k v l=none
 | [],h=>by cases h
 |c::r,h=>by
  show row2 none (fun a _=>obk (keyEq ks k a) fun e=>ifk e (ifk (rows2 r) (some ([a,v]::r)) none) (obk (setS ks k v r) fun t=>some (c::t))) c=_
  rcases row2_eq (z:=none) (f:=fun a _=>obk (keyEq ks k a) fun e=>ifk e (ifk (rows2 r) (some ([a,v]::r)) none) (obk (setS ks k v r) fun t=>some (c::t))) (c:=c)with⟨a,b,rfl,h1⟩|⟨_,h1⟩
  ·rw[h1]
   have h2:unpairR r=none:=by
    cases hr:unpairR r with
    |none=>rfl
    |some es=>simp[unpairR,hr]at h
   rw[obk_eq,rows2_eq,h2,setS_none h2]
   cases keyEq ks k a with
   |none=>rfl
   |some e=>cases e<;>rfl
  ·exact h1
def okKey(ks:List Nat)(k:D):Bool:=ifk k.okM (@Option.rec Bool (fun _=>Bool) false (fun b=>b) (keyEq ks k k)) false
theorem okKey_eq(ks:List Nat)(k:D):okKey ks k=decide (k.okM=true∧eqKey ks k k=some true):=by
 unfold okKey
 rw[ifk_eq,keyEq_eq]
 cases k.okM<;>cases h:eqKey ks k k with
 |none=>simp
 |some b=>cases b<;>simp
def kmg(z:D)(ok:Bool)(o:Option D):Option D:= @Option.rec D (fun _=>Option D) (ifk ok (kc1 (.tup [z,bv false])) (kc1 z)) (fun b=>ifk ok (kc1 (.tup [b,bv true])) (kc1 b)) o
def k_mget(ks:List Nat)(z:D)(ok:Bool)(ds:List D):Option D:=op2z (x_mget ks z ok ds) (fun a k=>dList (x_mget ks z ok ds) (fun rows=>ifk (okKey ks k) (obk (getS ks k rows) (kmg z ok)) none) a) ds
theorem k_mget_eq(ks:List Nat)(z:D)(ok:Bool):k_mget ks z ok=x_mget ks z ok:=funext fun ds=>op2z_eq fun a k e=>dList_eq fun rows e1=>by
 subst e e1
 rw[ifk_eq,okKey_eq]
 show _=(unpairR rows).bind fun es=>(mgetV ks z ok es k).bind fun d=>if d.noT then some d else none
 have hk: ∀d,kc1 d=if d.noT then some d else none:=fun d=>by unfold kc1;rw[ifk_eq,fT_eq]
 cases h:unpairR rows with
 |none=>rw[getS_none h];split<;>rfl
 |some es=>
  rw[getS_eq (j:=0) h]
  simp only[Oz]
  unfold mgetV
  by_cases hc:k.okM=true∧eqKey ks k k=some true
  ·rw[if_pos (by simpa using hc),if_pos hc,obk_eq,Option.bind_assoc,Option.bind_assoc]
   congr 1
   funext r
   cases r with
   |none=>
    show kmg z ok none=_
    unfold kmg
    simp only[]
    rw[ifk_eq,hk,hk]
    cases ok<;>simp
   |some i=>
    simp only[Nat.sub_zero]
    cases es[i]? with
    |none=>rfl
    |some p=>
     show kmg z ok (some p.2)=_
     unfold kmg
     simp only[]
     rw[ifk_eq,hk,hk]
     cases ok<;>simp
  ·rw[if_neg (by simpa using hc),if_neg hc];rfl
def k_mset(ks:List Nat)(ds:List D):Option D:= @List.casesOn D (fun _=>Option D) ds none fun a r=>op2z (x_mset ks ds) (fun k v=>dList (x_mset ks ds) (fun rows=>ifk (Nat.blt (lenF rows 0) 1048576) (ifk (ifk v.okM (okKey ks k) false) (obk (setS ks k v rows) fun t=>some (.list t)) none) (x_mset ks ds)) a) r
theorem unpair_len: ∀{l:List (List D)} {es:List (D×D)},unpairR l=some es→es.length=l.length
 | [],es,h=>by cases h;rfl
 |c::r,es,h=>by
  rcases row2_eq (z:=0) (f:=fun _ _=>1) (c:=c)with⟨a,b,rfl,_⟩|⟨h1,_⟩
  ·obtain⟨es',h2,rfl⟩:=Mz.1 (show(unpairR r).map ((a,b):: ·)=some es from h)
   simp[unpair_len h2]
  ·rw[unpair_bad h1]at h;cases h
theorem k_mset_eq(ks:List Nat):k_mset ks=x_mset ks:=funext fun ds=>by
 cases ds with
 |nil=>rfl
 |cons a r=>
  show op2z (x_mset ks (a::r)) (fun k v=>dList (x_mset ks (a::r)) (fun rows=>ifk (Nat.blt (lenF rows 0) 1048576) (ifk (ifk v.okM (okKey ks k) false) (obk (setS ks k v rows) fun t=>some (.list t)) none) (x_mset ks (a::r))) a) r=_
  refine op2z_eq fun k v e=>dList_eq fun rows e1=> ?_
  subst e e1
  rw[ifk_eq,lenF_eq,Nat.zero_add]
  split
  rotate_left
  ·rfl
  rename_i hlen
  have hlen:rows.length<1048576:=by simpa[Nat.blt_eq]using hlen
  rw[ifk_eq,ifk_eq,okKey_eq]
  show _=(unpairR rows).bind fun es=>(msetV ks es k v).map fun es=>D.list (pairR es)
  cases h:unpairR rows with
  |none=>rw[setS_none h];cases v.okM<;>simp[obk]
  |some es=>
   have hl:=unpair_len h
   rw[setS_eq (j:=0) h]
   simp only[Oz]
   unfold msetV
   by_cases hv:v.okM=true
   ·by_cases hc:k.okM=true∧eqKey ks k k=some true
    ·rw[if_pos (by simp[hv,hc]),if_pos ⟨hv,hc⟩,obk_eq,Option.bind_assoc,Option.map_bind]
     congr 1
     funext r
     cases r with
     |none=>
      simp only[Oz,Function.comp_def]
      rw[if_pos (show es.length<maxMade from by rw[hl];exact hlen)]
      rfl
     |some i=>
      simp only[Nat.sub_zero,Function.comp_def]
      cases es[i]? with
      |none=>rfl
      |some p=>rfl
    ·rw[if_neg (by simp[hv,hc]),if_neg (fun h=>hc h.2)];rfl
   ·rw[if_neg (by simp[hv]),if_neg (fun h=>hv h.1)];rfl
def runK(G:FP)(k:XK):List D→Option D:=match k with
 | .pk k=>pkK k
 | .call fl f=>k_call G fl f
 | .cell j n=>k_cell j n
 | .gv w=>k_gv w
 | .nrm=>k_nrm
 | .nrmC=>k_nrmC
 | .take=>k_take
 | .agg=>k_agg
 | .mget ks z ok=>k_mget ks z ok
 | .mset ks=>k_mset ks
 |k=>runF G k
theorem runK_eq(G:FP)(k:XK):runK G k=runF G k:=by
 cases k<;>first|rfl|exact pkK_eq _|exact k_call_eq _ _ _|exact k_cell_eq _ _|exact k_gv_eq _|exact k_nrm_eq|exact k_nrmC_eq|exact k_take_eq|exact k_agg_eq|exact k_mget_eq _ _ _|exact k_mset_eq _
end
noncomputable section
def asB{α:Type}(v:D)(a b:Option α):Option α:=dV none (vB none fun x=>ifk x a b) v
theorem asB_eq{α:Type}(v:D)(a b:Option α):asB v a b=v.asBool.bind fun x=>bif x then a else b:=by
 cases v<;>try rfl
 rename_i v
 cases v<;>try rfl
 rename_i x
 cases x<;>rfl
def revA(l:List D):List D→List D:= @List.rec D (fun _=>List D→List D) (fun acc=>acc) (fun a _ ih acc=>ih (a::acc)) l
theorem revA_eq: ∀(l acc:List D),revA l acc=l.reverse++acc
 | [],_=>rfl
 |a::r,acc=>by
  show revA r (a::acc)=_
  rw[revA_eq r,List.reverse_cons,List.append_assoc];rfl
def kx(G:FP)(x:X):Nat→List D→Option D:=
 @X.rec (fun _=>Nat→List D→Option D) (fun _=>Nat→List D→Option (List D)) (fun i n E=>ifk (Nat.blt i n) (nth E (Nat.sub (Nat.sub n 1) i)) none) (fun d _ _=>some d) (fun k _ ih n E=>obk (ih n E) (runK G k))
  (fun _ _ _ hc ha hb n E=>obk (hc n E) fun v=>asB v (ha n E) (hb n E)) (fun _ _=>some []) (fun _ _ hx hr n E=>obk (hx n E) fun d=>obk (hr n E) fun ds=>some (d::ds)) x
def kxs(G:FP)(xs:List X):Nat→List D→Option (List D):=
 @X.rec_1 (fun _=>Nat→List D→Option D) (fun _=>Nat→List D→Option (List D)) (fun i n E=>ifk (Nat.blt i n) (nth E (Nat.sub (Nat.sub n 1) i)) none) (fun d _ _=>some d) (fun k _ ih n E=>obk (ih n E) (runK G k))
  (fun _ _ _ hc ha hb n E=>obk (hc n E) fun v=>asB v (ha n E) (hb n E)) (fun _ _=>some []) (fun _ _ hx hr n E=>obk (hx n E) fun d=>obk (hr n E) fun ds=>some (d::ds)) xs
mutual
theorem kx_eq(G:FP)(E:List D): ∀(x:X),kx G x E.length E.reverse=evx G x E
 | .t i=>by
  show ifk (Nat.blt i E.length) (nth E.reverse (E.length-1-i)) none=nth E i
  rw[nth_eq,nth_eq,ifk_eq]
  by_cases h:i<E.length
  ·rw[if_pos (by simpa[Nat.blt_eq]using h),List.getElem?_reverse (by omega)]
   congr 1
   omega
  ·rw[if_neg (by simpa[Nat.blt_eq]using h)]
   simp at h⊢;omega
 | .q _=>rfl
 | .mk k xs=>by
  show obk (kxs G xs E.length E.reverse) (runK G k)=(evxs G xs E).bind (runF G k)
  rw[kxs_eq G E xs,obk_eq,runK_eq]
 | .ite c a b=>by
  show obk (kx G c E.length E.reverse) (fun v=>asB v (kx G a E.length E.reverse) (kx G b E.length E.reverse))=(evx G c E).bind fun v=>v.asBool.bind fun x=>bif x then evx G a E else evx G b E
  rw[kx_eq G E c,kx_eq G E a,kx_eq G E b,obk_eq]
  congr 1
  funext v
  exact asB_eq _ _ _
theorem kxs_eq(G:FP)(E:List D): ∀(xs:List X),kxs G xs E.length E.reverse=evxs G xs E
 | []=>rfl
 |x::r=>by
  show obk (kx G x E.length E.reverse) (fun d=>obk (kxs G r E.length E.reverse) fun ds=>some (d::ds))=(evx G x E).bind fun d=>(evxs G r E).bind fun ds=>some (d::ds)
  rw[kx_eq G E x,kxs_eq G E r,obk_eq]
  congr 1
  funext d
  exact obk_eq _ _
end
def itK{α β:Type}(F:(α→Option β)→α→Option β)(N:Nat):α→Option β:= @Nat.rec (fun _=>α→Option β) (fun _=>none) (fun _ ih=>F ih) N
theorem itK_eq{α β:Type}(F:(α→Option β)→α→Option β): ∀N,itK F N=iter F N
 |0=>rfl
 |n+1=>by
  show F (itK F n)=F (iter F n)
  rw[itK_eq F n]
def tagK(x:X)(d:D):D:=ifk (fF d) d (tagN x d)
theorem tagK_eq(x:X)(d:D):tagK x d=tagN x d:=by
 unfold tagK
 rw[ifk_eq,fF_eq]
 split
 ·unfold tagN;rw[if_pos (by assumption)]
 ·rfl
def kRet(x:X)(d:D):Option D:=ifk (fT d) (some (tagK x d)) none
def kIn(f:Nat→List D→Option D)(n:Nat)(E vs:List D):Option D:=fcN (lenF vs n) fun m=>f m (revA vs E)
def kf(G:FP)(N:Nat)(t:FT):List (List D→Option D)→Nat→List D→Option D:=
 @FT.rec (fun _=>List (List D→Option D)→Nat→List D→Option D)
  (fun x _ n E=>obk (kx G x n E) (kRet x))
  (fun xs _ ih L n E=>obk (kxs G xs n E) fun _=>ih L n E)
  (fun xs _ ih L n E=>obk (kxs G xs n E) (kIn (ih L) n E))
  (fun c _ _ ha hb L n E=>obk (kx G c n E) fun v=>asB v (ha L n E) (hb L n E))
  (fun xs _ ih L n E=>obk (kxs G xs n E) (itK (fun rec vs=>kIn (ih (rec::L)) n E vs) N))
  (fun j xs L n E=>obk (kxs G xs n E) fun ds=>obk (nthA j L) fun f=>f ds)
  (fun _ _ hk hb L n E=>hb (kIn (hk L) n E::L) n E)
  (fun _ _ _ _=>none) (fun _ _ _ _ _=>none) t
theorem kIn_eq(f:Nat→List D→Option D)(g:List D→Option D)(h: ∀E:List D,f E.length E.reverse=g E)(E vs:List D):kIn f E.length E.reverse vs=g (E++vs):=by
 unfold kIn
 rw[fcN_eq,lenF_eq,revA_eq,←h (E++vs),List.length_append,List.reverse_append]
theorem kf_eq(G:FP)(N:Nat): ∀(t:FT) (L:List (List D→Option D)) (E:List D),kf G N t L E.length E.reverse=evf G N t L E:=by
 intro t
 induction t with
 |ret x=>
  intro L E
  show obk (kx G x E.length E.reverse) (kRet x)=(evx G x E).bind fun d=>bif d.noT then some (tagN x d)else none
  rw[kx_eq,obk_eq]
  congr 1
  funext d
  unfold kRet
  rw[fT_eq,tagK_eq]
  cases d.noT<;>rfl
 |chk xs k ih=>
  intro L E
  show obk (kxs G xs E.length E.reverse) (fun _=>kf G N k L E.length E.reverse)=(evxs G xs E).bind fun _=>evf G N k L E
  rw[kxs_eq,obk_eq,ih]
 |lets xs k ih=>
  intro L E
  show obk (kxs G xs E.length E.reverse) (kIn (kf G N k L) E.length E.reverse)=(evxs G xs E).bind fun ds=>evf G N k L (E++ds)
  rw[kxs_eq,obk_eq]
  congr 1
  funext ds
  exact kIn_eq _ _ (ih L) E ds
 |ite c a b iha ihb=>
  intro L E
  show obk (kx G c E.length E.reverse) (fun v=>asB v (kf G N a L E.length E.reverse) (kf G N b L E.length E.reverse))=(evx G c E).bind fun v=>v.asBool.bind fun x=>bif x then evf G N a L E else evf G N b L E
  rw[kx_eq,obk_eq,iha,ihb]
  congr 1
  funext v
  exact asB_eq _ _ _
 |loop xs k ih=>
  intro L E
  show obk (kxs G xs E.length E.reverse) (itK (fun rec vs=>kIn (kf G N k (rec::L)) E.length E.reverse vs) N)=(evxs G xs E).bind fun ds=>iter (fun rec vs=>evf G N k (rec::L) (E++vs)) N ds
  rw[kxs_eq,obk_eq,itK_eq]
  have e:(fun(rec:List D→Option D) vs=>kIn (kf G N k (rec::L)) E.length E.reverse vs)=fun rec vs=>evf G N k (rec::L) (E++vs):=by
   funext rec vs
   exact kIn_eq _ _ (ih (rec::L)) E vs
  rw[e]
 |next j xs=>
  intro L E
  show obk (kxs G xs E.length E.reverse) (fun ds=>obk (nthA j L) fun f=>f ds)=(evxs G xs E).bind fun ds=>(L[j]?).bind fun f=>f ds
  rw[kxs_eq,obk_eq]
  congr 1
  funext ds
  rw[obk_eq,nthA_eq]
 |jp k b ihk ihb=>
  intro L E
  show kf G N b (kIn (kf G N k L) E.length E.reverse::L) E.length E.reverse=evf G N b ((fun vs=>evf G N k L (E++vs))::L) E
  have e:kIn (kf G N k L) E.length E.reverse=fun vs=>evf G N k L (E++vs):=by
   funext vs
   exact kIn_eq _ _ (ihk L) E vs
  rw[ihb,e]
 |st Y=>intro L E;rfl
 |bad w Y=>intro L E;rfl
def kCall(G:FP)(N f:Nat)(ds:List D)(q:Nat×FT):Option D:=ifk (Nat.beq (lenF ds 0) q.1) (ifk (allF fT ds) (ifk (Nat.blt f 1000000) (fcN (lenF ds 0) fun m=>kf G N q.2 [] m (revA ds [])) none) none) none
def evK(T:Nat→Option (Nat×FT))(H:FP)(N k:Nat):FP:=
 @Nat.rec (fun _=>FP) (fun _ _=>none) (fun _ ih f ds=> @Option.rec D (fun _=>Option D) (obk (T f) (kCall ih N f ds)) some (H f ds)) k
theorem evK_eq(T:Nat→Option (Nat×FT))(H:FP)(N:Nat): ∀k,evK T H N k=evG T H N k
 |0=>rfl
 |k+1=>by
  funext f ds
  show @Option.rec D (fun _=>Option D) (obk (T f) (kCall (evK T H N k) N f ds)) some (H f ds)=(H f ds).casesOn ((T f).bind fun q=>bif Nat.beq ds.length q.1&&ds.all D.noT&&Nat.blt f 1000000 then evf (evG T H N k) N q.2 [] ds else none) some
  rw[obk_eq,evK_eq T H N k]
  congr 1
  congr 1
  funext q
  unfold kCall
  have h:=kf_eq (evG T H N k) N q.2 [] ds
  rw[fcN_eq,lenF_eq,Nat.zero_add,revA_eq,List.append_nil,h,allF_eq,fT_eq]
  cases Nat.beq ds.length q.1<;>cases ds.all D.noT<;>cases Nat.blt f 1000000<;>rfl
def beqVK(x y:Value):Bool:=vI (beqVal x y) (fun k a=>vI (beqVal x y) (fun k' b=>ifk (eqKd k k') (eqI a b) false) y) x
theorem beqVK_eq{x y:Value}(h:beqVK x y=true):x=y:=by
 have key:beqVK x y=beqVal x y:=vI_eq fun k a e1=>vI_eq fun k' b e2=>by
  subst e1 e2
  rw[eqKd_eq,eqI_eq,ifk_eq]
  show _=decide (k=k'∧a=b)
  by_cases h:k=k'<;>by_cases h2:a=b<;>simp[h,h2]
 rw[key]at h
 exact beqVal_eq h
def dClo{α:Type}(z:α)(f:Nat→List D→α)(d:D):α:= @D.casesOn (fun _=>α) d z (fun _=>z) z z (fun _=>z) (fun _=>z) (fun _=>z) (fun _=>z) f (fun _ _ _ _ _=>z) (fun _ _=>z) (fun _ _ _ _=>z) (fun _=>z) z (fun _=>z)
def isNi(d:D):Bool:= @D.casesOn (fun _=>Bool) d false (fun _=>false) true false (fun _=>false) (fun _=>false) (fun _=>false) (fun _=>false) (fun _ _=>false) (fun _ _ _ _ _=>false) (fun _ _=>false) (fun _ _ _ _=>false) (fun _=>false) false (fun _=>false)
def isMt(d:D):Bool:= @D.casesOn (fun _=>Bool) d false (fun _=>false) false true (fun _=>false) (fun _=>false) (fun _=>false) (fun _=>false) (fun _ _=>false) (fun _ _ _ _ _=>false) (fun _ _=>false) (fun _ _ _ _=>false) (fun _=>false) false (fun _=>false)
def isNm(d:D):Bool:= @D.casesOn (fun _=>Bool) d false (fun _=>false) false false (fun _=>false) (fun _=>false) (fun _=>false) (fun _=>false) (fun _ _=>false) (fun _ _ _ _ _=>false) (fun _ _=>false) (fun _ _ _ _=>false) (fun _=>false) true (fun _=>false)
def beqK(a:D):D→Bool:=
 @D.rec (fun _=>D→Bool) (fun _=>List (List D)→Bool) (fun _=>List D→Bool) (fun _=>false) (fun x=>dV false (beqVK x)) isNi isMt (fun _ ih=>dList false ih) (fun _ ih=>dAgg false ih) (fun _ ih=>dTup false ih) (fun _ ih=>dLptr false ih)
  (fun f _ ih=>dClo false fun g ys=>ifk (Nat.beq f g) (ih ys) false) (fun _ _ _ _ _ _=>false) (fun _ _ _=>false) (fun _ _ _ _ _=>false) (fun _ _=>false) isNm (fun _ _ _=>false)
  (fun b=>b.casesOn true fun _ _=>false) (fun _ _ h t b=>b.casesOn false fun y s=>ifk (h y) (t s) false) (fun b=>b.casesOn true fun _ _=>false) (fun _ _ h t b=>b.casesOn false fun y s=>ifk (h y) (t s) false) a
def beqKss(a:List (List D)):List (List D)→Bool:=
 @D.rec_1 (fun _=>D→Bool) (fun _=>List (List D)→Bool) (fun _=>List D→Bool) (fun _=>false) (fun x=>dV false (beqVK x)) isNi isMt (fun _ ih=>dList false ih) (fun _ ih=>dAgg false ih) (fun _ ih=>dTup false ih) (fun _ ih=>dLptr false ih)
  (fun f _ ih=>dClo false fun g ys=>ifk (Nat.beq f g) (ih ys) false) (fun _ _ _ _ _ _=>false) (fun _ _ _=>false) (fun _ _ _ _ _=>false) (fun _ _=>false) isNm (fun _ _ _=>false)
  (fun b=>b.casesOn true fun _ _=>false) (fun _ _ h t b=>b.casesOn false fun y s=>ifk (h y) (t s) false) (fun b=>b.casesOn true fun _ _=>false) (fun _ _ h t b=>b.casesOn false fun y s=>ifk (h y) (t s) false) a
def beqKs(a:List D):List D→Bool:=
 @D.rec_2 (fun _=>D→Bool) (fun _=>List (List D)→Bool) (fun _=>List D→Bool) (fun _=>false) (fun x=>dV false (beqVK x)) isNi isMt (fun _ ih=>dList false ih) (fun _ ih=>dAgg false ih) (fun _ ih=>dTup false ih) (fun _ ih=>dLptr false ih)
  (fun f _ ih=>dClo false fun g ys=>ifk (Nat.beq f g) (ih ys) false) (fun _ _ _ _ _ _=>false) (fun _ _ _=>false) (fun _ _ _ _ _=>false) (fun _ _=>false) isNm (fun _ _ _=>false)
  (fun b=>b.casesOn true fun _ _=>false) (fun _ _ h t b=>b.casesOn false fun y s=>ifk (h y) (t s) false) (fun b=>b.casesOn true fun _ _=>false) (fun _ _ h t b=>b.casesOn false fun y s=>ifk (h y) (t s) false) a
theorem and_ifk{a b:Bool}(h:ifk a b false=true):a=true∧b=true:=by cases a<;>cases b<;>first|exact⟨rfl,rfl⟩|cases h
mutual
theorem beqK_eq: ∀{a b:D},beqK a b=true→a=b
 | .undef,_,h=>by cases h
 | .v x,b,h=>by
  cases b<;>try (cases h;done)
  exact congrArg _ (beqVK_eq h)
 | .nil,b,h=>by cases b<;>first|rfl|cases h
 | .mt,b,h=>by cases b<;>first|rfl|cases h
 | .nilmap,b,h=>by cases b<;>first|rfl|cases h
 | .list es,b,h=>by
  cases b<;>try (cases h;done)
  exact congrArg _ (beqKss_eq (a:=es) h)
 | .agg es,b,h=>by
  cases b<;>try (cases h;done)
  exact congrArg _ (beqKs_eq (a:=es) h)
 | .tup es,b,h=>by
  cases b<;>try (cases h;done)
  exact congrArg _ (beqKs_eq (a:=es) h)
 | .lptr es,b,h=>by
  cases b<;>try (cases h;done)
  exact congrArg _ (beqKs_eq (a:=es) h)
 | .clo f es,b,h=>by
  cases b<;>try (cases h;done)
  rename_i g ys
  replace h:ifk (Nat.beq f g) (beqKs es ys) false=true:=h
  rw[Nat.eq_of_beq_eq_true (and_ifk h).1,beqKs_eq (and_ifk h).2]
 | .sl ..,_,h=>by cases h
 | .ptr ..,_,h=>by cases h
 | .rptr ..,_,h=>by cases h
 | .mp ..,_,h=>by cases h
 | .fm ..,_,h=>by cases h
theorem beqKs_eq: ∀{a b:List D},beqKs a b=true→a=b
 | [],[],_=>rfl
 | [],_::_,h=>by cases h
 |_::_,[],h=>by cases h
 |x::r,y::s,h=>by
  replace h:ifk (beqK x y) (beqKs r s) false=true:=h
  rw[beqK_eq (and_ifk h).1,beqKs_eq (and_ifk h).2]
theorem beqKss_eq: ∀{a b:List (List D)},beqKss a b=true→a=b
 | [],[],_=>rfl
 | [],_::_,h=>by cases h
 |_::_,[],h=>by cases h
 |x::r,y::s,h=>by
  replace h:ifk (beqKs x y) (beqKss r s) false=true:=h
  rw[beqKs_eq (and_ifk h).1,beqKss_eq (and_ifk h).2]
end
end
section
namespace Ty
theorem nr{α:Type}{a b:α}(h:a=b):a=b:=h
def ob{α β:Type}(x:Option α)(f:α→Option β):Option β:=x.bind f
@[congr] theorem ob_cg{α β:Type}{x y:Option α}{f:α→Option β}(h:x=y):ob x f=ob y f:=by rw[h]
@[simp] theorem ob_s{α β:Type}{a:α}{f:α→Option β}:ob (some a) f=f a:=nr rfl
@[simp] theorem ob_n{α β:Type}{f:α→Option β}:ob none f=none:=nr rfl
@[simp] theorem ob_b{α β γ:Type}{x:Option α}{g:α→Option β}{f:β→Option γ}:ob (x.bind g) f=ob x fun a=>ob (g a) f:=by cases x<;>rfl
section
variable {G : FP} {N : Nat} {E : List D} {L : List (List D → Option D)}
@[simp] theorem ft_ret{x:X}:evalFT G N (.ret x) L E=ob (X.ev G E x) fun d=>if d.noT then some (tagN x d)else none:=nr rfl
@[simp] theorem ft_chk{xs:List X}{k:FT}:evalFT G N (.chk xs k) L E=ob (X.evs G E xs) fun _=>evalFT G N k L E:=nr rfl
@[simp] theorem ft_lets{xs:List X}{k:FT}:evalFT G N (.lets xs k) L E=ob (X.evs G E xs) fun ds=>evalFT G N k L (E++ds):=nr rfl
@[simp] theorem ft_ite{c:X}{a b:FT}:evalFT G N (.ite c a b) L E=ob (X.ev G E c) fun v=>ob v.asBool fun x=>if x=true then evalFT G N a L E else evalFT G N b L E:=by
 simp only[evalFT,ob];congr 1;funext v;congr 1;funext x;cases x<;>rfl
@[simp] theorem ft_next{j:Nat}{xs:List X}:evalFT G N (.next j xs) L E=ob (X.evs G E xs) fun ds=>ob (L[j]?) fun f=>f ds:=nr rfl
@[simp] theorem ft_jp{k b:FT}:evalFT G N (.jp k b) L E=evalFT G N b ((fun vs=>evalFT G N k L (E++vs))::L) E:=nr rfl
@[simp] theorem x_t{i:Nat}:X.ev G E (.t i)=E[i]?:=nr rfl
@[simp] theorem x_q{d:D}:X.ev G E (.q d)=some d:=nr rfl
@[simp] theorem x_mk{k:XK}{xs:List X}:X.ev G E (.mk k xs)=ob (X.evs G E xs) (k.run G):=nr rfl
@[simp] theorem x_ite{c a b:X}:X.ev G E (.ite c a b)=ob (X.ev G E c) fun v=>ob v.asBool fun x=>if x=true then X.ev G E a else X.ev G E b:=by
 simp only[X.ev,ob];congr 1;funext v;congr 1;funext x;cases x<;>rfl
@[simp] theorem xs_nil:X.evs G E []=some []:=nr rfl
@[simp] theorem xs_cons{x:X}{r:List X}:X.evs G E (x::r)=ob (X.ev G E x) fun d=>ob (X.evs G E r) fun ds=>some (d::ds):=by
 simp only[X.evs,ob]
 congr 1
 funext d
 cases X.evs G E r<;>rfl
def loopB(G:FP)(N:Nat)(b:FT)(L:List (List D→Option D))(E:List D)(n:Nat):List D→Option D:=iter (fun rec vs=>evalFT G N b (rec::L) (E++vs)) n
@[simp] theorem ft_loop{xs:List X}{b:FT}:evalFT G N (.loop xs b) L E=ob (X.evs G E xs) (loopB G N b L E N):=nr rfl
theorem loop_by{b:FT}{n:Nat}{S:Type}(enc:S→List D)(res:S→D)(mes:S→Nat)(ok:S→Prop)
  (step: ∀(rec:List D→Option D) (s:S),ok s→(∀s',ok s'→mes s'<mes s→rec (enc s')=some (res s'))→evalFT G N b (rec::L) (E++enc s)=some (res s)) (s:S) (h:ok s) (hn:mes s<n):loopB G N b L E n (enc s)=some (res s):=by
 induction n generalizing s with
 |zero=>omega
 |succ n ih=>
  show evalFT G N b (loopB G N b L E n::L) (E++enc s)=_
  exact step _ s h fun s' h' hm=>ih s' h' (by omega)
@[simp] theorem as_b{b:Bool}:D.asBool (.v (.bool b))=some b:=nr rfl
@[simp] theorem r_add{k:IntKind}{a b:Int}:XK.run G (.pk (.ibin .add)) [.v (.int k a), .v (.int k b)]=some (.v (.int k (k.wrap (a+b)))):=by simp[XK.run,PK.run,binV,ibinV,D.noT,D.noTC,D.noTB]
@[simp] theorem r_sub{k:IntKind}{a b:Int}:XK.run G (.pk (.ibin .sub)) [.v (.int k a), .v (.int k b)]=some (.v (.int k (k.wrap (a-b)))):=by simp[XK.run,PK.run,binV,ibinV,D.noT,D.noTC,D.noTB]
@[simp] theorem r_mul{k:IntKind}{a b:Int}:XK.run G (.pk (.ibin .mul)) [.v (.int k a), .v (.int k b)]=some (.v (.int k (k.wrap (a*b)))):=by simp[XK.run,PK.run,binV,ibinV,D.noT,D.noTC,D.noTB]
@[simp] theorem r_eql{k:IntKind}{a b:Int}:XK.run G (.pk (.ibin .eql)) [.v (.int k a), .v (.int k b)]=some (.v (.bool (decide (a=b)))):=by simp[XK.run,PK.run,binV,ibinV,D.noT,D.noTC,D.noTB];rw[Bool.eq_iff_iff];simp
@[simp] theorem r_neq{k:IntKind}{a b:Int}:XK.run G (.pk (.ibin .neq)) [.v (.int k a), .v (.int k b)]=some (.v (.bool (!decide (a=b)))):=by simp[XK.run,PK.run,binV,ibinV,D.noT,D.noTC,D.noTB,bne];rw[Bool.eq_iff_iff];simp
@[simp] theorem r_lss{k:IntKind}{a b:Int}:XK.run G (.pk (.ibin .lss)) [.v (.int k a), .v (.int k b)]=some (.v (.bool (decide (a<b)))):=by simp[XK.run,PK.run,binV,ibinV,D.noT,D.noTC,D.noTB]
@[simp] theorem r_leq{k:IntKind}{a b:Int}:XK.run G (.pk (.ibin .leq)) [.v (.int k a), .v (.int k b)]=some (.v (.bool (decide (a≤b)))):=by simp[XK.run,PK.run,binV,ibinV,D.noT,D.noTC,D.noTB]
@[simp] theorem r_gtr{k:IntKind}{a b:Int}:XK.run G (.pk (.ibin .gtr)) [.v (.int k a), .v (.int k b)]=some (.v (.bool (decide (b<a)))):=by simp[XK.run,PK.run,binV,ibinV,D.noT,D.noTC,D.noTB]
@[simp] theorem r_geq{k:IntKind}{a b:Int}:XK.run G (.pk (.ibin .geq)) [.v (.int k a), .v (.int k b)]=some (.v (.bool (decide (b≤a)))):=by simp[XK.run,PK.run,binV,ibinV,D.noT,D.noTC,D.noTB]
@[simp] theorem r_quo{k:IntKind}{a b:Int}:XK.run G (.pk (.ibin .quo)) [.v (.int k a), .v (.int k b)]=if b=0 then none else some (.v (.int k (k.wrap (a.tdiv b)))):=by
 simp only[XK.run,PK.run,binV,ibinV,if_true];split<;>simp[D.noT,D.noTC,D.noTB]
@[simp] theorem r_rem{k:IntKind}{a b:Int}:XK.run G (.pk (.ibin .rem)) [.v (.int k a), .v (.int k b)]=if b=0 then none else some (.v (.int k (a.tmod b))):=by
 simp only[XK.run,PK.run,binV,ibinV,if_true];split<;>simp[D.noT,D.noTC,D.noTB]
@[simp] theorem r_not{b:Bool}:XK.run G (.pk .inot) [.v (.bool b)]=some (.v (.bool (!b))):=nr rfl
@[simp] theorem r_conv{k q:IntKind}{a:Int}:XK.run G (.pk (.conv k)) [.v (.int q a)]=some (.v (.int k (k.wrap a))):=nr rfl
@[simp] theorem r_gv{w b:Bool}:XK.run G (.gv w) [.v (.bool b)]=some (.v (.bool (b==w))):=nr rfl
@[simp] theorem r_gvt{w:Bool}{xs:List D}:XK.run G (.gv w) [.tup xs]=some (.v (.bool false)):=nr rfl
@[simp] theorem r_tup{ds:List D}:XK.run G .tup ds=some (.tup ds):=nr rfl
@[simp] theorem r_len{es:List (List D)}:XK.run G (.pk .llen) [.list es]=some (.v (.int .i64 es.length)):=nr rfl
@[simp] theorem r_nrmv{v:Value}:XK.run G .nrm [.v v]=some (.v v):=nr rfl
@[simp] theorem r_nrml{es:List (List D)}:XK.run G .nrm [.list es]=some (.list es):=nr rfl
@[simp] theorem r_nrmn:XK.run G .nrm [.nil]=some (.list []):=nr rfl
@[simp] theorem r_nrma{xs:List D}(h:xs.all D.flatC=true):XK.run G .nrm [.agg xs]=some (.agg xs):=by
 have:=congrFun k_nrm_eq [.agg xs]
 show x_nrm [.agg xs]=_
 rw[←this]
 show ifk (allF fFl xs) (some (D.agg xs)) _=_
 rw[allF_eq,fFl_eq,h];rfl
@[simp] theorem r_nrmCv{v:Value}:XK.run G .nrmC [.v v]=some (.v v):=nr rfl
@[simp] theorem r_nrmCl{es:List (List D)}:XK.run G .nrmC [.list es]=some (.list es):=nr rfl
@[simp] theorem r_nrmCp{es:List D}:XK.run G .nrmC [.lptr es]=some (.lptr es):=nr rfl
@[simp] theorem r_fld{off:Nat}{xs:List D}:XK.run G (.pk (.fld off)) [.lptr xs]=some (.lptr (xs.drop off)):=nr rfl
@[simp] theorem r_okcv{v:Value}:XK.run G .okc [.v v]=some (.v v):=nr rfl
@[simp] theorem r_okcl{es:List (List D)}:XK.run G .okc [.list es]=some (.list es):=nr rfl
@[simp] theorem r_ld1{d:D}{r:List D}:XK.run G (.pk (.load 1 false)) [.lptr (d::r)]=if d.noT then some d else none:=by
 simp[XK.run,PK.run,loadV]
@[simp] theorem noT_v{v:Value}:D.noT (.v v)=true:=nr rfl
@[simp] theorem noT_l{es:List (List D)}:D.noT (.list es)=true:=nr rfl
@[simp] theorem noT_n:D.noT .nil=true:=nr rfl
@[simp] theorem noT_a{xs:List D}:D.noT (.agg xs)=xs.all D.noTC:=nr rfl
@[simp] theorem noTC_v{v:Value}:D.noTC (.v v)=true:=nr rfl
@[simp] theorem noTC_l{es:List (List D)}:D.noTC (.list es)=true:=nr rfl
@[simp] theorem flatC_v{v:Value}:D.flatC (.v v)=true:=nr rfl
@[simp] theorem tag_v{x:X}{v:Value}:tagN x (.v v)= .v v:=nr rfl
@[simp] theorem r_ext{k:Nat}{xs:List D}:XK.run G (.pk (.ext k)) [.tup xs]=(xs[k]?).bind fun d=>if d.noT then some d else none:=nr rfl
theorem r_call{fl:Bool}{f:Nat}{ds:List D}{d:D}(h:G f ds=some d)(h1:d.isOwn=false)(h2:(if fl then d.flat else d.noT)=true):XK.run G (.call fl f) ds=some d:=by
 have hb:d.bare=d:=by
  unfold D.bare;unfold D.isOwn at h1
  split at h1
  ·cases h1
  ·rfl
 show(G f ds).bind _=_
 rw[h,Oz,hb]
 cases fl
 ·exact if_pos h2
 ·rw[if_pos (by simp[show d.flat=true from h2])]
@[simp] theorem r_agg{ds:List D}:XK.run G .agg ds=if ds.all D.noTC=true then some (.agg ds)else none:=nr rfl
@[simp] theorem r_idx{e size:Nat}{es:List (List D)}{k:IntKind}{i:Nat}:XK.run G (.pk (.idx e size)) [.list es, .v (.int k (i:Int))]=(es[i]?).bind fun c=>if c.length=size then some (.lptr c)else none:=by
 show(if(i:Int)<0 then none else(es[(i:Int).toNat]?).bind fun c=>if c.length=size then some (D.lptr c)else none).bind (fun d=>if d.noT then some d else none)=_
 rw[if_neg (by omega),Int.toNat_natCast]
 cases es[i]? with
 |none=>rfl
 |some c=>simp only[Oz];split<;>rfl
@[simp] theorem r_idx0{e size:Nat}{es:List (List D)}{k:IntKind}:XK.run G (.pk (.idx e size)) [.list es, .v (.int k 0)]=(es[0]?).bind fun c=>if c.length=size then some (.lptr c)else none:=r_idx (i:=0)
@[simp] theorem r_idxs{e size:Nat}{es:List (List D)}{k:IntKind}{i:Nat}:XK.run G (.pk (.idx e size)) [.list es, .v (.int k ((i:Int)+1))]=(es[i+1]?).bind fun c=>if c.length=size then some (.lptr c)else none:=r_idx (i:=i+1)
@[simp] theorem r_mkl{ds:List D}:XK.run G .mkl ds=some (.list (ds.map fun d=> [d])):=nr rfl
@[simp] theorem r_lptr{ds:List D}:XK.run G .lptr ds=some (.lptr ds):=nr rfl
@[simp] theorem r_aeq{neg:Bool}{ks:List Nat}{xs ys:List D}:XK.run G (.pk (.aeq neg ks)) [.agg xs, .agg ys]=(eqCells ks xs ys).bind fun r=>some (.v (.bool (if neg then !r else r))):=by
 show((eqCells ks xs ys).map fun r=>bv (if neg then !r else r)).bind _=_
 cases eqCells ks xs ys<;>rfl
@[simp] theorem eqC_nil:eqCells [] [] []=some true:=nr rfl
theorem c1_i{k:IntKind}{a b:Int}:cell1 (kindNo k) (.v (.int k a)) (.v (.int k b))=some (decide (a=b)):=by
 have e:(a==b)=decide (a=b):=by rw[Bool.eq_iff_iff];simp
 simp[cell1,eqCells,e]
@[simp] theorem eqC_i{ks:List Nat}{xs ys:List D}{a b:Int}:eqCells (3::ks) (.v (.int .i64 a)::xs) (.v (.int .i64 b)::ys)=(eqCells ks xs ys).bind fun r=>some (decide (a=b)&&r):=by
 rw[eqCells_c2,show cell1 3 (.v (.int .i64 a)) (.v (.int .i64 b))=some (decide (a=b))from c1_i (k:= .i64)];rfl
@[simp] theorem eqC_u{ks:List Nat}{xs ys:List D}{a b:Int}:eqCells (4::ks) (.v (.int .u8 a)::xs) (.v (.int .u8 b)::ys)=(eqCells ks xs ys).bind fun r=>some (decide (a=b)&&r):=by
 rw[eqCells_c2,show cell1 4 (.v (.int .u8 a)) (.v (.int .u8 b))=some (decide (a=b))from c1_i (k:= .u8)];rfl
@[simp] theorem eqC_b{ks:List Nat}{xs ys:List D}{a b:Bool}:eqCells (8::ks) (.v (.bool a)::xs) (.v (.bool b)::ys)=(eqCells ks xs ys).bind fun r=>some ((a==b)&&r):=by
 rw[eqCells_c2,show cell1 8 (.v (.bool a)) (.v (.bool b))=some (a==b)from by simp[cell1,eqCells]];rfl
@[simp] theorem gv_ct{p:Prop} [Decidable p]{w a:Bool}{xs:List D}:XK.run G (.gv w) [if p then D.v (.bool a)else .tup xs]=some (.v (.bool (decide p&&(a==w)))):=by by_cases h:p<;>simp[h]<;>rfl
@[simp] theorem gv_tc{p:Prop} [Decidable p]{w a:Bool}{xs:List D}:XK.run G (.gv w) [if p then .tup xs else D.v (.bool a)]=some (.v (.bool (!decide p&&(a==w)))):=by by_cases h:p<;>simp[h]<;>rfl
@[simp] theorem bind_c{α β:Type}{p:Prop} [Decidable p]{a b:α}{f:α→Option β}:ob (if p then some a else some b) f=f (if p then a else b):=by split<;>rfl
@[simp] theorem ite_bv{p:Prop} [Decidable p]{a b:Bool}:(if p then D.v (.bool a)else D.v (.bool b))= .v (.bool (if p then a else b)):=by split<;>rfl
@[simp] theorem ite_some{α:Type}{p:Prop} [Decidable p]{a b:α}:(if p then some a else some b)=some (if p then a else b):=by split<;>rfl
@[simp] theorem ite_iv{p:Prop} [Decidable p]{k:IntKind}{a b:Int}:(if p then D.v (.int k a)else D.v (.int k b))= .v (.int k (if p then a else b)):=by split<;>rfl
theorem wrap_i(i:Nat)(h:i<4611686018427387904):IntKind.i64.wrap (i:Int)=(i:Int):=wrap_in .i64 _ (by show-(9223372036854775808:Int)≤_;omega) (by show _<(9223372036854775808:Int);omega)
theorem wrap_n(i:Nat)(h:i<4611686018427387904):IntKind.i64.wrap ((i:Int)+1)=((i+1:Nat):Int):=by
 rw[wrap_in .i64 _ (by show-(9223372036854775808:Int)≤_;omega) (by show _<(9223372036854775808:Int);omega)];omega
end
end Ty
end
section
namespace Ty
abbrev uv(z:Int):D:= .v (.int .u8 z)
structure Ou where
 lv:Int
 dn:Int
 rk:Int
 dc:Int
 tr:Int
 wt:Int
def Ou.cells(x:Ou):List D:= [uv x.lv,uv x.dn,uv x.rk,uv x.dc,iv x.tr,iv x.wt]
section
variable {G : FP} {x : Ou}
@[simp] theorem Ou.cell0:XK.run G (.cell 0 6) [.agg x.cells]=some (uv x.lv):=nr rfl
@[simp] theorem Ou.ld0:XK.run G (.pk (.load 1 false)) [.lptr (x.cells.drop 0)]=some (uv x.lv):=nr rfl
@[simp] theorem Ou.cell1:XK.run G (.cell 1 6) [.agg x.cells]=some (uv x.dn):=nr rfl
@[simp] theorem Ou.ld1:XK.run G (.pk (.load 1 false)) [.lptr (x.cells.drop 1)]=some (uv x.dn):=nr rfl
@[simp] theorem Ou.cell2:XK.run G (.cell 2 6) [.agg x.cells]=some (uv x.rk):=nr rfl
@[simp] theorem Ou.ld2:XK.run G (.pk (.load 1 false)) [.lptr (x.cells.drop 2)]=some (uv x.rk):=nr rfl
@[simp] theorem Ou.cell3:XK.run G (.cell 3 6) [.agg x.cells]=some (uv x.dc):=nr rfl
@[simp] theorem Ou.ld3:XK.run G (.pk (.load 1 false)) [.lptr (x.cells.drop 3)]=some (uv x.dc):=nr rfl
@[simp] theorem Ou.cell4:XK.run G (.cell 4 6) [.agg x.cells]=some (iv x.tr):=nr rfl
@[simp] theorem Ou.ld4:XK.run G (.pk (.load 1 false)) [.lptr (x.cells.drop 4)]=some (iv x.tr):=nr rfl
@[simp] theorem Ou.cell5:XK.run G (.cell 5 6) [.agg x.cells]=some (iv x.wt):=nr rfl
@[simp] theorem Ou.ld5:XK.run G (.pk (.load 1 false)) [.lptr (x.cells.drop 5)]=some (iv x.wt):=nr rfl
@[simp] theorem Ou.ldz:XK.run G (.pk (.load 1 false)) [.lptr x.cells]=some (uv x.lv):=nr rfl
@[simp] theorem Ou.ldt:XK.run G (.pk (.load 1 false)) [.lptr x.cells.tail]=some (uv x.dn):=nr rfl
@[simp] theorem Ou.fb:XK.run G (.pk (.fbox 6)) [.agg x.cells]=some (.lptr x.cells):=nr rfl
@[simp] theorem Ou.lda:XK.run G (.pk (.load 6 true)) [.lptr x.cells]=some (.agg x.cells):=nr rfl
@[simp] theorem Ou.nrm:XK.run G .nrm [.agg x.cells]=some (.agg x.cells):=nr rfl
@[simp] theorem Ou.len:x.cells.length=6:=nr rfl
@[simp] theorem Ou.noT:(D.agg x.cells).noT=true:=nr rfl
@[simp] theorem Ou.nfC:x.cells.all D.nfC=true:=nr rfl
@[simp] theorem Ou.eqc{ks:List Nat}{ys:List D}:eqCells ks x.cells ys=eqCells ks [uv x.lv,uv x.dn,uv x.rk,uv x.dc,iv x.tr,iv x.wt] ys:=nr rfl
@[simp] theorem Ou.eqr{ks:List Nat}{ys:List D}:eqCells ks ys x.cells=eqCells ks ys [uv x.lv,uv x.dn,uv x.rk,uv x.dc,iv x.tr,iv x.wt]:=nr rfl
@[simp] theorem Ou.flt:(D.agg x.cells).flat=true:=nr rfl
end
structure Rw where
 rd:Int
 tb:Int
 ns:Int
 ew:Int
 st:Int
def Rw.cells(x:Rw):List D:= [iv x.rd,iv x.tb,iv x.ns,iv x.ew,iv x.st]
section
variable {G : FP} {x : Rw}
@[simp] theorem Rw.cell0:XK.run G (.cell 0 5) [.agg x.cells]=some (iv x.rd):=nr rfl
@[simp] theorem Rw.ld0:XK.run G (.pk (.load 1 false)) [.lptr (x.cells.drop 0)]=some (iv x.rd):=nr rfl
@[simp] theorem Rw.cell1:XK.run G (.cell 1 5) [.agg x.cells]=some (iv x.tb):=nr rfl
@[simp] theorem Rw.ld1:XK.run G (.pk (.load 1 false)) [.lptr (x.cells.drop 1)]=some (iv x.tb):=nr rfl
@[simp] theorem Rw.cell2:XK.run G (.cell 2 5) [.agg x.cells]=some (iv x.ns):=nr rfl
@[simp] theorem Rw.ld2:XK.run G (.pk (.load 1 false)) [.lptr (x.cells.drop 2)]=some (iv x.ns):=nr rfl
@[simp] theorem Rw.cell3:XK.run G (.cell 3 5) [.agg x.cells]=some (iv x.ew):=nr rfl
@[simp] theorem Rw.ld3:XK.run G (.pk (.load 1 false)) [.lptr (x.cells.drop 3)]=some (iv x.ew):=nr rfl
@[simp] theorem Rw.cell4:XK.run G (.cell 4 5) [.agg x.cells]=some (iv x.st):=nr rfl
@[simp] theorem Rw.ld4:XK.run G (.pk (.load 1 false)) [.lptr (x.cells.drop 4)]=some (iv x.st):=nr rfl
@[simp] theorem Rw.ldz:XK.run G (.pk (.load 1 false)) [.lptr x.cells]=some (iv x.rd):=nr rfl
@[simp] theorem Rw.ldt:XK.run G (.pk (.load 1 false)) [.lptr x.cells.tail]=some (iv x.tb):=nr rfl
@[simp] theorem Rw.fb:XK.run G (.pk (.fbox 5)) [.agg x.cells]=some (.lptr x.cells):=nr rfl
@[simp] theorem Rw.lda:XK.run G (.pk (.load 5 true)) [.lptr x.cells]=some (.agg x.cells):=nr rfl
@[simp] theorem Rw.nrm:XK.run G .nrm [.agg x.cells]=some (.agg x.cells):=nr rfl
@[simp] theorem Rw.len:x.cells.length=5:=nr rfl
@[simp] theorem Rw.noT:(D.agg x.cells).noT=true:=nr rfl
@[simp] theorem Rw.nfC:x.cells.all D.nfC=true:=nr rfl
@[simp] theorem Rw.eqc{ks:List Nat}{ys:List D}:eqCells ks x.cells ys=eqCells ks [iv x.rd,iv x.tb,iv x.ns,iv x.ew,iv x.st] ys:=nr rfl
@[simp] theorem Rw.eqr{ks:List Nat}{ys:List D}:eqCells ks ys x.cells=eqCells ks ys [iv x.rd,iv x.tb,iv x.ns,iv x.ew,iv x.st]:=nr rfl
@[simp] theorem Rw.flt:(D.agg x.cells).flat=true:=nr rfl
end
structure Ky where
 rd:Int
 tb:Int
 bd:Int
def Ky.cells(x:Ky):List D:= [iv x.rd,iv x.tb,iv x.bd]
section
variable {G : FP} {x : Ky}
@[simp] theorem Ky.cell0:XK.run G (.cell 0 3) [.agg x.cells]=some (iv x.rd):=nr rfl
@[simp] theorem Ky.ld0:XK.run G (.pk (.load 1 false)) [.lptr (x.cells.drop 0)]=some (iv x.rd):=nr rfl
@[simp] theorem Ky.cell1:XK.run G (.cell 1 3) [.agg x.cells]=some (iv x.tb):=nr rfl
@[simp] theorem Ky.ld1:XK.run G (.pk (.load 1 false)) [.lptr (x.cells.drop 1)]=some (iv x.tb):=nr rfl
@[simp] theorem Ky.cell2:XK.run G (.cell 2 3) [.agg x.cells]=some (iv x.bd):=nr rfl
@[simp] theorem Ky.ld2:XK.run G (.pk (.load 1 false)) [.lptr (x.cells.drop 2)]=some (iv x.bd):=nr rfl
@[simp] theorem Ky.ldz:XK.run G (.pk (.load 1 false)) [.lptr x.cells]=some (iv x.rd):=nr rfl
@[simp] theorem Ky.ldt:XK.run G (.pk (.load 1 false)) [.lptr x.cells.tail]=some (iv x.tb):=nr rfl
@[simp] theorem Ky.fb:XK.run G (.pk (.fbox 3)) [.agg x.cells]=some (.lptr x.cells):=nr rfl
@[simp] theorem Ky.lda:XK.run G (.pk (.load 3 true)) [.lptr x.cells]=some (.agg x.cells):=nr rfl
@[simp] theorem Ky.nrm:XK.run G .nrm [.agg x.cells]=some (.agg x.cells):=nr rfl
@[simp] theorem Ky.len:x.cells.length=3:=nr rfl
@[simp] theorem Ky.noT:(D.agg x.cells).noT=true:=nr rfl
@[simp] theorem Ky.nfC:x.cells.all D.nfC=true:=nr rfl
@[simp] theorem Ky.eqc{ks:List Nat}{ys:List D}:eqCells ks x.cells ys=eqCells ks [iv x.rd,iv x.tb,iv x.bd] ys:=nr rfl
@[simp] theorem Ky.eqr{ks:List Nat}{ys:List D}:eqCells ks ys x.cells=eqCells ks ys [iv x.rd,iv x.tb,iv x.bd]:=nr rfl
@[simp] theorem Ky.flt:(D.agg x.cells).flat=true:=nr rfl
end
structure Ss where
 tb:Int
 rs:Int
 ss:Int
 cp:Int
 wn:Int
 rows:List Rw
 bs:Int
def Ss.cells(x:Ss):List D:= [iv x.tb,iv x.rs,iv x.ss,iv x.cp,iv x.wn, .list (x.rows.map Rw.cells),iv x.bs]
section
variable {G : FP} {x : Ss}
@[simp] theorem Ss.cell0:XK.run G (.cell 0 7) [.agg x.cells]=some (iv x.tb):=nr rfl
@[simp] theorem Ss.ld0:XK.run G (.pk (.load 1 false)) [.lptr (x.cells.drop 0)]=some (iv x.tb):=nr rfl
@[simp] theorem Ss.cell1:XK.run G (.cell 1 7) [.agg x.cells]=some (iv x.rs):=nr rfl
@[simp] theorem Ss.ld1:XK.run G (.pk (.load 1 false)) [.lptr (x.cells.drop 1)]=some (iv x.rs):=nr rfl
@[simp] theorem Ss.cell2:XK.run G (.cell 2 7) [.agg x.cells]=some (iv x.ss):=nr rfl
@[simp] theorem Ss.ld2:XK.run G (.pk (.load 1 false)) [.lptr (x.cells.drop 2)]=some (iv x.ss):=nr rfl
@[simp] theorem Ss.cell3:XK.run G (.cell 3 7) [.agg x.cells]=some (iv x.cp):=nr rfl
@[simp] theorem Ss.ld3:XK.run G (.pk (.load 1 false)) [.lptr (x.cells.drop 3)]=some (iv x.cp):=nr rfl
@[simp] theorem Ss.cell4:XK.run G (.cell 4 7) [.agg x.cells]=some (iv x.wn):=nr rfl
@[simp] theorem Ss.ld4:XK.run G (.pk (.load 1 false)) [.lptr (x.cells.drop 4)]=some (iv x.wn):=nr rfl
@[simp] theorem Ss.cell5:XK.run G (.cell 5 7) [.agg x.cells]=some (.list (x.rows.map Rw.cells)):=nr rfl
@[simp] theorem Ss.ld5:XK.run G (.pk (.load 1 false)) [.lptr (x.cells.drop 5)]=some (.list (x.rows.map Rw.cells)):=nr rfl
@[simp] theorem Ss.cell6:XK.run G (.cell 6 7) [.agg x.cells]=some (iv x.bs):=nr rfl
@[simp] theorem Ss.ld6:XK.run G (.pk (.load 1 false)) [.lptr (x.cells.drop 6)]=some (iv x.bs):=nr rfl
@[simp] theorem Ss.ldz:XK.run G (.pk (.load 1 false)) [.lptr x.cells]=some (iv x.tb):=nr rfl
@[simp] theorem Ss.ldt:XK.run G (.pk (.load 1 false)) [.lptr x.cells.tail]=some (iv x.rs):=nr rfl
@[simp] theorem Ss.fb:XK.run G (.pk (.fbox 7)) [.agg x.cells]=some (.lptr x.cells):=nr rfl
@[simp] theorem Ss.lda:XK.run G (.pk (.load 7 true)) [.lptr x.cells]=some (.agg x.cells):=nr rfl
@[simp] theorem Ss.nrm:XK.run G .nrm [.agg x.cells]=some (.agg x.cells):=nr rfl
@[simp] theorem Ss.len:x.cells.length=7:=nr rfl
@[simp] theorem Ss.noT:(D.agg x.cells).noT=true:=nr rfl
@[simp] theorem Ss.nfC:x.cells.all D.nfC=true:=nr rfl
@[simp] theorem Ss.eqc{ks:List Nat}{ys:List D}:eqCells ks x.cells ys=eqCells ks [iv x.tb,iv x.rs,iv x.ss,iv x.cp,iv x.wn, .list (x.rows.map Rw.cells),iv x.bs] ys:=nr rfl
@[simp] theorem Ss.eqr{ks:List Nat}{ys:List D}:eqCells ks ys x.cells=eqCells ks ys [iv x.tb,iv x.rs,iv x.ss,iv x.cp,iv x.wn, .list (x.rows.map Rw.cells),iv x.bs]:=nr rfl
end
structure En where
 rd:Int
 tb:Int
 bd:Int
 vs:Int
 kd:Int
 fl:Int
 tu:Bool
 o0:Ou
 o1:Ou
 o2:Ou
 o3:Ou
 a0:Int
 a1:Int
def En.outs(x:En):List D:=x.o0.cells++(x.o1.cells++(x.o2.cells++x.o3.cells))
def En.cells(x:En):List D:=iv x.rd::iv x.tb::iv x.bd::iv x.vs::uv x.kd::uv x.fl::bv x.tu::(x.outs++ [iv x.a0,iv x.a1])
section
variable {G : FP} {x : En}
@[simp] theorem En.cell0:XK.run G (.cell 0 33) [.agg x.cells]=some (iv x.rd):=nr rfl
@[simp] theorem En.ld0:XK.run G (.pk (.load 1 false)) [.lptr (x.cells.drop 0)]=some (iv x.rd):=nr rfl
@[simp] theorem En.cell1:XK.run G (.cell 1 33) [.agg x.cells]=some (iv x.tb):=nr rfl
@[simp] theorem En.ld1:XK.run G (.pk (.load 1 false)) [.lptr (x.cells.drop 1)]=some (iv x.tb):=nr rfl
@[simp] theorem En.cell2:XK.run G (.cell 2 33) [.agg x.cells]=some (iv x.bd):=nr rfl
@[simp] theorem En.ld2:XK.run G (.pk (.load 1 false)) [.lptr (x.cells.drop 2)]=some (iv x.bd):=nr rfl
@[simp] theorem En.cell3:XK.run G (.cell 3 33) [.agg x.cells]=some (iv x.vs):=nr rfl
@[simp] theorem En.ld3:XK.run G (.pk (.load 1 false)) [.lptr (x.cells.drop 3)]=some (iv x.vs):=nr rfl
@[simp] theorem En.cell4:XK.run G (.cell 4 33) [.agg x.cells]=some (uv x.kd):=nr rfl
@[simp] theorem En.ld4:XK.run G (.pk (.load 1 false)) [.lptr (x.cells.drop 4)]=some (uv x.kd):=nr rfl
@[simp] theorem En.cell5:XK.run G (.cell 5 33) [.agg x.cells]=some (uv x.fl):=nr rfl
@[simp] theorem En.ld5:XK.run G (.pk (.load 1 false)) [.lptr (x.cells.drop 5)]=some (uv x.fl):=nr rfl
@[simp] theorem En.cell6:XK.run G (.cell 6 33) [.agg x.cells]=some (bv x.tu):=nr rfl
@[simp] theorem En.ld6:XK.run G (.pk (.load 1 false)) [.lptr (x.cells.drop 6)]=some (bv x.tu):=nr rfl
@[simp] theorem En.cell7:XK.run G (.cell 7 33) [.agg x.cells]=some (uv x.o0.lv):=nr rfl
@[simp] theorem En.ld7:XK.run G (.pk (.load 1 false)) [.lptr (x.cells.drop 7)]=some (uv x.o0.lv):=nr rfl
@[simp] theorem En.cell8:XK.run G (.cell 8 33) [.agg x.cells]=some (uv x.o0.dn):=nr rfl
@[simp] theorem En.ld8:XK.run G (.pk (.load 1 false)) [.lptr (x.cells.drop 8)]=some (uv x.o0.dn):=nr rfl
@[simp] theorem En.cell9:XK.run G (.cell 9 33) [.agg x.cells]=some (uv x.o0.rk):=nr rfl
@[simp] theorem En.ld9:XK.run G (.pk (.load 1 false)) [.lptr (x.cells.drop 9)]=some (uv x.o0.rk):=nr rfl
@[simp] theorem En.cell10:XK.run G (.cell 10 33) [.agg x.cells]=some (uv x.o0.dc):=nr rfl
@[simp] theorem En.ld10:XK.run G (.pk (.load 1 false)) [.lptr (x.cells.drop 10)]=some (uv x.o0.dc):=nr rfl
@[simp] theorem En.cell11:XK.run G (.cell 11 33) [.agg x.cells]=some (iv x.o0.tr):=nr rfl
@[simp] theorem En.ld11:XK.run G (.pk (.load 1 false)) [.lptr (x.cells.drop 11)]=some (iv x.o0.tr):=nr rfl
@[simp] theorem En.cell12:XK.run G (.cell 12 33) [.agg x.cells]=some (iv x.o0.wt):=nr rfl
@[simp] theorem En.ld12:XK.run G (.pk (.load 1 false)) [.lptr (x.cells.drop 12)]=some (iv x.o0.wt):=nr rfl
@[simp] theorem En.cell13:XK.run G (.cell 13 33) [.agg x.cells]=some (uv x.o1.lv):=nr rfl
@[simp] theorem En.ld13:XK.run G (.pk (.load 1 false)) [.lptr (x.cells.drop 13)]=some (uv x.o1.lv):=nr rfl
@[simp] theorem En.cell14:XK.run G (.cell 14 33) [.agg x.cells]=some (uv x.o1.dn):=nr rfl
@[simp] theorem En.ld14:XK.run G (.pk (.load 1 false)) [.lptr (x.cells.drop 14)]=some (uv x.o1.dn):=nr rfl
@[simp] theorem En.cell15:XK.run G (.cell 15 33) [.agg x.cells]=some (uv x.o1.rk):=nr rfl
@[simp] theorem En.ld15:XK.run G (.pk (.load 1 false)) [.lptr (x.cells.drop 15)]=some (uv x.o1.rk):=nr rfl
@[simp] theorem En.cell16:XK.run G (.cell 16 33) [.agg x.cells]=some (uv x.o1.dc):=nr rfl
@[simp] theorem En.ld16:XK.run G (.pk (.load 1 false)) [.lptr (x.cells.drop 16)]=some (uv x.o1.dc):=nr rfl
@[simp] theorem En.cell17:XK.run G (.cell 17 33) [.agg x.cells]=some (iv x.o1.tr):=nr rfl
@[simp] theorem En.ld17:XK.run G (.pk (.load 1 false)) [.lptr (x.cells.drop 17)]=some (iv x.o1.tr):=nr rfl
@[simp] theorem En.cell18:XK.run G (.cell 18 33) [.agg x.cells]=some (iv x.o1.wt):=nr rfl
@[simp] theorem En.ld18:XK.run G (.pk (.load 1 false)) [.lptr (x.cells.drop 18)]=some (iv x.o1.wt):=nr rfl
@[simp] theorem En.cell19:XK.run G (.cell 19 33) [.agg x.cells]=some (uv x.o2.lv):=nr rfl
@[simp] theorem En.ld19:XK.run G (.pk (.load 1 false)) [.lptr (x.cells.drop 19)]=some (uv x.o2.lv):=nr rfl
@[simp] theorem En.cell20:XK.run G (.cell 20 33) [.agg x.cells]=some (uv x.o2.dn):=nr rfl
@[simp] theorem En.ld20:XK.run G (.pk (.load 1 false)) [.lptr (x.cells.drop 20)]=some (uv x.o2.dn):=nr rfl
@[simp] theorem En.cell21:XK.run G (.cell 21 33) [.agg x.cells]=some (uv x.o2.rk):=nr rfl
@[simp] theorem En.ld21:XK.run G (.pk (.load 1 false)) [.lptr (x.cells.drop 21)]=some (uv x.o2.rk):=nr rfl
@[simp] theorem En.cell22:XK.run G (.cell 22 33) [.agg x.cells]=some (uv x.o2.dc):=nr rfl
@[simp] theorem En.ld22:XK.run G (.pk (.load 1 false)) [.lptr (x.cells.drop 22)]=some (uv x.o2.dc):=nr rfl
@[simp] theorem En.cell23:XK.run G (.cell 23 33) [.agg x.cells]=some (iv x.o2.tr):=nr rfl
@[simp] theorem En.ld23:XK.run G (.pk (.load 1 false)) [.lptr (x.cells.drop 23)]=some (iv x.o2.tr):=nr rfl
@[simp] theorem En.cell24:XK.run G (.cell 24 33) [.agg x.cells]=some (iv x.o2.wt):=nr rfl
@[simp] theorem En.ld24:XK.run G (.pk (.load 1 false)) [.lptr (x.cells.drop 24)]=some (iv x.o2.wt):=nr rfl
@[simp] theorem En.cell25:XK.run G (.cell 25 33) [.agg x.cells]=some (uv x.o3.lv):=nr rfl
@[simp] theorem En.ld25:XK.run G (.pk (.load 1 false)) [.lptr (x.cells.drop 25)]=some (uv x.o3.lv):=nr rfl
@[simp] theorem En.cell26:XK.run G (.cell 26 33) [.agg x.cells]=some (uv x.o3.dn):=nr rfl
@[simp] theorem En.ld26:XK.run G (.pk (.load 1 false)) [.lptr (x.cells.drop 26)]=some (uv x.o3.dn):=nr rfl
@[simp] theorem En.cell27:XK.run G (.cell 27 33) [.agg x.cells]=some (uv x.o3.rk):=nr rfl
@[simp] theorem En.ld27:XK.run G (.pk (.load 1 false)) [.lptr (x.cells.drop 27)]=some (uv x.o3.rk):=nr rfl
@[simp] theorem En.cell28:XK.run G (.cell 28 33) [.agg x.cells]=some (uv x.o3.dc):=nr rfl
@[simp] theorem En.ld28:XK.run G (.pk (.load 1 false)) [.lptr (x.cells.drop 28)]=some (uv x.o3.dc):=nr rfl
@[simp] theorem En.cell29:XK.run G (.cell 29 33) [.agg x.cells]=some (iv x.o3.tr):=nr rfl
@[simp] theorem En.ld29:XK.run G (.pk (.load 1 false)) [.lptr (x.cells.drop 29)]=some (iv x.o3.tr):=nr rfl
@[simp] theorem En.cell30:XK.run G (.cell 30 33) [.agg x.cells]=some (iv x.o3.wt):=nr rfl
@[simp] theorem En.ld30:XK.run G (.pk (.load 1 false)) [.lptr (x.cells.drop 30)]=some (iv x.o3.wt):=nr rfl
@[simp] theorem En.cell31:XK.run G (.cell 31 33) [.agg x.cells]=some (iv x.a0):=nr rfl
@[simp] theorem En.ld31:XK.run G (.pk (.load 1 false)) [.lptr (x.cells.drop 31)]=some (iv x.a0):=nr rfl
@[simp] theorem En.cell32:XK.run G (.cell 32 33) [.agg x.cells]=some (iv x.a1):=nr rfl
@[simp] theorem En.ld32:XK.run G (.pk (.load 1 false)) [.lptr (x.cells.drop 32)]=some (iv x.a1):=nr rfl
@[simp] theorem En.ldz:XK.run G (.pk (.load 1 false)) [.lptr x.cells]=some (iv x.rd):=nr rfl
@[simp] theorem En.ldt:XK.run G (.pk (.load 1 false)) [.lptr x.cells.tail]=some (iv x.tb):=nr rfl
@[simp] theorem En.fb:XK.run G (.pk (.fbox 33)) [.agg x.cells]=some (.lptr x.cells):=nr rfl
@[simp] theorem En.lda:XK.run G (.pk (.load 33 true)) [.lptr x.cells]=some (.agg x.cells):=nr rfl
@[simp] theorem En.nrm:XK.run G .nrm [.agg x.cells]=some (.agg x.cells):=nr rfl
@[simp] theorem En.len:x.cells.length=33:=nr rfl
@[simp] theorem En.noT:(D.agg x.cells).noT=true:=nr rfl
@[simp] theorem En.nfC:x.cells.all D.nfC=true:=nr rfl
@[simp] theorem En.eqc{ks:List Nat}{ys:List D}:eqCells ks x.cells ys=eqCells ks [iv x.rd,iv x.tb,iv x.bd,iv x.vs,uv x.kd,uv x.fl,bv x.tu,uv x.o0.lv,uv x.o0.dn,uv x.o0.rk,uv x.o0.dc,iv x.o0.tr,iv x.o0.wt,uv x.o1.lv,uv x.o1.dn,uv x.o1.rk,uv x.o1.dc,iv x.o1.tr,iv x.o1.wt,uv x.o2.lv,uv x.o2.dn,uv x.o2.rk,uv x.o2.dc,iv x.o2.tr,iv x.o2.wt,uv x.o3.lv,uv x.o3.dn,uv x.o3.rk,uv x.o3.dc,iv x.o3.tr,iv x.o3.wt,iv x.a0,iv x.a1] ys:=nr rfl
@[simp] theorem En.eqr{ks:List Nat}{ys:List D}:eqCells ks ys x.cells=eqCells ks ys [iv x.rd,iv x.tb,iv x.bd,iv x.vs,uv x.kd,uv x.fl,bv x.tu,uv x.o0.lv,uv x.o0.dn,uv x.o0.rk,uv x.o0.dc,iv x.o0.tr,iv x.o0.wt,uv x.o1.lv,uv x.o1.dn,uv x.o1.rk,uv x.o1.dc,iv x.o1.tr,iv x.o1.wt,uv x.o2.lv,uv x.o2.dn,uv x.o2.rk,uv x.o2.dc,iv x.o2.tr,iv x.o2.wt,uv x.o3.lv,uv x.o3.dn,uv x.o3.rk,uv x.o3.dc,iv x.o3.tr,iv x.o3.wt,iv x.a0,iv x.a1]:=nr rfl
@[simp] theorem En.flt:(D.agg x.cells).flat=true:=nr rfl
@[simp] theorem En.ldo:XK.run G (.pk (.load 24 true)) [.lptr (x.cells.drop 7)]=some (.agg x.outs):=nr rfl
@[simp] theorem En.out0:XK.run G (.pk (.aix 4 6 true)) [.agg x.outs,iv 0]=some (.agg x.o0.cells):=nr rfl
@[simp] theorem En.out1:XK.run G (.pk (.aix 4 6 true)) [.agg x.outs,iv 1]=some (.agg x.o1.cells):=nr rfl
@[simp] theorem En.out2:XK.run G (.pk (.aix 4 6 true)) [.agg x.outs,iv 2]=some (.agg x.o2.cells):=nr rfl
@[simp] theorem En.out3:XK.run G (.pk (.aix 4 6 true)) [.agg x.outs,iv 3]=some (.agg x.o3.cells):=nr rfl
@[simp] theorem En.ldo0:XK.run G (.pk (.load 6 true)) [.lptr (x.cells.drop 7)]=some (.agg x.o0.cells):=nr rfl
@[simp] theorem En.ldo1:XK.run G (.pk (.load 6 true)) [.lptr (x.cells.drop 13)]=some (.agg x.o1.cells):=nr rfl
@[simp] theorem En.ldo2:XK.run G (.pk (.load 6 true)) [.lptr (x.cells.drop 19)]=some (.agg x.o2.cells):=nr rfl
@[simp] theorem En.ldo3:XK.run G (.pk (.load 6 true)) [.lptr (x.cells.drop 25)]=some (.agg x.o3.cells):=nr rfl
@[simp] theorem En.ai0:XK.run G (.pk (.aidx 4 6)) [.lptr (x.cells.drop 7),iv 0]=some (.lptr (x.cells.drop 7)):=nr rfl
@[simp] theorem En.ai1:XK.run G (.pk (.aidx 4 6)) [.lptr (x.cells.drop 7),iv 1]=some (.lptr (x.cells.drop 13)):=nr rfl
@[simp] theorem En.ai2:XK.run G (.pk (.aidx 4 6)) [.lptr (x.cells.drop 7),iv 2]=some (.lptr (x.cells.drop 19)):=nr rfl
@[simp] theorem En.ai3:XK.run G (.pk (.aidx 4 6)) [.lptr (x.cells.drop 7),iv 3]=some (.lptr (x.cells.drop 25)):=nr rfl
@[simp] theorem En.aw0:XK.run G (.pk (.aidx 2 1)) [.lptr (x.cells.drop 31),iv 0]=some (.lptr (x.cells.drop 31)):=nr rfl
@[simp] theorem En.aw1:XK.run G (.pk (.aidx 2 1)) [.lptr (x.cells.drop 31),iv 1]=some (.lptr (x.cells.drop 32)):=nr rfl
end
end Ty
end
section
namespace Ty
def handF:List Nat:= [152,153,54,90,166,167,168,123,11,15]
def Fr(H:FP):Prop:= ∀f ds,f<1000000→handF.contains f=false→H f ds=none
theorem fr_bits:Fr bitsH:=fun f ds _ h=>by
 have h1:f≠152:=fun e=>by subst e;exact absurd h (by decide)
 have h2:f≠153:=fun e=>by subst e;exact absurd h (by decide)
 unfold bitsH;rw[if_neg h1,if_neg h2]
theorem fr_hand:Fr handH:=fun f ds h h1=>by unfold handH;rw[if_neg (by omega)];exact fr_bits f ds h h1
noncomputable abbrev GK(H:FP):FP:=GG cx H 10000
variable {H : FP}
theorem by_term(hF:Fr H){f n:Nat}{t:FT}(ho:OKF cx f n t){ds:List D}{d:D}(he:evalFT (GK H) 10000 t [] ds=some d)(hlt:f<1000000:=by decide)(h1:handF.contains f=false:=by decide)(hl:ds.length=n:=by rfl)(hn:ds.all D.noT=true:=by rfl):GK H f ds=some d:=GG_evalT ho (hF f ds hlt h1) hlt hl hn he
theorem l148(hF:Fr H)(a:Int):GK H 148 [iv a]=some (bv false):=by
 refine by_term hF ok148 ?_
 conv=>enter [1,3];cbv
 simp
theorem l96(hF:Fr H)(a b:Int):GK H 96 [iv a,iv b]=some (iv (cmp1 a b)):=by
 refine by_term hF ok96 ?_
 conv=>enter [1,3];cbv
 have k: ∀a,XK.run (GK H) (.call false 148) [iv a]=some (bv false):=fun a=>r_call (l148 hF a) rfl rfl
 simp[k]
 unfold cmp1
 by_cases h1:a<b
 ·simp[h1]
 ·by_cases h2:b<a<;>simp[h1,h2]
theorem l95(hF:Fr H)(a b c:Int):GK H 95 [.list [[iv a],[iv b],[iv c]]]=some (iv (first3 a b c)):=by
 refine by_term hF ok95 ?_
 rw[tm95_eq]
 exact core95 (GK H) 9996 a b c
def En.cmpK(e x:En):Int:=first3 (cmp1 e.rd x.rd) (cmp1 e.tb x.tb) (cmp1 e.bd x.bd)
theorem l82(hF:Fr H)(e x:En):GK H 82 [.agg e.cells, .agg x.cells]=some (iv (e.cmpK x)):=by
 refine by_term hF ok82 ?_
 conv=>enter [1,3];cbv
 have k: ∀a b,XK.run (GK H) (.call false 96) [iv a,iv b]=some (iv (cmp1 a b)):=fun a b=>r_call (l96 hF a b) rfl rfl
 have k2: ∀a b c,XK.run (GK H) (.call true 95) [.list [[iv a],[iv b],[iv c]]]=some (iv (first3 a b c)):=fun a b c=>r_call (l95 hF a b c) rfl rfl
 have k3: ∀a b c,XK.run (GK H) (.lit 1 3 [iv 0,iv 0,iv 0] [(0,1),(1,1),(2,1)]) [iv a,iv b,iv c]=some (.list [[iv a],[iv b],[iv c]]):=fun a b c=>rfl
 simp[k,k2,k3,En.cmpK]
def Ky.cmp(e x:Ky):Int:=first3 (cmp1 e.rd x.rd) (cmp1 e.tb x.tb) (cmp1 e.bd x.bd)
def Ou.nums(o:Ou):List Int:= [IntKind.i64.wrap o.lv,IntKind.i64.wrap o.dn,IntKind.i64.wrap o.rk,IntKind.i64.wrap o.dc,o.tr,o.wt]
def En.nums(e:En):List Int:=e.rd::e.tb::e.bd::e.vs::IntKind.i64.wrap e.kd::IntKind.i64.wrap e.fl::(bif e.tu then 1 else 0)::(e.o0.nums++(e.o1.nums++(e.o2.nums++(e.o3.nums++ [e.a0,e.a1]))))
theorem l83(hF:Fr H)(e:En):GK H 83 [.agg e.cells]=some (.agg (e.nums.map iv)):=by
 refine by_term hF ok83 ?_
 rw[←evf_eq]
 obtain⟨rd,tb,bd,vs,kd,fl,tu,o0,o1,o2,o3,a0,a1⟩:=e
 cases tu<;>kernel_rfl
section
variable {G : FP} {x : En}
@[simp] theorem En.nc0:XK.run G (.cell 0 33) [.agg (x.nums.map iv)]=some (iv (x.rd)):=nr rfl
@[simp] theorem En.nc1:XK.run G (.cell 1 33) [.agg (x.nums.map iv)]=some (iv (x.tb)):=nr rfl
@[simp] theorem En.nc2:XK.run G (.cell 2 33) [.agg (x.nums.map iv)]=some (iv (x.bd)):=nr rfl
@[simp] theorem En.nc3:XK.run G (.cell 3 33) [.agg (x.nums.map iv)]=some (iv (x.vs)):=nr rfl
@[simp] theorem En.nc4:XK.run G (.cell 4 33) [.agg (x.nums.map iv)]=some (iv (IntKind.i64.wrap x.kd)):=nr rfl
@[simp] theorem En.nc5:XK.run G (.cell 5 33) [.agg (x.nums.map iv)]=some (iv (IntKind.i64.wrap x.fl)):=nr rfl
@[simp] theorem En.nc6:XK.run G (.cell 6 33) [.agg (x.nums.map iv)]=some (iv (bif x.tu then 1 else 0)):=nr rfl
@[simp] theorem En.nc7:XK.run G (.cell 7 33) [.agg (x.nums.map iv)]=some (iv (IntKind.i64.wrap x.o0.lv)):=nr rfl
@[simp] theorem En.nc8:XK.run G (.cell 8 33) [.agg (x.nums.map iv)]=some (iv (IntKind.i64.wrap x.o0.dn)):=nr rfl
@[simp] theorem En.nc9:XK.run G (.cell 9 33) [.agg (x.nums.map iv)]=some (iv (IntKind.i64.wrap x.o0.rk)):=nr rfl
@[simp] theorem En.nc10:XK.run G (.cell 10 33) [.agg (x.nums.map iv)]=some (iv (IntKind.i64.wrap x.o0.dc)):=nr rfl
@[simp] theorem En.nc11:XK.run G (.cell 11 33) [.agg (x.nums.map iv)]=some (iv (x.o0.tr)):=nr rfl
@[simp] theorem En.nc12:XK.run G (.cell 12 33) [.agg (x.nums.map iv)]=some (iv (x.o0.wt)):=nr rfl
@[simp] theorem En.nc13:XK.run G (.cell 13 33) [.agg (x.nums.map iv)]=some (iv (IntKind.i64.wrap x.o1.lv)):=nr rfl
@[simp] theorem En.nc14:XK.run G (.cell 14 33) [.agg (x.nums.map iv)]=some (iv (IntKind.i64.wrap x.o1.dn)):=nr rfl
@[simp] theorem En.nc15:XK.run G (.cell 15 33) [.agg (x.nums.map iv)]=some (iv (IntKind.i64.wrap x.o1.rk)):=nr rfl
@[simp] theorem En.nc16:XK.run G (.cell 16 33) [.agg (x.nums.map iv)]=some (iv (IntKind.i64.wrap x.o1.dc)):=nr rfl
@[simp] theorem En.nc17:XK.run G (.cell 17 33) [.agg (x.nums.map iv)]=some (iv (x.o1.tr)):=nr rfl
@[simp] theorem En.nc18:XK.run G (.cell 18 33) [.agg (x.nums.map iv)]=some (iv (x.o1.wt)):=nr rfl
@[simp] theorem En.nc19:XK.run G (.cell 19 33) [.agg (x.nums.map iv)]=some (iv (IntKind.i64.wrap x.o2.lv)):=nr rfl
@[simp] theorem En.nc20:XK.run G (.cell 20 33) [.agg (x.nums.map iv)]=some (iv (IntKind.i64.wrap x.o2.dn)):=nr rfl
@[simp] theorem En.nc21:XK.run G (.cell 21 33) [.agg (x.nums.map iv)]=some (iv (IntKind.i64.wrap x.o2.rk)):=nr rfl
@[simp] theorem En.nc22:XK.run G (.cell 22 33) [.agg (x.nums.map iv)]=some (iv (IntKind.i64.wrap x.o2.dc)):=nr rfl
@[simp] theorem En.nc23:XK.run G (.cell 23 33) [.agg (x.nums.map iv)]=some (iv (x.o2.tr)):=nr rfl
@[simp] theorem En.nc24:XK.run G (.cell 24 33) [.agg (x.nums.map iv)]=some (iv (x.o2.wt)):=nr rfl
@[simp] theorem En.nc25:XK.run G (.cell 25 33) [.agg (x.nums.map iv)]=some (iv (IntKind.i64.wrap x.o3.lv)):=nr rfl
@[simp] theorem En.nc26:XK.run G (.cell 26 33) [.agg (x.nums.map iv)]=some (iv (IntKind.i64.wrap x.o3.dn)):=nr rfl
@[simp] theorem En.nc27:XK.run G (.cell 27 33) [.agg (x.nums.map iv)]=some (iv (IntKind.i64.wrap x.o3.rk)):=nr rfl
@[simp] theorem En.nc28:XK.run G (.cell 28 33) [.agg (x.nums.map iv)]=some (iv (IntKind.i64.wrap x.o3.dc)):=nr rfl
@[simp] theorem En.nc29:XK.run G (.cell 29 33) [.agg (x.nums.map iv)]=some (iv (x.o3.tr)):=nr rfl
@[simp] theorem En.nc30:XK.run G (.cell 30 33) [.agg (x.nums.map iv)]=some (iv (x.o3.wt)):=nr rfl
@[simp] theorem En.nc31:XK.run G (.cell 31 33) [.agg (x.nums.map iv)]=some (iv (x.a0)):=nr rfl
@[simp] theorem En.nc32:XK.run G (.cell 32 33) [.agg (x.nums.map iv)]=some (iv (x.a1)):=nr rfl
end
def lexC:List Int→List Int→Int
 | [],[]=>0
 | [],_::_=> -1
 |_::_,[]=>1
 |a::r,b::s=>if cmp1 a b=0 then lexC r s else cmp1 a b
theorem cmp1_0{a b:Int}:cmp1 a b=0↔a=b:=by unfold cmp1;repeat' split<;>omega
theorem drop_of{α:Type}{l:List α}{i:Nat}{a:α}(h:l[i]?=some a):l.drop i=a::l.drop (i+1):=by
 obtain⟨hi,rfl⟩:=Gz.1 h
 exact List.drop_eq_getElem_cons hi
theorem drop_none{α:Type}{l:List α}{i:Nat}(h:l[i]?=none):l.drop i= []:=by simpa using h
theorem l84(hF:Fr H)(xs ys:List Int)(hx:xs.length<9999):GK H 84 [.list (xs.map fun z=> [iv z]), .list (ys.map fun z=> [iv z])]=some (iv (lexC xs ys)):=by
 refine by_term hF ok84 ?_
 conv=>enter [1,3];cbv
 have k: ∀a b,XK.run (GK H) (.call false 96) [iv a,iv b]=some (iv (cmp1 a b)):=fun a b=>r_call (l96 hF a b) rfl rfl
 simp
 refine loop_by (S:=Nat) (enc:=fun i=> [iv (i:Int),iv 0]) (res:=fun i=>iv (lexC (xs.drop i) (ys.drop i))) (mes:=fun i=>xs.length-i) (ok:=fun i=>i≤xs.length∧i≤ys.length) ?_ 0 ⟨by omega,by omega⟩ (by omega)
 rintro rec i ⟨h1,h2⟩ ih
 cases h3:xs[i]? with
 |some a=>
  have l3:=(Gz.1 h3).1
  rw[drop_of h3]
  cases h4:ys[i]? with
  |some b=>
   have l4:=(Gz.1 h4).1
   have ih:=ih (i+1) ⟨l3,l4⟩ (by omega)
   rw[drop_of h4]
   have e3:xs[i]=a:=(Gz.1 h3).2
   have e4:ys[i]=b:=(Gz.1 h4).2
   simp[k,l3,l4,e3,e4,Int.not_le.2 (Int.ofNat_lt.2 l4),lexC,wrap_n i (by omega)]
   by_cases h5:cmp1 a b=0
   ·simpa[h5]using ih
   ·simp[h5]
  |none=>
   have l4:=List.getElem?_eq_none_iff.1 h4
   rw[drop_none h4]
   simp[l3,Int.ofNat_le.2 l4,lexC]
 |none=>
  have l3:=List.getElem?_eq_none_iff.1 h3
  rw[drop_none h3]
  cases h4:ys[i]? with
  |some b=>
   have l4:=(Gz.1 h4).1
   rw[drop_of h4]
   have e:xs.length=i:=by omega
   simp[e,l4,lexC]
  |none=>
   have l4:=List.getElem?_eq_none_iff.1 h4
   rw[drop_none h4]
   have e:xs.length=i:=by omega
   have e':ys.length=i:=by omega
   simp[e,e',lexC]
theorem eqC_ints: ∀(ks:List Nat) (xs ys:List Int),(∀k∈ks,k=3)→ks.length=xs.length→ys.length=xs.length→eqCells ks (xs.map iv) (ys.map iv)=some (decide (xs=ys))
 | [],[],[],_,_,_=>rfl
 |k::ks,a::xs,b::ys,h,h1,h2=>by
  obtain rfl:=h k (List.mem_cons_self ..)
  rw[List.map_cons,List.map_cons,eqC_i,eqC_ints ks xs ys (fun k hk=>h k (Cz _ hk)) (by simpa using h1) (by simpa using h2)]
  simp[Bool.decide_and]
 | [],_::_,_,_,h,_=>by simp at h
 |_::_,[],_,_,h,_=>by simp at h
 |_,[],_::_,_,_,h=>by simp at h
 |_,_::_,[],_,_,h=>by simp at h
def En.lex(e x:En):Int:=lexC e.nums x.nums
def En.cmp(e x:En):Int:=if e.cmpK x≠0 then e.cmpK x else e.lex x
theorem lexC_self: ∀l,lexC l l=0
 | []=>rfl
 |a::r=>by simp[lexC,cmp1_0,lexC_self r]
theorem l44(hF:Fr H)(e x:En):GK H 44 [.agg e.cells, .agg x.cells]=some (iv (e.cmp x)):=by
 refine by_term hF ok44 ?_
 conv=>enter [1,3];cbv
 have k: ∀e x:En,XK.run (GK H) (.call false 82) [.agg e.cells, .agg x.cells]=some (iv (e.cmpK x)):=fun e x=>r_call (l82 hF e x) rfl rfl
 have k2: ∀e:En,XK.run (GK H) (.call false 83) [.agg e.cells]=some (.agg (e.nums.map iv)):=fun e=>r_call (l83 hF e) rfl rfl
 have k3: ∀e x:En,XK.run (GK H) (.call true 84) [.list (e.nums.map fun z=> [iv z]), .list (x.nums.map fun z=> [iv z])]=some (iv (e.lex x)):=fun e x=>r_call (l84 hF e.nums x.nums (by show 33<9999;decide)) rfl rfl
 have k4:=eqC_ints [3,3,3,3,3,3,3,3,3,3,3,3,3,3,3,3,3,3,3,3,3,3,3,3,3,3,3,3,3,3,3,3,3] e.nums x.nums (by decide) rfl rfl
 simp[En.nums,Ou.nums]at k3
 simp[k,k2,k4]
 by_cases h1:e.cmpK x=0
 ·by_cases h2:e.nums=x.nums
  ·have:e.lex x=0:=by unfold En.lex;rw[h2,lexC_self]
   simp[h1,h2,En.cmp,this]
  ·simp[h1,h2,En.cmp,k3]
 ·simp[h1,En.cmp]
end Ty
end
section
namespace Ty
variable {H : FP}
@[simp] theorem noT_t2{a b:Value}:D.noT (.tup [.v a, .v b])=true:=nr rfl
@[simp] theorem tag_t2{x:X}{a b:Value}:tagN x (.tup [.v a, .v b])= .tup [.v a, .v b]:=nr rfl
theorem r_ccall{G:FP}{fl:Bool}{f:Nat}{caps r cs:List D}(hf:f<1000000)(h:caps.mapM (viewA noMem)=some cs):XK.run G (.ccall fl) (.clo f caps::r)=XK.run G (.call fl f) (r++cs):=by
 show(if f<1000000 then(caps.mapM (viewA noMem)).bind fun cs=>callX G fl f (r++cs)else none)=callX G fl f (r++cs)
 rw[if_pos hf,h];rfl
theorem wr{z:Int}(h1: -9223372036854775808≤z)(h2:z<9223372036854775808):IntKind.i64.wrap z=z:=wrap_in .i64 z h1 h2
def setB:List En→Bool
 |a::b::r=>if a.cmp b<0 then setB (b::r)else false
 |_=>true
theorem l55(hF:Fr H)(l:List En)(hl:l.length<9999):GK H 55 [.list (l.map En.cells)]=some (bv (setB l)):=by
 refine by_term hF ok55 ?_
 conv=>enter [1,3];cbv
 have k: ∀e x:En,XK.run (GK H) (.call false 44) [.agg e.cells, .agg x.cells]=some (iv (e.cmp x)):=fun e x=>r_call (l44 hF e x) rfl rfl
 simp
 refine loop_by (S:=Nat) (enc:=fun j=> [iv ((j:Int)+1),bv false]) (res:=fun j=>bv (setB (l.drop j))) (mes:=fun j=>l.length-j) (ok:=fun j=>j≤l.length) ?_ 0 (by omega) (by omega)
 intro rec j h1 ih
 cases h3:l[j+1]? with
 |some b=>
  have l3:=(Gz.1 h3).1
  have e3:l[j+1]=b:=(Gz.1 h3).2
  have h2:l[j]?=some l[j]:=Ez (by omega)
  generalize l[j]=a at h2
  have e2:l[j]=a:=by rw[Ez (by omega)]at h2;exact Option.some.inj h2
  have ih:=ih (j+1) (by omega) (by omega)
  rw[drop_of h2,drop_of h3]
  rw[drop_of h3]at ih
  have l3':(j:Int)+1<l.length:=by omega
  have l2':j<l.length:=by omega
  simp[k,l3,l3',l2',e3,e2,setB,wrap_i j (by omega),wr (z:=(j:Int)+1+1) (by omega) (by omega)]
  by_cases h5:a.cmp b<0
  ·simpa[h5,Int.not_le.2 h5]using ih
  ·simp[h5,Int.not_lt.1 h5]
 |none=>
  have l3:=List.getElem?_eq_none_iff.1 h3
  have l3': ¬(j:Int)+1<l.length:=by omega
  have:setB (l.drop j)=true:=by
   cases h2:l[j]? with
   |none=>rw[drop_none h2];rfl
   |some a=>rw[drop_of h2,drop_none h3];rfl
  simp[l3',this]
theorem l52(hF:Fr H)(r:Rw)(e:En):GK H 52 [.agg r.cells, .lptr e.cells]=some (bv (decide (r.rd=e.rd)&&decide (r.tb=e.tb))):=by
 refine by_term hF ok52 ?_
 conv=>enter [1,3];cbv
 simp
def Ou.played(o:Ou):Bool:=if o.lv=0 then(decide (o.lv=0)&&(decide (o.dn=0)&&(decide (o.rk=0)&&decide (o.dc=0))))&&decide (o.tr=0)
 else decide (o.lv≤7)&&decide (o.dn≤4)&&decide (o.rk≤2)&&decide (o.dc≤3)&&decide (0≤o.tr)&&decide (o.tr≤13)
theorem l138(hF:Fr H)(o:Ou):GK H 138 [.agg o.cells]=some (bv o.played):=by
 refine by_term hF ok138 ?_
 conv=>enter [1,3];cbv
 unfold Ou.played
 by_cases h:o.lv=0<;>simp[h]
def findR(rd tb:Int):List Rw→Option Nat
 | []=>none
 |r::s=>if r.rd=rd∧r.tb=tb then some 0 else(findR rd tb s).map (· +1)
def posI:Option Nat→Int
 |some i=>i
 |none=> -1
theorem l51(hF:Fr H)(l:List Rw)(hl:l.length<9999)(e:En):GK H 51 [.list (l.map Rw.cells), .clo 52 [.lptr e.cells]]=some (iv (posI (findR e.rd e.tb l))):=by
 refine by_term hF ok51 ?_
 conv=>enter [1,3];cbv
 have k: ∀r:Rw,XK.run (GK H) (.ccall false) [.clo 52 [.lptr e.cells], .agg r.cells]=some (bv (decide (r.rd=e.rd)&&decide (r.tb=e.tb))):=fun r=>(r_ccall (by decide) (cs:= [.lptr e.cells]) rfl).trans (r_call (l52 hF r e) rfl rfl)
 simp
 refine loop_by (S:=Nat) (enc:=fun j=> [iv (j:Int),iv 0]) (res:=fun j=>iv (posI ((findR e.rd e.tb (l.drop j)).map (· +j)))) (mes:=fun j=>l.length-j) (ok:=fun j=>j≤l.length) ?_ 0 (by omega) (by omega)|>.trans ?_
 ·intro rec j h1 ih
  cases h3:l[j]? with
  |some r=>
   have l3:=(Gz.1 h3).1
   have e3:l[j]=r:=(Gz.1 h3).2
   have ih:=ih (j+1) (by omega) (by omega)
   rw[drop_of h3]
   simp[k,l3,e3,findR,wr (z:=(j:Int)+1) (by omega) (by omega)]
   by_cases h5:r.rd=e.rd∧r.tb=e.tb
   ·simp[h5,posI]
   ·rw[if_neg h5,if_neg h5,Option.map_map]
    rw[show(((j+1:Nat):Int))=(j:Int)+1 by omega]at ih
    rw[ih]
    simp[Function.comp_def,Nat.add_assoc,Nat.add_comm 1]
  |none=>
   have l3:=List.getElem?_eq_none_iff.1 h3
   have l3': ¬(j:Int)<l.length:=by omega
   rw[drop_none h3]
   simp[l3',findR,posI]
 ·simp
section
variable {G : FP} {N : Nat} {b : FT} {L : List (List D → Option D)} {E ds : List D} {x : En}
theorem lp0:loopB G N b L E 10000 ds=evalFT G N b (loopB G N b L E 9999::L) (E++ds):=rfl
theorem lp1:loopB G N b L E 9999 ds=evalFT G N b (loopB G N b L E 9998::L) (E++ds):=rfl
theorem lp2:loopB G N b L E 9998 ds=evalFT G N b (loopB G N b L E 9997::L) (E++ds):=rfl
theorem lp3:loopB G N b L E 9997 ds=evalFT G N b (loopB G N b L E 9996::L) (E++ds):=rfl
theorem lp4:loopB G N b L E 9996 ds=evalFT G N b (loopB G N b L E 9995::L) (E++ds):=rfl
@[simp] theorem slh0:XK.run G (.pk (.sla 4 6 false true)) [.lptr (x.cells.drop 7),iv 0]=some (.list []):=nr rfl
@[simp] theorem slh1:XK.run G (.pk (.sla 4 6 false true)) [.lptr (x.cells.drop 7),iv 1]=some (.list [x.o0.cells]):=nr rfl
@[simp] theorem slh2:XK.run G (.pk (.sla 4 6 false true)) [.lptr (x.cells.drop 7),iv 2]=some (.list [x.o0.cells,x.o1.cells]):=nr rfl
@[simp] theorem sll0:XK.run G (.pk (.sla 4 6 true false)) [.lptr (x.cells.drop 7),iv 0]=some (.list [x.o0.cells,x.o1.cells,x.o2.cells,x.o3.cells]):=nr rfl
@[simp] theorem sll1:XK.run G (.pk (.sla 4 6 true false)) [.lptr (x.cells.drop 7),iv 1]=some (.list [x.o1.cells,x.o2.cells,x.o3.cells]):=nr rfl
@[simp] theorem sll2:XK.run G (.pk (.sla 4 6 true false)) [.lptr (x.cells.drop 7),iv 2]=some (.list [x.o2.cells,x.o3.cells]):=nr rfl
@[simp] theorem sll3:XK.run G (.pk (.sla 4 6 true false)) [.lptr (x.cells.drop 7),iv 3]=some (.list [x.o3.cells]):=nr rfl
@[simp] theorem sll4:XK.run G (.pk (.sla 4 6 true false)) [.lptr (x.cells.drop 7),iv 4]=some (.list []):=nr rfl
@[simp] theorem wr1:IntKind.i64.wrap 1=1:=nr rfl
@[simp] theorem wr2:IntKind.i64.wrap 2=2:=nr rfl
@[simp] theorem wr3:IntKind.i64.wrap 3=3:=nr rfl
@[simp] theorem wr4:IntKind.i64.wrap 4=4:=nr rfl
@[simp] theorem r_idx1{e size:Nat}{es:List (List D)}:XK.run G (.pk (.idx e size)) [.list es,iv 1]=(es[1]?).bind fun c=>if c.length=size then some (.lptr c)else none:=r_idx (i:=1)
@[simp] theorem r_idx2{e size:Nat}{es:List (List D)}:XK.run G (.pk (.idx e size)) [.list es,iv 2]=(es[2]?).bind fun c=>if c.length=size then some (.lptr c)else none:=r_idx (i:=2)
@[simp] theorem r_idx3{e size:Nat}{es:List (List D)}:XK.run G (.pk (.idx e size)) [.list es,iv 3]=(es[3]?).bind fun c=>if c.length=size then some (.lptr c)else none:=r_idx (i:=3)
end
def Ou.wOK(o:Ou):Bool:= !(decide (o.wt<1)||decide (99<o.wt))&&o.played
def weighted:List Ou→Int→Nat→Int×Bool
 | [],s,n=>((n:Int),decide (2≤n)&&decide (s=100))
 |o::r,s,n=>if o.wt=0 then((n:Int),decide (2≤n)&&decide (s=100))else if o.wOK then weighted r (IntKind.i64.wrap (s+o.wt)) (n+1)else(0,false)
def En.used(e:En):Int×Bool:=
 if e.kd=1 then(if e.o0.played=true∧e.o0.wt=0 then(1,true)else(0,false))
 else if e.kd=3 then(if(e.o0.played=true∧e.o0.wt=0)∧(e.o1.played=true∧e.o1.wt=0)then(2,true)else(0,false))
 else if e.kd=2 then weighted [e.o0,e.o1,e.o2,e.o3] 0 0
 else(0,true)
theorem l89a(hF:Fr H)(e:En)(h1:e.kd=1):GK H 89 [.agg e.cells]=some (.tup [iv e.used.1,bv e.used.2]):=by
 refine by_term hF ok89 ?_
 conv=>enter [1,3];cbv
 have k: ∀o:Ou,XK.run (GK H) (.call false 138) [.agg o.cells]=some (bv o.played):=fun o=>r_call (l138 hF o) rfl rfl
 unfold En.used
 simp[h1]
 refine loop_by (S:=Nat) (enc:=fun j=> [iv (j:Int),bv false,iv 0]) (res:=fun j=>if j=0→(e.o0.played=true∧e.o0.wt=0)then .tup [iv 1,bv true]else .tup [iv 0,bv false]) (mes:=fun j=>1-j) (ok:=fun j=>j≤1) ?_ 0 (by omega) (by omega)|>.trans ?_
 ·intro rec j hj ih
  rcases j with _|_|j
  ·have ih:=ih 1 (by omega) (by omega)
   simp at ih
   by_cases hp:e.o0.played=true<;>by_cases hw:e.o0.wt=0<;>simp[k,hp,hw,ih]
  ·simp
  ·omega
 ·by_cases hp:e.o0.played=true<;>by_cases hw:e.o0.wt=0<;>simp[hp,hw]
theorem l89b(hF:Fr H)(e:En)(_: ¬e.kd=1)(h3:e.kd=3):GK H 89 [.agg e.cells]=some (.tup [iv e.used.1,bv e.used.2]):=by
 refine by_term hF ok89 ?_
 conv=>enter [1,3];cbv
 have k: ∀o:Ou,XK.run (GK H) (.call false 138) [.agg o.cells]=some (bv o.played):=fun o=>r_call (l138 hF o) rfl rfl
 unfold En.used
 simp[h3]
 refine loop_by (S:=Nat) (enc:=fun j=> [iv (j:Int),bv false,iv 0]) (res:=fun j=>if(j=0→(e.o0.played=true∧e.o0.wt=0))∧(j≤1→(e.o1.played=true∧e.o1.wt=0))then .tup [iv 2,bv true]else .tup [iv 0,bv false]) (mes:=fun j=>2-j) (ok:=fun j=>j≤2) ?_ 0 (by omega) (by omega)|>.trans ?_
 ·intro rec j hj ih
  rcases j with _|_|_|j
  ·have ih:=ih 1 (by omega) (by omega)
   simp at ih
   by_cases hp:e.o0.played=true<;>by_cases hw:e.o0.wt=0<;>simp[k,hp,hw,ih]
  ·have ih:=ih 2 (by omega) (by omega)
   simp at ih
   by_cases hp:e.o1.played=true<;>by_cases hw:e.o1.wt=0<;>simp[k,hp,hw,ih]
  ·simp
  ·omega
 ·by_cases hp:e.o0.played=true<;>by_cases hw:e.o0.wt=0<;>by_cases hp1:e.o1.played=true<;>by_cases hw1:e.o1.wt=0<;>simp[hp,hw,hp1,hw1]
theorem l89c(hF:Fr H)(e:En)(_: ¬e.kd=1)(_: ¬e.kd=3)(h2:e.kd=2):GK H 89 [.agg e.cells]=some (.tup [iv e.used.1,bv e.used.2]):=by
 refine by_term hF ok89 ?_
 conv=>enter [1,3];cbv
 have k: ∀o:Ou,XK.run (GK H) (.call false 138) [.agg o.cells]=some (bv o.played):=fun o=>r_call (l138 hF o) rfl rfl
 unfold En.used
 simp[h2]
 refine loop_by (S:=Int×Nat) (enc:=fun s=> [iv s.1,iv (s.2:Int),bv false,iv 0]) (res:=fun s=> .tup [iv (weighted ([e.o0,e.o1,e.o2,e.o3].drop s.2) s.1 s.2).1,bv (weighted ([e.o0,e.o1,e.o2,e.o3].drop s.2) s.1 s.2).2]) (mes:=fun s=>4-s.2) (ok:=fun s=>s.2≤4) ?_ (0,0) (by show 0≤4;omega) (by show 4-0<10000;omega)
 rintro rec ⟨s,_|_|_|_|_|j⟩ hj ih
 ·have ih:=fun z=>ih (z,1) (by show 1≤4;omega) (by show 4-1<4-0;omega)
  simp[weighted]at ih
  by_cases hw:e.o0.wt=0
  ·simp[hw,weighted]
  ·by_cases ha:e.o0.wt<1<;>by_cases hb:99<e.o0.wt<;>by_cases hp:e.o0.played=true<;>simp[hw,ha,hb,hp,k,weighted,Ou.wOK,ih]
 ·have ih:=fun z=>ih (z,2) (by show 2≤4;omega) (by show 4-2<4-1;omega)
  simp[weighted]at ih
  by_cases hw:e.o1.wt=0
  ·simp[hw,weighted]
  ·by_cases ha:e.o1.wt<1<;>by_cases hb:99<e.o1.wt<;>by_cases hp:e.o1.played=true<;>simp[hw,ha,hb,hp,k,weighted,Ou.wOK,ih]
 ·have ih:=fun z=>ih (z,3) (by show 3≤4;omega) (by show 4-3<4-2;omega)
  simp[weighted]at ih
  by_cases hw:e.o2.wt=0
  ·simp[hw,weighted]
  ·by_cases ha:e.o2.wt<1<;>by_cases hb:99<e.o2.wt<;>by_cases hp:e.o2.played=true<;>simp[hw,ha,hb,hp,k,weighted,Ou.wOK,ih]
 ·have ih:=fun z=>ih (z,4) (by show 4≤4;omega) (by show 4-4<4-3;omega)
  simp[weighted]at ih
  by_cases hw:e.o3.wt=0
  ·simp[hw,weighted]
  ·by_cases ha:e.o3.wt<1<;>by_cases hb:99<e.o3.wt<;>by_cases hp:e.o3.played=true<;>simp[hw,ha,hb,hp,k,weighted,Ou.wOK,ih]
 ·simp[weighted]
 ·exact absurd (show j+1+1+1+1+1≤4 from hj) (by omega)
theorem l89d(hF:Fr H)(e:En)(h1: ¬e.kd=1)(h3: ¬e.kd=3)(h2: ¬e.kd=2):GK H 89 [.agg e.cells]=some (.tup [iv e.used.1,bv e.used.2]):=by
 refine by_term hF ok89 ?_
 conv=>enter [1,3];cbv
 have k: ∀o:Ou,XK.run (GK H) (.call false 138) [.agg o.cells]=some (bv o.played):=fun o=>r_call (l138 hF o) rfl rfl
 unfold En.used
 simp[h1,h3,h2]
 exact loop_by (S:=Unit) (enc:=fun _=> [iv 0,bv false,iv 0]) (res:=fun _=> .tup [iv 0,bv true]) (mes:=fun _=>0) (ok:=fun _=>True) (fun rec s _ _=>by simp) () trivial (by omega)
theorem l89(hF:Fr H)(e:En):GK H 89 [.agg e.cells]=some (.tup [iv e.used.1,bv e.used.2]):=by
 by_cases h1:e.kd=1
 ·exact l89a hF e h1
 ·by_cases h3:e.kd=3
  ·exact l89b hF e h1 h3
  ·by_cases h2:e.kd=2
   ·exact l89c hF e h1 h3 h2
   ·exact l89d hF e h1 h3 h2
end Ty
end
section
namespace Ty
variable {H : FP}
theorem weighted_le: ∀(l:List Ou) (s:Int) (n:Nat),∃m:Nat,(weighted l s n).1=m∧m≤n+l.length
 | [],s,n=>⟨n,rfl,by simp⟩
 |o::r,s,n=>by
  unfold weighted
  split
  ·exact⟨n,rfl,by omega⟩
  ·split
   ·obtain⟨m,h1,h2⟩:=weighted_le r (IntKind.i64.wrap (s+o.wt)) (n+1)
    exact⟨m,h1,by simp at h2⊢;omega⟩
   ·exact⟨0,rfl,by omega⟩
theorem used_le(e:En): ∃m:Nat,e.used.1=m∧m≤4:=by
 unfold En.used
 repeat' split
 any_goals exact⟨1,rfl,by omega⟩
 any_goals exact⟨0,rfl,by omega⟩
 any_goals exact⟨2,rfl,by omega⟩
 exact weighted_le _ 0 0
def Ou.isZ(o:Ou):Bool:=decide (o.lv=0)&&(decide (o.dn=0)&&(decide (o.rk=0)&&(decide (o.dc=0)&&(decide (o.tr=0)&&decide (o.wt=0)))))
def awd(a:Int):Bool:=decide (a=0)||decide (a=30)||decide (a=40)||decide (a=50)||decide (a=60)||decide (a=70)||decide (a=100)
def En.ol(e:En):List Ou:= [e.o0,e.o1,e.o2,e.o3]
def En.aOK(e:En):Bool:=if e.kd=4 then awd e.a0&&awd e.a1 else decide (e.a0=0)&&decide (e.a1=0)
def En.right(e:En):Bool:=
 if 4<e.kd∨3<e.fl then false
 else if e.used.2=false then false
 else if e.used.1=0∧(e.fl≠0∨e.tu=true)then false
 else(e.ol.drop e.used.1.toNat).all Ou.isZ&&e.aOK
section
variable {G : FP} {x : En}
@[simp] theorem lda2:XK.run G (.pk (.load 2 true)) [.lptr (x.cells.drop 31)]=some (.agg [iv x.a0,iv x.a1]):=nr rfl
@[simp] theorem aix20{a b:Int}:XK.run G (.pk (.aix 2 1 false)) [.agg [iv a,iv b],iv 0]=some (iv a):=nr rfl
@[simp] theorem aix21{a b:Int}:XK.run G (.pk (.aix 2 1 false)) [.agg [iv a,iv b],iv 1]=some (iv b):=nr rfl
theorem sll{n:Nat}(h:n≤4):XK.run G (.pk (.sla 4 6 true false)) [.lptr (x.cells.drop 7),iv (n:Int)]=some (.list ((x.ol.drop n).map Ou.cells)):=by
 rcases n with _|_|_|_|_|n
 ·rfl
 ·rfl
 ·rfl
 ·rfl
 ·rfl
 ·omega
end
theorem l53a(hF:Fr H)(e:En)(h1:4<e.kd∨3<e.fl):GK H 53 [.agg e.cells]=some (bv false):=by
 refine by_term hF ok53 ?_
 conv=>enter [1,3];cbv
 by_cases h:4<e.kd
 ·simp[h]
 ·simp[h,h1.resolve_left h]
theorem l53b(hF:Fr H)(e:En)(h1: ¬(4<e.kd∨3<e.fl))(hu:e.used.2=false):GK H 53 [.agg e.cells]=some (bv false):=by
 refine by_term hF ok53 ?_
 conv=>enter [1,3];cbv
 have k:XK.run (GK H) (.call false 89) [.agg e.cells]=some (.tup [iv e.used.1,bv e.used.2]):=r_call (l89 hF e) rfl rfl
 rw[hu]at k
 have ha: ¬4<e.kd:=fun h=>h1 (.inl h)
 have hb: ¬3<e.fl:=fun h=>h1 (.inr h)
 simp[ha,hb,k]
theorem l53c(hF:Fr H)(e:En)(h1: ¬(4<e.kd∨3<e.fl))(hu:e.used.2=true)(h0:e.used.1=0)(h2:e.fl≠0∨e.tu=true):GK H 53 [.agg e.cells]=some (bv false):=by
 refine by_term hF ok53 ?_
 conv=>enter [1,3];cbv
 have k:XK.run (GK H) (.call false 89) [.agg e.cells]=some (.tup [iv e.used.1,bv e.used.2]):=r_call (l89 hF e) rfl rfl
 rw[hu,h0]at k
 have ha: ¬4<e.kd:=fun h=>h1 (.inl h)
 have hb: ¬3<e.fl:=fun h=>h1 (.inr h)
 by_cases hf:e.fl=0
 ·simp[ha,k,hf,h2.resolve_left (fun h=>h hf)]
 ·simp[ha,hb,k,hf]
theorem l53d(hF:Fr H)(e:En)(h1: ¬(4<e.kd∨3<e.fl))(hu:e.used.2=true)(h2: ¬(e.used.1=0∧(e.fl≠0∨e.tu=true))):GK H 53 [.agg e.cells]=some (bv ((e.ol.drop e.used.1.toNat).all Ou.isZ&&e.aOK)):=by
 refine by_term hF ok53 ?_
 conv=>enter [1,3];cbv
 obtain⟨n,hn,hn4⟩:=used_le e
 have k:XK.run (GK H) (.call false 89) [.agg e.cells]=some (.tup [iv e.used.1,bv e.used.2]):=r_call (l89 hF e) rfl rfl
 have hs:=sll (G:=GK H) (x:=e) hn4
 rw[hu,hn]at k
 rw[hn]at h2⊢
 rw[Int.toNat_natCast]
 generalize hl:e.ol.drop n=l at hs⊢
 have hl4:l.length≤4:=by rw[←hl];simp[En.ol]
 have ha: ¬4<e.kd:=fun h=>h1 (.inl h)
 have hb: ¬3<e.fl:=fun h=>h1 (.inr h)
 have key: ∀(rec:List D→Option D),True:=fun _=>trivial
 have cond:(n:Int)=0→e.fl=0∧e.tu=false:=fun h=>by
  by_cases hf:e.fl=0
  ·cases ht:e.tu with
   |false=>exact⟨hf,rfl⟩
   |true=>exact absurd ⟨h, .inr ht⟩ h2
  ·exact absurd ⟨h, .inl hf⟩ h2
 by_cases h0:(n:Int)=0
 ·obtain⟨hf,ht⟩:=cond h0
  rw[h0]at k hs
  simp[-sll0,ha,k,hf,ht,hs]
  refine loop_by (S:=Nat) (enc:=fun j=> [iv (j:Int),bv false]) (res:=fun j=>bv ((l.drop j).all Ou.isZ&&e.aOK)) (mes:=fun j=>l.length-j) (ok:=fun j=>j≤l.length) ?_ 0 (by omega) (by omega)
  intro rec j h1 ih
  cases h3:l[j]? with
  |some o=>
   have l3:=(Gz.1 h3).1
   have e3:l[j]=o:=(Gz.1 h3).2
   have ih:=ih (j+1) (by omega) (by omega)
   rw[show(((j+1:Nat):Int))=(j:Int)+1 by omega]at ih
   rw[drop_of h3]
   by_cases hz:o.isZ=true
   ·have hz':=hz
    unfold Ou.isZ at hz'
    simp only[Az,decide_eq_true_eq]at hz'
    simp[l3,e3,hz,hz',wr (z:=(j:Int)+1) (by omega) (by omega),ih]
   ·have hz': ¬(o.lv=0∧o.dn=0∧o.rk=0∧o.dc=0∧o.tr=0∧o.wt=0):=fun h=>hz (by simp[Ou.isZ,h])
    simp[l3,e3,hz,hz']
  |none=>
   have l3:=List.getElem?_eq_none_iff.1 h3
   have l3': ¬(j:Int)<l.length:=by omega
   rw[drop_none h3]
   unfold En.aOK
   by_cases h4:e.kd=4
   ·simp[l3',h4]
    unfold awd
    repeat' split
    all_goals simp_all [Bool.or_assoc]
   ·simp[l3',h4]
 ·have h0n: ¬n=0:=by omega
  simp[ha,hb,k,h0n,hs]
  refine loop_by (S:=Nat) (enc:=fun j=> [iv (j:Int),bv false]) (res:=fun j=>bv ((l.drop j).all Ou.isZ&&e.aOK)) (mes:=fun j=>l.length-j) (ok:=fun j=>j≤l.length) ?_ 0 (by omega) (by omega)
  intro rec j h1 ih
  cases h3:l[j]? with
  |some o=>
   have l3:=(Gz.1 h3).1
   have e3:l[j]=o:=(Gz.1 h3).2
   have ih:=ih (j+1) (by omega) (by omega)
   rw[show(((j+1:Nat):Int))=(j:Int)+1 by omega]at ih
   rw[drop_of h3]
   by_cases hz:o.isZ=true
   ·have hz':=hz
    unfold Ou.isZ at hz'
    simp only[Az,decide_eq_true_eq]at hz'
    simp[l3,e3,hz,hz',wr (z:=(j:Int)+1) (by omega) (by omega),ih]
   ·have hz': ¬(o.lv=0∧o.dn=0∧o.rk=0∧o.dc=0∧o.tr=0∧o.wt=0):=fun h=>hz (by simp[Ou.isZ,h])
    simp[l3,e3,hz,hz']
  |none=>
   have l3:=List.getElem?_eq_none_iff.1 h3
   have l3': ¬(j:Int)<l.length:=by omega
   rw[drop_none h3]
   unfold En.aOK
   by_cases h4:e.kd=4
   ·simp[l3',h4]
    unfold awd
    repeat' split
    all_goals simp_all [Bool.or_assoc]
   ·simp[l3',h4]
theorem l53(hF:Fr H)(e:En):GK H 53 [.agg e.cells]=some (bv e.right):=by
 unfold En.right
 by_cases h1:4<e.kd∨3<e.fl
 ·rw[if_pos h1];exact l53a hF e h1
 ·rw[if_neg h1]
  cases hu:e.used.2 with
  |false=>rw[if_pos rfl];exact l53b hF e h1 hu
  |true=>
   rw[if_neg (by simp)]
   by_cases h2:e.used.1=0∧(e.fl≠0∨e.tu=true)
   ·rw[if_pos h2];exact l53c hF e h1 hu h2.1 h2.2
   ·rw[if_neg h2];exact l53d hF e h1 hu h2
def Ss.chk(s:Ss)(e:En):Int:=match findR e.rd e.tb s.rows with
 |none=>310
 |some i=>match s.rows[i]? with
  |none=>0
  |some r=>if r.ns≤0∨r.ew≤0 then 310
   else if s.bs<1∨e.bd<1∨128<e.bd∨IntKind.i64.wrap ((IntKind.i64.wrap (e.bd-1)).tdiv s.bs)≠r.st then 311
   else if e.vs<1∨99<e.vs then 312
   else if e.right=false then 313 else 0
theorem findR_some{rd tb:Int}: ∀{l:List Rw} {i:Nat},findR rd tb l=some i→ ∃r,l[i]?=some r∧r.rd=rd∧r.tb=tb
 | [],_,h=>by cases h
 |r::s,i,h=>by
  unfold findR at h
  split at h
  ·rename_i hc;cases h;exact⟨r,rfl,hc⟩
  ·cases hf:findR rd tb s with
   |none=>rw[hf]at h;cases h
   |some j=>
    rw[hf]at h;cases h
    obtain⟨q,h1,h2⟩:=findR_some hf
    exact⟨q,by simpa using h1,h2⟩
theorem l18a(hF:Fr H)(s:Ss)(hl:s.rows.length<9999)(e:En)(h:findR e.rd e.tb s.rows=none):GK H 18 [.agg s.cells, .agg e.cells]=some (iv 310):=by
 refine by_term hF ok18 ?_
 conv=>enter [1,3];cbv
 have k:XK.run (GK H) (.call false 51) [.list (s.rows.map Rw.cells), .clo 52 [.lptr e.cells]]=some (iv (-1)):=r_call (by rw[l51 hF s.rows hl e,h];rfl) rfl rfl
 have k2:XK.run (GK H) (.clo 52) [.lptr e.cells]=some (.clo 52 [.lptr e.cells]):=rfl
 simp[k,k2]
theorem l18b(hF:Fr H)(s:Ss)(hl:s.rows.length<9999)(e:En){i:Nat}{r:Rw}(h:findR e.rd e.tb s.rows=some i)(hr:s.rows[i]?=some r):GK H 18 [.agg s.cells, .agg e.cells]=some (iv (s.chk e)):=by
 refine by_term hF ok18 ?_
 conv=>enter [1,3];cbv
 have k:XK.run (GK H) (.call false 51) [.list (s.rows.map Rw.cells), .clo 52 [.lptr e.cells]]=some (iv (i:Int)):=r_call (by rw[l51 hF s.rows hl e,h];rfl) rfl rfl
 have k2:XK.run (GK H) (.clo 52) [.lptr e.cells]=some (.clo 52 [.lptr e.cells]):=rfl
 have k3:XK.run (GK H) (.call false 53) [.agg e.cells]=some (bv e.right):=r_call (l53 hF e) rfl rfl
 have li:=(Gz.1 hr).1
 have er:=(Gz.1 hr).2
 have hi: ¬(i:Int)<0:=by omega
 unfold Ss.chk
 rw[h]
 simp only[hr]
 by_cases h1:r.ns≤0
 ·simp[k,k2,hi,li,er,h1]
 ·by_cases h2:r.ew≤0
  ·simp[k,k2,hi,li,er,h1,h2]
  ·by_cases h3:s.bs<1
   ·simp[k,k2,hi,li,er,h1,h2,h3]
   ·by_cases h4:e.bd<1
    ·simp[k,k2,hi,li,er,h1,h2,h3,h4]
    ·by_cases h5:128<e.bd
     ·simp[k,k2,hi,li,er,h1,h2,h3,h4,h5]
     ·have h0: ¬s.bs=0:=by omega
      by_cases h6:IntKind.i64.wrap ((IntKind.i64.wrap (e.bd-1)).tdiv s.bs)=r.st
      ·by_cases h7:e.vs<1
       ·simp[k,k2,hi,li,er,h1,h2,h3,h4,h5,h0,h6,h7]
       ·by_cases h8:99<e.vs
        ·simp[k,k2,hi,li,er,h1,h2,h3,h4,h5,h0,h6,h7,h8]
        ·cases h9:e.right<;>simp[k,k2,k3,hi,li,er,h1,h2,h3,h4,h5,h0,h6,h7,h8,h9]
      ·simp[k,k2,hi,li,er,h1,h2,h3,h4,h5,h0,h6]
theorem l18(hF:Fr H)(s:Ss)(hl:s.rows.length<9999)(e:En):GK H 18 [.agg s.cells, .agg e.cells]=some (iv (s.chk e)):=by
 cases h:findR e.rd e.tb s.rows with
 |none=>unfold Ss.chk;rw[h];exact l18a hF s hl e h
 |some i=>obtain⟨r,hr,_⟩:=findR_some h;exact l18b hF s hl e h hr
end Ty
end
section
namespace Ty
theorem cmp1_neg{a b:Int}:cmp1 a b<0↔a<b:=by unfold cmp1;repeat' split<;>omega
theorem cmp1_pos{a b:Int}:0<cmp1 a b↔b<a:=by unfold cmp1;repeat' split<;>omega
theorem lexC_zero: ∀{xs ys:List Int},lexC xs ys=0↔xs=ys
 | [],[]=>by simp[lexC]
 | [],_::_=>by simp[lexC]
 |_::_,[]=>by simp[lexC]
 |a::r,b::s=>by
  unfold lexC
  by_cases h:cmp1 a b=0
  ·rw[if_pos h,lexC_zero,cmp1_0.1 h];simp
  ·rw[if_neg h]
   have:a≠b:=fun e=>h (cmp1_0.2 e)
   simp[h,this]
theorem lexC_neg: ∀{xs ys:List Int},lexC xs ys<0↔0<lexC ys xs
 | [],[]=>by simp[lexC]
 | [],_::_=>by simp[lexC]
 |_::_,[]=>by simp[lexC]
 |a::r,b::s=>by
  unfold lexC
  by_cases h:a=b
  ·rw[if_pos (cmp1_0.2 h),if_pos (cmp1_0.2 h.symm),lexC_neg]
  ·rw[if_neg (fun e=>h (cmp1_0.1 e)),if_neg (fun e=>h (cmp1_0.1 e).symm),cmp1_neg,cmp1_pos]
theorem lexC_trans: ∀{xs ys zs:List Int},lexC xs ys<0→lexC ys zs<0→lexC xs zs<0
 | [],[],_,h,_=>by simp[lexC]at h
 | [],_::_,[],_,h=>by simp[lexC]at h
 | [],_::_,_::_,_,_=>by simp[lexC]
 |_::_,[],_,h,_=>by simp[lexC]at h
 |_::_,_::_,[],_,h=>by simp[lexC]at h
 |a::r,b::s,c::t,h,k=>by
  unfold lexC at h k⊢
  by_cases h1:a=b
  ·subst h1
   rw[if_pos (cmp1_0.2 rfl)]at h
   by_cases h2:a=c
   ·subst h2
    rw[if_pos (cmp1_0.2 rfl)]at k⊢
    exact lexC_trans h k
   ·rw[if_neg (fun e=>h2 (cmp1_0.1 e))]at k⊢
    exact k
  ·rw[if_neg (fun e=>h1 (cmp1_0.1 e)),cmp1_neg]at h
   by_cases h2:b=c
   ·subst h2
    rw[if_neg (fun e=>h1 (cmp1_0.1 e)),cmp1_neg];exact h
   ·rw[if_neg (fun e=>h2 (cmp1_0.1 e)),cmp1_neg]at k
    rw[if_neg (fun e=>by have:=cmp1_0.1 e;omega),cmp1_neg];omega
theorem cmp_lex(e x:En):e.cmp x=e.lex x:=by
 unfold En.cmp
 split
 ·rename_i h
  unfold En.cmpK at h⊢
  unfold En.lex En.nums
  simp only[lexC]
  unfold first3 at h⊢
  by_cases h1:cmp1 e.rd x.rd=0
  ·by_cases h2:cmp1 e.tb x.tb=0
   ·by_cases h3:cmp1 e.bd x.bd=0
    ·simp[h1,h2,h3]at h
    ·simp[h1,h2,h3]
   ·simp[h1,h2]
  ·simp[h1]
 ·rfl
theorem cmp_trans{a b c:En}(h:a.cmp b<0)(k:b.cmp c<0):a.cmp c<0:=by
 rw[cmp_lex]at h k⊢;exact lexC_trans h k
theorem cmp_irrefl(a:En): ¬a.cmp a<0:=by rw[cmp_lex];unfold En.lex;rw[lexC_self];omega
theorem cmp_ntrans{a b c:En}(h: ¬a.cmp b<0)(k: ¬b.cmp c<0): ¬a.cmp c<0:=by
 rw[cmp_lex]at h k⊢
 unfold En.lex at h k⊢
 have e: ∀{x y:List Int},¬lexC x y<0↔lexC y x<0∨x=y:=fun{x y}=>by
  rw[lexC_neg (xs:=y),←lexC_zero];omega
 rw[e]at h k⊢
 rcases h with h|h
 ·rcases k with k|k
  ·exact .inl (lexC_trans k h)
  ·rw[←k];exact .inl h
 ·rw[h];exact k
def u8(z:Int):Bool:=decide (0≤z)&&decide (z<256)
def Ou.okB(o:Ou):Bool:=u8 o.lv&&u8 o.dn&&u8 o.rk&&u8 o.dc
def En.okB(e:En):Bool:=u8 e.kd&&u8 e.fl&&e.o0.okB&&e.o1.okB&&e.o2.okB&&e.o3.okB
theorem u8_wrap{z:Int}(h:u8 z=true):IntKind.i64.wrap z=z:=by
 simp[u8]at h
 exact wr (by omega) (by omega)
theorem nums_inj{e x:En}(he:e.okB=true)(hx:x.okB=true)(h:e.nums=x.nums):e=x:=by
 obtain⟨rd,tb,bd,vs,kd,fl,tu,⟨l0,d0,r0,c0,t0,w0⟩,⟨l1,d1,r1,c1,t1,w1⟩,⟨l2,d2,r2,c2,t2,w2⟩,⟨l3,d3,r3,c3,t3,w3⟩,a0,a1⟩:=e
 obtain⟨rd',tb',bd',vs',kd',fl',tu',⟨l0',d0',r0',c0',t0',w0'⟩,⟨l1',d1',r1',c1',t1',w1'⟩,⟨l2',d2',r2',c2',t2',w2'⟩,⟨l3',d3',r3',c3',t3',w3'⟩,a0',a1'⟩:=x
 simp[En.okB,Ou.okB]at he hx
 simp[En.nums,Ou.nums]at h
 have e1:tu=tu':=by
  have:=h.2.2.2.2.2.2.1
  cases tu<;>cases tu'<;>simp at this⊢
 simp[u8_wrap,he,hx]at h
 simp[h,e1]
end Ty
end
end Go.Proofs.YtkcfpgaepmllhaaGreatDoor
namespace Go.Proofs
open Go.Shelf
def Tryz.sortEntry_ren:Go.Shelf.Ren:=⟨fun|6=>43|15=>81|14=>80|28=>132|29=>133|20=>124|21=>125|22=>126|23=>127|24=>128|25=>129|26=>130|27=>131|46=>173|47=>174|48=>175|49=>176|50=>177|57=>219|n=>n,fun|22=>27|24=>40|25=>115|3=>3|39=>170|0=>0|53=>228|55=>198|4=>4|46=>222|45=>221|50=>182|5=>5|9=>9|66=>265|70=>269|76=>332|77=>307|n=>n,fun|n=>n⟩
theorem Tryz.sortEntry:Go.Proofs.SlLaysF0.n6 Tryz.prog Tryz.sortEntry_ren:={
 mixed:=by kernel_rfl
 f6:=⟨Tryz.f43.name,by decide,Tryz.func43.trans (congrArg some (by kernel_rfl))⟩
 f14:=⟨Tryz.f80.name,by decide,Tryz.func80.trans (congrArg some (by kernel_rfl))⟩
 f15:=Tryz.func81.trans (congrArg some (by kernel_rfl))
 f20:=⟨Tryz.f124.name,by decide,Tryz.func124.trans (congrArg some (by kernel_rfl))⟩
 f21:=⟨Tryz.f125.name,by decide,Tryz.func125.trans (congrArg some (by kernel_rfl))⟩
 f22:=⟨Tryz.f126.name,by decide,Tryz.func126.trans (congrArg some (by kernel_rfl))⟩
 f23:=⟨Tryz.f127.name,by decide,Tryz.func127.trans (congrArg some (by kernel_rfl))⟩
 f24:=⟨Tryz.f128.name,by decide,Tryz.func128.trans (congrArg some (by kernel_rfl))⟩
 f25:=⟨Tryz.f129.name,by decide,Tryz.func129.trans (congrArg some (by kernel_rfl))⟩
 f26:=⟨Tryz.f130.name,by decide,Tryz.func130.trans (congrArg some (by kernel_rfl))⟩
 f27:=⟨Tryz.f131.name,by decide,Tryz.func131.trans (congrArg some (by kernel_rfl))⟩
 f28:=Tryz.func132.trans (congrArg some (by kernel_rfl))
 f29:=Tryz.func133.trans (congrArg some (by kernel_rfl))
 f46:=⟨Tryz.f173.name,by decide,Tryz.func173.trans (congrArg some (by kernel_rfl))⟩
 f47:=Tryz.func174.trans (congrArg some (by kernel_rfl))
 f48:=Tryz.func175.trans (congrArg some (by kernel_rfl))
 f49:=⟨Tryz.f176.name,by decide,Tryz.func176.trans (congrArg some (by kernel_rfl))⟩
 f50:=⟨Tryz.f177.name,by decide,Tryz.func177.trans (congrArg some (by kernel_rfl))⟩
 f57:=⟨Tryz.f219.name,by decide,Tryz.func219.trans (congrArg some (by kernel_rfl))⟩
 t0:=Tryz.underlying0
 a0:=Tryz.isAgg0
 z0:=Tryz.sizeOf0
 v0:=Tryz.zeroValue0
 t3:=Tryz.underlying3
 a3:=Tryz.isAgg3
 z3:=Tryz.sizeOf3
 v3:=Tryz.zeroValue3
 t4:=Tryz.underlying4
 a4:=Tryz.isAgg4
 z4:=Tryz.sizeOf4
 v4:=Tryz.zeroValue4
 t5:=Tryz.underlying5
 a5:=Tryz.isAgg5
 z5:=Tryz.sizeOf5
 v5:=Tryz.zeroValue5
 t9:=Tryz.underlying9
 a9:=Tryz.isAgg9
 z9:=Tryz.sizeOf9
 v9:=Tryz.zeroValue9
 t22:=Tryz.underlying27
 a22:=Tryz.isAgg27
 z22:=Tryz.sizeOf27
 v22:=Tryz.zeroValue27
 t25:=Tryz.underlying115
 a25:=Tryz.isAgg115
 z25:=Tryz.sizeOf115
 v25:=Tryz.zeroValue115
 t39:=Tryz.underlying170
 a39:=Tryz.isAgg170
 z39:=Tryz.sizeOf170
 v39:=Tryz.zeroValue170
 t45:=Tryz.underlying221
 a45:=Tryz.isAgg221
 z45:=Tryz.sizeOf221
 v45:=Tryz.zeroValue221
 t46:=Tryz.underlying222
 a46:=Tryz.isAgg222
 z46:=Tryz.sizeOf222
 v46:=Tryz.zeroValue222
 t50:=Tryz.underlying182
 a50:=Tryz.isAgg182
 z50:=Tryz.sizeOf182
 v50:=Tryz.zeroValue182
 t53:=Tryz.underlying228
 a53:=Tryz.isAgg228
 z53:=Tryz.sizeOf228
 v53:=Tryz.zeroValue228
 t55:=Tryz.underlying198
 a55:=Tryz.isAgg198
 z55:=Tryz.sizeOf198
 v55:=Tryz.zeroValue198
 t66:=Tryz.underlying265
 a66:=Tryz.isAgg265
 z66:=Tryz.sizeOf265
 v66:=Tryz.zeroValue265
 t70:=Tryz.underlying269
 a70:=Tryz.isAgg269
 z70:=Tryz.sizeOf269
 v70:=Tryz.zeroValue269
 t76:=Tryz.underlying332
 a76:=Tryz.isAgg332
 z76:=Tryz.sizeOf332
 v76:=Tryz.zeroValue332
 t77:=Tryz.underlying307
 a77:=Tryz.isAgg307
 z77:=Tryz.sizeOf307
 v77:=Tryz.zeroValue307}
end Go.Proofs
namespace Go.Proofs.YtkcfpgaepmllhaaGreatDoor
open Go.RowKit
set_option maxRecDepth 100000
section
namespace Ty
def tI{α:Type}(k:IntKind)(f:Int→List D→Option α):List D→Option α
 | .v (.int q z)::r=>if q=k then f z r else none
 |_=>none
def tB{α:Type}(f:Bool→List D→Option α):List D→Option α
 | .v (.bool b)::r=>f b r
 |_=>none
theorem tI_some{α:Type}{k:IntKind}{f:Int→List D→Option α}{l:List D}{a:α}(h:tI k f l=some a): ∃z r,l= .v (.int k z)::r∧f z r=some a:=by
 unfold tI at h
 split at h
 ·split at h
  ·rename_i e;subst e;exact⟨_,_,rfl,h⟩
  ·cases h
 ·cases h
theorem tB_some{α:Type}{f:Bool→List D→Option α}{l:List D}{a:α}(h:tB f l=some a): ∃z r,l= .v (.bool z)::r∧f z r=some a:=by
 unfold tB at h
 split at h
 ·exact⟨_,_,rfl,h⟩
 ·cases h
def tO{α:Type}(f:Ou→List D→Option α):List D→Option α:=
 tI .u8 fun a=>tI .u8 fun b=>tI .u8 fun c=>tI .u8 fun d=>tI .i64 fun e=>tI .i64 fun g=>f ⟨a,b,c,d,e,g⟩
theorem tO_some{α:Type}{f:Ou→List D→Option α}{l:List D}{a:α}(h:tO f l=some a): ∃o r,l=o.cells++r∧f o r=some a:=by
 unfold tO at h
 obtain⟨z1,r1,rfl,h1⟩:=tI_some h
 obtain⟨z2,r2,rfl,h2⟩:=tI_some h1
 obtain⟨z3,r3,rfl,h3⟩:=tI_some h2
 obtain⟨z4,r4,rfl,h4⟩:=tI_some h3
 obtain⟨z5,r5,rfl,h5⟩:=tI_some h4
 obtain⟨z6,r6,rfl,h6⟩:=tI_some h5
 exact⟨_,r6,rfl,h6⟩
def tEnd{α:Type}(a:α):List D→Option α
 | []=>some a
 |_=>none
def decE:List D→Option En:=
 tI .i64 fun rd=>tI .i64 fun tb=>tI .i64 fun bd=>tI .i64 fun vs=>tI .u8 fun kd=>tI .u8 fun fl=>tB fun tu=>tO fun o0=>tO fun o1=>tO fun o2=>tO fun o3=>tI .i64 fun a0=>tI .i64 fun a1=>tEnd ⟨rd,tb,bd,vs,kd,fl,tu,o0,o1,o2,o3,a0,a1⟩
theorem decE_some{l:List D}{e:En}(h:decE l=some e):l=e.cells:=by
 unfold decE at h
 obtain⟨z1,r1,rfl,h1⟩:=tI_some h
 obtain⟨z2,r2,rfl,h2⟩:=tI_some h1
 obtain⟨z3,r3,rfl,h3⟩:=tI_some h2
 obtain⟨z4,r4,rfl,h4⟩:=tI_some h3
 obtain⟨z5,r5,rfl,h5⟩:=tI_some h4
 obtain⟨z6,r6,rfl,h6⟩:=tI_some h5
 obtain⟨z7,r7,rfl,h7⟩:=tB_some h6
 obtain⟨o0,r8,rfl,h8⟩:=tO_some h7
 obtain⟨o1,r9,rfl,h9⟩:=tO_some h8
 obtain⟨o2,ra,rfl,h10⟩:=tO_some h9
 obtain⟨o3,rb,rfl,h11⟩:=tO_some h10
 obtain⟨z8,rc,rfl,h12⟩:=tI_some h11
 obtain⟨z9,rd,rfl,h13⟩:=tI_some h12
 unfold tEnd at h13
 split at h13
 ·cases h13;rfl
 ·cases h13
theorem decE_cells(e:En):decE e.cells=some e:=rfl
def goodE(l:List D):Bool:=match decE l with
 |some e=>e.okB
 |none=>false
theorem goodE_of{l:List D}(h:goodE l=true): ∃e:En,l=e.cells∧e.okB=true:=by
 unfold goodE at h
 split at h
 ·rename_i e he;exact⟨e,decE_some he,h⟩
 ·cases h
def cfE(l m:List D):Int:=match decE l,decE m with
 |some e,some x=>e.cmp x
 |_,_=>0
theorem cfE_cells(e x:En):cfE e.cells x.cells=e.cmp x:=by simp[cfE,decE_cells]
theorem entCmp:CmpD Tryz.prog 44 33 goodE cfE where
 len x h:=by obtain⟨e,rfl,_⟩:=goodE_of h;rfl
 pl x h d hd:=by
  obtain⟨e,rfl,_⟩:=goodE_of h
  have:e.cells.all plainD=true:=rfl
  exact Tz.1 this d hd
 ok x y hx hy:=by
  obtain⟨e,rfl,_⟩:=goodE_of hx
  obtain⟨e',rfl,_⟩:=goodE_of hy
  rw[cfE_cells]
  exact((GG_sound (C:=cx) (N:=10000) rfl hand_sound mixedP).p 44 _ _ (by decide) (l44 fr_hand e e')).1
 body:=⟨Tryz.f44,Tryz.func44,rfl,by kernel_rfl⟩
 lt:=by decide
 irrefl x h:=by
  obtain⟨e,rfl,_⟩:=goodE_of h
  rw[cfE_cells];exact cmp_irrefl e
 trans x y z hx hy hz:=by
  obtain⟨a,rfl,_⟩:=goodE_of hx
  obtain⟨b,rfl,_⟩:=goodE_of hy
  obtain⟨c,rfl,_⟩:=goodE_of hz
  simp only[cfE_cells];exact cmp_trans
 ntrans x y z hx hy hz:=by
  obtain⟨a,rfl,_⟩:=goodE_of hx
  obtain⟨b,rfl,_⟩:=goodE_of hy
  obtain⟨c,rfl,_⟩:=goodE_of hz
  simp only[cfE_cells];exact cmp_ntrans
 anti x y hx hy:=by
  obtain⟨a,rfl,ha⟩:=goodE_of hx
  obtain⟨b,rfl,hb⟩:=goodE_of hy
  simp only[cfE_cells]
  intro h k
  rw[cmp_lex]at h k
  unfold En.lex at h k
  have h1:lexC a.nums b.nums=0:=by
   rw[lexC_neg]at k;omega
  rw[nums_inj ha hb (lexC_zero.1 h1)]
theorem entSort{es:List (List D)}(hnil:es= []→VCp Tryz.prog 43 [.list [], .clo 44 []] (.tup []))(hes: ∀x∈es,goodE x=true)(hlen:es.length<4611686018427387904):VEp Tryz.prog 0 43 [.list es, .clo 44 []] es (sortS (ltD cfE) es) (.tup []):=
 entCmp.sort (ρ:=Tryz.sortEntry_ren) Tryz.sortEntry (fun w=>by rfl) (fun w=>by rfl) ⟨Tryz.f43,Tryz.func43,rfl,by kernel_rfl⟩ (x0:=(⟨0,0,0,0,0,0,false,⟨0,0,0,0,0,0⟩,⟨0,0,0,0,0,0⟩,⟨0,0,0,0,0,0⟩,⟨0,0,0,0,0,0⟩,0,0⟩:En).cells) rfl hes hlen hnil
end Ty
end
section
namespace Ty
theorem entNil:VCp Tryz.prog 43 [.list [], .clo 44 []] (.tup []):=by
 refine .inr ⟨⟨Tryz.f43,Tryz.func43,rfl,by kernel_rfl⟩,fun w pr cargs hpr hG hr=> ?_⟩
 have key: ∀(p:Option Addr) (cap:Nat) (fv:Value),cargs= #[.slice p 0 cap,fv]→Calls Tryz.prog 43 cargs w fun e w'=> ∃v pr',e= .returned v∧Chg (fun _=>False) w w'∧(∀b o,pr b o→pr' b o)∧(∀b o,pr' b o→pr b o∨(w.heap.size≤b∧b<w'.heap.size))∧Rep w' pr' noTok v (.tup []):=fun p cap fv hc=>by
  subst hc
  refine(AnyF.slices_SortFunc_none Tryz.sortEntry p cap fv w).mono ?_
  rintro e w' ⟨rfl,rfl⟩
  exact⟨_,pr,rfl,Chg.refl _ _,fun _ _ h=>h,fun _ _ h=> .inl h, .tup rfl fun i c x h=>by simp at h⟩
 obtain⟨l⟩:=cargs
 match l,hr with
 | [a,f],⟨h1,_⟩=>
  generalize hd:D.list []=d at h1
  cases h1<;>first|(cases hd;done)|skip
  ·exact key none 0 f rfl
  ·exact key _ _ f rfl
  ·injection hd with hd
   subst hd
   exact key _ _ f rfl
def handE:FP:=fun f ds=>if f=1000043 then(match ds with
  | [.list es, .clo 44 []]=>if es.all goodE=true∧es.length<65536 then some (.tup [.tup [], .list (sortS (ltD cfE) es)])else none
  |_=>none)else handH f ds
theorem handE_sound:Sound Tryz.prog (env0 handE) where
 p f ds d hlt h:=by
  have h:handE f ds=some d:=h
  unfold handE at h
  rw[if_neg (by omega)]at h
  exact hand_sound.p f ds d hlt h
 e k f ds r hf h6 h:=by
  replace h:handE (1000000+(1000000*k+f)) ds=some r:=h
  unfold handE at h
  split at h
  ·rename_i he
   have hk:k=0:=by omega
   have hf7:f=43:=by omega
   rw[hk,hf7]
   split at h
   ·rename_i es
    split at h<;>cases h
    rename_i hc
    exact⟨es,_,_,rfl,rfl,entSort (fun _=>entNil) (fun x hx=>Tz.1 hc.1 x hx) (by omega)⟩
   ·cases h
  ·exact hand_sound.e k f ds r hf h6 h
 q e f ds r hf h:=by
  obtain⟨d,hd,rfl⟩:=Mz.1 (show(handE (1000001000000+(1000000*e+f)) ds).map _=some r from h)
  unfold handE at hd
  rw[if_neg (by omega)]at hd
  exact hand_sound.q e f ds _ hf (show Option.map _ _=_ by rw[hd];rfl)
theorem fr_handE:Fr handE:=fun f ds h h1=>by unfold handE;rw[if_neg (by omega)];exact fr_hand f ds h h1
end Ty
end
section
open Go.RowKit Go.Sort
namespace Ty
def ltE(a b:En):Bool:=decide (a.cmp b<0)
theorem sort_cells(l:List En):sortS (ltD cfE) (l.map En.cells)=(sortS ltE l).map En.cells:=
 (sortS_map (f:=En.cells) (lt:=ltE) (lt':=ltD cfE) (fun x y=>by unfold ltD ltE;rw[cfE_cells]) l).symm
theorem swoE:SWO ltE:=
 ⟨fun x=>decide_eq_false (cmp_irrefl x),fun _ _ _ h1 h2=>decide_eq_true (cmp_trans (of_decide_eq_true h1) (of_decide_eq_true h2)),fun _ _ _ h1 h2=>decide_eq_false (cmp_ntrans (of_decide_eq_false h1) (of_decide_eq_false h2))⟩
def dedE [DecidableEq En]:List En→List En
 |a::b::r=>if a=b then dedE (b::r)else a::dedE (b::r)
 |l=>l
theorem ded_head [DecidableEq En]: ∀(b:En) (r:List En),∃s,dedE (b::r)=b::s
 |b,[]=>⟨[],rfl⟩
 |b,c::r=>by
  unfold dedE
  split
  ·rename_i h;subst h;exact ded_head b r
  ·exact⟨_,rfl⟩
theorem ded_set [DecidableEq En]: ∀(l:List En),(∀e∈l,e.okB=true)→l.Pairwise (fun a b=>ltE b a=false)→setB (dedE l)=true
 | [],_,_=>rfl
 | [a],_,_=>rfl
 |a::b::r,hok,h=>by
  have ih:=ded_set (b::r) (fun e he=>hok e (Cz _ he)) (List.pairwise_cons.1 h).2
  unfold dedE
  split
  ·exact ih
  ·rename_i hne
   obtain⟨s,hs⟩:=ded_head b r
   rw[hs]at ih⊢
   have h1:=(List.pairwise_cons.1 h).1 b (List.mem_cons_self ..)
   have h2:a.cmp b<0:=by
    unfold ltE at h1
    have h3:=of_decide_eq_false h1
    by_cases h4:a.cmp b<0
    ·exact h4
    ·exfalso
     apply hne
     rw[cmp_lex]at h3 h4
     unfold En.lex at h3 h4
     have h5:lexC a.nums b.nums=0:=by rw[lexC_neg]at h3;omega
     exact nums_inj (hok a (List.mem_cons_self ..)) (hok b (Cz _ (List.mem_cons_self ..))) (lexC_zero.1 h5)
   simp[setB,h2,ih]
end Ty
end
section
namespace Ty
theorem setB_iff: ∀l:List En,setB l=true↔l.Pairwise (fun a b=>a.cmp b<0)
 | []=>by simp[setB]
 | [a]=>by simp[setB]
 |a::b::r=>by
  have ih:=setB_iff (b::r)
  unfold setB
  rw[List.pairwise_cons,←ih]
  constructor
  ·intro h
   split at h
   ·rename_i h1
    refine⟨fun x hx=> ?_,h⟩
    rcases List.mem_cons.1 hx with rfl|hx
    ·exact h1
    ·exact cmp_trans h1 ((List.pairwise_cons.1 (ih.1 h)).1 x hx)
   ·cases h
  ·rintro⟨h1,h2⟩
   rw[if_pos (h1 b (List.mem_cons_self ..))];exact h2
theorem setB_sub{l m:List En}(h:setB l=true)(hs:m.Sublist l):setB m=true:=
 (setB_iff m).2 (((setB_iff l).1 h).sublist hs)
theorem setB_twice(l:List En)(z:En):setB (l++ [z,z])=false:=by
 cases h:setB (l++ [z,z])with
 |false=>rfl
 |true=>
  have h1:=List.pairwise_append.1 ((setB_iff _).1 h)
  have h2:=(List.pairwise_cons.1 h1.2.1).1 z (by simp)
  exact absurd h2 (cmp_irrefl z)
def cntE:List En→List En
 |a::b::r=>if a.cmpK b=0 then cntE (b::r)else a::cntE (b::r)
 |l=>l
def runK(k:En):List En→Nat
 | []=>0
 |a::r=>if a.cmpK k=0 then runK k r+1 else 0
theorem runK_le(k:En): ∀l:List En,runK k l≤l.length
 | []=>by simp[runK]
 |a::r=>by
  unfold runK;split
  ·have:=runK_le k r;simp;omega
  ·simp
theorem first3_0{a b c:Int}:first3 a b c=0↔a=0∧b=0∧c=0:=by
 unfold first3
 repeat' split
 all_goals omega
theorem cmpK_0{e x:En}:e.cmpK x=0↔e.rd=x.rd∧e.tb=x.tb∧e.bd=x.bd:=by
 unfold En.cmpK
 rw[first3_0,cmp1_0,cmp1_0,cmp1_0]
theorem cmpK_self(e:En):e.cmpK e=0:=cmpK_0.2 ⟨rfl,rfl,rfl⟩
end Ty
end
section
namespace Ty
variable {H : FP}
theorem l97(hF:Fr H)(s:Ss)(n:Int)(h54:GK H 54 [.agg s.cells]=some (iv 0))(hn:n<1∨IntKind.i64.wrap (s.ss*s.bs)<n):GK H 97 [.agg s.cells,iv n]=some (.tup [iv 0,iv 6]):=by
 refine by_term hF ok97 ?_
 conv=>enter [1,3];cbv
 have k:XK.run (GK H) (.call false 54) [.agg s.cells]=some (iv 0):=r_call h54 rfl rfl
 by_cases h1:n<1
 ·simp[k,h1]
 ·simp[k,h1,hn.resolve_left h1]
theorem r_callO{G:FP}{fl:Bool}{f:Nat}{ds:List D}{d:D}(h:G f ds=some d.own)(h2:d.noT=true):XK.run G (.call fl f) ds=some d:=by
 show(G f ds).bind _=_
 rw[h,Oz]
 show(if(if fl then d.flat||true&&d.noT else d.noT)=true then some d else none)=_
 rw[h2]
 cases fl<;>simp
theorem r_callB{G:FP}{f:Nat}{ds:List D}{r d:D}(h:G f ds=some r)(hb:r.bare=d)(h2:d.noT=true):XK.run G (.call false f) ds=some d:=by
 show(G f ds).bind _=_
 rw[h,Oz]
 show(if r.bare.noT=true then some r.bare else none)=_
 rw[hb,h2];rfl
theorem l60(hF:Fr H)(s:Ss)(l c:List En)(n:Int)(h47:XK.run (GK H) (.call false 47) [.agg s.cells, .list (l.map En.cells)]=some (.tup [.list (c.map En.cells),iv 0]))(h54:GK H 54 [.agg s.cells]=some (iv 0))(hn:n<1∨IntKind.i64.wrap (s.ss*s.bs)<n):GK H 60 [.agg s.cells, .list (l.map En.cells),iv n]=some (D.own (.tup [.list [],iv 6])):=by
 refine by_term hF ok60 ?_
 conv=>enter [1,3];cbv
 have k:=h47
 have k2:XK.run (GK H) (.call false 97) [.agg s.cells,iv n]=some (.tup [iv 0,iv 6]):=r_call (l97 hF s n h54 hn) rfl rfl
 have k3:XK.run (GK H) (.pk (.fbox 1)) [iv n]=some (.lptr [iv n]):=rfl
 have k4:XK.run (GK H) .okc [.nil]=some .nil:=rfl
 simp[k,k2,k3,k4]
 exact⟨rfl,rfl⟩
theorem l24(hF:Fr H)(s:Ss)(l c:List En)(n:Int)(h47:XK.run (GK H) (.call false 47) [.agg s.cells, .list (l.map En.cells)]=some (.tup [.list (c.map En.cells),iv 0]))(h54:GK H 54 [.agg s.cells]=some (iv 0))(hn:n<1∨IntKind.i64.wrap (s.ss*s.bs)<n):GK H 24 [.agg s.cells, .list (l.map En.cells),iv n]=some (.tup [.agg [iv 0,iv 0], .agg [iv 0,iv 0],iv 6]):=by
 refine by_term hF ok24 ?_
 conv=>enter [1,3];cbv
 have k:XK.run (GK H) (.call false 60) [.agg s.cells, .list (l.map En.cells),iv n]=some (.tup [.list [],iv 6]):=r_callO (l60 hF s l c n h47 h54 hn) rfl
 simp[k]
 first|rfl|exact⟨rfl,rfl⟩
end Ty
end
section
namespace Ty
variable {H : FP}
def sub:List Nat→FT→FT
 | [],t=>t
 |_::p, .chk _ k=>sub p k
 |_::p, .lets _ k=>sub p k
 |_::p, .loop _ k=>sub p k
 |0::p, .ite _ a _=>sub p a
 |_::p, .ite _ _ b=>sub p b
 |0::p, .jp k _=>sub p k
 |_::p, .jp _ b=>sub p b
 |_,t=>t
theorem front23:tm23= .lets [.mk (.pk (.fbox 7)) [.t 0]] (.lets [.mk (.call false 60) [.mk .nrm [.mk (.pk (.load 7 true)) [.t 3]], .mk .nrm [.t 1], .mk .nrm [.t 2]]] (.lets [.mk (.pk (.ext 1)) [.t 4]] (.lets [.mk (.pk (.ext 0)) [.t 4]]
  (.lets [.mk (.pk (.ibin .neq)) [.t 5, .q (iv 0)]] (.ite (.t 7) (.ret (.mk .tup [.mk .nrm [.q .nil], .mk .nrm [.t 5]])) (sub [0,0,0,0,0,1] tm23)))))):=by kernel_rfl
theorem l23(hF:Fr H)(s:Ss)(l c:List En)(n:Int)(h47:XK.run (GK H) (.call false 47) [.agg s.cells, .list (l.map En.cells)]=some (.tup [.list (c.map En.cells),iv 0]))(h54:GK H 54 [.agg s.cells]=some (iv 0))(hn:n<1∨IntKind.i64.wrap (s.ss*s.bs)<n):GK H 23 [.agg s.cells, .list (l.map En.cells),iv n]=some (D.own (.tup [.list [],iv 6])):=by
 refine by_term hF ok23 ?_
 rw[front23]
 have k:XK.run (GK H) (.call false 60) [.agg s.cells, .list (l.map En.cells),iv n]=some (.tup [.list [],iv 6]):=r_callO (l60 hF s l c n h47 h54 hn) rfl
 simp[k]
 exact⟨rfl,rfl⟩
end Ty
end
section
namespace Ty
variable {H : FP}
section
variable {G : FP}
theorem r_slcd{es:List (List D)}{sz i:Nat}{k:IntKind}(hes: ∀c∈es,c.length=sz)(h:i≤es.length):XK.run G (.pk (.slc sz true false false)) [.list es, .v (.int k (i:Int))]=some (.list (es.drop i)):=by
 have h1: ¬ ∃x,x∈es∧ ¬x.length=sz:=fun⟨x,hx,hn⟩=>hn (hes x hx)
 simp[XK.run,PK.run,slcV,intsV,boundsV,cutV,h1,h,D.noT]
 exact List.take_of_length_le (by simp)
theorem slE{l:List En}{i:Nat}{k:IntKind}(h:i≤l.length):XK.run G (.pk (.slc 33 true false false)) [.list (l.map En.cells), .v (.int k (i:Int))]=some (.list ((l.drop i).map En.cells)):=by
 rw[r_slcd (by simp) (by simpa using h),List.map_drop]
@[simp] theorem r_shr1{a:Int}:XK.run G (.pk (.ishift .shr)) [.v (.int .u64 a), .v (.int .u64 1)]=some (.v (.int .u64 (a.fdiv 2))):=nr rfl
@[simp] theorem r_clo0{f:Nat}:XK.run G (.clo f) []=some (.clo f []):=nr rfl
@[simp] theorem nrm_clo0{f:Nat}:XK.run G .nrm [.clo f []]=some (.clo f []):=nr rfl
@[simp] theorem r_fbl{es:List (List D)}:XK.run G (.pk (.fbox 1)) [.list es]=some (.lptr [.list es]):=nr rfl
@[simp] theorem r_clo92{es:List (List D)}{xs:List D}:XK.run G (.clo 92) [.lptr es.flatten, .lptr xs]=some (.clo 92 [.lptr es.flatten, .lptr xs]):=nr rfl
theorem i82{e x:En}(hF:Fr H):XK.run (GK H) (.call false 82) [.agg e.cells, .agg x.cells]=some (iv (e.cmpK x)):=r_call (l82 hF e x) rfl rfl
theorem c82{e x:En}(hF:Fr H):XK.run (GK H) (.ccall false) [.clo 82 [], .agg e.cells, .agg x.cells]=some (iv (e.cmpK x)):=(r_ccall (by decide) (cs:= []) rfl).trans (i82 hF)
end
def head0(k:En):List En→Bool
 | []=>false
 |x::_=>decide (x.cmpK k=0)
theorem l93(hF:Fr H)(l:List En)(k:En)(hl:l.length<9999)(hs: ∀x∈l,¬x.cmpK k<0):GK H 93 [.list (l.map En.cells), .agg k.cells, .clo 82 []]=some (.tup [iv 0,bv (head0 k l)]):=by
 refine by_term hF ok93 ?_
 conv=>enter [1,3];cbv
 have k2: ∀e:En,XK.run (GK H) (.ccall false) [.clo 82 [], .agg e.cells, .agg k.cells]=some (iv (e.cmpK k)):=fun e=>c82 hF
 simp
 refine loop_by (S:=Nat) (enc:=fun j=> [iv (j:Int),iv 0]) (res:=fun _=> .tup [iv 0,bv (head0 k l)]) (mes:=fun j=>j) (ok:=fun j=>j≤l.length) ?_ l.length (by omega) (by omega)
 intro rec j h1 ih
 by_cases h2:0<j
 ·have hw:IntKind.i64.wrap ((IntKind.u64.wrap (IntKind.i64.wrap (j:Int))).fdiv 2)=((j/2:Nat):Int):=by
   rw[wr (z:=(j:Int)) (by omega) (by omega),wrap_in .u64 (j:Int) (by show-(0:Int)≤_;omega) (by show _<(18446744073709551616:Int);omega),Int.fdiv_eq_ediv_of_nonneg _ (by omega),wr (by omega) (by omega)]
   omega
  have l3:j/2<l.length:=by omega
  have l4:j/2<j:=by omega
  generalize j/2=q at hw l3 l4
  have h3:l[q]?=some l[q]:=Ez (by omega)
  generalize hx:l[q]=x at h3
  have h4: ¬x.cmpK k<0:=hs x (hx▸List.getElem_mem _)
  have ih:=ih q (by omega) (by omega)
  simp[h2,hw,l3,hx,k2,h4]
  simpa using ih
 ·obtain rfl:j=0:=by omega
  cases l with
  |nil=>simp[head0]
  |cons x r=>simp[k2,head0]
end Ty
end
section
namespace Ty
variable {H : FP}
theorem cmpK_anti(e x:En):x.cmpK e= -e.cmpK x:=by
 unfold En.cmpK first3
 have h: ∀a b:Int,cmp1 b a= -cmp1 a b:=fun a b=>by unfold cmp1;repeat' split<;>omega
 rw[h e.rd,h e.tb,h e.bd]
 by_cases h1:cmp1 e.rd x.rd=0<;>by_cases h2:cmp1 e.tb x.tb=0<;>simp[h1,h2]
theorem set_keys{a x:En}(h:a.cmp x<0): ¬x.cmpK a<0:=by
 rw[cmpK_anti]
 unfold En.cmp at h
 split at h<;>omega
theorem runK_congr{a b:En}(h:a.cmpK b=0): ∀l:List En,runK a l=runK b l
 | []=>rfl
 |c::r=>by
  unfold runK
  rw[cmpK_0]at h
  have e:c.cmpK a=0↔c.cmpK b=0:=by rw[cmpK_0,cmpK_0];omega
  by_cases h1:c.cmpK b=0
  ·rw[if_pos h1,if_pos (e.2 h1),runK_congr (cmpK_0.2 h) r]
  ·rw[if_neg h1,if_neg (fun k=>h1 (e.1 k))]
theorem runK_pos(a:En)(r:List En):runK a (a::r)=runK a r+1:=by
 conv=>lhs;unfold runK
 rw[if_pos (cmpK_self a)]
theorem cntE_cc(a b:En)(r:List En):cntE (a::b::r)=if a.cmpK b=0 then cntE (b::r)else a::cntE (b::r):=rfl
theorem runK_c(k a:En)(r:List En):runK k (a::r)=if a.cmpK k=0 then runK k r+1 else 0:=rfl
theorem cnt_run: ∀(a:En) (r:List En),∃x,(a::r)[runK a r]?=some x∧cntE (a::r)=x::cntE ((a::r).drop (runK a r+1))
 |a,[]=>⟨a,rfl,rfl⟩
 |a,b::s=>by
  rw[cntE_cc,runK_c]
  by_cases h:a.cmpK b=0
  ·have h':b.cmpK a=0:=by rw[cmpK_anti,h];rfl
   obtain⟨x,h1,h2⟩:=cnt_run b s
   rw[if_pos h,if_pos h',runK_congr h s]
   exact⟨x,by simpa using h1,by simpa using h2⟩
  ·have h': ¬b.cmpK a=0:=by rw[cmpK_anti];omega
   rw[if_neg h,if_neg h']
   exact⟨a,rfl,rfl⟩
theorem runK_at(k:En): ∀(l:List En) (i:Nat),i<runK k l→ ∃x,l[i]?=some x∧x.cmpK k=0
 | [],i,h=>by simp[runK]at h
 |a::r,i,h=>by
  unfold runK at h
  split at h
  ·rename_i h1
   cases i with
   |zero=>exact⟨a,rfl,h1⟩
   |succ i=>obtain⟨x,h2,h3⟩:=runK_at k r i (by omega);exact⟨x,by simpa using h2,h3⟩
  ·omega
theorem runK_end(k:En): ∀(l:List En) (x:En),l[runK k l]?=some x→ ¬x.cmpK k=0
 | [],x,h=>by simp at h
 |a::r,x,h=>by
  unfold runK at h
  split at h
  ·exact runK_end k r x (by simpa using h)
  ·rename_i h1
   simp at h;subst h;exact h1
theorem l56(hF:Fr H)(l:List En)(k:En):GK H 56 [.list (l.map En.cells), .agg k.cells]=some (.clo 92 [.lptr [.list (l.map En.cells)], .lptr k.cells]):=by
 refine by_term hF ok56 ?_
 conv=>enter [1,3];cbv
 have k3: ∀es xs,XK.run (GK H) (.clo 92) [.lptr [.list es], .lptr xs]=some (.clo 92 [.lptr [.list es], .lptr xs]):=fun _ _=>rfl
 simp[k3]
 exact⟨rfl,rfl⟩
@[simp] theorem r_own{G:FP}{d:D}:XK.run G .own [d]=some d:=nr rfl
theorem newX_own{x:X}{es:List (List D)}(h:es.all (fun c=>c.all D.flatC)=true):newX (.mk .own [x]) (.list es)=true:=by
 cases es with
 |nil=>rfl
 |cons a r=>exact h
theorem flatE(l:List En):(l.map En.cells).all (fun c=>c.all D.flatC)=true:=by
 rw[Tz];intro c hc;obtain⟨e,_,rfl⟩:=List.mem_map.1 hc;rfl
@[simp] theorem tag_ownE{x y:X}{l:List En}{k:IntKind}{z:Int}:tagN (.mk .tup [.mk .own [x],y]) (.tup [.list (l.map En.cells), .v (.int k z)])=D.own (.tup [.list (l.map En.cells), .v (.int k z)]):=by
 have h:newT (.mk .tup [.mk .own [x],y]) (.tup [.list (l.map En.cells), .v (.int k z)])=true:=by
  show(newX _ _&&(newX _ _&&true))=true
  rw[newX_own (flatE l)]
  cases y<;>rfl
 show(if _ then _ else if newT (.mk .tup [.mk .own [x],y]) (.tup [.list (l.map En.cells), .v (.int k z)])=true then _ else _)=_
 rw[h];rfl
@[simp] theorem noT_t2l{es:List (List D)}{v:Value}:D.noT (.tup [.list es, .v v])=true:=nr rfl
@[simp] theorem litE{G:FP}{e:En}:XK.run G (.lit 33 1 [iv 0,iv 0,iv 0,iv 0,uv 0,uv 0,bv false,uv 0,uv 0,uv 0,uv 0,iv 0,iv 0,uv 0,uv 0,uv 0,uv 0,iv 0,iv 0,uv 0,uv 0,uv 0,uv 0,iv 0,iv 0,uv 0,uv 0,uv 0,uv 0,iv 0,iv 0,iv 0,iv 0] [(0,33)]) [.agg e.cells]=some (.list [e.cells]):=nr rfl
theorem appE{G:FP}{l:List En}{e:En}(h:l.length<65536):XK.run G (.app 33) [.list (l.map En.cells), .list [e.cells]]=some (.list (l.map En.cells++ [e.cells])):=by
 show(if rowsOK 33 [e.cells]=true∧(l.map En.cells).length+1≤maxMade then some (D.list (l.map En.cells++ [e.cells]))else none)=_
 rw[if_pos ⟨rfl,by simp[maxMade];omega⟩]
theorem isc92{G:FP}{a b:D}:XK.run G (.isc 92 2) [.clo 92 [a,b]]=some (.tup []):=rfl
theorem cap0{G:FP}{a:D}{xs:List D}:XK.run G (.capc 92 0 2) [.clo 92 [.lptr xs,a]]=some (.lptr xs):=rfl
theorem cap1{G:FP}{a:D}{xs:List D}:XK.run G (.capc 92 1 2) [.clo 92 [a, .lptr xs]]=some (.lptr xs):=rfl
theorem l20(hF:Fr H)(l:List En)(hl:l.length<9999)(hs:setB l=true):GK H 20 [.list (l.map En.cells)]=some (D.own (.tup [.list ((cntE l).map En.cells),iv 0])):=by
 refine by_term hF ok20 ?_
 conv=>enter [1,3];cbv
 have k1:XK.run (GK H) (.call false 55) [.list (l.map En.cells)]=some (bv true):=r_call (by rw[l55 hF l hl,hs]) rfl rfl
 have k2: ∀(l:List En) (k:En),XK.run (GK H) (.call false 56) [.list (l.map En.cells), .agg k.cells]=some (.clo 92 [.lptr [.list (l.map En.cells)], .lptr k.cells]):=fun l k=>r_call (l56 hF l k) rfl rfl
 have k3: ∀e k:En,XK.run (GK H) (.call false 82) [.agg e.cells, .agg k.cells]=some (iv (e.cmpK k)):=fun e k=>i82 hF
 simp[k1]
 refine loop_by (S:=List En×Nat) (enc:=fun s=> [.list (s.1.map En.cells),iv (s.2:Int)]) (res:=fun s=>D.own (.tup [.list ((s.1++cntE (l.drop s.2)).map En.cells),iv 0])) (mes:=fun s=>l.length-s.2) (ok:=fun s=>s.2≤l.length∧s.1.length+(l.length-s.2)≤l.length) ?_ ([],0) ⟨by simp,by simp⟩ (by show l.length-0<_;omega)
 rintro rec ⟨out,k⟩ ⟨h1,h2⟩ ih
 replace h1:k≤l.length:=h1
 replace h2:out.length+(l.length-k)≤l.length:=h2
 replace ih:=fun o n h h' h''=>ih (o,n) ⟨h,h'⟩ h''
 simp only at ih⊢
 cases h3:l[k]? with
 |none=>
  have l3:=List.getElem?_eq_none_iff.1 h3
  have l3': ¬(k:Int)<l.length:=by omega
  rw[drop_none h3]
  simp[l3',cntE]
 |some a=>
  have l3:=(Gz.1 h3).1
  have e3:l[k]=a:=(Gz.1 h3).2
  have d3:=drop_of h3
  obtain⟨x,h4,h5⟩:=cnt_run a (l.drop (k+1))
  have ks:XK.run (GK H) (.pk (.slc 33 true false false)) [.list (l.map En.cells),iv (k:Int)]=some (.list ((l.drop k).map En.cells)):=slE h1
  rw[d3]
  have k4:XK.run (GK H) (.call false 93) [.list ((l.drop k).map En.cells), .agg a.cells, .clo 82 []]=some (.tup [iv 0,bv (head0 a (l.drop k))]):=by
   refine r_call (l93 hF _ _ (by simp;omega) fun y hy=> ?_) rfl rfl
   rw[d3]at hy
   rcases List.mem_cons.1 hy with rfl|hy
   ·rw[cmpK_self];omega
   ·have hp:=((setB_iff l).1 hs).sublist (List.drop_sublist k l)
    rw[d3]at hp
    exact set_keys ((List.pairwise_cons.1 hp).1 y hy)
  generalize hmd:l.drop k=m at ks k4 d3
  simp[l3,e3,ks,k2,k4,isc92,cap0,cap1]
  have hm:m.length=l.length-k:=by have:=congrArg List.length d3;simp at this;omega
  refine loop_by (S:=Nat) (enc:=fun i=> [iv (i:Int),iv ((if i=0 then k else k+i-1:Nat):Int)]) (res:=fun _=>(D.tup [D.list (List.map En.cells out++List.map En.cells (cntE (a::List.drop (k+1) l))),iv 0]).own) (mes:=fun i=>l.length-k-i) (ok:=fun i=>i≤runK a m) ?_ 0 (by simp) (by omega)
  intro rec2 i hi ih2
  have hle:=runK_le a m
  by_cases hr:i<runK a m
  ·obtain⟨y,hy1,hy2⟩:=runK_at a m i hr
   have ly:=(Gz.1 hy1).1
   have ey:=(Gz.1 hy1).2
   have ih2:=ih2 (i+1) (by omega) (by omega)
   rw[show(if i+1=0 then k else k+(i+1)-1:Nat)=k+i by rw[if_neg (by omega)];omega]at ih2
   simp[ly,ey,k3,hy2]
   rw[wr (z:=(i:Int)+1) (by omega) (by omega),wr (z:=(k:Int)+i) (by omega) (by omega)]
   simpa using ih2
  ·have hi:i=runK a m:=by omega
   have hrun:runK a m=runK a (l.drop (k+1))+1:=by rw[d3,runK_pos]
   have hx:l[k+i-1]?=some x:=by
    have:m[i-1]?=some x:=by rw[d3,hi,hrun];simpa using h4
    rw[←hmd,List.getElem?_drop]at this
    rw[←this];congr 1;omega
   have hx1:=(Gz.1 hx).1
   have hx2:=(Gz.1 hx).2
   have ih:=ih (out++ [x]) (k+i) (by omega) (by simp;omega) (by omega)
   have hq:l.drop (k+i)=(a::l.drop (k+1)).drop (runK a (l.drop (k+1))+1):=by rw[←d3,←hrun,←hi,←hmd,List.drop_drop]
   have hif:(if i=0 then k else k+i-1:Nat)=k+i-1:=if_neg (by omega)
   rw[hif]
   rw[hq,List.append_assoc,List.singleton_append,←h5]at ih
   generalize hj:k+i-1=j at hx hx1 hx2
   have hki:((k+i:Nat):Int)=(j:Int)+1:=by omega
   rw[hki]at ih
   have hap:XK.run (GK H) (.app 33) [.list (out.map En.cells), .list [x.cells]]=some (.list (out.map En.cells++ [x.cells])):=appE (by omega)
   simp at ih
   cases h7:m[i]? with
   |none=>
    have ly:=List.getElem?_eq_none_iff.1 h7
    have ly': ¬(i:Int)<m.length:=by omega
    simp[ly',hx1,hx2,hap]
    rw[wr (z:=(j:Int)+1) (by omega) (by omega)]
    exact ih
   |some y=>
    have ly:=(Gz.1 h7).1
    have ey:=(Gz.1 h7).2
    have hy: ¬y.cmpK a=0:=runK_end a m y (by rw[←hi];exact h7)
    simp[ly,ey,k3,hy,hx1,hx2,hap]
    rw[wr (z:=(j:Int)+1) (by omega) (by omega)]
    exact ih
end Ty
end
section
namespace Ty
def cs(v n c m:Nat):List X:=(List.range m).map fun j=>X.mk (.cell (c+j) n) [.t v]
theorem tx9:tm9= .chk [.mk (.cell 0 4) [.t 0]] (.lets [.mk (.call false 13) [.mk .nrm [.t 0]]] (.chk [.mk (.cell 0 7) [.t 3]] (.lets [.mk (.call false 14) [.mk .nrm [.t 3], .mk .nrm [.t 1]]] (.lets [.mk (.call false 15) [.mk .nrm [.t 4]]] (.lets [.mk (.pk .llen) [.mk (.lit 1 2 [iv 0,iv 0] [(0,1),(1,1)]) [.mk (.pk (.mx2 false)) [.t 2, .q (iv 0)], .mk (.pk (.mx2 true)) [.t 2, .mk (.pk (.ibin .add)) [.mk (.pk (.ibin .mul)) [.mk (.cell 2 7) [.t 3], .mk (.cell 6 7) [.t 3]], .q (iv 1)]]]]] (.lets [.mk (.lit 1 2 [iv 0,iv 0] [(0,1),(1,1)]) [.mk (.pk (.mx2 false)) [.t 2, .q (iv 0)], .mk (.pk (.mx2 true)) [.t 2, .mk (.pk (.ibin .add)) [.mk (.pk (.ibin .mul)) [.mk (.cell 2 7) [.t 3], .mk (.cell 6 7) [.t 3]], .q (iv 1)]]]] (.loop [.q (iv 0), .q (bv false)] (.lets [.mk (.pk (.ibin .lss)) [.t 8, .t 6]] (.ite (.t 10) (.lets [.mk (.pk (.load 1 false)) [.mk (.pk (.fld 0)) [.mk (.pk (.idx 0 1)) [.t 7, .t 8]]]] (.lets [.mk (.call false 23) [.mk .nrm [.t 3], .mk .nrm [.t 5], .mk .nrm [.t 11]]] (.lets [.mk (.pk (.ext 1)) [.t 12]] (.lets [.mk (.pk (.ext 0)) [.t 12]] (.lets [.mk (.call false 24) [.mk .nrm [.t 3], .mk .nrm [.t 5], .mk .nrm [.t 11]]] (.chk [.mk (.cell 0 2) [.mk (.pk (.ext 0)) [.t 15]], .mk (.cell 0 2) [.mk (.pk (.ext 1)) [.t 15]]] (.lets [.mk (.pk (.ext 2)) [.t 15]] (.lets [.mk (.pk (.ext 1)) [.t 15]] (.lets [.mk (.pk (.ext 0)) [.t 15]] (.chk [.ite (.mk (.gv false) [.mk (.pk (.ibin .neq)) [.mk (.pk .llen) [.t 14], .q (iv 0)]]) (.mk (.pk (.aeq true [3,3])) [.t 18, .mk .agg [.q (iv 0), .q (iv 0)]]) (.q (.tup [])), .ite (.mk (.gv false) [.ite (.mk (.pk (.ibin .neq)) [.mk (.pk .llen) [.t 14], .q (iv 0)]) (.q (bv true)) (.mk (.pk (.aeq true [3,3])) [.t 18, .mk .agg [.q (iv 0), .q (iv 0)]])]) (.mk (.pk (.aeq true [3,3])) [.t 17, .mk .agg [.q (iv 0), .q (iv 0)]]) (.q (.tup [])), .ite (.mk (.gv false) [.ite (.ite (.mk (.pk (.ibin .neq)) [.mk (.pk .llen) [.t 14], .q (iv 0)]) (.q (bv true)) (.mk (.pk (.aeq true [3,3])) [.t 18, .mk .agg [.q (iv 0), .q (iv 0)]])) (.q (bv true)) (.mk (.pk (.aeq true [3,3])) [.t 17, .mk .agg [.q (iv 0), .q (iv 0)]])]) (.mk (.pk (.ibin .neq)) [.t 13, .q (iv 6)]) (.q (.tup []))] (.lets [.ite (.ite (.ite (.ite (.mk (.pk (.ibin .neq)) [.mk (.pk .llen) [.t 14], .q (iv 0)]) (.q (bv true)) (.mk (.pk (.aeq true [3,3])) [.t 18, .mk .agg [.q (iv 0), .q (iv 0)]])) (.q (bv true)) (.mk (.pk (.aeq true [3,3])) [.t 17, .mk .agg [.q (iv 0), .q (iv 0)]])) (.q (bv true)) (.mk (.pk (.ibin .neq)) [.t 13, .q (iv 6)])) (.q (bv true)) (.mk (.pk (.ibin .neq)) [.t 16, .q (iv 6)])] (.ite (.t 19) (.ret (.mk .nrm [.q (bv false)])) (.lets [.mk (.pk (.ibin .add)) [.t 8, .q (iv 1)]] (.next 0 [.t 20, .t 9])))))))))))))) (.lets [.mk (.app 33) [.mk (.app 33) [.mk (.lit 33 0 [] []) [], .t 5], .mk (.lit 33 2 [iv 0,iv 0,iv 0,iv 0,uv 0,uv 0,bv false,uv 0,uv 0,uv 0,uv 0,iv 0,iv 0,uv 0,uv 0,uv 0,uv 0,iv 0,iv 0,uv 0,uv 0,uv 0,uv 0,iv 0,iv 0,uv 0,uv 0,uv 0,uv 0,iv 0,iv 0,iv 0,iv 0,iv 0,iv 0,iv 0,iv 0,uv 0,uv 0,bv false,uv 0,uv 0,uv 0,uv 0,iv 0,iv 0,uv 0,uv 0,uv 0,uv 0,iv 0,iv 0,uv 0,uv 0,uv 0,uv 0,iv 0,iv 0,uv 0,uv 0,uv 0,uv 0,iv 0,iv 0,iv 0,iv 0] [(0,33),(33,33)]) [.mk .agg [.q (iv 0), .q (iv 0), .q (iv 0), .q (iv 0), .q (uv 0), .q (uv 0), .q (bv false), .q (uv 0), .q (uv 0), .q (uv 0), .q (uv 0), .q (iv 0), .q (iv 0), .q (uv 0), .q (uv 0), .q (uv 0), .q (uv 0), .q (iv 0), .q (iv 0), .q (uv 0), .q (uv 0), .q (uv 0), .q (uv 0), .q (iv 0), .q (iv 0), .q (uv 0), .q (uv 0), .q (uv 0), .q (uv 0), .q (iv 0), .q (iv 0), .q (iv 0), .q (iv 0)], .mk .agg [.q (iv 0), .q (iv 0), .q (iv 0), .q (iv 0), .q (uv 0), .q (uv 0), .q (bv false), .q (uv 0), .q (uv 0), .q (uv 0), .q (uv 0), .q (iv 0), .q (iv 0), .q (uv 0), .q (uv 0), .q (uv 0), .q (uv 0), .q (iv 0), .q (iv 0), .q (uv 0), .q (uv 0), .q (uv 0), .q (uv 0), .q (iv 0), .q (iv 0), .q (uv 0), .q (uv 0), .q (uv 0), .q (uv 0), .q (iv 0), .q (iv 0), .q (iv 0), .q (iv 0)]]]] (.chk [.mk .okc [.mk (.pk (.mx2 false)) [.t 2, .q (iv 0)]]] (.lets [.mk (.pk (.mx2 false)) [.t 2, .q (iv 0)]] (.lets [.mk (.pk .llen) [.mk (.lit 7 2 [iv 0,iv 0,iv 0,iv 0,iv 0, .nil,iv 0,iv 0,iv 0,iv 0,iv 0,iv 0, .nil,iv 0] [(0,7),(7,7)]) [.t 3, .mk .agg (cs 3 7 0 6++ [.t 12])]]] (.lets [.mk (.lit 7 2 [iv 0,iv 0,iv 0,iv 0,iv 0, .nil,iv 0,iv 0,iv 0,iv 0,iv 0,iv 0, .nil,iv 0] [(0,7),(7,7)]) [.t 3, .mk .agg (cs 3 7 0 6++ [.t 12])]] (.loop [.q (iv 0), .t 9] (.lets [.mk (.pk (.ibin .lss)) [.t 15, .t 13]] (.ite (.t 17) (.chk [.mk (.cell 0 7) [.mk (.pk (.load 7 true)) [.mk (.pk (.fld 0)) [.mk (.pk (.idx 0 7)) [.t 14, .t 15]]]]] (.lets [.mk (.pk (.load 7 true)) [.mk (.pk (.fld 0)) [.mk (.pk (.idx 0 7)) [.t 14, .t 15]]]] (.lets [.mk (.call true 19) [.mk .nrm [.t 18], .t 11]] (.chk [.mk (.pk (.ext 0)) [.t 19], .mk (.pk (.ext 1)) [.t 19]] (.lets [.mk (.pk (.ext 2)) [.t 19]] (.lets [.mk (.call true 22) [.mk .nrm [.t 18], .t 11]] (.chk [.mk (.pk (.ext 0)) [.t 21]] (.lets [.mk (.pk (.ext 1)) [.t 21]] (.lets [.mk (.call true 23) [.mk .nrm [.t 18], .t 11, .mk .nrm [.q (iv 1)]]] (.chk [.mk (.pk (.ext 0)) [.t 23]] (.lets [.mk (.pk (.ext 1)) [.t 23]] (.lets [.mk (.call true 16) [.mk .nrm [.t 18], .t 11]] (.chk [.mk (.pk (.ext 0)) [.t 25]] (.lets [.mk (.pk (.ext 1)) [.t 25]] (.lets [.mk (.call true 24) [.mk .nrm [.t 18], .t 11, .mk .nrm [.q (iv 1)]]] (.chk [.mk (.cell 0 2) [.mk (.pk (.ext 0)) [.t 27]], .mk (.cell 0 2) [.mk (.pk (.ext 1)) [.t 27]]] (.lets [.mk (.pk (.ext 2)) [.t 27]] (.jp (.chk [.ite (.mk (.gv false) [.mk (.pk (.ibin .neq)) [.t 20, .t 29]]) (.mk (.pk (.ibin .neq)) [.t 22, .t 29]) (.q (.tup [])), .ite (.mk (.gv false) [.ite (.mk (.pk (.ibin .neq)) [.t 20, .t 29]) (.q (bv true)) (.mk (.pk (.ibin .neq)) [.t 22, .t 29])]) (.mk (.pk (.ibin .neq)) [.t 24, .t 29]) (.q (.tup [])), .ite (.mk (.gv false) [.ite (.ite (.mk (.pk (.ibin .neq)) [.t 20, .t 29]) (.q (bv true)) (.mk (.pk (.ibin .neq)) [.t 22, .t 29])) (.q (bv true)) (.mk (.pk (.ibin .neq)) [.t 24, .t 29])]) (.mk (.pk (.ibin .neq)) [.t 26, .t 29]) (.q (.tup []))] (.lets [.ite (.ite (.ite (.ite (.mk (.pk (.ibin .neq)) [.t 20, .t 29]) (.q (bv true)) (.mk (.pk (.ibin .neq)) [.t 22, .t 29])) (.q (bv true)) (.mk (.pk (.ibin .neq)) [.t 24, .t 29])) (.q (bv true)) (.mk (.pk (.ibin .neq)) [.t 26, .t 29])) (.q (bv true)) (.mk (.pk (.ibin .neq)) [.t 28, .t 29])] (.ite (.t 31) (.ret (.mk .nrm [.q (bv false)])) (.lets [.mk (.pk (.ibin .add)) [.t 15, .q (iv 1)]] (.next 0 [.t 32, .t 16]))))) (.lets [.mk (.pk (.ibin .eql)) [.t 15, .q (iv 1)]] (.ite (.t 29) (.next 0 [.q (iv 282), .t 29]) (.next 0 [.q (iv 314), .t 29]))))))))))))))))))))) (.lets [.mk (.call false 21) [.mk .agg [.mk .nrmC [.mk (.cell 0 7) [.t 3]], .mk .nrmC [.mk (.cell 1 7) [.t 3]], .mk .nrmC [.mk (.cell 2 7) [.t 3]], .mk .nrmC [.mk (.cell 3 7) [.t 3]], .mk .nrmC [.mk (.cell 4 7) [.t 3]], .mk .nrmC [.mk (.cell 5 7) [.t 3]], .mk .nrmC [.t 12]]]] (.chk [.mk (.pk (.ext 0)) [.t 18]] (.lets [.mk (.pk (.ext 1)) [.t 18]] (.lets [.ite (.mk (.pk (.ibin .eql)) [.t 19, .q (iv 282)]) (.mk (.call false 11) []) (.q (bv false))] (.ret (.mk .nrm [.t 20]))))))))))))))))))))))):=by kernel_rfl
theorem tx13:tm13= .chk [.mk (.cell 0 4) [.t 0]] (.lets [.mk (.call false 40) [.mk .nrm [.mk (.cell 0 4) [.t 0]], .mk .nrm [.mk (.cell 1 4) [.t 0]], .mk .nrm [.mk (.cell 2 4) [.t 0]], .mk .nrm [.mk (.cell 3 4) [.t 0]]]] (.chk [.mk (.cell 0 7) [.t 1]] (.ret (.mk .nrm [.t 1])))):=by kernel_rfl
theorem tx14:tm14= .chk [.mk (.cell 0 7) [.t 0]] (.lets [.mk (.call false 21) [.mk .nrm [.t 0]]] (.chk [.mk (.pk (.ext 1)) [.t 2]] (.lets [.mk (.pk (.ext 0)) [.t 2]] (.lets [.mk (.pk .llen) [.mk (.pk (.slc 17 false true false)) [.t 1, .mk (.pk (.mx2 false)) [.mk (.pk .llen) [.t 1], .q (iv 40)]]]] (.lets [.mk (.pk (.slc 17 false true false)) [.t 1, .mk (.pk (.mx2 false)) [.mk (.pk .llen) [.t 1], .q (iv 40)]]] (.loop [.q (iv 0), .q (.list [])] (.lets [.mk (.pk (.ibin .lss)) [.t 6, .t 4]] (.ite (.t 8) (.chk [.mk (.cell 0 17) [.mk (.pk (.load 17 true)) [.mk (.pk (.idx 112 17)) [.t 5, .t 6]]]] (.lets [.mk (.pk (.load 17 true)) [.mk (.pk (.idx 112 17)) [.t 5, .t 6]]] (.lets [.mk (.pk (.ibin .eql)) [.mk (.pk .llen) [.t 3], .q (iv 0)]] (.ite (.t 10) (.ret (.mk .own [.t 7])) (.chk [.mk (.cell 0 3) [.mk (.pk (.load 3 true)) [.mk (.pk (.idx 68 3)) [.t 3, .mk (.pk (.ibin .rem)) [.mk (.pk (.conv .i64)) [.mk (.cell 0 17) [.t 9]], .mk (.pk .llen) [.t 3]]]]]] (.lets [.mk (.pk (.load 3 true)) [.mk (.pk (.idx 68 3)) [.t 3, .mk (.pk (.ibin .rem)) [.mk (.pk (.conv .i64)) [.mk (.cell 0 17) [.t 9]], .mk (.pk .llen) [.t 3]]]]] (.lets [.mk (.call false 41) [.mk .agg [.mk .nrmC [.mk (.cell 3 17) [.t 9]], .mk .nrmC [.mk (.cell 4 17) [.t 9]], .mk .nrmC [.mk (.cell 5 17) [.t 9]], .mk .nrmC [.mk (.cell 6 17) [.t 9]], .mk .nrmC [.mk (.cell 7 17) [.t 9]], .mk .nrmC [.mk (.cell 8 17) [.t 9]], .mk .nrmC [.mk (.cell 9 17) [.t 9]], .mk .nrmC [.mk (.cell 10 17) [.t 9]], .mk .nrmC [.mk (.cell 11 17) [.t 9]], .mk .nrmC [.mk (.cell 12 17) [.t 9]], .mk .nrmC [.mk (.cell 13 17) [.t 9]], .mk .nrmC [.mk (.cell 14 17) [.t 9]], .mk .nrmC [.mk (.cell 15 17) [.t 9]], .mk .nrmC [.mk (.cell 16 17) [.t 9]]]]] (.chk [.mk (.cell 0 33) [.t 12]] (.chk [.mk .okc [.mk (.cell 0 3) [.t 11]], .mk .okc [.mk (.cell 1 3) [.t 11]], .mk .okc [.mk (.cell 2 3) [.t 11]], .mk .okc [.mk (.pk (.ibin .add)) [.q (iv 1), .mk (.pk (.ibin .rem)) [.mk (.pk (.conv .i64)) [.mk (.cell 1 17) [.t 9]], .q (iv 9)]]]] (.lets [.mk (.pk (.ibin .add)) [.q (iv 1), .mk (.pk (.ibin .rem)) [.mk (.pk (.conv .i64)) [.mk (.cell 1 17) [.t 9]], .q (iv 9)]]] (.jp (.lets [.mk (.app 33) [.t 7, .mk (.lit 33 1 [iv 0,iv 0,iv 0,iv 0,uv 0,uv 0,bv false,uv 0,uv 0,uv 0,uv 0,iv 0,iv 0,uv 0,uv 0,uv 0,uv 0,iv 0,iv 0,uv 0,uv 0,uv 0,uv 0,iv 0,iv 0,uv 0,uv 0,uv 0,uv 0,iv 0,iv 0,iv 0,iv 0] [(0,33)]) [.mk .agg ([.mk (.cell 0 3) [.t 11], .mk (.cell 1 3) [.t 11], .mk (.cell 2 3) [.t 11], .t 13, .mk (.cell 4 33) [.t 12], .t 15, .t 16]++cs 12 33 7 26)]]] (.lets [.mk (.pk (.ibin .add)) [.t 6, .q (iv 1)]] (.next 0 [.t 18, .t 17]))) (.lets [.ite (.mk (.pk (.ibin .eql)) [.mk (.cell 4 33) [.t 12], .q (uv 0)]) (.q (bv true)) (.mk (.pk (.ibin .eql)) [.mk (.cell 4 33) [.t 12], .q (uv 4)])] (.ite (.t 14) (.chk [.mk .okc [.q (uv 0)]] (.next 0 [.t 14, .q (uv 0), .mk (.cell 6 33) [.t 12]])) (.chk [.mk .okc [.mk (.cell 2 17) [.t 9]]] (.next 0 [.t 14, .mk (.cell 5 33) [.t 12], .mk (.cell 2 17) [.t 9]]))))))))))))))) (.ret (.mk .own [.t 7])))))))))):=by kernel_rfl
theorem tx15:tm15= .jp (.lets [.mk (.ecall 0 43 33) [.t 1, .q (.clo 44 [])]] (.chk [.mk (.pk (.ext 0)) [.t 2]] (.lets [.mk (.pk (.ext 1)) [.t 2]] (.lets [.mk (.pk (.ibin .lss)) [.mk (.pk .llen) [.t 3], .q (iv 2)]] (.ite (.t 4) (.lets [.mk (.call false 45) [.mk .nrm [.t 3]]] (.ret (.mk .nrm [.t 5]))) (.loop [.q (iv 1)] (.lets [.mk (.pk (.ibin .lss)) [.t 5, .mk (.pk .llen) [.t 3]]] (.ite (.t 6) (.lets [.mk (.pk (.aeq false [3,3,3,3,4,4,8,4,4,4,4,3,3,4,4,4,4,3,3,4,4,4,4,3,3,4,4,4,4,3,3,3,3])) [.mk (.pk (.load 33 true)) [.mk (.pk (.fld 0)) [.mk (.pk (.idx 0 33)) [.t 3, .t 5]]], .mk (.pk (.load 33 true)) [.mk (.pk (.fld 0)) [.mk (.pk (.idx 0 33)) [.t 3, .mk (.pk (.ibin .sub)) [.t 5, .q (iv 1)]]]]]] (.ite (.t 7) (.chk [.mk .drp [.t 3, .t 5]] (.loop [.q (iv 1), .t 5, .t 3] (.lets [.mk (.pk (.ibin .lss)) [.t 8, .mk (.pk .llen) [.mk .drp [.t 10, .t 5]]]] (.ite (.t 11) (.jp (.lets [.mk (.pk (.ibin .add)) [.t 8, .q (iv 1)]] (.next 0 [.t 15, .t 12, .t 14])) (.chk [.mk (.pk (.idx 0 33)) [.mk .drp [.t 10, .t 5], .t 8], .mk (.pk (.idx 0 33)) [.mk .drp [.t 10, .t 5], .mk (.pk (.ibin .sub)) [.t 8, .q (iv 1)]]] (.lets [.mk (.pk (.aeq true [3,3,3,3,4,4,8,4,4,4,4,3,3,4,4,4,4,3,3,4,4,4,4,3,3,4,4,4,4,3,3,3,3])) [.mk (.pk (.load 33 true)) [.mk (.pk (.fld 0)) [.mk (.pk (.idx 0 33)) [.t 10, .mk .adn [.t 5, .t 8]]]], .mk (.pk (.load 33 true)) [.mk (.pk (.fld 0)) [.mk (.pk (.idx 0 33)) [.t 10, .mk .adn [.t 5, .mk (.pk (.ibin .sub)) [.t 8, .q (iv 1)]]]]]]] (.ite (.t 12) (.chk [.mk (.pk (.idx 0 33)) [.mk .drp [.t 10, .t 5], .t 8], .mk (.pk (.idx 0 33)) [.t 10, .t 9]] (.lets [.mk (.setl 33 0 33) [.t 10, .t 9, .mk (.pk (.load 33 true)) [.mk (.pk (.fld 0)) [.mk (.pk (.idx 0 33)) [.t 10, .mk .adn [.t 5, .t 8]]]]]] (.lets [.mk (.pk (.ibin .add)) [.t 9, .q (iv 1)]] (.next 0 [.t 14, .t 12, .t 13])))) (.next 0 [.t 9, .t 12, .t 10]))))) (.chk [.mk .drp [.t 10, .t 9]] (.lets [.mk (.clr [iv 0,iv 0,iv 0,iv 0,uv 0,uv 0,bv false,uv 0,uv 0,uv 0,uv 0,iv 0,iv 0,uv 0,uv 0,uv 0,uv 0,iv 0,iv 0,uv 0,uv 0,uv 0,uv 0,iv 0,iv 0,uv 0,uv 0,uv 0,uv 0,iv 0,iv 0,iv 0,iv 0]) [.t 10, .t 9]] (.lets [.mk (.pk (.slc 33 false true false)) [.t 12, .t 9]] (.lets [.mk .drp [.t 12, .t 5]] (.lets [.mk (.call false 45) [.mk .nrm [.t 13]]] (.ret (.mk .nrm [.t 15]))))))))))) (.lets [.mk (.pk (.ibin .add)) [.t 5, .q (iv 1)]] (.next 0 [.t 8])))) (.lets [.mk (.call false 45) [.mk .nrm [.t 3]]] (.ret (.mk .nrm [.t 7]))))))))))) (.lets [.mk (.pk (.snil false)) [.t 0, .q .nil]] (.ite (.t 1) (.next 0 [.q (.list [])]) (.lets [.mk (.app 33) [.mk (.lit 33 0 [] []) [], .t 0]] (.next 0 [.t 2])))):=by kernel_rfl
theorem tx16:tm16= .lets [.mk (.pk (.fbox 7)) [.t 0]] (.lets [.mk (.call false 47) [.mk .nrm [.mk (.pk (.load 7 true)) [.t 2]], .mk .nrm [.t 1]]] (.lets [.mk (.pk (.ext 1)) [.t 3]] (.lets [.mk (.pk (.ext 0)) [.t 3]] (.lets [.mk (.pk (.ibin .neq)) [.t 4, .q (iv 0)]] (.ite (.t 6) (.chk [.mk .okc [.q .nil], .mk .okc [.t 4]] (.ret (.mk .tup [.mk .nrm [.q .nil], .mk .nrm [.t 4]]))) (.lets [.mk (.call false 48) [.mk .nrm [.mk (.pk (.load 7 true)) [.t 2]]]] (.chk [.mk .okc [.t 7]] (.lets [.mk (.call false 49) [.mk .nrm [.mk (.pk (.load 7 true)) [.t 2]], .mk .nrm [.t 5]]] (.chk [.mk (.isc 85 2) [.t 8]] (.lets [.mk (.capc 85 0 2) [.t 8]] (.lets [.mk (.capc 85 1 2) [.t 8]] (.lets [.mk (.pk .llen) [.mk (.pk (.load 1 false)) [.t 9]]] (.lets [.mk (.pk (.load 1 false)) [.t 9]] (.loop [.q (iv 0), .q (.list [])] (.lets [.mk (.pk (.ibin .lss)) [.t 13, .t 11]] (.ite (.t 15) (.chk [.mk (.cell 0 33) [.mk (.pk (.load 33 true)) [.mk (.pk (.idx 40 33)) [.t 12, .t 13]]]] (.lets [.mk (.pk (.load 33 true)) [.mk (.pk (.idx 40 33)) [.t 12, .t 13]]] (.lets [.mk (.mapp [3] 33) [.t 14, .mk (.cell 2 33) [.t 16], .mk (.lit 33 1 [iv 0,iv 0,iv 0,iv 0,uv 0,uv 0,bv false,uv 0,uv 0,uv 0,uv 0,iv 0,iv 0,uv 0,uv 0,uv 0,uv 0,iv 0,iv 0,uv 0,uv 0,uv 0,uv 0,iv 0,iv 0,uv 0,uv 0,uv 0,uv 0,iv 0,iv 0,iv 0,iv 0] [(0,33)]) [.t 16]]] (.lets [.mk (.pk (.ibin .add)) [.t 13, .q (iv 1)]] (.next 0 [.t 18, .t 17]))))) (.loop [.q (iv 1), .q (.list [])] (.lets [.mk (.pk (.ibin .leq)) [.t 16, .mk (.pk (.ibin .mul)) [.mk (.pk (.load 1 false)) [.mk (.pk (.fld 2)) [.mk (.pk (.fld 0)) [.t 10]]], .mk (.pk (.load 1 false)) [.mk (.pk (.fld 6)) [.t 10]]]]] (.ite (.t 18) (.chk [.mk (.mget [3] .nil false) [.t 14, .t 16]] (.lets [.mk (.mget [3] .nil false) [.t 14, .t 16]] (.lets [.mk (.call false 50) [.mk .nrm [.t 7], .mk .nrm [.t 16], .mk .nrm [.t 19]]] (.lets [.mk (.pk (.ext 1)) [.t 20]] (.lets [.mk (.pk (.ext 0)) [.t 20]] (.lets [.mk (.pk (.ibin .neq)) [.t 21, .q (iv 0)]] (.ite (.t 23) (.chk [.mk .okc [.q .nil], .mk .okc [.t 21]] (.ret (.mk .tup [.mk .nrm [.q .nil], .mk .nrm [.t 21]]))) (.lets [.mk (.app 11) [.t 17, .t 22]] (.lets [.mk (.pk (.ibin .add)) [.t 16, .q (iv 1)]] (.next 0 [.t 25, .t 24])))))))))) (.chk [.mk .okc [.q (iv 0)]] (.ret (.mk .tup [.mk .own [.t 17], .mk .nrm [.q (iv 0)]])))))))))))))))))))))):=by kernel_rfl
theorem tx19:tm19= .chk [.mk (.cell 0 7) [.t 0]] (.lets [.mk (.call false 54) [.mk .nrm [.t 0]]] (.lets [.mk (.pk (.ibin .neq)) [.t 2, .q (iv 0)]] (.ite (.t 3) (.ret (.mk .tup [.mk .nrm [.q .nil], .mk .nrm [.q .nil], .mk .nrm [.t 2]])) (.lets [.mk (.call false 20) [.mk .nrm [.t 1]]] (.chk [.mk (.pk (.ext 0)) [.t 4]] (.lets [.mk (.pk (.ext 1)) [.t 4]] (.lets [.mk (.pk (.ibin .neq)) [.t 5, .q (iv 0)]] (.ite (.t 6) (.ret (.mk .tup [.mk .nrm [.q .nil], .mk .nrm [.q .nil], .mk .nrm [.t 5]])) (.lets [.mk (.pk .llen) [.mk (.cell 5 7) [.t 0]]] (.loop [.q (iv 0), .q (.list [])] (.lets [.mk (.pk (.ibin .lss)) [.t 8, .t 7]] (.ite (.t 10) (.chk [.mk (.cell 0 5) [.mk (.pk (.load 5 true)) [.mk (.pk (.idx 42 5)) [.mk (.cell 5 7) [.t 0], .t 8]]]] (.lets [.mk (.pk (.load 5 true)) [.mk (.pk (.idx 42 5)) [.mk (.cell 5 7) [.t 0], .t 8]]] (.chk [.mk .okc [.mk (.cell 0 5) [.t 11]], .mk .okc [.mk (.cell 1 5) [.t 11]]] (.lets [.mk (.mset [99,3,3]) [.t 9, .mk .agg [.mk (.cell 0 5) [.t 11], .mk (.cell 1 5) [.t 11]], .t 11]] (.lets [.mk (.pk (.ibin .add)) [.t 8, .q (iv 1)]] (.next 0 [.t 13, .t 12])))))) (.lets [.mk (.pk .llen) [.t 1]] (.loop [.q (iv 0), .q (.list []), .q (.list [])] (.lets [.mk (.pk (.ibin .lss)) [.t 12, .t 11]] (.ite (.t 15) (.jp (.lets [.mk (.pk (.ibin .add)) [.t 12, .q (iv 1)]] (.next 0 [.t 60, .t 20, .t 16])) (.chk [.mk (.cell 0 33) [.mk (.pk (.load 33 true)) [.mk (.pk (.idx 40 33)) [.t 1, .t 12]]]] (.lets [.mk (.pk (.load 33 true)) [.mk (.pk (.idx 40 33)) [.t 1, .t 12]]] (.chk [.mk .okc [.mk (.cell 6 7) [.t 0]]] (.jp (.lets [.mk (.call true 18) [.mk .agg [.mk .nrmC [.q (iv 0)], .mk .nrmC [.q (iv 0)], .mk .nrmC [.q (iv 0)], .mk .nrmC [.q (iv 0)], .mk .nrmC [.q (iv 0)], .t 19, .mk .nrmC [.mk (.cell 6 7) [.t 0]]], .mk .nrm [.t 16]]] (.lets [.mk (.pk (.ibin .eql)) [.t 25, .q (iv 0)]] (.ite (.t 26) (.lets [.mk (.app 33) [.t 14, .mk (.lit 33 1 [iv 0,iv 0,iv 0,iv 0,uv 0,uv 0,bv false,uv 0,uv 0,uv 0,uv 0,iv 0,iv 0,uv 0,uv 0,uv 0,uv 0,iv 0,iv 0,uv 0,uv 0,uv 0,uv 0,iv 0,iv 0,uv 0,uv 0,uv 0,uv 0,iv 0,iv 0,iv 0,iv 0] [(0,33)]) [.t 16]]] (.next 0 ([.t 27, .t 26, .t 17, .t 18, .t 13, .t 20, .t 21, .t 22, .t 23, .t 24]++cs 16 33 0 33++ [.t 19]))) (.lets [.mk (.app 33) [.t 13, .mk (.lit 33 1 [iv 0,iv 0,iv 0,iv 0,uv 0,uv 0,bv false,uv 0,uv 0,uv 0,uv 0,iv 0,iv 0,uv 0,uv 0,uv 0,uv 0,iv 0,iv 0,uv 0,uv 0,uv 0,uv 0,iv 0,iv 0,uv 0,uv 0,uv 0,uv 0,iv 0,iv 0,iv 0,iv 0] [(0,33)]) [.t 16]]] (.next 0 ([.t 14, .t 26, .t 17, .t 18, .t 27, .t 20, .t 21, .t 22, .t 23, .t 24]++cs 16 33 0 33++ [.t 19])))))) (.chk [.mk .okc [.mk (.cell 0 33) [.t 16]], .mk .okc [.mk (.cell 1 33) [.t 16]], .mk (.cell 0 5) [.mk (.pk (.ext 0)) [.mk (.mget [99,3,3] (.agg [iv 0,iv 0,iv 0,iv 0,iv 0]) true) [.t 9, .mk .agg [.mk (.cell 0 33) [.t 16], .mk (.cell 1 33) [.t 16]]]]]] (.lets [.mk (.pk (.ext 1)) [.mk (.mget [99,3,3] (.agg [iv 0,iv 0,iv 0,iv 0,iv 0]) true) [.t 9, .mk .agg [.mk (.cell 0 33) [.t 16], .mk (.cell 1 33) [.t 16]]]]] (.lets [.mk (.pk (.ext 0)) [.mk (.mget [99,3,3] (.agg [iv 0,iv 0,iv 0,iv 0,iv 0]) true) [.t 9, .mk .agg [.mk (.cell 0 33) [.t 16], .mk (.cell 1 33) [.t 16]]]]] (.ite (.t 17) (.lets [.mk (.lit 5 1 [iv 0,iv 0,iv 0,iv 0,iv 0] [(0,5)]) [.t 18]] (.next 0 [.t 17, .t 17, .t 19, .mk (.cell 0 5) [.t 18], .mk (.cell 1 5) [.t 18], .mk (.cell 2 5) [.t 18], .mk (.cell 3 5) [.t 18], .mk (.cell 4 5) [.t 18]])) (.next 0 [.t 17, .t 17, .q (.list []), .mk (.cell 0 5) [.t 18], .mk (.cell 1 5) [.t 18], .mk (.cell 2 5) [.t 18], .mk (.cell 3 5) [.t 18], .mk (.cell 4 5) [.t 18]])))))))))) (.ret (.mk .tup [.mk .own [.t 14], .mk .own [.t 13], .mk .nrm [.q (iv 0)]])))))))))))))))))):=by kernel_rfl
theorem tx21:tm21= .lets [.mk (.pk (.fbox 7)) [.t 0]] (.lets [.mk (.call false 54) [.mk .nrm [.mk (.pk (.load 7 true)) [.t 1]]]] (.lets [.mk (.pk (.ibin .neq)) [.t 2, .q (iv 0)]] (.ite (.t 3) (.ret (.mk .tup [.mk .nrm [.q .nil], .mk .nrm [.t 2]])) (.lets [.mk (.pk .llen) [.mk (.pk (.load 1 false)) [.mk (.pk (.fld 5)) [.mk (.pk (.fld 0)) [.t 1]]]]] (.lets [.mk (.pk (.load 1 false)) [.mk (.pk (.fld 5)) [.mk (.pk (.fld 0)) [.t 1]]]] (.loop [.q (iv 0), .q (.list [])] (.lets [.mk (.pk (.ibin .lss)) [.t 6, .t 4]] (.ite (.t 8) (.chk [.mk (.cell 0 5) [.mk (.pk (.load 5 true)) [.mk (.pk (.idx 42 5)) [.t 5, .t 6]]]] (.lets [.mk (.pk (.load 5 true)) [.mk (.pk (.idx 42 5)) [.t 5, .t 6]]] (.lets [.ite (.mk (.pk (.ibin .leq)) [.mk (.cell 2 5) [.t 9], .q (iv 0)]) (.q (bv true)) (.mk (.pk (.ibin .leq)) [.mk (.cell 3 5) [.t 9], .q (iv 0)])] (.ite (.t 10) (.lets [.mk (.pk (.ibin .add)) [.t 6, .q (iv 1)]] (.next 0 [.t 11, .t 7])) (.lets [.mk (.pk (.load 1 false)) [.mk (.pk (.fld 6)) [.t 1]]] (.loop [.q (iv 0), .t 7] (.lets [.mk (.pk (.ibin .lss)) [.t 12, .t 11]] (.ite (.t 14) (.chk [.mk .okc [.mk (.cell 0 5) [.t 9]], .mk .okc [.mk (.cell 1 5) [.t 9]], .mk .okc [.mk (.pk (.ibin .add)) [.mk (.pk (.ibin .add)) [.mk (.pk (.ibin .mul)) [.mk (.cell 4 5) [.t 9], .mk (.pk (.load 1 false)) [.mk (.pk (.fld 6)) [.t 1]]], .t 12], .q (iv 1)]]] (.lets [.mk (.app 3) [.t 13, .mk (.lit 3 1 [iv 0,iv 0,iv 0] [(0,3)]) [.mk .agg [.mk (.cell 0 5) [.t 9], .mk (.cell 1 5) [.t 9], .mk (.pk (.ibin .add)) [.mk (.pk (.ibin .add)) [.mk (.pk (.ibin .mul)) [.mk (.cell 4 5) [.t 9], .mk (.pk (.load 1 false)) [.mk (.pk (.fld 6)) [.t 1]]], .t 12], .q (iv 1)]]]]] (.lets [.mk (.pk (.ibin .add)) [.t 12, .q (iv 1)]] (.next 0 [.t 16, .t 15])))) (.lets [.mk (.pk (.ibin .add)) [.t 6, .q (iv 1)]] (.next 1 [.t 15, .t 13])))))))))) (.lets [.mk (.ecall 0 57 3) [.t 7, .q (.clo 58 [])]] (.chk [.mk (.pk (.ext 0)) [.t 9]] (.lets [.mk (.pk (.ext 1)) [.t 9]] (.ret (.mk .tup [.mk .own [.t 10], .mk .nrm [.q (iv 0)]]))))))))))))):=by kernel_rfl
theorem tx22:tm22= .lets [.mk (.pk (.fbox 7)) [.t 0]] (.lets [.mk (.call false 21) [.mk .nrm [.mk (.pk (.load 7 true)) [.t 2]]]] (.lets [.mk (.pk (.ext 1)) [.t 3]] (.lets [.mk (.pk (.ext 0)) [.t 3]] (.lets [.mk (.pk (.ibin .neq)) [.t 4, .q (iv 0)]] (.ite (.t 6) (.ret (.mk .tup [.mk .nrm [.q .nil], .mk .nrm [.t 4]])) (.lets [.mk (.call false 47) [.mk .nrm [.mk (.pk (.load 7 true)) [.t 2]], .mk .nrm [.t 1]]] (.lets [.mk (.pk (.ext 1)) [.t 7]] (.lets [.mk (.pk (.ext 0)) [.t 7]] (.lets [.mk (.pk (.ibin .neq)) [.t 8, .q (iv 0)]] (.ite (.t 10) (.ret (.mk .tup [.mk .nrm [.q .nil], .mk .nrm [.t 8]])) (.lets [.mk (.pk .llen) [.t 9]] (.loop [.q (iv 0), .q (.list [])] (.lets [.mk (.pk (.ibin .lss)) [.t 12, .t 11]] (.ite (.t 14) (.jp (.lets [.mk (.pk (.ibin .add)) [.t 12, .q (iv 1)]] (.next 0 [.t 50, .t 16])) (.chk [.mk (.cell 0 33) [.mk (.pk (.load 33 true)) [.mk (.pk (.idx 40 33)) [.t 9, .t 12]]]] (.lets [.mk (.pk (.load 33 true)) [.mk (.pk (.idx 40 33)) [.t 9, .t 12]]] (.lets [.mk (.pk (.ibin .neq)) [.mk (.cell 4 33) [.t 15], .q (uv 0)]] (.ite (.t 16) (.lets [.mk (.call false 59) [.mk .nrm [.t 15]]] (.lets [.mk (.mset [99,3,3,3]) [.t 13, .t 17, .q (bv true)]] (.next 0 ([.t 16, .t 18]++cs 15 33 0 33)))) (.next 0 ([.t 16, .t 13]++cs 15 33 0 33))))))) (.lets [.mk (.pk .llen) [.t 5]] (.loop [.q (iv 0), .q (.list [])] (.lets [.mk (.pk (.ibin .lss)) [.t 16, .t 15]] (.ite (.t 18) (.jp (.lets [.mk (.pk (.ibin .add)) [.t 16, .q (iv 1)]] (.next 0 [.t 24, .t 19])) (.chk [.mk (.cell 0 3) [.mk (.pk (.load 3 true)) [.mk (.pk (.idx 68 3)) [.t 5, .t 16]]]] (.lets [.mk (.pk (.load 3 true)) [.mk (.pk (.idx 68 3)) [.t 5, .t 16]]] (.lets [.mk (.pk .inot) [.mk (.mget [99,3,3,3] (bv false) false) [.t 13, .t 19]]] (.ite (.t 20) (.lets [.mk (.app 3) [.t 17, .mk (.lit 3 1 [iv 0,iv 0,iv 0] [(0,3)]) [.t 19]]] (.next 0 [.t 21, .t 20, .mk (.cell 0 3) [.t 19], .mk (.cell 1 3) [.t 19], .mk (.cell 2 3) [.t 19]])) (.next 0 [.t 17, .t 20, .mk (.cell 0 3) [.t 19], .mk (.cell 1 3) [.t 19], .mk (.cell 2 3) [.t 19]])))))) (.ret (.mk .tup [.mk .own [.t 17], .mk .nrm [.q (iv 0)]])))))))))))))))))))):=by kernel_rfl
theorem tx24:tm24= .lets [.mk (.pk (.fbox 7)) [.t 0]] (.lets [.mk (.call false 60) [.mk .nrm [.mk (.pk (.load 7 true)) [.t 3]], .mk .nrm [.t 1], .mk .nrm [.t 2]]] (.lets [.mk (.pk (.ext 1)) [.t 4]] (.lets [.mk (.pk (.ext 0)) [.t 4]] (.lets [.mk (.pk (.ibin .neq)) [.t 5, .q (iv 0)]] (.ite (.t 7) (.ret (.mk .tup [.mk .agg [.mk .nrmC [.q (iv 0)], .mk .nrmC [.q (iv 0)]], .mk .agg [.mk .nrmC [.q (iv 0)], .mk .nrmC [.q (iv 0)]], .mk .nrm [.t 5]])) (.lets [.mk (.call false 61) [.mk .nrm [.t 6]]] (.chk [.mk (.cell 0 2) [.mk (.pk (.ext 0)) [.t 8]], .mk (.cell 0 2) [.mk (.pk (.ext 1)) [.t 8]]] (.lets [.mk (.pk (.ext 2)) [.t 8]] (.lets [.mk (.pk (.ext 1)) [.t 8]] (.lets [.mk (.pk (.ext 0)) [.t 8]] (.ret (.mk .tup [.mk .nrm [.t 11], .mk .nrm [.t 10], .mk .nrm [.t 9]])))))))))))):=by kernel_rfl
theorem tx40:tm40= .lets [.mk (.call false 78) [.mk .nrm [.mk (.pk (.ibin .rem)) [.t 0, .q (uv 4)]], .mk .nrm [.t 1], .mk .nrm [.mk (.pk (.aix 5 1 false)) [.mk .agg [.q (uv 0), .q (uv 1), .q (uv 2), .q (uv 3), .q (uv 7)], .mk (.pk (.ibin .rem)) [.t 2, .q (uv 5)]]]]] (.chk [.mk .okc [.q (uv 0)], .mk .okc [.q (uv 1)], .mk .okc [.q (uv 2)], .mk .okc [.q (uv 3)], .mk .okc [.q (uv 7)], .mk (.cell 0 6) [.t 4]] (.chk [.mk .okc [.mk (.pk (.ibin .add)) [.q (iv 1), .mk (.pk (.ibin .rem)) [.mk (.pk (.conv .i64)) [.t 3], .q (iv 2)]]]] (.lets [.mk (.pk (.ibin .add)) [.q (iv 1), .mk (.pk (.ibin .rem)) [.mk (.pk (.conv .i64)) [.t 3], .q (iv 2)]]] (.ret (.mk .agg [.mk .nrmC [.mk (.cell 0 6) [.t 4]], .mk .nrmC [.mk (.cell 1 6) [.t 4]], .mk .nrmC [.mk (.cell 2 6) [.t 4]], .mk .nrmC [.mk (.cell 3 6) [.t 4]], .mk .nrmC [.mk (.cell 4 6) [.t 4]], .mk .nrmC [.mk (.cell 5 6) [.t 4]], .mk .nrmC [.t 5]]))))):=by kernel_rfl
theorem tx41:tm41= .chk [.mk (.cell 0 14) [.t 0]] (.chk [.mk .okc [.mk (.pk (.ibin .rem)) [.mk (.cell 0 14) [.t 0], .q (uv 5)]], .mk .okc [.mk (.pk (.ibin .rem)) [.mk (.cell 1 14) [.t 0], .q (uv 4)]]] (.lets [.mk (.pk (.ibin .rem)) [.mk (.cell 0 14) [.t 0], .q (uv 5)]] (.lets [.mk (.pk (.ibin .rem)) [.mk (.cell 1 14) [.t 0], .q (uv 4)]] (.lets [.mk (.pk (.ibin .eql)) [.t 1, .q (uv 1)]] (.ite (.t 3) (.lets [.mk (.call false 79) [.mk .nrm [.mk (.cell 3 14) [.t 0]], .mk .nrm [.mk (.cell 7 14) [.t 0]]]] (.chk [.mk (.cell 0 6) [.t 4]] (.chk [.mk .okc [.t 1], .mk .okc [.t 2]] (.ret (.mk .agg [.mk .nrmC [.q (iv 0)], .mk .nrmC [.q (iv 0)], .mk .nrmC [.q (iv 0)], .mk .nrmC [.q (iv 0)], .mk .nrmC [.t 1], .mk .nrmC [.t 2], .mk .nrmC [.q (bv false)], .mk .nrmC [.mk (.cell 0 6) [.t 4]], .mk .nrmC [.mk (.cell 1 6) [.t 4]], .mk .nrmC [.mk (.cell 2 6) [.t 4]], .mk .nrmC [.mk (.cell 3 6) [.t 4]], .mk .nrmC [.mk (.cell 4 6) [.t 4]], .mk .nrmC [.mk (.cell 5 6) [.t 4]], .mk .nrmC [.q (uv 0)], .mk .nrmC [.q (uv 0)], .mk .nrmC [.q (uv 0)], .mk .nrmC [.q (uv 0)], .mk .nrmC [.q (iv 0)], .mk .nrmC [.q (iv 0)], .mk .nrmC [.q (uv 0)], .mk .nrmC [.q (uv 0)], .mk .nrmC [.q (uv 0)], .mk .nrmC [.q (uv 0)], .mk .nrmC [.q (iv 0)], .mk .nrmC [.q (iv 0)], .mk .nrmC [.q (uv 0)], .mk .nrmC [.q (uv 0)], .mk .nrmC [.q (uv 0)], .mk .nrmC [.q (uv 0)], .mk .nrmC [.q (iv 0)], .mk .nrmC [.q (iv 0)], .mk .nrmC [.q (iv 0)], .mk .nrmC [.q (iv 0)]]))))) (.lets [.mk (.pk (.ibin .eql)) [.t 1, .q (uv 3)]] (.ite (.t 4) (.lets [.mk (.call false 79) [.mk .nrm [.mk (.cell 3 14) [.t 0]], .mk .nrm [.mk (.cell 7 14) [.t 0]]]] (.lets [.mk (.call false 79) [.mk .nrm [.mk (.cell 4 14) [.t 0]], .mk .nrm [.mk (.cell 8 14) [.t 0]]]] (.chk [.mk (.cell 0 6) [.t 5], .mk (.cell 0 6) [.t 6]] (.chk [.mk .okc [.t 1], .mk .okc [.t 2]] (.ret (.mk .agg [.mk .nrmC [.q (iv 0)], .mk .nrmC [.q (iv 0)], .mk .nrmC [.q (iv 0)], .mk .nrmC [.q (iv 0)], .mk .nrmC [.t 1], .mk .nrmC [.t 2], .mk .nrmC [.q (bv false)], .mk .nrmC [.mk (.cell 0 6) [.t 5]], .mk .nrmC [.mk (.cell 1 6) [.t 5]], .mk .nrmC [.mk (.cell 2 6) [.t 5]], .mk .nrmC [.mk (.cell 3 6) [.t 5]], .mk .nrmC [.mk (.cell 4 6) [.t 5]], .mk .nrmC [.mk (.cell 5 6) [.t 5]], .mk .nrmC [.mk (.cell 0 6) [.t 6]], .mk .nrmC [.mk (.cell 1 6) [.t 6]], .mk .nrmC [.mk (.cell 2 6) [.t 6]], .mk .nrmC [.mk (.cell 3 6) [.t 6]], .mk .nrmC [.mk (.cell 4 6) [.t 6]], .mk .nrmC [.mk (.cell 5 6) [.t 6]], .mk .nrmC [.q (uv 0)], .mk .nrmC [.q (uv 0)], .mk .nrmC [.q (uv 0)], .mk .nrmC [.q (uv 0)], .mk .nrmC [.q (iv 0)], .mk .nrmC [.q (iv 0)], .mk .nrmC [.q (uv 0)], .mk .nrmC [.q (uv 0)], .mk .nrmC [.q (uv 0)], .mk .nrmC [.q (uv 0)], .mk .nrmC [.q (iv 0)], .mk .nrmC [.q (iv 0)], .mk .nrmC [.q (iv 0)], .mk .nrmC [.q (iv 0)]])))))) (.lets [.mk (.pk (.ibin .eql)) [.t 1, .q (uv 2)]] (.ite (.t 5) (.lets [.mk (.pk (.ibin .add)) [.q (iv 2), .mk (.pk (.ibin .rem)) [.mk (.pk (.conv .i64)) [.mk (.cell 11 14) [.t 0]], .q (iv 3)]]] (.loop [.q (iv 0), .q (iv 100), .q (uv 0), .q (uv 0), .q (uv 0), .q (uv 0), .q (iv 0), .q (iv 0), .q (uv 0), .q (uv 0), .q (uv 0), .q (uv 0), .q (iv 0), .q (iv 0), .q (uv 0), .q (uv 0), .q (uv 0), .q (uv 0), .q (iv 0), .q (iv 0), .q (uv 0), .q (uv 0), .q (uv 0), .q (uv 0), .q (iv 0), .q (iv 0)] (.lets [.mk (.pk (.ibin .lss)) [.t 7, .t 6]] (.ite (.t 33) (.chk [.mk (.rngi 4) [.t 7]] (.lets [.mk (.call false 79) [.mk .nrm [.mk (.geta 4 1 0 1 false) [.mk .agg [.mk (.cell 3 14) [.t 0], .mk (.cell 4 14) [.t 0], .mk (.cell 5 14) [.t 0], .mk (.cell 6 14) [.t 0]], .t 7]], .mk .nrm [.mk (.geta 4 1 0 1 false) [.mk .agg [.mk (.cell 7 14) [.t 0], .mk (.cell 8 14) [.t 0], .mk (.cell 9 14) [.t 0], .mk (.cell 10 14) [.t 0]], .t 7]]]] (.lets [.mk (.seta 4 6 0 6) [.mk .agg [.t 9, .t 10, .t 11, .t 12, .t 13, .t 14, .t 15, .t 16, .t 17, .t 18, .t 19, .t 20, .t 21, .t 22, .t 23, .t 24, .t 25, .t 26, .t 27, .t 28, .t 29, .t 30, .t 31, .t 32], .t 7, .t 34]] (.jp (.chk [.mk (.rngi 4) [.t 7]] (.lets [.mk (.seta 4 6 5 1) [.mk .agg (cs 35 24 0 24), .t 7, .t 36]] (.lets [.mk (.pk (.ibin .sub)) [.t 8, .t 36]] (.lets [.mk (.pk (.ibin .add)) [.t 7, .q (iv 1)]] (.next 0 ([.t 40, .t 39]++cs 38 24 0 24)))))) (.lets [.mk (.pk (.ibin .lss)) [.t 7, .mk (.pk (.ibin .sub)) [.t 6, .q (iv 1)]]] (.ite (.t 36) (.chk [.mk (.rngi 3) [.t 7]] (.lets [.mk (.pk (.ibin .add)) [.q (iv 1), .mk (.pk (.ibin .rem)) [.mk (.pk (.conv .i64)) [.mk (.geta 3 1 0 1 false) [.mk .agg [.mk (.cell 11 14) [.t 0], .mk (.cell 12 14) [.t 0], .mk (.cell 13 14) [.t 0]], .t 7]], .mk (.pk (.ibin .sub)) [.t 8, .mk (.pk (.ibin .sub)) [.mk (.pk (.ibin .sub)) [.t 6, .q (iv 1)], .t 7]]]]] (.next 0 [.t 37, .t 36]))) (.next 0 [.t 8, .t 36]))))))) (.chk [.mk .okc [.t 1], .mk .okc [.t 2], .mk .okc [.t 9], .mk .okc [.t 10], .mk .okc [.t 11], .mk .okc [.t 12], .mk .okc [.t 13], .mk .okc [.t 14], .mk .okc [.t 15], .mk .okc [.t 16], .mk .okc [.t 17], .mk .okc [.t 18], .mk .okc [.t 19], .mk .okc [.t 20], .mk .okc [.t 21], .mk .okc [.t 22], .mk .okc [.t 23], .mk .okc [.t 24], .mk .okc [.t 25], .mk .okc [.t 26], .mk .okc [.t 27], .mk .okc [.t 28], .mk .okc [.t 29], .mk .okc [.t 30], .mk .okc [.t 31], .mk .okc [.t 32]] (.ret (.mk .agg [.mk .nrmC [.q (iv 0)], .mk .nrmC [.q (iv 0)], .mk .nrmC [.q (iv 0)], .mk .nrmC [.q (iv 0)], .mk .nrmC [.t 1], .mk .nrmC [.t 2], .mk .nrmC [.q (bv false)], .mk .nrmC [.t 9], .mk .nrmC [.t 10], .mk .nrmC [.t 11], .mk .nrmC [.t 12], .mk .nrmC [.t 13], .mk .nrmC [.t 14], .mk .nrmC [.t 15], .mk .nrmC [.t 16], .mk .nrmC [.t 17], .mk .nrmC [.t 18], .mk .nrmC [.t 19], .mk .nrmC [.t 20], .mk .nrmC [.t 21], .mk .nrmC [.t 22], .mk .nrmC [.t 23], .mk .nrmC [.t 24], .mk .nrmC [.t 25], .mk .nrmC [.t 26], .mk .nrmC [.t 27], .mk .nrmC [.t 28], .mk .nrmC [.t 29], .mk .nrmC [.t 30], .mk .nrmC [.t 31], .mk .nrmC [.t 32], .mk .nrmC [.q (iv 0)], .mk .nrmC [.q (iv 0)]]))))))) (.lets [.mk (.pk (.ibin .eql)) [.t 1, .q (uv 4)]] (.ite (.t 6) (.lets [.mk (.lit 1 7 [iv 0,iv 0,iv 0,iv 0,iv 0,iv 0,iv 0] [(0,1),(1,1),(2,1),(3,1),(4,1),(5,1),(6,1)]) [.q (iv 0), .q (iv 30), .q (iv 40), .q (iv 50), .q (iv 60), .q (iv 70), .q (iv 100)]] (.chk [.mk (.cell 0 1) [.mk (.pk (.load 1 false)) [.mk (.pk (.fld 0)) [.mk (.pk (.idx 0 1)) [.t 7, .mk (.pk (.ibin .rem)) [.mk (.pk (.conv .i64)) [.mk (.cell 2 14) [.t 0]], .q (iv 7)]]]]], .mk (.cell 0 1) [.mk (.pk (.load 1 false)) [.mk (.pk (.fld 0)) [.mk (.pk (.idx 0 1)) [.t 7, .mk (.pk (.ibin .rem)) [.mk (.pk (.ibin .quo)) [.mk (.pk (.conv .i64)) [.mk (.cell 2 14) [.t 0]], .q (iv 7)], .q (iv 7)]]]]]] (.lets [.mk (.pk (.load 1 false)) [.mk (.pk (.fld 0)) [.mk (.pk (.idx 0 1)) [.t 7, .mk (.pk (.ibin .rem)) [.mk (.pk (.conv .i64)) [.mk (.cell 2 14) [.t 0]], .q (iv 7)]]]]] (.lets [.mk (.pk (.load 1 false)) [.mk (.pk (.fld 0)) [.mk (.pk (.idx 0 1)) [.t 7, .mk (.pk (.ibin .rem)) [.mk (.pk (.ibin .quo)) [.mk (.pk (.conv .i64)) [.mk (.cell 2 14) [.t 0]], .q (iv 7)], .q (iv 7)]]]]] (.chk [.mk .okc [.t 1], .mk .okc [.t 2]] (.ret (.mk .agg [.mk .nrmC [.q (iv 0)], .mk .nrmC [.q (iv 0)], .mk .nrmC [.q (iv 0)], .mk .nrmC [.q (iv 0)], .mk .nrmC [.t 1], .mk .nrmC [.t 2], .mk .nrmC [.q (bv false)], .mk .nrmC [.q (uv 0)], .mk .nrmC [.q (uv 0)], .mk .nrmC [.q (uv 0)], .mk .nrmC [.q (uv 0)], .mk .nrmC [.q (iv 0)], .mk .nrmC [.q (iv 0)], .mk .nrmC [.q (uv 0)], .mk .nrmC [.q (uv 0)], .mk .nrmC [.q (uv 0)], .mk .nrmC [.q (uv 0)], .mk .nrmC [.q (iv 0)], .mk .nrmC [.q (iv 0)], .mk .nrmC [.q (uv 0)], .mk .nrmC [.q (uv 0)], .mk .nrmC [.q (uv 0)], .mk .nrmC [.q (uv 0)], .mk .nrmC [.q (iv 0)], .mk .nrmC [.q (iv 0)], .mk .nrmC [.q (uv 0)], .mk .nrmC [.q (uv 0)], .mk .nrmC [.q (uv 0)], .mk .nrmC [.q (uv 0)], .mk .nrmC [.q (iv 0)], .mk .nrmC [.q (iv 0)], .mk .nrmC [.mk (.cell 0 1) [.t 8]], .mk .nrmC [.mk (.cell 0 1) [.t 9]]]))))))) (.chk [.mk .okc [.t 1], .mk .okc [.t 2]] (.ret (.mk .agg [.mk .nrmC [.q (iv 0)], .mk .nrmC [.q (iv 0)], .mk .nrmC [.q (iv 0)], .mk .nrmC [.q (iv 0)], .mk .nrmC [.t 1], .mk .nrmC [.t 2], .mk .nrmC [.q (bv false)], .mk .nrmC [.q (uv 0)], .mk .nrmC [.q (uv 0)], .mk .nrmC [.q (uv 0)], .mk .nrmC [.q (uv 0)], .mk .nrmC [.q (iv 0)], .mk .nrmC [.q (iv 0)], .mk .nrmC [.q (uv 0)], .mk .nrmC [.q (uv 0)], .mk .nrmC [.q (uv 0)], .mk .nrmC [.q (uv 0)], .mk .nrmC [.q (iv 0)], .mk .nrmC [.q (iv 0)], .mk .nrmC [.q (uv 0)], .mk .nrmC [.q (uv 0)], .mk .nrmC [.q (uv 0)], .mk .nrmC [.q (uv 0)], .mk .nrmC [.q (iv 0)], .mk .nrmC [.q (iv 0)], .mk .nrmC [.q (uv 0)], .mk .nrmC [.q (uv 0)], .mk .nrmC [.q (uv 0)], .mk .nrmC [.q (uv 0)], .mk .nrmC [.q (iv 0)], .mk .nrmC [.q (iv 0)], .mk .nrmC [.q (iv 0)], .mk .nrmC [.q (iv 0)]])))))))))))))):=by kernel_rfl
theorem tx47:tm47= .lets [.mk (.pk (.fbox 7)) [.t 0]] (.lets [.mk (.call false 19) [.mk .nrm [.mk (.pk (.load 7 true)) [.t 2]], .mk .nrm [.t 1]]] (.chk [.mk (.pk (.ext 1)) [.t 3]] (.lets [.mk (.pk (.ext 2)) [.t 3]] (.lets [.mk (.pk (.ext 0)) [.t 3]] (.lets [.mk (.pk (.ibin .neq)) [.t 4, .q (iv 0)]] (.ite (.t 6) (.ret (.mk .tup [.mk .nrm [.q .nil], .mk .nrm [.t 4]])) (.lets [.mk (.call false 20) [.mk .nrm [.t 5]]] (.lets [.mk (.pk (.ext 1)) [.t 7]] (.lets [.mk (.pk (.ext 0)) [.t 7]] (.ret (.mk .tup [.mk .nrm [.t 9], .mk .nrm [.t 8]]))))))))))):=by kernel_rfl
theorem tx60:tm60= .lets [.mk (.pk (.fbox 1)) [.t 2]] (.lets [.mk (.pk (.fbox 7)) [.t 0]] (.lets [.mk (.call false 47) [.mk .nrm [.mk (.pk (.load 7 true)) [.t 4]], .mk .nrm [.t 1]]] (.lets [.mk (.pk (.ext 1)) [.t 5]] (.lets [.mk (.pk (.ext 0)) [.t 5]] (.lets [.mk (.pk (.ibin .neq)) [.t 6, .q (iv 0)]] (.ite (.t 8) (.chk [.mk .okc [.q .nil], .mk .okc [.t 6]] (.ret (.mk .tup [.mk .nrm [.q .nil], .mk .nrm [.t 6]]))) (.lets [.mk (.call false 97) [.mk .nrm [.mk (.pk (.load 7 true)) [.t 4]], .mk .nrm [.mk (.pk (.load 1 false)) [.t 3]]]] (.chk [.mk (.pk (.ext 0)) [.t 9]] (.lets [.mk (.pk (.ext 1)) [.t 9]] (.lets [.mk (.pk (.ibin .neq)) [.t 10, .q (iv 0)]] (.ite (.t 11) (.chk [.mk .okc [.q .nil], .mk .okc [.t 10]] (.ret (.mk .tup [.mk .nrm [.q .nil], .mk .nrm [.t 10]]))) (.lets [.mk (.call false 49) [.mk .nrm [.mk (.pk (.load 7 true)) [.t 4]], .mk .nrm [.t 7]]] (.chk [.mk (.isc 85 2) [.t 12]] (.lets [.mk (.capc 85 0 2) [.t 12]] (.lets [.mk (.capc 85 1 2) [.t 12]] (.lets [.mk (.pk .llen) [.mk (.pk (.load 1 false)) [.t 13]]] (.lets [.mk (.pk (.load 1 false)) [.t 13]] (.loop [.q (iv 0), .q (.list [])] (.lets [.mk (.pk (.ibin .lss)) [.t 17, .t 15]] (.ite (.t 19) (.chk [.mk (.cell 0 33) [.mk (.pk (.load 33 true)) [.mk (.pk (.idx 40 33)) [.t 16, .t 17]]]] (.lets [.mk (.pk (.load 33 true)) [.mk (.pk (.idx 40 33)) [.t 16, .t 17]]] (.lets [.mk (.mapp [3] 33) [.t 18, .mk (.cell 2 33) [.t 20], .mk (.lit 33 1 [iv 0,iv 0,iv 0,iv 0,uv 0,uv 0,bv false,uv 0,uv 0,uv 0,uv 0,iv 0,iv 0,uv 0,uv 0,uv 0,uv 0,iv 0,iv 0,uv 0,uv 0,uv 0,uv 0,iv 0,iv 0,uv 0,uv 0,uv 0,uv 0,iv 0,iv 0,iv 0,iv 0] [(0,33)]) [.t 20]]] (.lets [.mk (.pk (.ibin .add)) [.t 17, .q (iv 1)]] (.next 0 [.t 22, .t 21]))))) (.loop [.q (iv 1)] (.lets [.mk (.pk (.ibin .leq)) [.t 20, .mk (.pk (.ibin .mul)) [.mk (.pk (.load 1 false)) [.mk (.pk (.fld 2)) [.mk (.pk (.fld 0)) [.t 14]]], .mk (.pk (.load 1 false)) [.mk (.pk (.fld 6)) [.t 14]]]]] (.ite (.t 21) (.chk [.mk (.mget [3] .nil false) [.t 18, .t 20]] (.lets [.mk (.mget [3] .nil false) [.t 18, .t 20]] (.lets [.mk (.pk (.ibin .eql)) [.t 20, .mk (.pk (.load 1 false)) [.t 3]]] (.ite (.t 23) (.chk [.mk .okc [.t 22], .mk .okc [.q (iv 0)]] (.ret (.mk .tup [.mk .nrm [.t 22], .mk .nrm [.q (iv 0)]]))) (.lets [.mk (.pk (.ibin .add)) [.t 20, .q (iv 1)]] (.next 0 [.t 24])))))) (.chk [.mk .okc [.q .nil], .mk .okc [.q (iv 6)]] (.ret (.mk .tup [.mk .nrm [.q .nil], .mk .nrm [.q (iv 6)]])))))))))))))))))))))))))):=by kernel_rfl
theorem tx78:tm78= .lets [.mk (.pk (.ibin .rem)) [.t 2, .q (uv 8)]] (.jp (.ite (.t 4) (.lets [.mk (.call false 121) [.mk .nrm [.t 0], .mk .nrm [.t 1], .mk .nrm [.mk (.pk (.ibin .rem)) [.t 2, .q (uv 4)]]]] (.chk [.mk (.cell 0 6) [.t 5]] (.ret (.mk .nrm [.t 5])))) (.jp (.ite (.t 5) (.lets [.mk (.call false 122) [.mk .nrm [.t 0], .mk .nrm [.t 1], .mk .nrm [.mk (.pk (.ibin .sub)) [.mk (.pk (.ibin .rem)) [.t 2, .q (uv 8)], .q (uv 4)]]]] (.chk [.mk (.pk (.ext 1)) [.t 6], .mk (.cell 0 6) [.mk (.pk (.ext 0)) [.t 6]]] (.lets [.mk (.pk (.ext 0)) [.t 6]] (.ret (.mk .nrm [.t 7]))))) (.lets [.mk (.pk (.ibin .add)) [.q (iv 2), .mk (.pk (.ibin .rem)) [.mk (.pk (.conv .i64)) [.t 0], .q (iv 23)]]] (.lets [.mk (.call false 123) [.mk .nrm [.t 6], .mk .nrm [.mk (.pk (.ibin .add)) [.q (iv 1), .mk (.pk (.ibin .rem)) [.mk (.pk (.conv .i64)) [.t 1], .mk (.pk (.ibin .sub)) [.mk (.pk (.ibin .mul)) [.q (iv 2), .t 6], .q (iv 1)]]]]]] (.chk [.mk (.pk (.ext 1)) [.t 7], .mk (.cell 0 6) [.mk (.pk (.ext 0)) [.t 7]]] (.lets [.mk (.pk (.ext 0)) [.t 7]] (.ret (.mk .nrm [.t 8]))))))) (.lets [.mk (.pk (.ibin .eql)) [.t 3, .q (uv 4)]] (.ite (.t 5) (.next 0 [.t 5]) (.lets [.mk (.pk (.ibin .eql)) [.t 3, .q (uv 5)]] (.ite (.t 6) (.next 0 [.t 6]) (.lets [.mk (.pk (.ibin .eql)) [.t 3, .q (uv 6)]] (.next 0 [.t 7])))))))) (.lets [.mk (.pk (.ibin .eql)) [.t 3, .q (uv 0)]] (.ite (.t 4) (.next 0 [.t 4]) (.lets [.mk (.pk (.ibin .eql)) [.t 3, .q (uv 1)]] (.ite (.t 5) (.next 0 [.t 5]) (.lets [.mk (.pk (.ibin .eql)) [.t 3, .q (uv 2)]] (.ite (.t 6) (.next 0 [.t 6]) (.lets [.mk (.pk (.ibin .eql)) [.t 3, .q (uv 3)]] (.next 0 [.t 7]))))))))):=by kernel_rfl
theorem tx79:tm79= .lets [.mk (.pk (.ibin .rem)) [.mk (.pk (.conv .i64)) [.t 0], .q (iv 211)]] (.lets [.mk (.pk (.ibin .eql)) [.t 2, .q (iv 210)]] (.ite (.t 3) (.ret (.mk .agg [.mk .nrmC [.q (uv 0)], .mk .nrmC [.q (uv 0)], .mk .nrmC [.q (uv 0)], .mk .nrmC [.q (uv 0)], .mk .nrmC [.q (iv 0)], .mk .nrmC [.q (iv 0)]])) (.chk [.mk .okc [.mk (.pk (.conv .u8)) [.mk (.pk (.ibin .add)) [.q (iv 1), .mk (.pk (.ibin .quo)) [.t 2, .q (iv 30)]]]], .mk .okc [.mk (.pk (.conv .u8)) [.mk (.pk (.ibin .rem)) [.mk (.pk (.ibin .quo)) [.t 2, .q (iv 6)], .q (iv 5)]]], .mk .okc [.mk (.pk (.conv .u8)) [.mk (.pk (.ibin .rem)) [.t 2, .q (iv 3)]]], .mk .okc [.mk (.pk (.ibin .rem)) [.mk (.pk (.ibin .add)) [.t 0, .t 1], .q (uv 4)]]] (.lets [.mk (.pk (.conv .u8)) [.mk (.pk (.ibin .add)) [.q (iv 1), .mk (.pk (.ibin .quo)) [.t 2, .q (iv 30)]]]] (.lets [.mk (.pk (.conv .u8)) [.mk (.pk (.ibin .rem)) [.mk (.pk (.ibin .quo)) [.t 2, .q (iv 6)], .q (iv 5)]]] (.lets [.mk (.pk (.conv .u8)) [.mk (.pk (.ibin .rem)) [.t 2, .q (iv 3)]]] (.lets [.mk (.pk (.ibin .rem)) [.mk (.pk (.ibin .add)) [.t 0, .t 1], .q (uv 4)]] (.chk [.mk .okc [.t 4], .mk .okc [.t 5], .mk .okc [.t 6], .mk .okc [.t 7], .mk .okc [.mk (.pk (.ibin .rem)) [.mk (.pk (.conv .i64)) [.t 1], .q (iv 14)]]] (.lets [.mk (.pk (.ibin .rem)) [.mk (.pk (.conv .i64)) [.t 1], .q (iv 14)]] (.ret (.mk .agg [.mk .nrmC [.t 4], .mk .nrmC [.t 5], .mk .nrmC [.t 6], .mk .nrmC [.t 7], .mk .nrmC [.t 8], .mk .nrmC [.q (iv 0)]]))))))))))):=by kernel_rfl
theorem tx121:tm121= .lets [.mk (.pk (.ibin .add)) [.q (iv 2), .mk (.pk (.ibin .rem)) [.mk (.pk (.conv .i64)) [.t 0], .q (iv 23)]]] (.lets [.mk (.pk (.ibin .rem)) [.t 2, .q (uv 4)]] (.jp (.lets [.mk (.call false 166) [.mk .nrm [.t 6], .mk .nrm [.mk (.pk (.mx2 true)) [.t 5, .q (uv 1)]]]] (.chk [.mk (.pk (.ext 1)) [.t 7]] (.lets [.mk (.pk (.ext 0)) [.t 7]] (.lets [.mk (.pk (.ibin .add)) [.q (iv 1), .mk (.pk (.ibin .rem)) [.mk (.pk (.conv .i64)) [.t 1], .mk (.pk (.mx2 true)) [.t 8, .q (iv 1)]]]] (.jp (.chk [.mk .okc [.t 10], .mk .okc [.t 11], .mk .okc [.t 12], .mk .okc [.t 13], .mk .okc [.t 14], .mk .okc [.t 15]] (.ret (.mk .agg [.mk .nrmC [.t 10], .mk .nrmC [.t 11], .mk .nrmC [.t 12], .mk .nrmC [.t 13], .mk .nrmC [.t 14], .mk .nrmC [.t 15]]))) (.lets [.mk (.pk (.ibin .eql)) [.t 5, .q (uv 0)]] (.ite (.t 10) (.lets [.mk (.call false 167) [.mk .nrm [.t 6], .mk .nrm [.t 9]]] (.chk [.mk (.pk (.ext 1)) [.t 11], .mk (.cell 0 6) [.mk (.pk (.ext 0)) [.t 11]]] (.lets [.mk (.pk (.ext 0)) [.t 11]] (.next 0 (cs 12 6 0 6))))) (.lets [.mk (.call false 168) [.mk .nrm [.t 6], .mk .nrm [.t 9], .mk .nrm [.t 5]]] (.chk [.mk (.pk (.ext 1)) [.t 11], .mk (.cell 0 6) [.mk (.pk (.ext 0)) [.t 11]]] (.lets [.mk (.pk (.ext 0)) [.t 11]] (.next 0 (cs 12 6 0 6)))))))))))) (.jp (.jp (.next 0 [.t 5, .t 6]) (.lets [.mk (.pk (.ibin .or)) [.t 3, .q (iv 1)]] (.lets [.mk (.pk (.ibin .gtr)) [.t 6, .q (iv 24)]] (.ite (.t 7) (.lets [.mk (.pk (.ibin .sub)) [.t 6, .q (iv 2)]] (.next 0 [.t 8])) (.next 0 [.t 6]))))) (.chk [.ite (.mk (.gv true) [.mk (.pk (.ibin .eql)) [.t 4, .q (uv 0)]]) (.mk (.pk (.ibin .rem)) [.t 3, .q (iv 6)]) (.q (.tup [])), .ite (.mk (.gv true) [.mk (.pk (.ibin .eql)) [.t 4, .q (uv 0)]]) (.mk (.pk (.ibin .neq)) [.mk (.pk (.ibin .rem)) [.t 3, .q (iv 6)], .q (iv 1)]) (.q (.tup []))] (.lets [.ite (.ite (.mk (.pk (.ibin .eql)) [.t 4, .q (uv 0)]) (.mk (.pk (.ibin .neq)) [.mk (.pk (.ibin .rem)) [.t 3, .q (iv 6)], .q (iv 1)]) (.q (bv false))) (.mk (.pk (.ibin .neq)) [.mk (.pk (.ibin .rem)) [.t 3, .q (iv 6)], .q (iv 5)]) (.q (bv false))] (.ite (.t 5) (.next 0 [.q (uv 1)]) (.lets [.mk (.pk (.ibin .eql)) [.t 4, .q (uv 1)]] (.ite (.t 6) (.next 0 [.t 4]) (.lets [.mk (.pk (.ibin .gtr)) [.t 4, .q (uv 1)]] (.ite (.t 7) (.lets [.mk (.pk (.ibin .andNot)) [.t 3, .q (iv 1)]] (.next 1 [.t 4, .t 8])) (.next 1 [.t 4, .t 3]))))))))))):=by kernel_rfl
theorem tx54:tm54= .lets [.mk (.pk (.fbox 7)) [.t 0]] (.chk [.mk (.cell 0 6) [.mk (.pk (.load 6 true)) [.mk (.pk (.fld 0)) [.t 1]]]] (.lets [.mk (.pk (.load 6 true)) [.mk (.pk (.fld 0)) [.t 1]]] (.lets [.mk (.call false 90) [.mk .nrm [.t 2], .mk .nrm [.q (iv 9223372036854775807)]]] (.lets [.mk (.pk (.ext 1)) [.t 3]] (.lets [.mk (.pk (.ext 0)) [.t 3]] (.lets [.mk (.pk (.ibin .neq)) [.t 4, .q (iv 0)]] (.ite (.t 6) (.ret (.mk .nrm [.t 4])) (.lets [.mk (.pk .inot) [.t 5]] (.ite (.t 7) (.ret (.mk .nrm [.q (iv 281)])) (.lets [.ite (.mk (.pk (.ibin .lss)) [.mk (.pk (.load 1 false)) [.mk (.pk (.fld 6)) [.t 1]], .q (iv 1)]) (.q (bv true)) (.mk (.pk (.ibin .gtr)) [.mk (.pk (.load 1 false)) [.mk (.pk (.fld 6)) [.t 1]], .mk (.pk (.ibin .quo)) [.q (iv 128), .mk (.cell 2 6) [.t 2]]])] (.ite (.t 8) (.ret (.mk .nrm [.q (iv 282)])) (.lets [.mk (.pk .llen) [.mk (.cell 5 6) [.t 2]]] (.loop [.q (iv 0), .q (iv 0), .q (.list [])] (.lets [.mk (.pk (.ibin .lss)) [.t 10, .t 9]] (.ite (.t 13) (.jp (.lets [.mk (.pk (.ibin .add)) [.t 10, .q (iv 1)]] (.next 0 [.t 21, .t 11, .t 15])) (.chk [.mk (.cell 0 5) [.mk (.pk (.load 5 true)) [.mk (.pk (.idx 42 5)) [.mk (.cell 5 6) [.t 2], .t 10]]]] (.lets [.mk (.pk (.load 5 true)) [.mk (.pk (.idx 42 5)) [.mk (.cell 5 6) [.t 2], .t 10]]] (.lets [.mk (.call false 91) [.mk .nrm [.t 14]]] (.ite (.t 15) (.lets [.mk (.mset [3]) [.t 12, .mk (.cell 4 5) [.t 14], .mk (.pk (.ibin .add)) [.mk (.mget [3] (iv 0) false) [.t 12, .mk (.cell 4 5) [.t 14]], .q (iv 1)]]] (.lets [.mk (.pk (.ibin .gtr)) [.mk (.mget [3] (iv 0) false) [.t 16, .mk (.cell 4 5) [.t 14]], .q (iv 24)]] (.ite (.t 17) (.ret (.mk .nrm [.q (iv 5)])) (.next 0 [.t 15, .t 16, .mk (.cell 0 5) [.t 14], .mk (.cell 1 5) [.t 14], .mk (.cell 2 5) [.t 14], .mk (.cell 3 5) [.t 14], .mk (.cell 4 5) [.t 14]])))) (.next 0 [.t 15, .t 12, .mk (.cell 0 5) [.t 14], .mk (.cell 1 5) [.t 14], .mk (.cell 2 5) [.t 14], .mk (.cell 3 5) [.t 14], .mk (.cell 4 5) [.t 14]])))))) (.ret (.mk .nrm [.q (iv 0)]))))))))))))))))):=by kernel_rfl
end Ty
end
section
namespace Ty
variable {H : FP}
section
variable {G : FP} {E : List D}
@[simp] theorem xs_app: ∀{a b:List X},X.evs G E (a++b)=ob (X.evs G E a) fun x=>ob (X.evs G E b) fun y=>some (x++y)
 | [],b=>by simp[ob]
 |x::r,b=>by
  rw[List.cons_append,xs_cons,xs_cons,xs_app]
  simp only[ob]
  cases X.ev G E x<;>simp
  cases X.evs G E r<;>simp
  cases X.evs G E b<;>simp
def csV(n:Nat)(d:D):Option (List D):=if d.cells.length=n∧d.cells.all D.okC=true∧d.cells.all D.noTC=true then some d.cells else none
theorem cs_v{v n:Nat}(hn:0<n):X.evs G E (cs v n 0 n)=ob (E[v]?) (csV n):=by
 cases hv:E[v]? with
 |none=>
  obtain⟨m,rfl⟩: ∃m,n=m+1:=⟨n-1,by omega⟩
  rw[cs,List.range_succ_eq_map,List.map_cons,xs_cons,x_mk,xs_cons,x_t,hv];rfl
 |some d=>
  rw[ob_s]
  unfold csV
  split
  ·rename_i hc
   have key: ∀l:List Nat,(∀j∈l,j<n)→X.evs G E (l.map fun j=>X.mk (.cell (0+j) n) [.t v])=some (l.map fun j=>d.cells.getD j .nil):=fun l hl=>by
    induction l with
    |nil=>rfl
    |cons j r ih=>
     have hj:=hl j (List.mem_cons_self ..)
     have h2:X.ev G E (X.mk (.cell (0+j) n) [.t v])=some (d.cells.getD j .nil):=by
      rw[x_mk,xs_cons,x_t,hv];simp only[ob_s,xs_nil]
      show(if d.cells.length=n∧d.cells.all D.okC=true∧d.cells.all D.noTC=true then d.cells[0+j]? else none)=_
      rw[if_pos hc,Nat.zero_add,List.getD_eq_getElem?_getD,Ez (by omega)];rfl
     rw[List.map_cons,xs_cons,h2,ih fun k hk=>hl k (Cz _ hk)];rfl
   rw[cs,key _ fun j hj=>List.mem_range.1 hj]
   congr 1
   apply List.ext_getElem
   ·simp[hc.1]
   ·intro i h1 h2;simp[List.getD_eq_getElem?_getD,h2]
  ·rename_i hc
   obtain⟨m,rfl⟩: ∃m,n=m+1:=⟨n-1,by omega⟩
   rw[cs,List.range_succ_eq_map,List.map_cons,xs_cons,x_mk,xs_cons,x_t,hv]
   simp only[ob_s,xs_nil]
   show ob (if d.cells.length=m+1∧d.cells.all D.okC=true∧d.cells.all D.noTC=true then d.cells[0+0]? else none) _=none
   rw[if_neg hc];rfl
@[simp] theorem cs33{v:Nat}:X.evs G E (cs v 33 0 33)=ob (E[v]?) (csV 33):=cs_v (by omega)
@[simp] theorem csV33{x:En}:csV 33 (.agg x.cells)=some [iv x.rd,iv x.tb,iv x.bd,iv x.vs,uv x.kd,uv x.fl,bv x.tu,uv x.o0.lv,uv x.o0.dn,uv x.o0.rk,uv x.o0.dc,iv x.o0.tr,iv x.o0.wt,uv x.o1.lv,uv x.o1.dn,uv x.o1.rk,uv x.o1.dc,iv x.o1.tr,iv x.o1.wt,uv x.o2.lv,uv x.o2.dn,uv x.o2.rk,uv x.o2.dc,iv x.o2.tr,iv x.o2.wt,uv x.o3.lv,uv x.o3.dn,uv x.o3.rk,uv x.o3.dc,iv x.o3.tr,iv x.o3.wt,iv x.a0,iv x.a1]:=nr rfl
end
def Rw.pr(r:Rw):D×D:=(.agg [iv r.rd,iv r.tb], .agg r.cells)
theorem eqKey_pr{a b:Int}{r:Rw}:eqKey [99,3,3] (.agg [iv a,iv b]) r.pr.1=some (decide (r.rd=a∧r.tb=b)):=by
 show eqCells [3,3] [iv a,iv b] [iv r.rd,iv r.tb]=_
 simp[eq_comm (a:=r.rd),eq_comm (a:=r.tb)]
theorem findV_pr{a b:Int}: ∀(l:List Rw) (i:Nat),findV [99,3,3] (.agg [iv a,iv b]) (l.map Rw.pr) i=some ((findR a b l).map (· +i))
 | [],i=>rfl
 |r::s,i=>by
  rw[List.map_cons]
  unfold findV findR
  rw[eqKey_pr,Oz]
  by_cases h:r.rd=a∧r.tb=b
  ·rw[if_pos (by simpa using h),if_pos h];simp
  ·rw[if_neg (by simpa using h),if_neg h,findV_pr s (i+1),Option.map_map]
   simp[Function.comp_def,Nat.add_assoc,Nat.add_comm 1]
def apartR:List Rw→Bool
 | []=>true
 |r::s=>s.all (fun q=> !(decide (q.rd=r.rd)&&decide (q.tb=r.tb)))&&apartR s
theorem findR_none{a b:Int}{l:List Rw}(h: ∀r∈l,¬(r.rd=a∧r.tb=b)):findR a b l=none:=by
 induction l with
 |nil=>rfl
 |cons r s ih=>
  unfold findR
  rw[if_neg (h r (List.mem_cons_self ..)),ih fun q hq=>h q (Cz _ hq)];rfl
theorem apart_take: ∀{l:List Rw} {j:Nat} {r:Rw},apartR l=true→l[j]?=some r→ ∀q∈l.take j,¬(q.rd=r.rd∧q.tb=r.tb)
 | [],j,r,_,h=>by simp at h
 |p::s,0,r,_,_=>by simp
 |p::s,j+1,r,ha,h=>by
  unfold apartR at ha
  rw[Az,Tz]at ha
  intro q hq
  rw[List.take_succ_cons]at hq
  rcases List.mem_cons.1 hq with rfl|hq
  ·have:=ha.1 r (Lz (by simpa using h))
   simp at this
   exact fun k=>this.elim (fun h=>h k.1.symm) (fun h=>h k.2.symm)
  ·exact apart_take ha.2 (by simpa using h) q hq
theorem ext0R{G:FP}{r:Rw}{d:D}:XK.run G (.pk (.ext 0)) [.tup [.agg r.cells,d]]=some (.agg r.cells):=nr rfl
theorem ext1R{G:FP}{a d:D}(h:d.noT=true):XK.run G (.pk (.ext 1)) [.tup [a,d]]=some d:=by rw[r_ext];simp[h]
def zR:Rw:=⟨0,0,0,0,0⟩
section
variable {G : FP}
@[simp] theorem litR{r:Rw}:XK.run G (.lit 5 1 [iv 0,iv 0,iv 0,iv 0,iv 0] [(0,5)]) [.agg r.cells]=some (.list [r.cells]):=nr rfl
@[simp] theorem tag_own3{x y z:X}{l m:List En}{k:IntKind}{c:Int}:tagN (.mk .tup [.mk .own [x], .mk .own [y],z]) (.tup [.list (l.map En.cells), .list (m.map En.cells), .v (.int k c)])=D.own (.tup [.list (l.map En.cells), .list (m.map En.cells), .v (.int k c)]):=by
 have h:newT (.mk .tup [.mk .own [x], .mk .own [y],z]) (.tup [.list (l.map En.cells), .list (m.map En.cells), .v (.int k c)])=true:=by
  show(newX _ _&&(newX _ _&&(newX _ _&&true)))=true
  rw[newX_own (flatE l),newX_own (flatE m)]
  cases z<;>rfl
 show(if _ then _ else if newT (.mk .tup [.mk .own [x], .mk .own [y],z]) (.tup [.list (l.map En.cells), .list (m.map En.cells), .v (.int k c)])=true then _ else _)=_
 rw[h];rfl
@[simp] theorem noT_t3l{a b:List (List D)}{v:Value}:D.noT (.tup [.list a, .list b, .v v])=true:=nr rfl
theorem msetR{l:List Rw}{r:Rw}(hl:l.length<65536)(h: ∀q∈l,¬(q.rd=r.rd∧q.tb=r.tb)):XK.run G (.mset [99,3,3]) [.list (pairR (l.map Rw.pr)), .agg [iv r.rd,iv r.tb], .agg r.cells]=some (.list (pairR ((l++ [r]).map Rw.pr))):=by
 show((unpairR (pairR (l.map Rw.pr))).bind fun es=>(msetV [99,3,3] es (.agg [iv r.rd,iv r.tb]) (.agg r.cells)).map fun es=>D.list (pairR es))=_
 rw[unpair_pair,Oz]
 have h1:eqKey [99,3,3] (.agg [iv r.rd,iv r.tb]) (.agg [iv r.rd,iv r.tb])=some true:=by
  show eqCells [3,3] [iv r.rd,iv r.tb] [iv r.rd,iv r.tb]=_
  simp
 unfold msetV
 rw[if_pos ⟨rfl,rfl,h1⟩,findV_pr,findR_none h]
 simp only[Option.map_none,Oz]
 rw[if_pos (by simp[maxMade];omega)]
 simp[Rw.pr]
theorem mgetR{l:List Rw}{a b:Int}:XK.run G (.mget [99,3,3] (.agg [iv 0,iv 0,iv 0,iv 0,iv 0]) true) [.list (pairR (l.map Rw.pr)), .agg [iv a,iv b]]=some (match(findR a b l).bind fun i=>l[i]? with
  |some r=> .tup [.agg r.cells,bv true]
  |none=> .tup [.agg zR.cells,bv false]):=by
 show((unpairR (pairR (l.map Rw.pr))).bind fun es=>(mgetV [99,3,3] (.agg [iv 0,iv 0,iv 0,iv 0,iv 0]) true es (.agg [iv a,iv b])).bind fun d=>if d.noT then some d else none)=_
 rw[unpair_pair,Oz]
 have h1:eqKey [99,3,3] (.agg [iv a,iv b]) (.agg [iv a,iv b])=some true:=by
  show eqCells [3,3] [iv a,iv b] [iv a,iv b]=_
  simp
 unfold mgetV
 rw[if_pos ⟨rfl,h1⟩,findV_pr]
 cases h:findR a b l with
 |none=>rfl
 |some i=>
  obtain⟨r,hr,_⟩:=findR_some h
  simp[hr]
  exact⟨rfl,rfl⟩
end
def Ss.alone(s:Ss)(e:En):Ss:=⟨0,0,0,0,0,((findR e.rd e.tb s.rows).bind fun i=>s.rows[i]?).toList,s.bs⟩
theorem alone_chk(s:Ss)(e:En):(s.alone e).chk e=s.chk e:=by
 unfold Ss.chk Ss.alone
 cases h:findR e.rd e.tb s.rows with
 |none=>simp[findR]
 |some i=>
  obtain⟨r,hr,h1,h2⟩:=findR_some h
  simp[hr,findR,h1,h2]
def Ss.proper(s:Ss)(e:En):Bool:=decide (s.chk e=0)
theorem l20n(hF:Fr H)(l:List En)(hl:l.length<9999)(hs:setB l=false):GK H 20 [.list (l.map En.cells)]=some (D.own (.tup [.list [],iv 314])):=by
 refine by_term hF ok20 ?_
 conv=>enter [1,3];cbv
 have k1:XK.run (GK H) (.call false 55) [.list (l.map En.cells)]=some (bv false):=r_call (by rw[l55 hF l hl,hs]) rfl rfl
 simp[k1]
 rfl
theorem l19a(hF:Fr H)(s:Ss)(l:List En){c:Int}(h54:GK H 54 [.agg s.cells]=some (iv c))(h:c≠0):GK H 19 [.agg s.cells, .list (l.map En.cells)]=some (D.own (.tup [.list [], .list [],iv c])):=by
 refine by_term hF ok19 ?_
 rw[tx19]
 have k:XK.run (GK H) (.call false 54) [.agg s.cells]=some (iv c):=r_call h54 rfl rfl
 simp[k,h]
 rfl
theorem l19b(hF:Fr H)(s:Ss)(l:List En)(hl:l.length<9999)(h54:GK H 54 [.agg s.cells]=some (iv 0))(hs:setB l=false):GK H 19 [.agg s.cells, .list (l.map En.cells)]=some (D.own (.tup [.list [], .list [],iv 314])):=by
 refine by_term hF ok19 ?_
 rw[tx19]
 have k:XK.run (GK H) (.call false 54) [.agg s.cells]=some (iv 0):=r_call h54 rfl rfl
 have k2:XK.run (GK H) (.call false 20) [.list (l.map En.cells)]=some (.tup [.list [],iv 314]):=r_callO (l20n hF l hl hs) rfl
 simp[k,k2]
 rfl
set_option maxHeartbeats 2000000 in
theorem l19(hF:Fr H)(s:Ss)(l:List En)(hl:l.length<9999)(hr:s.rows.length<9999)(ha:apartR s.rows=true)(h54:GK H 54 [.agg s.cells]=some (iv 0))(hs:setB l=true):
  GK H 19 [.agg s.cells, .list (l.map En.cells)]=some (D.own (.tup [.list ((l.filter s.proper).map En.cells), .list ((l.filter fun e=> !s.proper e).map En.cells),iv 0])):=by
 refine by_term hF ok19 ?_
 rw[tx19]
 have k:XK.run (GK H) (.call false 54) [.agg s.cells]=some (iv 0):=r_call h54 rfl rfl
 have k2:XK.run (GK H) (.call false 20) [.list (l.map En.cells)]=some (.tup [.list ((cntE l).map En.cells),iv 0]):=r_callO (l20 hF l hl hs) rfl
 simp[k,k2]
 refine loop_by (S:=Nat) (enc:=fun j=> [iv (j:Int), .list (pairR ((s.rows.take j).map Rw.pr))]) (res:=fun _=>(D.own (.tup [.list ((l.filter s.proper).map En.cells), .list ((l.filter fun e=> !s.proper e).map En.cells),iv 0]))) (mes:=fun j=>s.rows.length-j) (ok:=fun j=>j≤s.rows.length) ?_ 0 (by omega) (by omega)
 intro rec j hj ih
 cases h3:s.rows[j]? with
 |some r=>
  have l3:=(Gz.1 h3).1
  have e3:=(Gz.1 h3).2
  have ih:=ih (j+1) (by omega) (by omega)
  have km:XK.run (GK H) (.mset [99,3,3]) [.list (pairR ((s.rows.take j).map Rw.pr)), .agg [iv r.rd,iv r.tb], .agg r.cells]=some (.list (pairR ((s.rows.take (j+1)).map Rw.pr))):=by
   rw[msetR (by simp;omega) (apart_take ha h3),List.take_add_one,h3];rfl
  generalize D.list (pairR ((s.rows.take j).map Rw.pr))=M1 at km
  generalize D.list (pairR ((s.rows.take (j+1)).map Rw.pr))=M2 at km ih
  simp[l3,e3,km]
  rw[wr (z:=(j:Int)+1) (by omega) (by omega)]
  simpa using ih
 |none=>
  have l3:=List.getElem?_eq_none_iff.1 h3
  have l3': ¬(j:Int)<s.rows.length:=by omega
  rw[List.take_of_length_le l3]
  have kg: ∀a b:Int,XK.run (GK H) (.mget [99,3,3] (.agg [iv 0,iv 0,iv 0,iv 0,iv 0]) true) [.list (pairR (s.rows.map Rw.pr)), .agg [iv a,iv b]]=_:=fun a b=>mgetR
  generalize D.list (pairR (s.rows.map Rw.pr))=M at kg
  simp[l3']
  refine loop_by (S:=Nat) (enc:=fun j=> [iv (j:Int), .list (((l.take j).filter fun e=> !s.proper e).map En.cells), .list (((l.take j).filter s.proper).map En.cells)]) (res:=fun _=>(D.own (.tup [.list ((l.filter s.proper).map En.cells), .list ((l.filter fun e=> !s.proper e).map En.cells),iv 0]))) (mes:=fun j=>l.length-j) (ok:=fun j=>j≤l.length) ?_ 0 (by omega) (by omega)
  clear ih
  intro rec2 j2 hj2 ih
  cases h4:l[j2]? with
  |none=>
   have l4:=List.getElem?_eq_none_iff.1 h4
   have l4': ¬(j2:Int)<l.length:=by omega
   rw[List.take_of_length_le l4]
   simp[l4']
  |some e=>
   have l4:=(Gz.1 h4).1
   have e4:=(Gz.1 h4).2
   have ih:=ih (j2+1) (by omega) (by omega)
   have hlen: ∀p:En→Bool,((l.take j2).filter p).length<65536:=fun p=>by
    have:=List.length_filter_le p (l.take j2)
    simp at this;omega
   have ka: ∀p:En→Bool,XK.run (GK H) (.app 33) [.list (((l.take j2).filter p).map En.cells), .list [e.cells]]=some (.list (((l.take j2).filter p).map En.cells++ [e.cells])):=fun p=>appE (hlen p)
   have kc: ∀rows,(s.alone e).rows=rows→XK.run (GK H) (.call true 18) [.agg [iv 0,iv 0,iv 0,iv 0,iv 0, .list (rows.map Rw.cells),iv s.bs], .agg e.cells]=some (iv (s.chk e)):=fun rows hrows=>by
    subst hrows
    refine r_call ((l18 hF (s.alone e) ?_ e).trans (by rw[alone_chk])) rfl rfl
    unfold Ss.alone;cases(findR e.rd e.tb s.rows).bind fun i=>s.rows[i]?<;>simp
   rw[List.take_add_one,h4,Option.toList_some,List.filter_append,List.filter_append,List.map_append,List.map_append]at ih
   generalize hP:((l.take j2).filter s.proper).map En.cells=Pl at ih
   generalize hQ:((l.take j2).filter fun e=> !s.proper e).map En.cells=Ql at ih
   have kp:XK.run (GK H) (.app 33) [.list Pl, .list [e.cells]]=some (.list (Pl++ [e.cells])):=by rw[←hP];exact ka _
   have kq:XK.run (GK H) (.app 33) [.list Ql, .list [e.cells]]=some (.list (Ql++ [e.cells])):=by rw[←hQ];exact ka _
   have kg:=kg e.rd e.tb
   cases hfr:(findR e.rd e.tb s.rows).bind fun i=>s.rows[i]? with
   |none=>
    rw[hfr]at kg
    have kc:=kc [] (by unfold Ss.alone;rw[hfr];rfl)
    simp only[List.map_nil]at kc
    by_cases hc:s.chk e=0
    ·simp[hc,Ss.proper]at ih
     simp[l4,e4,kg,kc,kp,hc,-r_ext,ext0R,ext1R]
     rw[wr (z:=(j2:Int)+1) (by omega) (by omega)]
     exact ih
    ·simp[hc,Ss.proper]at ih
     simp[l4,e4,kg,kc,kq,hc,-r_ext,ext0R,ext1R]
     rw[wr (z:=(j2:Int)+1) (by omega) (by omega)]
     exact ih
   |some r=>
    rw[hfr]at kg
    have kc:=kc [r] (by unfold Ss.alone;rw[hfr];rfl)
    simp only[List.map_cons,List.map_nil]at kc
    by_cases hc:s.chk e=0
    ·simp[hc,Ss.proper]at ih
     simp[l4,e4,kg,kc,kp,hc,-r_ext,ext0R,ext1R]
     rw[wr (z:=(j2:Int)+1) (by omega) (by omega)]
     exact ih
    ·simp[hc,Ss.proper]at ih
     simp[l4,e4,kg,kc,kq,hc,-r_ext,ext0R,ext1R]
     rw[wr (z:=(j2:Int)+1) (by omega) (by omega)]
     exact ih
end Ty
end
section
namespace Ty
variable {H : FP}
theorem i19e(s:Ss)(l:List En){c:Int}(h:GK H 19 [.agg s.cells, .list (l.map En.cells)]=some (D.own (.tup [.list [], .list [],iv c]))):XK.run (GK H) (.call false 19) [.agg s.cells, .list (l.map En.cells)]=some (.tup [.list [], .list [],iv c]):=r_callO h rfl
theorem l47e(hF:Fr H)(s:Ss)(l:List En){c:Int}(hc:c≠0)(h:GK H 19 [.agg s.cells, .list (l.map En.cells)]=some (D.own (.tup [.list [], .list [],iv c]))):GK H 47 [.agg s.cells, .list (l.map En.cells)]=some (D.own (.tup [.list [],iv c])):=by
 refine by_term hF ok47 ?_
 rw[tx47]
 have k:=i19e s l h
 simp[k,hc]
 rfl
theorem tag_bare{x:X}{es:List (List D)}{v:D}:(tagN x (.tup [.list es,v])).bare= .tup [.list es,v]:=by
 unfold tagN
 split
 ·rfl
 ·split<;>rfl
theorem l47(hF:Fr H)(s:Ss)(l:List En)(hl:l.length<9999)(hr:s.rows.length<9999)(ha:apartR s.rows=true)(h54:GK H 54 [.agg s.cells]=some (iv 0))(hs:setB l=true):
  XK.run (GK H) (.call false 47) [.agg s.cells, .list (l.map En.cells)]=some (.tup [.list ((cntE (l.filter s.proper)).map En.cells),iv 0]):=by
 have hsub:(l.filter s.proper).length≤l.length:=List.length_filter_le ..
 have k:XK.run (GK H) (.call false 19) [.agg s.cells, .list (l.map En.cells)]=some (.tup [.list ((l.filter s.proper).map En.cells), .list ((l.filter fun e=> !s.proper e).map En.cells),iv 0]):=r_callO (l19 hF s l hl hr ha h54 hs) rfl
 have k2:XK.run (GK H) (.call false 20) [.list ((l.filter s.proper).map En.cells)]=some (.tup [.list ((cntE (l.filter s.proper)).map En.cells),iv 0]):=r_callO (l20 hF _ (by omega) (setB_sub hs List.filter_sublist)) rfl
 refine r_callB (r:=tagN (.mk .tup [.mk .nrm [.t 9], .mk .nrm [.t 8]]) (.tup [.list ((cntE (l.filter s.proper)).map En.cells),iv 0])) (by_term hF ok47 ?_) tag_bare rfl
 rw[tx47]
 simp[k,k2]
theorem l60e(hF:Fr H)(s:Ss)(l:List En)(n:Int){c:Int}(hc:c≠0)(h47:GK H 47 [.agg s.cells, .list (l.map En.cells)]=some (D.own (.tup [.list [],iv c]))):GK H 60 [.agg s.cells, .list (l.map En.cells),iv n]=some (D.own (.tup [.list [],iv c])):=by
 refine by_term hF ok60 ?_
 rw[tx60]
 have k:XK.run (GK H) (.call false 47) [.agg s.cells, .list (l.map En.cells)]=some (.tup [.list [],iv c]):=r_callO h47 rfl
 have k3:XK.run (GK H) (.pk (.fbox 1)) [iv n]=some (.lptr [iv n]):=rfl
 have k4:XK.run (GK H) .okc [.nil]=some .nil:=rfl
 simp[k,k3,k4,hc]
 rfl
theorem l24e(hF:Fr H)(s:Ss)(l:List En)(n:Int){c:Int}(hc:c≠0)(h60:GK H 60 [.agg s.cells, .list (l.map En.cells),iv n]=some (D.own (.tup [.list [],iv c]))):GK H 24 [.agg s.cells, .list (l.map En.cells),iv n]=some (.tup [.agg [iv 0,iv 0], .agg [iv 0,iv 0],iv c]):=by
 refine by_term hF ok24 ?_
 rw[tx24]
 have k:XK.run (GK H) (.call false 60) [.agg s.cells, .list (l.map En.cells),iv n]=some (.tup [.list [],iv c]):=r_callO h60 rfl
 simp[k,hc]
 first|rfl|exact⟨rfl,rfl⟩
theorem l23e(hF:Fr H)(s:Ss)(l:List En)(n:Int){c:Int}(hc:c≠0)(h60:GK H 60 [.agg s.cells, .list (l.map En.cells),iv n]=some (D.own (.tup [.list [],iv c]))):GK H 23 [.agg s.cells, .list (l.map En.cells),iv n]=some (D.own (.tup [.list [],iv c])):=by
 refine by_term hF ok23 ?_
 rw[front23]
 have k:XK.run (GK H) (.call false 60) [.agg s.cells, .list (l.map En.cells),iv n]=some (.tup [.list [],iv c]):=r_callO h60 rfl
 simp[k,hc]
 rfl
theorem l16e(hF:Fr H)(s:Ss)(l:List En){c:Int}(hc:c≠0)(h47:GK H 47 [.agg s.cells, .list (l.map En.cells)]=some (D.own (.tup [.list [],iv c]))):GK H 16 [.agg s.cells, .list (l.map En.cells)]=some (D.own (.tup [.list [],iv c])):=by
 refine by_term hF ok16 ?_
 rw[tx16]
 have k:XK.run (GK H) (.call false 47) [.agg s.cells, .list (l.map En.cells)]=some (.tup [.list [],iv c]):=r_callO h47 rfl
 have k4:XK.run (GK H) .okc [.nil]=some .nil:=rfl
 simp[k,k4,hc]
 rfl
theorem l21e(hF:Fr H)(s:Ss){c:Int}(hc:c≠0)(h54:GK H 54 [.agg s.cells]=some (iv c)):GK H 21 [.agg s.cells]=some (D.own (.tup [.list [],iv c])):=by
 refine by_term hF ok21 ?_
 rw[tx21]
 have k:XK.run (GK H) (.call false 54) [.agg s.cells]=some (iv c):=r_call h54 rfl rfl
 simp[k,hc]
 rfl
theorem l22a(hF:Fr H)(s:Ss)(l:List En){c:Int}(hc:c≠0)(h21:GK H 21 [.agg s.cells]=some (D.own (.tup [.list [],iv c]))):GK H 22 [.agg s.cells, .list (l.map En.cells)]=some (D.own (.tup [.list [],iv c])):=by
 refine by_term hF ok22 ?_
 rw[tx22]
 have k:XK.run (GK H) (.call false 21) [.agg s.cells]=some (.tup [.list [],iv c]):=r_callO h21 rfl
 simp[k,hc]
 rfl
theorem l22b(hF:Fr H)(s:Ss)(l:List En){ks:List (List D)}{c:Int}(hc:c≠0)(h21:XK.run (GK H) (.call false 21) [.agg s.cells]=some (.tup [.list ks,iv 0]))(h47:GK H 47 [.agg s.cells, .list (l.map En.cells)]=some (D.own (.tup [.list [],iv c]))):GK H 22 [.agg s.cells, .list (l.map En.cells)]=some (D.own (.tup [.list [],iv c])):=by
 refine by_term hF ok22 ?_
 rw[tx22]
 have k2:XK.run (GK H) (.call false 47) [.agg s.cells, .list (l.map En.cells)]=some (.tup [.list [],iv c]):=r_callO h47 rfl
 simp[h21,k2,hc]
 rfl
end Ty
end
section
open Go.RowKit Go.Sort
namespace Ty
variable {H : FP}
structure Hd(H:FP):Prop where
 k15:H 15 [.list []]=some (.list [])
 n15: ∀(c:List D) (es:List (List D)),H 15 [.list (c::es)]=none
 fr:Fr H
 k57: ∀es:List (List D),es.isEmpty=false→es.all goodK=true→es.length<65536→H 1000057 [.list es, .clo 58 []]=some (.tup [.tup [], .list (sortS (ltD cfK) es)])
 k43: ∀es:List (List D),es.all goodE=true→es.length<65536→H 1000043 [.list es, .clo 44 []]=some (.tup [.tup [], .list (sortS (ltD cfE) es)])
def keyAt(bs:Int)(r:Rw)(i:Nat):Ky:=⟨r.rd,r.tb,IntKind.i64.wrap (IntKind.i64.wrap (IntKind.i64.wrap (r.st*bs)+i)+1)⟩
def keysR(bs:Nat)(r:Rw):List Ky:=if r.ns≤0∨r.ew≤0 then []else(List.range bs).map (keyAt bs r)
def Ss.keys(s:Ss):List Ky:=s.rows.flatMap (keysR s.bs.toNat)
def ltK(a b:Ky):Bool:=decide (a.cmp b<0)
def Ss.skeys(s:Ss):List Ky:=sortS ltK s.keys
section
variable {G : FP}
@[simp] theorem litK{k:Ky}:XK.run G (.lit 3 1 [iv 0,iv 0,iv 0] [(0,3)]) [.agg k.cells]=some (.list [k.cells]):=nr rfl
theorem litK3{a b c:Int}:XK.run G (.lit 3 1 [iv 0,iv 0,iv 0] [(0,3)]) [.agg [iv a,iv b,iv c]]=some (.list [(⟨a,b,c⟩:Ky).cells]):=nr rfl
theorem appK{l:List Ky}{k:Ky}(h:l.length<65536):XK.run G (.app 3) [.list (l.map Ky.cells), .list [k.cells]]=some (.list (l.map Ky.cells++ [k.cells])):=by
 show(if rowsOK 3 [k.cells]=true∧(l.map Ky.cells).length+1≤maxMade then some (D.list (l.map Ky.cells++ [k.cells]))else none)=_
 rw[if_pos ⟨rfl,by simp[maxMade];omega⟩]
theorem flatK'(l:List Ky):(l.map Ky.cells).all (fun c=>c.all D.flatC)=true:=by
 rw[Tz];intro c hc;obtain⟨e,_,rfl⟩:=List.mem_map.1 hc;rfl
@[simp] theorem tag_ownK{x y:X}{l:List Ky}{k:IntKind}{z:Int}:tagN (.mk .tup [.mk .own [x],y]) (.tup [.list (l.map Ky.cells), .v (.int k z)])=D.own (.tup [.list (l.map Ky.cells), .v (.int k z)]):=by
 have h:newT (.mk .tup [.mk .own [x],y]) (.tup [.list (l.map Ky.cells), .v (.int k z)])=true:=by
  show(newX _ _&&(newX _ _&&true))=true
  rw[newX_own (flatK' l)]
  cases y<;>rfl
 show(if _ then _ else if newT (.mk .tup [.mk .own [x],y]) (.tup [.list (l.map Ky.cells), .v (.int k z)])=true then _ else _)=_
 rw[h];rfl
theorem sortK_cells(l:List Ky):sortS (ltD cfK) (l.map Ky.cells)=(sortS ltK l).map Ky.cells:=
 (sortS_map (f:=Ky.cells) (lt:=ltK) (lt':=ltD cfK) (fun x y=>by
  unfold ltD ltK Ky.cmp Ky.cells
  rw[Bool.eq_iff_iff];simp only[decide_eq_true_eq]
  first|rfl|(simp[cfK];done)|skip) l).symm
end
theorem e57(hH:Hd H)(l:List Ky)(h0:l≠ [])(hl:l.length<65536):XK.run (GK H) (.ecall 0 57 3) [.list (l.map Ky.cells), .clo 58 []]=some (.tup [.tup [], .list ((sortS ltK l).map Ky.cells)]):=by
 have h1:GK H 1000057 [.list (l.map Ky.cells), .clo 58 []]=some (.tup [.tup [], .list ((sortS ltK l).map Ky.cells)]):=by
  rw[←sortK_cells]
  refine GG_hand (hH.k57 _ ?_ ?_ (by simpa using hl))
  ·cases l with
   |nil=>exact absurd rfl h0
   |cons a r=>rfl
  ·rw[Tz];intro x hx;obtain⟨e,_,rfl⟩:=List.mem_map.1 hx;rfl
 have hlen:=(sortS_perm ltK l).length_eq
 show(if([.list (l.map Ky.cells), .clo 58 []].set 0 .nil).all D.noT=true∧57<1000000 then(GK H (1000000+(1000000*0+57)) [.list (l.map Ky.cells), .clo 58 []]).bind _ else none)=_
 rw[if_pos ⟨rfl,by omega⟩,show 1000000+(1000000*0+57)=1000057 from rfl,h1,Oz]
 show(if D.noT (.tup [])=true∧((sortS ltK l).map Ky.cells).length=(l.map Ky.cells).length∧rowsOK 3 ((sortS ltK l).map Ky.cells)=true then _ else none)=_
 rw[if_pos ⟨rfl,by simp[hlen],by unfold rowsOK;rw[Tz];intro x hx;obtain⟨e,_,rfl⟩:=List.mem_map.1 hx;rfl⟩]
theorem l21(hH:Hd H)(s:Ss){b:Nat}(hb:s.bs=b)(hb2:b<9999)(hr:s.rows.length<9999)(hk:s.keys≠ [])(hk2:s.keys.length<65536)(h54:GK H 54 [.agg s.cells]=some (iv 0)):GK H 21 [.agg s.cells]=some (D.own (.tup [.list (s.skeys.map Ky.cells),iv 0])):=by
 refine by_term hH.fr ok21 ?_
 rw[tx21]
 have k:XK.run (GK H) (.call false 54) [.agg s.cells]=some (iv 0):=r_call h54 rfl rfl
 have hkeys: ∀j,j≤s.rows.length→((s.rows.take j).flatMap (keysR b)).length≤s.keys.length:=fun j hj=>by
  unfold Ss.keys
  rw[hb,Int.toNat_natCast]
  conv=>rhs;rw[←List.take_append_drop j s.rows]
  rw[List.flatMap_append,List.length_append];omega
 simp[k]
 refine loop_by (S:=Nat) (enc:=fun j=> [iv (j:Int), .list (((s.rows.take j).flatMap (keysR b)).map Ky.cells)]) (res:=fun _=>D.own (.tup [.list (s.skeys.map Ky.cells),iv 0])) (mes:=fun j=>s.rows.length-j) (ok:=fun j=>j≤s.rows.length) ?_ 0 (by omega) (by omega)
 intro rec j hj ih
 cases h3:s.rows[j]? with
 |none=>
  have l3:=List.getElem?_eq_none_iff.1 h3
  have l3': ¬(j:Int)<s.rows.length:=by omega
  have k2:=e57 hH s.keys hk hk2
  rw[List.take_of_length_le l3]
  have:s.rows.flatMap (keysR b)=s.keys:=by unfold Ss.keys;rw[hb];rfl
  rw[this]
  have k3:(D.tup []).noT=true:=rfl
  simp[l3',k2,k3,Ss.skeys]
 |some r=>
  have l3:=(Gz.1 h3).1
  have e3:=(Gz.1 h3).2
  have ih:=ih (j+1) (by omega) (by omega)
  have hk3:=hkeys (j+1) (by omega)
  rw[List.take_add_one,h3,Option.toList_some,List.flatMap_append,List.flatMap_singleton]at ih hk3
  generalize(s.rows.take j).flatMap (keysR b)=out at ih hk3
  unfold keysR at ih hk3
  by_cases h1:r.ns≤0
  ·rw[if_pos (.inl h1),List.append_nil]at ih
   simp[l3,e3,h1]
   rw[wr (z:=(j:Int)+1) (by omega) (by omega)]
   exact ih
  ·by_cases h2:r.ew≤0
   ·rw[if_pos (.inr h2),List.append_nil]at ih
    simp[l3,e3,h1,h2]
    rw[wr (z:=(j:Int)+1) (by omega) (by omega)]
    exact ih
   ·rw[if_neg (by omega)]at ih hk3
    simp[l3,e3,h1,h2]
    refine loop_by (S:=List Ky×Nat) (enc:=fun q=> [iv (q.2:Int), .list (q.1.map Ky.cells)]) (res:=fun _=>D.own (.tup [.list (s.skeys.map Ky.cells),iv 0])) (mes:=fun q=>b-q.2) (ok:=fun q=>q.2≤b∧q.1=out++(List.range q.2).map (keyAt b r)) ?_ (out,0) ⟨by simp,by simp⟩ (by show b-0<_;omega)
    rintro rec2 ⟨o2,i⟩ ⟨hi,ho⟩ ih2
    replace hi:i≤b:=hi
    replace ho:o2=out++(List.range i).map (keyAt b r):=ho
    by_cases h4:i<b
    ·have ih2:=ih2 (o2++ [keyAt b r i],i+1) ⟨by show i+1≤b;omega,by simp[ho,List.range_succ]⟩ (by show b-(i+1)<b-i;omega)
     have hl:o2.length<65536:=by rw[ho];simp at hk3⊢;omega
     have ka:=appK (G:=GK H) (k:=keyAt b r i) hl
     clear ho
     have h5:(i:Int)<b:=by omega
     unfold keyAt at ka ih2
     simp only[List.map_append,List.map_cons,List.map_nil]at ih2
     simp[hb,h5,litK3,ka]
     rw[wr (z:=(i:Int)+1) (by omega) (by omega)]
     exact ih2
    ·obtain rfl:i=b:=by omega
     subst ho
     simp at ih
     simp[hb]
     rw[wr (z:=(j:Int)+1) (by omega) (by omega)]
     exact ih
end Ty
end
end Go.Proofs.YtkcfpgaepmllhaaGreatDoor
