/- Part of the proof: symbolic execution of the program, its soundness, and the closing lemmas. No condition. -/
import Derived.Test.YtkcfpgaepmllhaaGreatDoorZag
import Derived.Test.YtkcfpgaepmllhaaGreatDoorZah
import Derived.Test.YtkcfpgaepmllhaaGreatDoorZai
import Derived.Test.YtkcfpgaepmllhaaGreatDoorZaj
import Derived.Test.YtkcfpgaepmllhaaGreatDoorZak
import Derived.Test.YtkcfpgaepmllhaaGreatDoorZal
import Derived.Test.YtkcfpgaepmllhaaGreatDoorZam
import Derived.Test.YtkcfpgaepmllhaaGreatDoorZan
import Derived.Test.YtkcfpgaepmllhaaGreatDoorZae
import Derived.ProofKit
import Derived.Deep.DeepHandedRow
import Derived.OpenShut
import Derived.FnData
import Derived.Test.YtkcfpgaepmllhaaGreatDoorTie
import Derived.Test.YtkcfpgaepmllhaaGreatDoorCards
import Derived.Handed
import Derived.Shelf.Spec.BitsCarry
import Derived.Shelf.SlSortCmp.WholeK
import Derived.Shelf.SlGeneric
import Derived.Ground.SlsfProg
set_option linter.unusedVariables false
set_option linter.unusedSimpArgs false
set_option linter.constructorNameAsVariable false
namespace Go.Proofs.YtkcfpgaepmllhaaGreatDoor
theorem tr_ok : tr.All cx:=⟨⟨⟨⟨⟨⟨⟨ok4,⟨ok10,ok11⟩⟩,⟨ok12,⟨ok16,ok18⟩⟩⟩,⟨⟨ok19,⟨ok20,ok21⟩⟩,⟨ok22,⟨ok23,ok24⟩⟩⟩⟩,⟨⟨⟨ok25,⟨ok26,ok27⟩⟩,⟨ok28,⟨ok29,ok30⟩⟩⟩,⟨⟨ok31,⟨ok32,ok33⟩⟩,⟨⟨ok34,ok35⟩,⟨ok36,ok37⟩⟩⟩⟩⟩,⟨⟨⟨⟨ok38,⟨ok39,ok44⟩⟩,⟨ok47,⟨ok48,ok49⟩⟩⟩,⟨⟨ok50,⟨ok51,ok52⟩⟩,⟨⟨ok53,ok54⟩,⟨ok55,ok56⟩⟩⟩⟩,⟨⟨⟨ok57,⟨ok58,ok59⟩⟩,⟨ok60,⟨ok61,ok62⟩⟩⟩,⟨⟨ok63,⟨ok64,ok65⟩⟩,⟨⟨ok66,ok67⟩,⟨ok68,ok69⟩⟩⟩⟩⟩⟩,⟨⟨⟨⟨⟨ok70,⟨ok71,ok72⟩⟩,⟨ok73,⟨ok74,ok75⟩⟩⟩,⟨⟨ok76,⟨ok77,ok81⟩⟩,⟨⟨ok82,ok83⟩,⟨ok84,ok85⟩⟩⟩⟩,⟨⟨⟨ok86,⟨ok87,ok88⟩⟩,⟨ok89,⟨ok90,ok91⟩⟩⟩,⟨⟨ok92,⟨ok93,ok94⟩⟩,⟨⟨ok95,ok96⟩,⟨ok97,ok98⟩⟩⟩⟩⟩,⟨⟨⟨⟨ok99,⟨ok100,ok101⟩⟩,⟨ok102,⟨ok103,ok104⟩⟩⟩,⟨⟨ok105,⟨ok106,ok107⟩⟩,⟨⟨ok108,ok109⟩,⟨ok110,ok111⟩⟩⟩⟩,⟨⟨⟨ok112,⟨ok113,ok114⟩⟩,⟨ok115,⟨ok116,ok117⟩⟩⟩,⟨⟨ok118,⟨ok119,ok120⟩⟩,⟨⟨ok132,ok133⟩,⟨ok134,ok135⟩⟩⟩⟩⟩⟩⟩,⟨⟨⟨⟨⟨⟨ok136,⟨ok137,ok138⟩⟩,⟨ok139,⟨ok148,ok149⟩⟩⟩,⟨⟨ok150,⟨ok151,ok154⟩⟩,⟨⟨ok155,ok156⟩,⟨ok157,ok158⟩⟩⟩⟩,⟨⟨⟨ok159,⟨ok160,ok161⟩⟩,⟨ok162,⟨ok163,ok164⟩⟩⟩,⟨⟨ok165,⟨ok178,ok179⟩⟩,⟨⟨ok180,ok181⟩,⟨ok182,ok183⟩⟩⟩⟩⟩,⟨⟨⟨⟨ok184,⟨ok185,ok189⟩⟩,⟨ok190,⟨ok191,ok192⟩⟩⟩,⟨⟨ok193,⟨ok194,ok195⟩⟩,⟨⟨ok196,ok197⟩,⟨ok198,ok199⟩⟩⟩⟩,⟨⟨⟨ok200,⟨ok201,ok202⟩⟩,⟨ok203,⟨ok204,ok205⟩⟩⟩,⟨⟨ok206,⟨ok207,ok208⟩⟩,⟨⟨ok220,ok221⟩,⟨ok222,ok223⟩⟩⟩⟩⟩⟩,⟨⟨⟨⟨⟨ok224,⟨ok225,ok226⟩⟩,⟨ok227,⟨ok228,ok229⟩⟩⟩,⟨⟨ok230,⟨ok231,ok232⟩⟩,⟨⟨ok233,ok234⟩,⟨ok235,ok236⟩⟩⟩⟩,⟨⟨⟨ok237,⟨ok239,ok240⟩⟩,⟨ok241,⟨ok242,ok243⟩⟩⟩,⟨⟨ok244,⟨ok245,ok246⟩⟩,⟨⟨ok247,ok248⟩,⟨ok249,ok258⟩⟩⟩⟩⟩,⟨⟨⟨⟨ok259,⟨ok260,ok261⟩⟩,⟨ok262,⟨ok263,ok264⟩⟩⟩,⟨⟨ok265,⟨ok266,ok267⟩⟩,⟨⟨ok268,ok269⟩,⟨ok274,ok275⟩⟩⟩⟩,⟨⟨⟨ok276,⟨ok277,ok278⟩⟩,⟨ok279,⟨ok280,ok281⟩⟩⟩,⟨⟨ok282,⟨ok283,ok284⟩⟩,⟨⟨ok285,ok286⟩,⟨ok287,ok288⟩⟩⟩⟩⟩⟩⟩⟩
end Go.Proofs.YtkcfpgaepmllhaaGreatDoor
namespace Go.Proofs.YtkcfpgaepmllhaaGreatDoor
open Go.RowKit
def takeG : List Nat→List Known→List Known
  | [],_=>[]
  | g :: r,es=>match es.drop g with
    | e :: s=>e :: takeG r s
    | []=>[]
theorem takeG_mem : ∀ {gs : List Nat} {l : List Known} {e : Known},e ∈ takeG gs l→e ∈ l
  | [],_,_,h=>by cases h
  | g :: r,l,e,h=>by
    unfold takeG at h
    split at h
    · rename_i a s hd
      have hs : ∀ x,x ∈ a :: s→x ∈ l:=fun x hx=>by rw [← hd] at hx; exact List.mem_of_mem_drop hx
      rcases List.mem_cons.1 h with rfl | h
      · exact hs _ (List.mem_cons_self ..)
      · exact hs _ (List.mem_cons_of_mem _ (takeG_mem h))
    · cases h
abbrev Sel:=List (Nat × List Known × List Nat)
def pickK : Sel→KT
  | []=>[]
  | (f,l,gs) :: r=>(f,takeG gs l) :: pickK r
def Done (P : Program) (f : Nat) (l : List Known) : Prop:=∀ e ∈ l,f < 1000000∧VCr P f e.ds e.r
def DoneS (P : Program) : Sel→Prop
  | []=>True
  | (f,l,_) :: r=>Done P f l∧DoneS P r
theorem DoneS.nil {P : Program} : DoneS P []:=trivial
theorem DoneS.cons {P : Program} {f : Nat} {l : List Known} {gs : List Nat} {r : Sel} (h : Done P f l) (k : DoneS P r) : DoneS P ((f,l,gs) :: r):=⟨h,k⟩
theorem pick_ok {P : Program} : ∀ {s : Sel},DoneS P s→(pickK s).OK P
  | [],_=>fun p hp=>by cases hp
  | (f,l,gs) :: r,h=>fun p hp e he=>by
    rcases List.mem_cons.1 hp with rfl | hp
    · exact h.1 e (takeG_mem he)
    · exact pick_ok h.2 p hp e he
def chunk (G : FP) (f lo n : Nat) (l : List Known) : Bool:=Nat.blt f 1000000 && ((l.drop lo).take n).all fun e=>beqO (G f e.ds) e.r
theorem chunk_sound {P : Program} {C : Cx} {H : FP} {N k : Nat} {r : Tr} (hP : C.P = P) (hH : Sound P (env0 H)) (hm : P.follows .mixedOrders = true) (hr : r.All C) {s : Sel} (hs : DoneS P s) {f lo n : Nat} {l : List Known}
    (h : chunk (evG r.get (addH (pickK s) H) N k) f lo n l = true) : Done P f ((l.drop lo).take n):=fun e he=>by
  have h1 : allK (evG r.get (addH (pickK s) H) N k) [(f,(l.drop lo).take n)] = true:=by
    show ((Nat.blt f 1000000 && ((l.drop lo).take n).all fun e=>beqO (evG r.get (addH (pickK s) H) N k f e.ds) e.r) && true) = true
    rw [Bool.and_true]; exact h
  exact known_sound hP (addH_sound hH (pick_ok hs)) hm hr h1 _ (List.mem_cons_self ..) e he
theorem Done.join {P : Program} {f lo n : Nat} {l : List Known} (h : Done P f ((l.drop lo).take n)) (k : Done P f (l.drop (lo + n))) : Done P f (l.drop lo):=fun e he=>by
  rw [← List.take_append_drop n (l.drop lo),List.mem_append,List.drop_drop] at he
  exact he.elim (h e) (k e)
theorem Done.fin {P : Program} {f lo n : Nat} {l : List Known} (h : Done P f ((l.drop lo).take n)) (k : Nat.ble l.length (lo + n) = true) : Done P f (l.drop lo):=fun e he=>by
  rw [List.take_of_length_le (by have:=Nat.le_of_ble_eq_true k; simp; omega)] at h
  exact h e he
end Go.Proofs.YtkcfpgaepmllhaaGreatDoor
namespace Go.Proofs.YtkcfpgaepmllhaaGreatDoor
open Go.ChangeShapes Go.WideShapes Go.ChangeAt Go.RowKit
set_option linter.unusedVariables false
def HasTy (P : Program) : Nat→TypeId→List D→Prop
  | 0,_,_=>False
  | n + 1,t,ds=>match P.underlying t with
    | some .bool=>∃ b,ds = [bv b]
    | some (.int k)=>∃ z,ds = [.v (.int k z)]∧(Lit.int k z).wf = true
    | some .string=>∃ s : ByteArray,ds = [.v (.string s)]∧s.size≤maxLen
    | some (.slice e)=>∃ es,ds = [.list es]∧es.length≤maxLen∧∀ c ∈ es,HasTy P n e c
    | some (.struct fs)=>ds.length = P.cellsOf t∧∀ f ∈ fs.toList,HasTy P n f.type ((ds.drop f.offset).take (P.cellsOf f.type))
    | some (.array m e)=>ds.length = P.cellsOf t∧∀ i,i < m→HasTy P n e ((ds.drop (i * P.cellsOf e)).take (P.cellsOf e))
    | _=>False
def okTy (P : Program) : Nat→TypeId→Bool
  | 0,_=>false
  | n + 1,t=>match P.underlying t with
    | some .bool | some (.int _) | some .string=>true
    | some (.slice e)=>decide (0 < P.cellsOf e) && okTy P n e
    | some (.struct fs)=>fs.toList.all fun f=>okTy P n f.type
    | some (.array _ e)=>okTy P n e
    | _=>false
def RepL (w : World) (cs : List Value) (ds : List D) : Prop:=cs.length = ds.length∧∀ (j : Nat) (c : Value) (d : D),cs[j]? = some c→ds[j]? = some d→c.oneCell' = true∧Rep w (allPr w) noTok c d
theorem RepL.nil {w : World} : RepL w [] []:=⟨rfl,fun j c d h=>by simp at h⟩
theorem RepL.one {w : World} {c : Value} {d : D} (h1 : c.oneCell' = true) (h2 : Rep w (allPr w) noTok c d) : RepL w [c] [d]:=
  ⟨rfl,fun j c' d' hc hd=>by
    cases j with
    | zero=>simp only [List.getElem?_cons_zero,Option.some.injEq] at hc hd; subst hc; subst hd; exact ⟨h1,h2⟩
    | succ j=>simp at hc⟩
theorem RepL.append {w : World} {a b : List Value} {x y : List D} (h : RepL w a x) (k : RepL w b y) : RepL w (a ++ b) (x ++ y):=by
  refine ⟨by simp [h.1,k.1],fun j c d hc hd=>?_⟩
  by_cases hj : j < a.length
  · rw [List.getElem?_append_left hj] at hc
    rw [List.getElem?_append_left (by rw [← h.1]; exact hj)] at hd
    exact h.2 j c d hc hd
  · rw [List.getElem?_append_right (by omega)] at hc
    rw [List.getElem?_append_right (by rw [← h.1]; omega),← h.1] at hd
    exact k.2 _ c d hc hd
theorem sum_le (cell : Nat→Nat) : ∀ m k,k≤m→((List.range k).map cell).sum≤((List.range m).map cell).sum
  | 0, k, hk => by have : k = 0 := by omega
                   subst this; exact Nat.le_refl _
  | m + 1,k,hk=>by
    by_cases h : k≤m
    · have:=sum_le cell m k h
      simp only [List.range_succ,List.map_append,List.sum_append,List.map_cons,List.map_nil,List.sum_cons,List.sum_nil]
      omega
    · have : k = m + 1:=by omega
      subst this; exact Nat.le_refl _
theorem sum_take {α : Type} (g : α→Nat) (x0 : α) : ∀ (l : List α) (j : Nat),j≤l.length→((l.take j).map g).sum = ((List.range j).map fun i=>g (l.getD i x0)).sum
  | l,0,_=>by simp
  | l,j + 1,h=>by
    rw [List.take_succ_eq_append_getElem (by omega),List.map_append,List.sum_append,sum_take g x0 l j (by omega),List.range_succ,List.map_append,List.sum_append]
    simp [List.getD,show j < l.length by omega]
theorem sum_const (c : Nat) : ∀ m,((List.range m).map fun _=>c).sum = m * c
  | 0=>by simp
  | m + 1=>by simp [List.range_succ,sum_const c m,Nat.succ_mul]
theorem parts_rep {w : World} (Q : Nat→List D→Prop) (cell off : Nat→Nat) (cs : List Value) : ∀ (m : Nat),(∀ i,i < m→off i = ((List.range i).map cell).sum)→((List.range m).map cell).sum≤cs.length→
    (∀ i,i < m→∃ ds,Q i ds∧RepL w ((cs.drop (off i)).take (cell i)) ds)→
    ∃ ds,RepL w (cs.take ((List.range m).map cell).sum) ds∧∀ i,i < m→Q i ((ds.drop (off i)).take (cell i))
  | 0,_,_,_=>⟨[],by simpa using RepL.nil,fun i hi=>by omega⟩
  | m + 1,hoff,hlen,h=>by
    have hs : ((List.range (m + 1)).map cell).sum = ((List.range m).map cell).sum + cell m:=by simp [List.range_succ]
    rw [hs] at hlen ⊢
    obtain ⟨ds,h1,h2⟩:=parts_rep Q cell off cs m (fun i hi=>hoff i (by omega)) (by omega) fun i hi=>h i (by omega)
    obtain ⟨dl,h3,h4⟩:=h m (by omega)
    have ho:=hoff m (by omega)
    have hdl:=h1.1
    have hl4:=h4.1
    simp only [List.length_take,List.length_drop] at hdl hl4
    refine ⟨ds ++ dl,?_,fun i hi=>?_⟩
    · have e : cs.take (((List.range m).map cell).sum + cell m) = cs.take ((List.range m).map cell).sum ++ (cs.drop (off m)).take (cell m):=by
        rw [List.take_add,← ho]
      rw [e]
      exact h1.append h4
    · by_cases hm : i < m
      · have h5:=h2 i hm
        have h6:=sum_le cell m (i + 1) (by omega)
        have e2 : ((List.range (i + 1)).map cell).sum = ((List.range i).map cell).sum + cell i:=by simp [List.range_succ]
        have h7:=hoff i (by omega)
        rwa [List.drop_append_of_le_length (by omega),List.take_append_of_le_length (by simp; omega)]
      · obtain rfl : i = m:=by omega
        have e1 : off i = ds.length:=by omega
        rw [e1,List.drop_left,List.take_of_length_le (by omega)]
        exact h3
theorem list_choice {α : Type} (R : Nat→α→Prop) : ∀ n,(∀ i,i < n→∃ x,R i x)→∃ l : List α,l.length = n∧∀ i x,l[i]? = some x→R i x
  | 0,_=>⟨[],rfl,fun i x h=>by simp at h⟩
  | n + 1,h=>by
    obtain ⟨l,h1,h2⟩:=list_choice R n fun i hi=>h i (by omega)
    obtain ⟨x,hx⟩:=h n (by omega)
    refine ⟨l ++ [x],by simp [h1],fun i y hy=>?_⟩
    by_cases hi : i < l.length
    · rw [List.getElem?_append_left hi] at hy; exact h2 i y hy
    · rw [List.getElem?_append_right (by omega)] at hy
      have hi' : i - l.length = 0:=by
        have:=(List.getElem?_eq_some_iff.1 hy).1
        simp at this; omega
      rw [hi'] at hy
      simp only [List.getElem?_cons_zero,Option.some.injEq] at hy
      subst hy
      have : i = n:=by omega
      subst this; exact hx
section
variable {H : Type} {enc : TypeId × Value→H} {P : Program} {w : World} {held : Bool}
theorem trod_rep (hl : laidOutB P = true) : ∀ (n : Nat) (t : TypeId) (fuel : Nat) (cs : List Value) (x : DataW H × List MemPlace),t < P.types.size→okTy P n t = true→
    DataW.trod enc P w 0 (fun _=>true) held fuel t cs = some x→∃ ds,HasTy P n t ds∧RepL w cs ds:=by
  intro n
  induction n with
  | zero=>intro t fuel cs x _ hk; simp [okTy] at hk
  | succ n ih=>
    intro t fuel cs x ht hk h
    simp only [okTy] at hk
    cases hu : P.underlying t with
    | none=>rw [hu] at hk; cases hk
    | some ty=>
      rw [hu] at hk
      cases ty <;> simp only [] at hk <;> try (cases hk; done)
      case bool=>
        obtain ⟨b,rfl,_⟩:=DataW.trod_bool hu h
        exact ⟨[bv b],by simp [HasTy,hu],RepL.one rfl (.v rfl)⟩
      case int k=>
        obtain ⟨z,rfl,_,hz⟩:=DataW.trod_int hu h
        exact ⟨[.v (.int k z)],by simp [HasTy,hu,hz],RepL.one rfl (.v rfl)⟩
      case string=>
        obtain ⟨s,rfl,_,hz⟩:=DataW.trod_string hu h
        exact ⟨[.v (.string s)],by simp [HasTy,hu,hz],RepL.one rfl (.v rfl)⟩
      case slice e=>
        simp only [Bool.and_eq_true,decide_eq_true_eq] at hk
        obtain ⟨hpos,hk⟩:=hk
        have he:=kid_slice hl ht hu
        rcases DataW.trod_slice hu h with ⟨rfl,rfl⟩ | ⟨a,len,cap,elems,rest,m,rfl,rfl,rfl,_,hlc,hcm,hlen,hel,_,_⟩
        · exact ⟨[.list []],by simp [HasTy,hu],RepL.one rfl .nil'⟩
        · obtain ⟨ll,hll,hR⟩:=list_choice (fun i (q : List Value × List D)=>w.cells? 0 (a.add (i * P.cellsOf e)) (P.cellsOf e) = some q.1∧HasTy P n e q.2∧RepL w q.1 q.2) len fun i hi=>by
            have h1:=hel i hi
            rw [List.getElem?_eq_getElem (by omega),Option.bind_eq_some_iff] at h1
            obtain ⟨c,hc,h1⟩:=h1
            obtain ⟨ds,h2,h3⟩:=ih e m c _ he hk h1
            exact ⟨(c,ds),hc,h2,h3⟩
          have hes : (ll.map (·.2)).length = len:=by simpa using hll
          refine ⟨[.list (ll.map (·.2))],?_,RepL.one rfl ?_⟩
          · simp only [HasTy,hu]
            refine ⟨_,rfl,by omega,fun c hc=>?_⟩
            obtain ⟨q,hq,rfl⟩:=List.mem_map.1 hc
            obtain ⟨i,hi⟩:=List.mem_iff_getElem?.1 hq
            exact (hR i q hi).2.1
          · by_cases h0 : len = 0
            · subst h0
              have : ll = []:=List.eq_nil_of_length_eq_zero hll
              subst this
              exact .emp
            · have cell : ∀ (i : Nat) (q : List Value × List D),ll[i]? = some q→∀ k,k < P.cellsOf e→w.cell? ((a.add (i * P.cellsOf e)).add k) = q.1[k]?∧q.1.length = P.cellsOf e:=fun i q hq k hk'=>
                let ⟨_,h2,h3⟩:=World.cells?_some (hR i q hq).1
                ⟨h3 k hk',h2⟩
              have hspot : a.spot = none:=by
                have hq:=List.getElem?_eq_getElem (show 0 < ll.length by omega)
                obtain ⟨h2,h3⟩:=cell 0 _ hq 0 hpos
                rw [List.getElem?_eq_getElem (by omega)] at h2
                have:=World.cell?_spot h2
                simpa [Addr.add] using this
              obtain ⟨b,off,sp⟩:=a
              simp only at hspot
              subst hspot
              have key : ∀ (i : Nat) (q : List Value × List D),ll[i]? = some q→∀ k,k < P.cellsOf e→∃ c,q.1[k]? = some c∧w.cell? ⟨b,off + (i * P.cellsOf e + k),none⟩ = some c:=fun i q hq k hk'=>by
                obtain ⟨h2,h3⟩:=cell i q hq k hk'
                rw [add_off,add_off,List.getElem?_eq_getElem (by omega)] at h2
                exact ⟨_,List.getElem?_eq_getElem (by omega),by rw [← Nat.add_assoc]; exact h2⟩
              have:=Rep.list (w:=w) (pr:=allPr w) (tk:=noTok) (b:=b) (off:=off) (cap:=cap) (size:=P.cellsOf e) (es:=ll.map (·.2)) (fun j=>(w.cell? ⟨b,off + j,none⟩).getD undef) (fun c hc=>by
                  obtain ⟨q,hq,rfl⟩:=List.mem_map.1 hc
                  obtain ⟨i,hi⟩:=List.mem_iff_getElem?.1 hq
                  rw [← (hR i q hi).2.2.1]
                  exact (cell i q hi 0 hpos).2) (by omega) (fun j hj=>by
                  have hi : j / P.cellsOf e < ll.length:=by
                    rw [List.length_map] at hj
                    exact Nat.div_lt_of_lt_mul (by rw [Nat.mul_comm]; exact hj)
                  have hk':=Nat.mod_lt j hpos
                  have hq:=List.getElem?_eq_getElem hi
                  obtain ⟨c,h1,h2⟩:=key _ _ hq _ hk'
                  have ej : j / P.cellsOf e * P.cellsOf e + j % P.cellsOf e = j:=Nat.div_add_mod' j _
                  rw [ej] at h2
                  refine ⟨by rw [h2]; rfl,World.block_lt_of_cell? w _ h2,?_⟩
                  rw [h2]
                  have hrl:=(hR _ _ hq).2.2
                  exact (hrl.2 _ c _ h1 (List.getElem?_eq_getElem (by rw [← hrl.1]; exact (List.getElem?_eq_some_iff.1 h1).1))).1) (fun i c hc j d hd=>by
                  rw [List.getElem?_map,Option.map_eq_some_iff] at hc
                  obtain ⟨q,hq,rfl⟩:=hc
                  have hrl:=(hR i q hq).2.2
                  have hj : j < P.cellsOf e:=by
                    have:=(List.getElem?_eq_some_iff.1 hd).1
                    rw [← hrl.1,(cell i q hq 0 hpos).2] at this
                    exact this
                  obtain ⟨c,h1,h2⟩:=key i q hq j hj
                  simp only [h2,Option.getD_some]
                  exact (hrl.2 j c d h1 hd).2)
              rw [hes] at this
              exact this
      case struct fs=>
        obtain ⟨k1,k2,k3⟩:=kid_struct hl ht hu
        obtain ⟨xs,m,rfl,rfl,hlen,hxs,hx⟩:=DataW.trod_struct hu h
        rw [List.all_eq_true] at hk
        have hdef : ∀ i,i < fs.toList.length→fs.toList[i]? = some (fs.toList.getD i default):=fun i hi=>by
          have hi' : i < fs.size:=by simpa using hi
          simp [List.getD,hi']
        have hsum:=sum_take (fun f : Field=>P.cellsOf f.type) default fs.toList fs.toList.length (Nat.le_refl _)
        rw [List.take_length] at hsum
        rw [hsum] at k2
        obtain ⟨ds,h1,h2⟩:=parts_rep (w:=w) (fun i ds=>HasTy P n (fs.toList.getD i default).type ds) (fun i=>P.cellsOf (fs.toList.getD i default).type) (fun i=>(fs.toList.getD i default).offset) cs fs.toList.length
          (fun i hi=>by rw [k3 i _ (hdef i hi),sum_take _ default _ i (by omega)]) (by omega) fun i hi=>by
            have hf:=hdef i hi
            have hf' : fs[i]? = some (fs.toList.getD i default):=by rw [← hf]; simp
            have h3:=hx i _ hf'
            rw [List.getElem?_eq_getElem (by rw [hxs]; simpa using hi)] at h3
            have hm:=List.mem_of_getElem? hf
            exact ih _ m _ _ (k1 _ hm) (hk _ hm) h3
        rw [List.take_of_length_le (by omega)] at h1
        refine ⟨ds,?_,h1⟩
        simp only [HasTy,hu]
        refine ⟨by rw [← h1.1,hlen],fun f hf=>?_⟩
        obtain ⟨i,hi,rfl⟩:=List.getElem_of_mem hf
        have hi' : i < fs.size:=by simpa using hi
        have:=h2 i hi
        simpa [List.getD,hi'] using this
      case array m e=>
        obtain ⟨k1,k2⟩:=kid_array hl ht hu
        obtain ⟨xs,q,rfl,rfl,hlen,hxs,hx⟩:=DataW.trod_array hu h
        obtain ⟨ds,h1,h2⟩:=parts_rep (w:=w) (fun i ds=>HasTy P n e ds) (fun i=>P.cellsOf e) (fun i=>i * P.cellsOf e) cs m
          (fun i hi=>(sum_const _ i).symm) (by rw [sum_const]; omega) fun i hi=>by
            have h3:=hx i hi
            rw [List.getElem?_eq_getElem (by omega)] at h3
            exact ih _ q _ _ k1 hk h3
        rw [sum_const,List.take_of_length_le (by omega)] at h1
        refine ⟨ds,?_,h1⟩
        simp only [HasTy,hu]
        exact ⟨by rw [← h1.1,hlen],h2⟩
def ArgTy (P : Program) (n : Nat) (t : TypeId) (d : D) : Prop:=match P.underlying t with
  | some (.struct _) | some (.array _ _)=>∃ ds,d = .agg ds∧HasTy P n t ds
  | _=>HasTy P n t [d]
def ArgsTy (P : Program) (n : Nat) : List TypeId→List D→Prop
  | [],[]=>True
  | t :: ts,d :: ds=>ArgTy P n t d∧ArgsTy P n ts ds
  | _,_=>False
theorem trod_arg (hl : laidOutB P = true) {n : Nat} {t : TypeId} {v : Value} {d : DataW H} {p : List MemPlace} {base : Nat} (ht : t < P.types.size) (hk : okTy P n t = true) (hv : Value.okWide P w .any base t v)
    (h : DataW.Trod enc P w 0 (fun _=>true) held t v d p) : ∃ d',ArgTy P n t d'∧Rep w (allPr w) noTok v d':=by
  obtain ⟨fuel,h⟩:=h
  obtain ⟨ds,h1,h2⟩:=trod_rep hl n t fuel _ _ ht hk h
  have plain : (∀ cs,v ≠ .agg cs)→ArgTy P n t (ds.getD 0 .undef) = HasTy P n t [ds.getD 0 .undef]→∃ d',ArgTy P n t d'∧Rep w (allPr w) noTok v d':=fun hne e=>by
    have hc : v.cells.toList = [v]:=by
      cases v <;> first | rfl | exact absurd rfl (hne _)
    rw [hc] at h2
    have hl1:=h2.1
    match ds,hl1 with
    | [d0],_=>exact ⟨d0,by simp only [List.getD_cons_zero] at e; rw [e]; exact h1,(h2.2 0 v d0 rfl rfl).2⟩
  have agg : ∀ cs,v = .agg cs→ArgTy P n t (.agg ds) = (∃ ds',D.agg ds = .agg ds'∧HasTy P n t ds')→∃ d',ArgTy P n t d'∧Rep w (allPr w) noTok v d':=fun cs e e2=>by
    subst e
    refine ⟨.agg ds,by rw [e2]; exact ⟨ds,rfl,h1⟩,.agg (by simpa [Value.cells] using h2.1) (fun i c hc=>?_) fun i c x hc hx=>(h2.2 i c x (by simpa [Value.cells] using hc) hx).2⟩
    have hi : i < ds.length:=by
      have:=(Array.getElem?_eq_some_iff.1 hc).1
      have:=h2.1
      simp [Value.cells] at this
      omega
    exact (h2.2 i c _ (by simpa [Value.cells] using hc) (List.getElem?_eq_getElem hi)).1
  cases hu : P.underlying t with
  | none=>cases n <;> simp [okTy,hu] at hk
  | some ty=>
    cases ty
    case struct fs=>
      simp only [Value.okWide,hu] at hv
      obtain ⟨cs,rfl,_⟩:=hv
      exact agg cs rfl (by simp only [ArgTy,hu])
    case array m e=>
      simp only [Value.okWide,hu] at hv
      obtain ⟨cs,rfl,_⟩:=hv
      exact agg cs rfl (by simp only [ArgTy,hu])
    all_goals
      refine plain (fun cs e=>?_) (by simp only [ArgTy,hu])
      subst e
      simp [Value.okWide,hu,Cell.okWide,Cell.ok] at hv
theorem trod_args (hl : laidOutB P = true) {n : Nat} {base : Nat} : ∀ {ts : List TypeId} {vs : List Value} {ds : List (DataW H)} {p : List MemPlace},(∀ t ∈ ts,t < P.types.size∧okTy P n t = true)→
    (∀ (j : Nat) t v,ts[j]? = some t→vs[j]? = some v→Value.okWide P w .any base t v)→DataW.TrodAll enc P w 0 (fun _=>true) held ts vs ds p→∃ Ds,ArgsTy P n ts Ds∧Reps w (allPr w) noTok vs Ds
  | [],vs,ds,p,_,_,h=>by
    obtain ⟨rfl,rfl,rfl⟩:=trodAll_nil h
    exact ⟨[],trivial,trivial⟩
  | t :: ts,vs,ds,p,hk,hv,h=>by
    obtain ⟨v,vs1,d,ds1,a,b,rfl,rfl,rfl,h1,h2⟩:=trodAll_cons h
    obtain ⟨d',e1,e2⟩:=trod_arg hl (hk t List.mem_cons_self).1 (hk t List.mem_cons_self).2 (hv 0 t v rfl rfl) h1
    obtain ⟨Ds,e3,e4⟩:=trod_args hl (fun t' ht'=>hk t' (List.mem_cons_of_mem _ ht')) (fun j t' v' ht' hv'=>hv (j + 1) t' v' ht' hv') h2
    exact ⟨d' :: Ds,⟨e1,e3⟩,⟨e2,e4⟩⟩
theorem trod_again (hl : laidOutB P = true) {W W' : World} (hb : Below W.heap.size W W') {sp : Nat→Bool} : ∀ {ts : List TypeId} {vs : List Value} {ds : List (DataW H)} {p : List MemPlace},(∀ t ∈ ts,t < P.types.size∧P.readableRec t = true)→
    (∀ x ∈ p,x.block < W.heap.size∧sp x.block = true)→DataW.TrodAll enc P W 0 (fun _=>true) true ts vs ds p→DataW.TrodAll enc P W' 0 sp true ts vs ds p
  | [],vs,ds,p,_,_,h=>by
    obtain ⟨rfl,rfl,rfl⟩:=trodAll_nil h
    exact trodAll_mk0
  | t :: ts,vs,ds,p,hk,hp,h=>by
    obtain ⟨v,vs1,d,ds1,a,b,rfl,rfl,rfl,h1,h2⟩:=trodAll_cons h
    refine trodAll_cons_mk (WideElems.Trod_stays hl (hk t List.mem_cons_self).2 (hk t List.mem_cons_self).1 h1 (fun x hx=>hb.same (hp x (List.mem_append_left _ hx)).1) fun x hx=>(hp x (List.mem_append_left _ hx)).2) ?_
    exact trod_again hl hb (fun t' ht'=>hk t' (List.mem_cons_of_mem _ ht')) (fun x hx=>hp x (List.mem_append_right _ hx)) h2
theorem trodAll_len {W : World} {sp : Nat→Bool} : ∀ {ts : List TypeId} {vs : List Value} {ds : List (DataW H)} {p : List MemPlace},DataW.TrodAll enc P W 0 sp held ts vs ds p→ds.length = ts.length
  | [],vs,ds,p,h=>by
    obtain ⟨rfl,rfl,rfl⟩:=trodAll_nil h
    rfl
  | t :: ts,vs,ds,p,h=>by
    obtain ⟨v,vs1,d,ds1,a,b,rfl,rfl,rfl,h1,h2⟩:=trodAll_cons h
    simp [trodAll_len h2]
theorem VCp.body {f : Nat} {ds : List D} {d : D} (h : VCp P f ds d) (hb : HasBody P f) (w0 : World) (pr0 : Prot) (c0 : Array Value) (hr : Reps w0 pr0 noTok c0.toList ds) : HasBody P f∧∀ (w : World) (pr : Prot) (cargs : Array Value),(∀ b o,pr b o→b < w.heap.size)→GOK w pr→Reps w pr noTok cargs.toList ds→
    Calls P f cargs w fun e w'=>∃ v pr',e = .returned v∧Chg (fun _=>False) w w'∧(∀ b o,pr b o→pr' b o)∧(∀ b o,pr' b o→pr b o ∨ (w.heap.size≤b∧b < w'.heap.size))∧Rep w' pr' noTok v d:=by
  rcases h with h | h
  · obtain ⟨v,h1,_⟩:=h w0 pr0 c0 hr
    rw [run_callFunc hb] at h1
    cases h1
  · exact h
theorem law_contract (hl : laidOutB P = true) {f : FuncId} {fn : Func} {s : ChangeSpec} {n tb : Nat} (hvars : s.vars = []) (hspec : ∀ ds : List (DataW H),ds.length = fn.params.size→s.fn H ds = { results:=[.lit (.bool true)],args:=ds })
    (hres : fn.resultTypes = #[tb]) (hb : P.underlying tb = some .bool) (hts : ∀ t ∈ fn.params.toList,t < P.types.size∧okTy P n t = true∧P.readableRec t = true)
    (hc : ∀ Ds,ArgsTy P n fn.params.toList Ds→VCp P f Ds (bv true))
    (W : World) (base : Nat) (args : Array Value) (ds gs : List (DataW H)) (before : List MemPlace)
    (hval : ∀ (j : Nat) t v,fn.params[j]? = some t→args[j]? = some v→Value.okWide P W .any base t v) (hG : GOK W (allPr W)) (hbody : HasBody P f)
    (hW : DataW.Whole enc P fn.params.toList s.vars false W args.toList ds gs before) :
    Calls P f args W fun e W'=>∃ v,e = .returned v∧s.post enc P fn false true false false W args v W':=by
  have hlt : ∀ p ∈ before,p.block < W.heap.size:=fun p hp=>hW.lt p hp
  have hW':=hW
  obtain ⟨p,q,hA,hV,rfl,hfz,hnd⟩:=hW
  rw [hvars] at hV
  obtain ⟨rfl,rfl⟩:=trodVars_none hV
  rw [List.append_nil] at hlt hW' hfz hnd
  obtain ⟨Ds,h1,h2⟩:=trod_args (held:=true) hl (n:=n) (base:=base) (fun t ht=>⟨(hts t ht).1,(hts t ht).2.1⟩) (fun j t v ht hv=>hval j t v (by simpa using ht) (by simpa using hv)) hA
  obtain ⟨_,hcon⟩:=(hc Ds h1).body hbody W _ args h2
  refine (hcon W (allPr W) args (fun b o h=>h) hG h2).mono ?_
  rintro e W' ⟨v,pr',rfl,hch,_,_,hr⟩
  obtain ⟨rfl,_⟩:=rep_v.1 hr
  refine ⟨_,rfl,?_⟩
  have hbel : Below W.heap.size W W':=⟨hch.os,hch.tape,hch.output,hch.size,fun k hk=>hch.block k hk (fun h=>h)⟩
  have hlen : ds.length = fn.params.size:=by have:=trodAll_len hA; simpa using this
  have hsp:=hspec ds hlen
  have hA' : ∀ sp : Nat→Bool,(∀ x ∈ p,sp x.block = true)→DataW.TrodAll enc P W' 0 sp true fn.params.toList args.toList ds p:=fun sp hs=>
    trod_again hl hbel (fun t ht=>⟨(hts t ht).1,(hts t ht).2.2⟩) (fun x hx=>⟨hlt x hx,hs x hx⟩) hA
  have hR : ∀ (b : Nat) (sp : Nat→Bool) (hd : Bool),DataW.TrodAll enc P W' b sp hd fn.resultTypes.toList ((Value.bool true).resultList fn.resultTypes.size) [.lit (.bool true)] []:=fun b sp hd=>by
    rw [hres]
    exact trodAll_mk1 (shut_bool hb true)
  have hap : ds ++ ([] : List (DataW H)) = ds:=List.append_nil ds
  refine ⟨ds,[],p,[],p,[],hW',?_,?_,?_,hbel.frame _,fun _=>?_⟩
  · rw [hap,hsp]; exact hR _ _ _
  · rw [hap,hsp]; exact hA' _ fun x hx=>by simpa using hlt x hx
  · rw [hvars,hap,hsp]; exact rfl
  · refine ⟨ok_one hres rfl (okWide_bool_mk hb true),[.lit (.bool true)] ++ ds,[],([] ++ p) ++ [],⟨[] ++ p,[],trodAll_append (hA' _ fun _ _=>rfl) (hR _ _ _),by rw [hvars]; exact rfl,rfl,?_,?_⟩,?_⟩
    · intro b off hp
      have hm : MemPlace.cell b off ∈ p:=by simpa using hp
      rw [hbel.frozen (p:=⟨b,off,none⟩) (hlt _ hm)]
      exact hfz b off hm
    · intro ha; cases ha
    · intro x hx _
      simpa using hx
end
end Go.Proofs.YtkcfpgaepmllhaaGreatDoor
namespace Go.Proofs.YtkcfpgaepmllhaaGreatDoor
open Go.ChangeShapes Go.WideShapes Go.ChangeAt Go.RowKit
def litsN {H : Type} : Nat→DataW H→Option (List Value)
  | 0,_=>none
  | _ + 1,.lit (.int k z)=>some [.int k z]
  | n + 1,.agg xs=>(xs.mapM (litsN n)).map List.flatten
  | _ + 1,_=>none
def intsTy (P : Program) : Nat→TypeId→Bool
  | 0,_=>false
  | n + 1,t=>match P.underlying t with
    | some (.int _)=>true
    | some (.array _ e)=>intsTy P n e
    | _=>false
theorem chunks {α : Type} (c : Nat) : ∀ (ls : List (List α)) (cs : List α),cs.length = ls.length * c→(∀ i l,ls[i]? = some l→(cs.drop (i * c)).take c = l)→cs = ls.flatten
  | [],cs,hl,_=>by simpa using hl
  | l :: r,cs,hl,h=>by
    have h0:=h 0 l rfl
    simp only [Nat.zero_mul,List.drop_zero] at h0
    have hr:=chunks c r (cs.drop c) (by simp only [List.length_cons,Nat.add_mul,Nat.one_mul] at hl; simp [hl]) fun i l hi=>by
      have:=h (i + 1) l (by simpa using hi)
      rwa [Nat.add_mul,Nat.one_mul,Nat.add_comm,← List.drop_drop] at this
    rw [List.flatten_cons,← hr,← h0,List.take_append_drop]
section
variable {H : Type} {enc : TypeId × Value→H} {P : Program} {w : World} {base : Nat} {sp : Nat→Bool} {held : Bool}
theorem trod_lits (hl : laidOutB P = true) : ∀ (n : Nat) (t : TypeId) (fuel : Nat) (cs : List Value) (d : DataW H) (p : List MemPlace) (vs : List Value),t < P.types.size→intsTy P n t = true→DataW.trod enc P w base sp held fuel t cs = some (d,p)→litsN n d = some vs→cs = vs:=by
  intro n
  induction n with
  | zero=>intro t fuel cs d p vs _ hk; cases hk
  | succ n ih=>
    intro t fuel cs d p vs ht hk h hv
    simp only [intsTy] at hk
    split at hk
    · rename_i k hu
      obtain ⟨z,rfl,e,_⟩:=DataW.trod_int hu h
      cases e
      simp only [litsN,Option.some.injEq] at hv
      exact hv
    · rename_i m e hu
      obtain ⟨k1,k2⟩:=kid_array hl ht hu
      obtain ⟨xs,q,rfl,e,hlen,hxs,hx⟩:=DataW.trod_array hu h
      cases e
      simp only [litsN] at hv
      obtain ⟨ls,h1,rfl⟩:=Option.map_eq_some_iff.1 hv
      obtain ⟨l1,l2⟩:=mapM_get h1
      simp only [List.length_map] at l1
      refine chunks (P.cellsOf e) ls cs (by rw [hlen,k2,l1,hxs]) fun i l hi=>?_
      have hil:=(List.getElem?_eq_some_iff.1 hi).1
      have h3:=hx i (by omega)
      have hxi:=List.getElem?_eq_getElem (show i < xs.length by omega)
      rw [hxi] at h3
      obtain ⟨a,ha,hla⟩:=l2 i l hi
      rw [List.getElem?_map,hxi] at ha
      cases ha
      exact ih e q _ _ _ _ k1 hk h3 hla
    · cases hk
theorem laid_mem : ∀ {l : List (String × DataW Unit)} {ps : List MemPlace},DataW.LaidVars P w l ps→∀ {n : String} {d : DataW Unit},(n,d) ∈ l→
    ∃ g t cs fuel p,P.globalNamed n = some g∧(P.globals[g]?).map (·.type) = some t∧w.var? P n = some cs∧DataW.trod (fun _=>()) P w 0 (fun _=>true) false fuel t cs.toList = some (d,p)
  | [],ps,h,n,d,hm=>by cases hm
  | (n',d') :: r,ps,h,n,d,hm=>by
    obtain ⟨g,t,cs,fuel,p,q,h1,h2,h3,h4,h5,_⟩:=h
    rcases List.mem_cons.1 hm with e | hm
    · cases e
      exact ⟨g,t,cs,fuel,p,h1,h2,h3,h4⟩
    · exact laid_mem h5 hm
theorem gok_of_laid (hl : laidOutB P = true) {laid : List (String × DataW Unit)} (h : laidMet P laid w)
    (hc : ∀ g xs,globT g = some xs→∃ n d vs t,(n,d) ∈ laid∧P.globalNamed n = some g∧(P.globals[g]?).map (·.type) = some t∧t < P.types.size∧intsTy P 3 t = true∧litsN 3 d = some vs∧xs = vs.map D.v∧vs.all plainV = true) : GOK w (allPr w):=by
  obtain ⟨ps,hv,_,_⟩:=h
  intro g xs hg
  obtain ⟨n,d,vs,t,hm,h1,h2,h3,h4,h5,rfl,h6⟩:=hc g xs hg
  obtain ⟨g',t',cs,fuel,p,k1,k2,k3,k4⟩:=laid_mem hv hm
  rw [h1] at k1; cases k1
  rw [h2] at k2; cases k2
  have e:=trod_lits hl 3 t fuel _ _ _ _ h3 h4 k4 h5
  have cell : ∀ i v,vs[i]? = some v→w.cell? ⟨g,0 + i,none⟩ = some v:=fun i v hi=>by
    rw [Nat.zero_add,World.var?_cell h1 k3 i,← Array.getElem?_toList,e]; exact hi
  refine .lptr (fun j=>vs.getD j undef) (fun j hj=>?_) fun j d hd=>?_
  · have hj' : j < vs.length:=by simpa using hj
    have hv':=List.getElem?_eq_getElem hj'
    have:=cell j _ hv'
    simp only [List.getD,hv',Option.getD_some]
    exact ⟨this,World.block_lt_of_cell? w _ this,plainV_oneCell (List.all_eq_true.1 h6 _ (List.getElem_mem hj'))⟩
  · rw [List.getElem?_map,Option.map_eq_some_iff] at hd
    obtain ⟨v,hv',rfl⟩:=hd
    simp only [List.getD,hv',Option.getD_some]
    exact .v (List.all_eq_true.1 h6 v (List.mem_of_getElem? hv'))
end
end Go.Proofs.YtkcfpgaepmllhaaGreatDoor
namespace Go.Proofs.YtkcfpgaepmllhaaGreatDoor
open Go.ChangeShapes Go.WideShapes Go.ChangeAt Go.RowKit
set_option maxRecDepth 100000
theorem laidOut : laidOutB Tryz.prog = true:=by kernel_rfl
theorem ownK : ownKnob Tryz.prog.godebug = none:=by kernel_rfl
theorem mixedP : Tryz.prog.follows .mixedOrders = true:=by kernel_rfl
def laidL : List (String × DataW Unit):=Rows.fieldSmallRow.laid
theorem gok_seat {W : World} (h : laidMet Tryz.prog laidL W) : GOK W (allPr W):=by
  refine gok_of_laid laidOut h fun g xs hg=>?_
  unfold globT at hg
  split at hg <;> cases hg
  · exact ⟨_,Rows.laid_finesse_match_gets,[.int .i64 0,.int .i64 1,.int .i64 2],103,show _ ∈ Rows.fieldSmallRow.laid from .head _,by kernel_rfl,by kernel_rfl,of_decide_eq_true (by kernel_rfl),by kernel_rfl,rfl,rfl,rfl⟩
  · exact ⟨_,Rows.laid_finesse_score_value,[.int .i64 20,.int .i64 20,.int .i64 30,.int .i64 30,.int .i64 30],378,show _ ∈ Rows.fieldSmallRow.laid from .tail _ (.head _),by kernel_rfl,by kernel_rfl,of_decide_eq_true (by kernel_rfl),by kernel_rfl,rfl,rfl,rfl⟩
  · exact ⟨_,Rows.laid_finesse_score_factor,[.int .i64 1,.int .i64 2,.int .i64 4],103,show _ ∈ Rows.fieldSmallRow.laid from .tail _ (.tail _ (.head _)),by kernel_rfl,by kernel_rfl,of_decide_eq_true (by kernel_rfl),by kernel_rfl,rfl,rfl,rfl⟩
  · exact ⟨_,Rows.laid_finesse_score_more,[.int .i64 0,.int .i64 0,.int .i64 100,.int .i64 200,.int .i64 200,.int .i64 400],379,show _ ∈ Rows.fieldSmallRow.laid from .tail _ (.tail _ (.tail _ (.tail _ (.head _)))),by kernel_rfl,by kernel_rfl,of_decide_eq_true (by kernel_rfl),by kernel_rfl,rfl,rfl,rfl⟩
  · exact ⟨_,Rows.laid_finesse_score_insult,[.int .i64 0,.int .i64 50,.int .i64 100],103,show _ ∈ Rows.fieldSmallRow.laid from .tail _ (.tail _ (.tail _ (.head _))),by kernel_rfl,by kernel_rfl,of_decide_eq_true (by kernel_rfl),by kernel_rfl,rfl,rfl,rfl⟩
noncomputable def laidWorld (os : Os) : World:=
  let w0:=World.holding Tryz.prog os ⟨#[],#[],[]⟩
  let put:=fun (h : Array Obj) (g : Nat) (l : List Int)=>h.modify g fun
    | .cells _ t frozen=>.cells (l.map fun z=>Value.int .i64 z).toArray t frozen
    | o=>o
  { w0 with heap:=put (put (put (put (put w0.heap 2 [0,1,2]) 3 [20,20,30,30,30]) 4 [1,2,4]) 5 [0,0,100,200,200,400]) 6 [0,50,100] }
theorem laidWorld_met (os : Os) (args : Array Value) : laidMet Tryz.prog laidL ((laidWorld os).forCall (fun _ _=>0) ⟨#[],args,[]⟩).memory:=
  laidMet_of_run' 8 (by kernel_rfl) (by kernel_rfl)
end Go.Proofs.YtkcfpgaepmllhaaGreatDoor
namespace Go.Proofs.YtkcfpgaepmllhaaGreatDoor
open Go.RowKit
abbrev two64 : Int:=18446744073709551616
def add64V : List D→Option D
  | [.v (.int .u64 x),.v (.int .u64 y),.v (.int .u64 c)]=>if 0≤x∧0≤y∧0≤c∧c≤1 then some (.tup [.v (.int .u64 ((x + y + c) % two64)),.v (.int .u64 ((x + y + c) / two64))]) else none
  | _=>none
def sub64V : List D→Option D
  | [.v (.int .u64 x),.v (.int .u64 y),.v (.int .u64 c)]=>if (0≤x∧0≤y∧y < two64)∧0≤c∧c≤1 then some (.tup [.v (.int .u64 ((x + two64 - y - c) % two64)),.v (.int .u64 (if x < y + c then 1 else 0))]) else none
  | _=>none
def bitsH : FP:=fun f ds=>if f = 152 then add64V ds else if f = 153 then sub64V ds else none
theorem rep3 {w : World} {pr : Prot} {tk : Places} {cargs : Array Value} {x y c : Value} (h : Reps w pr tk cargs.toList [.v x,.v y,.v c]) : cargs = #[x,y,c]:=by
  obtain ⟨l⟩:=cargs
  match l,h with
  | [a,b,d],⟨h1,h2,h3,_⟩=>
    obtain ⟨rfl,_⟩:=rep_v.1 h1
    obtain ⟨rfl,_⟩:=rep_v.1 h2
    obtain ⟨rfl,_⟩:=rep_v.1 h3
    rfl
theorem rep_pair {w : World} {pr : Prot} {tk : Places} (k q : IntKind) (a b : Int) : Rep w pr tk (.tuple #[.int k a,.int q b]) (.tup [.v (.int k a),.v (.int q b)]):=
  .tup rfl fun i c x hc hx=>by
    match i with
    | 0=>simp at hc hx; subst hc hx; exact .v rfl
    | 1=>simp at hc hx; subst hc hx; exact .v rfl
    | i + 2=>simp at hx
theorem bits_sound : Sound Tryz.prog (env0 bitsH) where
  p f ds d _ h:=by
    replace h : (if f = 152 then add64V ds else if f = 153 then sub64V ds else none) = some d:=h
    split at h
    · rename_i hf
      subst hf
      unfold add64V at h
      split at h
      · rename_i x y c
        split at h <;> cases h
        rename_i hc
        refine VCp.toR (.inl fun w pr cargs hr=>?_) rfl
        rw [rep3 hr]
        refine ⟨_,?_,rep_pair _ _ _ _⟩
        rw [run_callFunc_extern (fn:=Tryz.f152) Tryz.func152 (by kernel_rfl) (by kernel_rfl) (by kernel_rfl) (e:=add64Entry) (by kernel_rfl),run_add64 x y c hc.1 hc.2.1 hc.2.2.1 hc.2.2.2]
        rfl
      · cases h
    split at h
    · rename_i hf
      subst hf
      unfold sub64V at h
      split at h
      · rename_i x y c
        split at h <;> cases h
        rename_i hc
        obtain ⟨⟨h1,h2,h3⟩,h4,h5⟩:=hc
        refine VCp.toR (.inl fun w pr cargs hr=>?_) rfl
        rw [rep3 hr]
        refine ⟨_,?_,rep_pair _ _ _ _⟩
        obtain ⟨X,rfl⟩:=Int.eq_ofNat_of_zero_le h1
        obtain ⟨Y,rfl⟩:=Int.eq_ofNat_of_zero_le h2
        obtain ⟨b,rfl⟩:=Int.eq_ofNat_of_zero_le h4
        rw [run_callFunc_extern (fn:=Tryz.f153) Tryz.func153 (by kernel_rfl) (by kernel_rfl) (by kernel_rfl) (e:=sub64Entry) (by kernel_rfl),run_sub64 X Y b (by omega)]
        simp only [Result.andThen]
        have e1 : (((X + 18446744073709551616 - Y - b) % 18446744073709551616 : Nat) : Int) = ((X : Int) + two64 - Y - b) % two64:=by unfold two64 at h3 ⊢; omega
        have e2 : ((if X < Y + b then 1 else 0 : Nat) : Int) = if (X : Int) < Y + b then 1 else 0:=by
          split <;> split <;> first | rfl | omega
        rw [e1,e2]
      · cases h
    · cases h
  e k f ds r hf h:=by
    have h : (if 1000000 + (1000000 * k + f) = 152 then add64V ds else if 1000000 + (1000000 * k + f) = 153 then sub64V ds else none) = some r:=h
    rw [if_neg (by omega),if_neg (by omega)] at h
    cases h
end Go.Proofs.YtkcfpgaepmllhaaGreatDoor
namespace Go.Proofs
open Go.Shelf
def Tryz.sortKey_ren : Go.Shelf.Ren:=⟨fun | 6=>57 | 15=>81 | 14=>94 | 28=>132 | 29=>133 | 20=>140 | 21=>141 | 22=>142 | 23=>143 | 24=>144 | 25=>145 | 26=>146 | 27=>147 | 46=>186 | 47=>174 | 48=>175 | 49=>187 | 50=>188 | 57=>238 | n=>n,fun | 22=>62 | 24=>68 | 25=>135 | 3=>3 | 39=>170 | 0=>0 | 53=>228 | 55=>198 | 4=>4 | 46=>222 | 45=>221 | 50=>182 | 5=>5 | 9=>9 | 66=>265 | 70=>269 | 76=>332 | 77=>307 | n=>n,fun | n=>n⟩
theorem Tryz.sortKey : Go.Proofs.SlLaysF0.n6 Tryz.prog Tryz.sortKey_ren:={
  mixed:=by kernel_rfl
  f6:=⟨Tryz.f57.name,by decide,Tryz.func57.trans (congrArg some (by kernel_rfl))⟩
  f14:=⟨Tryz.f94.name,by decide,Tryz.func94.trans (congrArg some (by kernel_rfl))⟩
  f15:=Tryz.func81.trans (congrArg some (by kernel_rfl))
  f20:=⟨Tryz.f140.name,by decide,Tryz.func140.trans (congrArg some (by kernel_rfl))⟩
  f21:=⟨Tryz.f141.name,by decide,Tryz.func141.trans (congrArg some (by kernel_rfl))⟩
  f22:=⟨Tryz.f142.name,by decide,Tryz.func142.trans (congrArg some (by kernel_rfl))⟩
  f23:=⟨Tryz.f143.name,by decide,Tryz.func143.trans (congrArg some (by kernel_rfl))⟩
  f24:=⟨Tryz.f144.name,by decide,Tryz.func144.trans (congrArg some (by kernel_rfl))⟩
  f25:=⟨Tryz.f145.name,by decide,Tryz.func145.trans (congrArg some (by kernel_rfl))⟩
  f26:=⟨Tryz.f146.name,by decide,Tryz.func146.trans (congrArg some (by kernel_rfl))⟩
  f27:=⟨Tryz.f147.name,by decide,Tryz.func147.trans (congrArg some (by kernel_rfl))⟩
  f28:=Tryz.func132.trans (congrArg some (by kernel_rfl))
  f29:=Tryz.func133.trans (congrArg some (by kernel_rfl))
  f46:=⟨Tryz.f186.name,by decide,Tryz.func186.trans (congrArg some (by kernel_rfl))⟩
  f47:=Tryz.func174.trans (congrArg some (by kernel_rfl))
  f48:=Tryz.func175.trans (congrArg some (by kernel_rfl))
  f49:=⟨Tryz.f187.name,by decide,Tryz.func187.trans (congrArg some (by kernel_rfl))⟩
  f50:=⟨Tryz.f188.name,by decide,Tryz.func188.trans (congrArg some (by kernel_rfl))⟩
  f57:=⟨Tryz.f238.name,by decide,Tryz.func238.trans (congrArg some (by kernel_rfl))⟩
  t0:=Tryz.underlying0
  a0:=Tryz.isAgg0
  z0:=Tryz.sizeOf0
  v0:=Tryz.zeroValue0
  t3:=Tryz.underlying3
  a3:=Tryz.isAgg3
  z3:=Tryz.sizeOf3
  v3:=Tryz.zeroValue3
  t4:=Tryz.underlying4
  a4:=Tryz.isAgg4
  z4:=Tryz.sizeOf4
  v4:=Tryz.zeroValue4
  t5:=Tryz.underlying5
  a5:=Tryz.isAgg5
  z5:=Tryz.sizeOf5
  v5:=Tryz.zeroValue5
  t9:=Tryz.underlying9
  a9:=Tryz.isAgg9
  z9:=Tryz.sizeOf9
  v9:=Tryz.zeroValue9
  t22:=Tryz.underlying62
  a22:=Tryz.isAgg62
  z22:=Tryz.sizeOf62
  v22:=Tryz.zeroValue62
  t25:=Tryz.underlying135
  a25:=Tryz.isAgg135
  z25:=Tryz.sizeOf135
  v25:=Tryz.zeroValue135
  t39:=Tryz.underlying170
  a39:=Tryz.isAgg170
  z39:=Tryz.sizeOf170
  v39:=Tryz.zeroValue170
  t45:=Tryz.underlying221
  a45:=Tryz.isAgg221
  z45:=Tryz.sizeOf221
  v45:=Tryz.zeroValue221
  t46:=Tryz.underlying222
  a46:=Tryz.isAgg222
  z46:=Tryz.sizeOf222
  v46:=Tryz.zeroValue222
  t50:=Tryz.underlying182
  a50:=Tryz.isAgg182
  z50:=Tryz.sizeOf182
  v50:=Tryz.zeroValue182
  t53:=Tryz.underlying228
  a53:=Tryz.isAgg228
  z53:=Tryz.sizeOf228
  v53:=Tryz.zeroValue228
  t55:=Tryz.underlying198
  a55:=Tryz.isAgg198
  z55:=Tryz.sizeOf198
  v55:=Tryz.zeroValue198
  t66:=Tryz.underlying265
  a66:=Tryz.isAgg265
  z66:=Tryz.sizeOf265
  v66:=Tryz.zeroValue265
  t70:=Tryz.underlying269
  a70:=Tryz.isAgg269
  z70:=Tryz.sizeOf269
  v70:=Tryz.zeroValue269
  t76:=Tryz.underlying332
  a76:=Tryz.isAgg332
  z76:=Tryz.sizeOf332
  v76:=Tryz.zeroValue332
  t77:=Tryz.underlying307
  a77:=Tryz.isAgg307
  z77:=Tryz.sizeOf307
  v77:=Tryz.zeroValue307 }
end Go.Proofs
namespace Go.Proofs.YtkcfpgaepmllhaaGreatDoor
open Go.RowKit Go.Lib Go.Sort
theorem chg_grow {w w' : World} (h : Chg (fun _=>False) w w') : ∃ q os',w' = grow (w.drewN q) os':=by
  refine ⟨w'.drawn - w.drawn,w'.heap.extract w.heap.size w'.heap.size,?_⟩
  have hh : w'.heap = w.heap ++ w'.heap.extract w.heap.size w'.heap.size:=by
    apply Array.ext_getElem?
    intro i
    by_cases hi : i < w.heap.size
    · rw [Array.getElem?_append_left hi]; exact h.block i hi id
    · rw [Array.getElem?_append_right (by omega)]
      have hs:=h.size
      by_cases hj : i < w'.heap.size
      · rw [Array.getElem?_eq_getElem hj,Array.getElem?_eq_getElem (by simp; omega)]
        simp only [Array.getElem_extract]
        congr 2; omega
      · rw [Array.getElem?_eq_none (by omega),Array.getElem?_eq_none (by simp; omega)]
  have hd:=h.drawn
  have h1:=h.os
  have h2:=h.tape
  have h3:=h.output
  obtain ⟨heap,tape,drawn,os,output⟩:=w
  obtain ⟨heap',tape',drawn',os',output'⟩:=w'
  simp only [grow,World.drewN] at *
  subst h1 h2 h3
  rw [← hh]
  congr 1; omega
end Go.Proofs.YtkcfpgaepmllhaaGreatDoor
namespace Go.Proofs.YtkcfpgaepmllhaaGreatDoor
open Go.RowKit Go.Lib Go.Sort Go.Shelf
def valOf : D→Value
  | .v x=>x
  | _=>undef
def plainD : D→Bool
  | .v x=>plainV x
  | _=>false
theorem rep_plainD {w : World} {pr : Prot} {tk : Places} {u : Value} {d : D} (h : Rep w pr tk u d) (hd : plainD d = true) : u = valOf d:=by
  cases d <;> simp only [plainD] at hd <;> try (cases hd; done)
  exact (rep_v.1 h).1
theorem plainD_rep {w : World} {pr : Prot} {tk : Places} {d : D} (hd : plainD d = true) : Rep w pr tk (valOf d) d:=by
  cases d <;> simp only [plainD] at hd <;> try (cases hd; done)
  exact .v hd
structure CmpD (P : Program) (g k : Nat) (good : List D→Bool) (cf : List D→List D→Int) : Prop where
  len : ∀ x,good x = true→x.length = k
  pl : ∀ x,good x = true→∀ d ∈ x,plainD d = true
  ok : ∀ x y,good x = true→good y = true→VCp P g [.agg x,.agg y] (.v (.int .i64 (cf x y)))
  body : HasBody P g
  lt : g < 1000000
  irrefl : ∀ x,good x = true→¬ cf x x < 0
  trans : ∀ x y z,good x = true→good y = true→good z = true→cf x y < 0→cf y z < 0→cf x z < 0
  ntrans : ∀ x y z,good x = true→good y = true→good z = true→¬ cf x y < 0→¬ cf y z < 0→¬ cf x z < 0
  anti : ∀ x y,good x = true→good y = true→¬ cf x y < 0→¬ cf y x < 0→x = y
theorem VCp.calls {P : Program} {f : Nat} {ds : List D} {d : D} (h : VCp P f ds d) (hb : HasBody P f) {w : World} {pr : Prot} {cargs : Array Value} (hpr : ∀ b o,pr b o→b < w.heap.size) (hG : GOK w pr) (hr : Reps w pr noTok cargs.toList ds) :
    Calls P f cargs w fun e w'=>∃ v pr',e = .returned v∧Chg (fun _=>False) w w'∧(∀ b o,pr b o→pr' b o)∧(∀ b o,pr' b o→pr b o ∨ (w.heap.size≤b∧b < w'.heap.size))∧Rep w' pr' noTok v d:=by
  rcases h with h | ⟨_,h⟩
  · obtain ⟨v,h1,_⟩:=h w pr cargs hr
    rw [run_callFunc hb] at h1
    cases h1
  · exact h w pr cargs hpr hG hr
def insS {α : Type} (lt : α→α→Bool) (x : α) : List α→List α
  | []=>[x]
  | y :: r=>bif lt x y then x :: y :: r else y :: insS lt x r
def sortS {α : Type} (lt : α→α→Bool) : List α→List α
  | []=>[]
  | x :: r=>insS lt x (sortS lt r)
theorem insS_perm {α : Type} (lt : α→α→Bool) (x : α) : ∀ (l : List α),(insS lt x l).Perm (x :: l)
  | []=>.refl _
  | y :: r=>by
    simp only [insS]
    cases lt x y
    · exact ((insS_perm lt x r).cons y).trans (.swap x y r)
    · exact .refl _
theorem sortS_perm {α : Type} (lt : α→α→Bool) : ∀ (l : List α),(sortS lt l).Perm l
  | []=>.refl _
  | x :: r=>(insS_perm lt x _).trans ((sortS_perm lt r).cons x)
theorem insS_sorted {α : Type} {lt : α→α→Bool} (h : SWO lt) (x : α) : ∀ {l : List α},l.Pairwise (fun a b=>lt b a = false)→(insS lt x l).Pairwise (fun a b=>lt b a = false)
  | [],_=>by simp [insS]
  | y :: r,hp=>by
    obtain ⟨h1,h2⟩:=List.pairwise_cons.1 hp
    simp only [insS]
    cases hl : lt x y
    · refine List.pairwise_cons.2 ⟨fun z hz=>?_,insS_sorted h x h2⟩
      rcases List.mem_cons.1 ((insS_perm lt x r).mem_iff.1 hz) with rfl | hz
      · exact hl
      · exact h1 z hz
    · refine List.pairwise_cons.2 ⟨fun z hz=>?_,hp⟩
      rcases List.mem_cons.1 hz with rfl | hz
      · cases hq : lt z x
        · rfl
        · have:=h.trans _ _ _ hl hq; rw [h.irrefl] at this; cases this
      · cases hq : lt z x
        · rfl
        · have:=h.trans _ _ _ hq hl; rw [h1 z hz] at this; cases this
theorem sortS_sorted {α : Type} {lt : α→α→Bool} (h : SWO lt) : ∀ (l : List α),(sortS lt l).Pairwise (fun a b=>lt b a = false)
  | []=>.nil
  | x :: r=>insS_sorted h x (sortS_sorted h r)
theorem insS_map {α β : Type} {lt : α→α→Bool} {lt' : β→β→Bool} {f : α→β} (h : ∀ x y,lt' (f x) (f y) = lt x y) (x : α) : ∀ (l : List α),(insS lt x l).map f = insS lt' (f x) (l.map f)
  | []=>rfl
  | y :: r=>by
    simp only [insS,List.map_cons,h]
    cases lt x y
    · simp [insS_map h x r]
    · simp
theorem sortS_map {α β : Type} {lt : α→α→Bool} {lt' : β→β→Bool} {f : α→β} (h : ∀ x y,lt' (f x) (f y) = lt x y) : ∀ (l : List α),(sortS lt l).map f = sortS lt' (l.map f)
  | []=>rfl
  | x :: r=>by simp only [sortS,List.map_cons,insS_map h,sortS_map h r]
theorem pdq_sortS {α : Type} [Inhabited α] {lt : α→α→Bool} (h : SWO lt) (ha : ∀ x y,lt x y = false→lt y x = false→x = y) (l : List α) : (pdq lt l.toArray 0 l.toArray.size (Lib.bitLen l.toArray.size) true true).toList = sortS lt l:=by
  obtain ⟨h1,h2⟩:=pdq_sorts lt h l.toArray 0 l.toArray.size (Lib.bitLen l.toArray.size) true true (Nat.zero_le _) (Nat.le_refl _) (Or.inl rfl)
  rw [sorted_unique_holds h ha _ _ h1 h2]
  have hp:=sortS_perm lt l
  have hl:=hp.length_eq
  refine (sorted_unique_holds h ha l.toArray (sortS lt l).toArray ⟨by simpa using hl,fun i hi=>?_,by simpa [hl,List.take_of_length_le (Nat.le_of_eq hl)] using hp⟩ ?_).symm
  · have hi : l.length≤i:=by rcases hi with h | h; omega; simpa using h
    rw [getElem!_neg _ _ (by simp; omega),getElem!_neg _ _ (by simp; omega)]
  · intro i j _ hij hj
    have hj : j < l.length:=by simpa using hj
    have hs:=List.pairwise_iff_getElem.1 (sortS_sorted h l) i j (by omega) (by omega) hij
    rw [getElem!_pos _ _ (by simp; omega),getElem!_pos _ _ (by simp; omega)]
    simpa using hs
section
variable {P : Program} {g k : Nat} {good : List D→Bool} {cf : List D→List D→Int}
def ltD (cf : List D→List D→Int) (x y : List D) : Bool:=decide (cf x y < 0)
abbrev Good (good : List D→Bool):={x : List D // good x = true}
def encD (x : Good good) : List Value:=x.1.map valOf
theorem CmpD.swo (K : CmpD P g k good cf) : SWO (ltOf fun x y : Good good=>cf x.1 y.1):=
  ⟨fun x=>decide_eq_false (K.irrefl x.1 x.2),fun x y z h1 h2=>decide_eq_true (K.trans x.1 y.1 z.1 x.2 y.2 z.2 (of_decide_eq_true h1) (of_decide_eq_true h2)),
    fun x y z h1 h2=>decide_eq_false (K.ntrans x.1 y.1 z.1 x.2 y.2 z.2 (of_decide_eq_false h1) (of_decide_eq_false h2))⟩
theorem CmpD.antiG (K : CmpD P g k good cf) (x y : Good good) (h1 : ltOf (fun x y : Good good=>cf x.1 y.1) x y = false) (h2 : ltOf (fun x y : Good good=>cf x.1 y.1) y x = false) : x = y:=
  Subtype.ext (K.anti x.1 y.1 x.2 y.2 (of_decide_eq_false h1) (of_decide_eq_false h2))
theorem CmpD.sort (K : CmpD P g k good cf) {ρ : Shelf.Ren} (L : SlLaysF0.n6 P ρ) (aE : ∀ w, (isAgg (ρ.t 24)).run P w = .ok true w) (zE : ∀ w, (Go.sizeOf (ρ.t 24)).run P w = .ok k w) (hb : HasBody P (ρ.f 6))
     {x0 : List D} (hx0 : good x0 = true) {es : List (List D)} (hes : ∀ x ∈ es,good x = true) (hlen : es.length < 4611686018427387904) (hnil : es = []→VCp P (ρ.f 6) [.list [],.clo g []] (.tup [])) :
    VEp P 0 (ρ.f 6) [.list es,.clo g []] es (sortS (ltD cf) es) (.tup []):=by
  refine ⟨hb,(sortS_perm _ es).length_eq,fun w pr cargs hpr hG hcs hoth=>?_⟩
  have hc1 : cargs[1]? = some (.func (.func g) #[] #[]):=by
    have h1 : (1 : Nat) < cargs.size:=by rw [hcs]; simp
    have h:=hoth 1 _ _ (by decide) (Array.getElem?_eq_getElem h1) rfl
    rw [Array.getElem?_eq_getElem h1]
    generalize cargs[1] = v at h
    have hlt:=K.lt
    cases h with
    | clo hf hs hr=>have:=Array.eq_empty_of_size_eq_zero hs; subst this; rfl
    | bclo hs hr=>omega
  have two : ∀ v,cargs[0]? = some v→cargs = #[v,.func (.func g) #[] #[]]:=fun v hv=>by
    obtain ⟨l⟩:=cargs
    match l,hcs,hv,hc1 with
    | [a,b],_,hv,hc1=>simp at hv hc1; subst hv hc1; rfl
  refine ⟨fun he hk=>?_,fun b cap t C hnb hheap hle hcap hCs hrow hk=>?_⟩
  · subst he
    rw [two _ hk]
    exact (hnil rfl).calls hb hpr hG ⟨.nil',.clo K.lt rfl fun i c x h=>by simp at h,trivial⟩
  rw [two _ hk]
  letI : Inhabited (Good good):=⟨⟨x0,hx0⟩⟩
  obtain ⟨l,rfl⟩ : ∃ l : List (Good good),es = l.map (·.1):=⟨es.pmap Subtype.mk hes,by simp [List.map_pmap]⟩
  have hbs : b < w.heap.size:=(Array.getElem?_eq_some_iff.1 hheap).1
  have hkt : l ≠ []→k = P.cellsOf t:=fun hne=>by
    cases l with
    | nil=>exact absurd rfl hne
    | cons x r=>rw [← hrow.1 x.1 (by simp)]; exact (K.len x.1 x.2).symm
  have encl : ∀ x : Good good,(encD x).length = k:=fun x=>by simp [encD,K.len x.1 x.2]
  have cellE : ∀ (d : Array (Good good)) (j : Nat),j < d.size * k→(flatK encD k d)[j]! = valOf ((d[j / k]!).1[j % k]!):=fun d j hj=>by
    have hk0 : 0 < k:=by rcases Nat.eq_zero_or_pos k with h | h; subst h; simp at hj; exact h
    have hm : j % k < k:=Nat.mod_lt _ hk0
    have hl:=K.len _ (d[j / k]!).2
    rw [get_flatK _ _ _ _ hj]
    have e1 : (encD (d[j / k]!))[j % k]! = (encD (d[j / k]!))[j % k]'(by rw [encl]; exact hm):=getElem!_pos _ _ _
    have e2 : (d[j / k]!).1[j % k]! = (d[j / k]!).1[j % k]'(by rw [hl]; exact hm):=getElem!_pos _ _ _
    rw [e1,e2]
    simp [encD]
  have hH : HoldsK encD k w b 0 l.toArray:=fun j hj=>by
    simp only [size_flatK,List.size_toArray] at hj
    have hk0 : 0 < k:=by rcases Nat.eq_zero_or_pos k with h | h; subst h; simp at hj; exact h
    have hm : j % k < k:=Nat.mod_lt _ hk0
    have hd : j / k < l.length:=Nat.div_lt_of_lt_mul (by rw [Nat.mul_comm]; exact hj)
    have hne : l ≠ []:=by rintro rfl; simp at hd
    have hx:=K.len _ (l[j / k]).2
    obtain ⟨u,h1,h2,h3⟩:=hrow.2 (j / k) (l[j / k]).1 (by simp [hd]) (j % k) _ (List.getElem?_eq_getElem (by rw [hx]; exact hm))
    rw [← hkt hne,Nat.mul_comm,Nat.div_add_mod] at h1
    have hu:=rep_plainD h3 (K.pl _ (l[j / k]).2 _ (List.getElem_mem _))
    refine ⟨?_,?_⟩
    · rw [cellE _ _ (by simpa using hj),getElem!_pos l.toArray (j / k) (by simpa using hd)]
      simp only [List.getElem_toArray]
      rw [getElem!_pos _ _ (by rw [hx]; exact hm),← hu,Nat.zero_add,cell_of_row w b _ C t (0,0) hheap]
      exact h1
    · simp [World.frozen?,hheap]
  have hcmp : CmpLays P g #[] encD k (fun x y : Good good=>cf x.1 y.1) b 0 l.toArray.size w:=fun m os dk hdk x y=>by
    have hrep : ∀ x : Good good,Rep (sortWorldK encD k w b 0 m dk os) pr noTok (.agg (encD x).toArray) (.agg x.1):=fun x=>.agg (by simp [encD]) (fun i c hc=>by
        simp only [encD,List.getElem?_toArray,List.getElem?_map,Option.map_eq_some_iff] at hc
        obtain ⟨d,hd,rfl⟩:=hc
        have:=K.pl _ x.2 d (List.mem_of_getElem? hd)
        cases d <;> simp only [plainD] at this <;> try (cases this; done)
        exact plainV_oneCell this) (fun i c d hc hd=>by
        simp only [encD,List.getElem?_toArray,List.getElem?_map,hd,Option.map_some,Option.some.injEq] at hc
        subst hc
        exact plainD_rep (K.pl _ x.2 d (List.mem_of_getElem? hd)))
    have hblk : ∀ b' o,pr b' o→(sortWorldK encD k w b 0 m dk os).heap[b']? = w.heap[b']?:=fun b' o h=>by
      have hlt:=hpr b' o h
      unfold sortWorldK
      rw [heap_grow_old _ _ (by simpa [putRowK,ahead] using hlt)]
      have : b ≠ b':=fun e=>hnb o (e ▸ h)
      simp [putRowK,putRow,mapBlock,Array.getElem?_modify,this,ahead]
    have hsize : w.heap.size≤(sortWorldK encD k w b 0 m dk os).heap.size:=by simp [sortWorldK,putRowK,ahead]
    refine ((K.ok x.1 y.1 x.2 y.2).calls K.body (cargs:=#[.agg (encD x).toArray,.agg (encD y).toArray]) (pr:=pr) (fun b' o h=>Nat.lt_of_lt_of_le (hpr b' o h) hsize) (hG.keeps fun b' o h=>⟨hblk b' o h,h⟩) ⟨hrep x,hrep y,trivial⟩).mono ?_
    rintro e w' ⟨v,pr',rfl,hchg,_,_,hv⟩
    obtain ⟨rfl,_⟩:=rep_v.1 hv
    exact ⟨rfl,chg_grow hchg⟩
  have law:=AnyQ.slices_SortFunc_eq (P:=P) (ρ:=ρ) L k aE zE encD encl (fun x v hv=>by
    obtain ⟨d,hd,rfl⟩:=List.mem_map.1 hv
    have:=K.pl _ x.2 d hd
    cases d <;> simp only [plainD] at this <;> try (cases this; done)
    exact plainV_oneCell this) (fun x y : Good good=>cf x.1 y.1) K.swo g #[] b 0 cap l.toArray w (fun args w=>run_callFunc K.body) hcmp hH hbs (by simpa using hlen)
  have hp:=pdq_sortS K.swo K.antiG l
  have hd2 : (pdq (ltOf fun x y : Good good=>cf x.1 y.1) l.toArray 0 l.toArray.size (Lib.bitLen l.toArray.size) true true) = (sortS (ltOf fun x y : Good good=>cf x.1 y.1) l).toArray:=by rw [← hp]
  rw [hd2] at law
  clear hd2 hp
  have hsl:=(sortS_perm (ltOf fun x y : Good good=>cf x.1 y.1) l).length_eq
  have hmap : (sortS (ltOf fun x y : Good good=>cf x.1 y.1) l).map (·.1) = sortS (ltD cf) (l.map (·.1)):=sortS_map (lt:=ltOf fun x y : Good good=>cf x.1 y.1) (lt':=ltD cf) (f:=fun x=>x.1) (fun x y=>rfl) l
  generalize sortS (ltOf fun x y : Good good=>cf x.1 y.1) l = l' at law hsl hmap
  rw [← hmap]
  simp only [List.size_toArray] at law
  simp only [List.length_map]
  refine law.mono ?_
  rintro e w' ⟨rfl,n,os,rfl⟩
  have hheap' : (sortWorldK encD k w b 0 n l'.toArray os).heap[b]? = some (.cells (Sort.putCells id 0 (flatK encD k l'.toArray) C) t (0,0)):=by
    unfold sortWorldK
    rw [heap_grow_old _ _ (by simpa [putRowK,ahead] using hbs)]
    simp [putRowK,putRow,mapBlock,Array.getElem?_modify,ahead,hheap,onCells]
  have hsize : w.heap.size≤(sortWorldK encD k w b 0 n l'.toArray os).heap.size:=by simp [sortWorldK,putRowK,ahead]
  refine ⟨_,pr,Sort.putCells id 0 (flatK encD k l'.toArray) C,rfl,⟨rfl,rfl,rfl,hsize,fun b' hb' hne=>?_,?_⟩,fun _ _ h=>h,fun _ _ h=>.inl h,.tup rfl (fun i c x h=>by simp at h),hheap',by simp [Sort.putCells],?_,?_⟩
  · unfold sortWorldK
    rw [heap_grow_old _ _ (by simpa [putRowK,ahead] using hb')]
    have : b ≠ b':=fun e=>hne e.symm
    simp [putRowK,putRow,mapBlock,Array.getElem?_modify,this,ahead]
  · simp [sortWorldK,grow,putRowK,ahead]
  · intro c hc
    obtain ⟨x,hx,rfl⟩:=List.mem_map.1 hc
    rw [K.len _ x.2]
    exact hkt (by rintro rfl; simp at hsl; simp [hsl] at hx)
  · intro i c hc j d hd
    simp only [List.getElem?_map,Option.map_eq_some_iff] at hc
    obtain ⟨x,hx,rfl⟩:=hc
    have hi : i < l'.length:=(List.getElem?_eq_some_iff.1 hx).1
    have hj : j < k:=by rw [← K.len _ x.2]; exact (List.getElem?_eq_some_iff.1 hd).1
    have hne : l ≠ []:=by rintro rfl; simp at hsl; simp [hsl] at hi
    have hk:=hkt hne
    have e1 : (i * k + j) / k = i:=(blk_iff k i _ (by omega)).1 ⟨by omega,by omega⟩
    have e2 : (i * k + j) % k = j:=by rw [Nat.mod_eq_sub_div_mul,e1]; omega
    have lt : i * k + j < l'.length * k:=by
      have:=Nat.mul_le_mul_right k (show i + 1≤l'.length from hi); rw [Nat.add_mul,Nat.one_mul] at this; omega
    have hCl : i * k + j < C.size:=by
      rw [hCs,← hk]
      have:=Nat.mul_le_mul_right k (show l'.length≤cap by rw [hsl]; simpa using hle)
      omega
    have hpl:=K.pl _ x.2 d (List.mem_of_getElem? hd)
    refine ⟨valOf d,?_,?_,plainD_rep hpl⟩
    · rw [← hk]
      simp only [Sort.putCells,Array.getElem?_mapIdx,Array.getElem?_eq_getElem hCl,Option.map_some]
      rw [if_pos ⟨Nat.zero_le _,by rw [size_flatK]; simpa using lt⟩,Nat.sub_zero,cellE _ _ (by simpa using lt),e1,e2,getElem!_pos l'.toArray i (by simpa using hi)]
      simp only [List.getElem_toArray,id]
      rw [(List.getElem?_eq_some_iff.1 hx).2]
      obtain ⟨hd1,hd2⟩:=List.getElem?_eq_some_iff.1 hd
      rw [getElem!_pos x.1 j hd1,hd2]
    · cases d <;> simp only [plainD] at hpl <;> try (cases hpl; done)
      exact plainV_oneCell hpl
end
end Go.Proofs.YtkcfpgaepmllhaaGreatDoor
namespace Go.Proofs.YtkcfpgaepmllhaaGreatDoor
open Go.RowKit
set_option maxRecDepth 100000
theorem tm148_eq : tm148 = .lets [.mk (.pk (.ibin .neq)) [.t 0,.t 0]] (.ret (.mk .nrm [.t 1])):=by kernel_rfl
theorem tm96_eq : tm96 = .lets [.mk (.call false 148) [.mk .nrm [.t 0]]] (.lets [.mk (.call false 148) [.mk .nrm [.t 1]]] (.ite (.t 2) (.ite (.t 3) (.ret (.mk .nrm [.q (.v (.int .i64 0))])) (.ret (.mk .nrm [.q (.v (.int .i64 (-1)))]))) (.ite (.t 3) (.ret (.mk .nrm [.q (.v (.int .i64 1))])) (.lets [.mk (.pk (.ibin .lss)) [.t 0,.t 1]] (.ite (.t 4) (.ret (.mk .nrm [.q (.v (.int .i64 (-1)))])) (.lets [.mk (.pk (.ibin .gtr)) [.t 0,.t 1]] (.ite (.t 5) (.ret (.mk .nrm [.q (.v (.int .i64 1))])) (.ret (.mk .nrm [.q (.v (.int .i64 0))]))))))))):=by kernel_rfl
theorem tm95_eq : tm95 = .lets [.mk (.pk .llen) [.t 0]] (.loop [.q (.v (.int .i64 0)),.q (.v (.int .i64 0))] (.lets [.mk (.pk (.ibin .lss)) [.t 2,.t 1]] (.ite (.t 4) (.lets [.mk (.pk (.load 1 false)) [.mk (.pk (.idx 3 1)) [.t 0,.t 2]]] (.lets [.mk (.pk (.ibin .neq)) [.t 5,.q (.v (.int .i64 0))]] (.ite (.t 6) (.ret (.mk .nrm [.t 5])) (.lets [.mk (.pk (.ibin .add)) [.t 2,.q (.v (.int .i64 1))]] (.next 0 [.t 7,.t 3]))))) (.ret (.mk .nrm [.q (.v (.int .i64 0))]))))):=by kernel_rfl
theorem tm58_eq : tm58 = .lets [.mk (.pk (.fbox 3)) [.t 1]] (.lets [.mk (.pk (.fbox 3)) [.t 0]] (.lets [.mk (.call false 96) [.mk .nrm [.mk (.pk (.load 1 false)) [.mk (.pk (.fld 0)) [.t 3]]],.mk .nrm [.mk (.pk (.load 1 false)) [.mk (.pk (.fld 0)) [.t 2]]]]] (.lets [.mk (.call false 96) [.mk .nrm [.mk (.pk (.load 1 false)) [.mk (.pk (.fld 1)) [.t 3]]],.mk .nrm [.mk (.pk (.load 1 false)) [.mk (.pk (.fld 1)) [.t 2]]]]] (.lets [.mk (.call false 96) [.mk .nrm [.mk (.pk (.load 1 false)) [.mk (.pk (.fld 2)) [.t 3]]],.mk .nrm [.mk (.pk (.load 1 false)) [.mk (.pk (.fld 2)) [.t 2]]]]] (.lets [.mk (.call true 95) [.mk (.lit 1 3 [(.v (.int .i64 0)),(.v (.int .i64 0)),(.v (.int .i64 0))] [(0,1),(1,1),(2,1)]) [.t 4,.t 5,.t 6]]] (.ret (.mk .nrm [.t 7]))))))):=by kernel_rfl
theorem GG_evalT {C : Cx} {H : FP} {N f n : Nat} {t : FT} (ho : OKF C f n t) {ds : List D} {d : D} (h0 : H f ds = none) (hlt : f < 1000000) (hl : ds.length = n) (hn : ds.all D.noT = true) (he : evalFT (GG C H N) N t [] ds = some d) : GG C H N f ds = some d:=by
  obtain ⟨t0,h1,h2⟩:=ho
  exact GG_eval h1 h0 hlt hl hn (cseF_ok (q:=(n,t0)) hl (by rw [← h2] at he; exact he))
noncomputable abbrev GK : FP:=GG cx bitsH 10000
theorem f148_ok (a : Int) : GK 148 [iv a] = some (bv false):=by
  refine GG_evalT ok148 rfl (by decide) rfl rfl ?_
  rw [tm148_eq]
  simp [evalFT,X.ev,X.evs,XK.run,PK.run,binV,ibinV,D.noT,D.noTC,D.noTB,viewA,viewC,tagN,D.flat,D.flatC]
def cmp1 (a b : Int) : Int:=if a < b then -1 else if b < a then 1 else 0
theorem f96_ok (a b : Int) : GK 96 [iv a,iv b] = some (iv (cmp1 a b)):=by
  refine GG_evalT ok96 rfl (by decide) rfl rfl ?_
  rw [tm96_eq]
  have h : ∀ a,GG cx bitsH 10000 148 [iv a] = some (bv false):=f148_ok
  unfold cmp1
  by_cases h1 : a < b
  · simp [evalFT,X.ev,X.evs,XK.run,callX,h,D.bare,PK.run,binV,ibinV,D.noT,D.noTC,D.noTB,viewA,viewC,tagN,D.flat,D.flatC,D.asBool,h1]
  · by_cases h2 : b < a
    · simp [evalFT,X.ev,X.evs,XK.run,callX,h,D.bare,PK.run,binV,ibinV,D.noT,D.noTC,D.noTB,viewA,viewC,tagN,D.flat,D.flatC,D.asBool,h1,h2]
    · simp [evalFT,X.ev,X.evs,XK.run,callX,h,D.bare,PK.run,binV,ibinV,D.noT,D.noTC,D.noTB,viewA,viewC,tagN,D.flat,D.flatC,D.asBool,h1,h2]
def first3 (a b c : Int) : Int:=if a ≠ 0 then a else if b ≠ 0 then b else c
def body95 : FT:=.lets [.mk (.pk (.ibin .lss)) [.t 2,.t 1]] (.ite (.t 4) (.lets [.mk (.pk (.load 1 false)) [.mk (.pk (.idx 3 1)) [.t 0,.t 2]]] (.lets [.mk (.pk (.ibin .neq)) [.t 5,.q (.v (.int .i64 0))]] (.ite (.t 6) (.ret (.mk .nrm [.t 5])) (.lets [.mk (.pk (.ibin .add)) [.t 2,.q (.v (.int .i64 1))]] (.next 0 [.t 7,.t 3]))))) (.ret (.mk .nrm [.q (.v (.int .i64 0))])))
theorem step95 {G : FP} {N : Nat} {rec : List D→Option D} {es : List (List D)} {i j x : Int} (hx : idxV 3 1 [.list es,iv i] = some (.lptr [iv x])) (hl : i < 3) (hj : IntKind.wrap .i64 (i + 1) = j) :
    evalFT G N body95 [rec] [.list es,iv 3,iv i,iv 0] = if x = 0 then rec [iv j,iv 0] else some (iv x):=by
  unfold body95
  by_cases h : x = 0
  · simp [evalFT,X.ev,X.evs,XK.run,PK.run,binV,ibinV,loadV,D.noT,D.noTC,D.noTB,D.asBool,hx,hl,hj,h]
  · have hb : (x != 0) = true:=by simpa using h
    simp [evalFT,X.ev,X.evs,XK.run,PK.run,binV,ibinV,loadV,D.noT,D.noTC,D.noTB,D.asBool,viewA,viewC,tagN,D.flat,D.flatC,hx,hl,hj,h]
    rw [hb]; rfl
theorem last95 {G : FP} {N : Nat} {rec : List D→Option D} {es : List (List D)} : evalFT G N body95 [rec] [.list es,iv 3,iv 3,iv 0] = some (iv 0):=by
  unfold body95
  simp [evalFT,X.ev,X.evs,XK.run,PK.run,binV,ibinV,D.noT,D.noTC,D.noTB,D.asBool,viewA,viewC,tagN,D.flat,D.flatC]
theorem core95 (G : FP) (n : Nat) (a b c : Int) : evalFT G (n + 4) (.lets [.mk (.pk .llen) [.t 0]] (.loop [.q (.v (.int .i64 0)),.q (.v (.int .i64 0))] body95)) [] [.list [[iv a],[iv b],[iv c]]] = some (iv (first3 a b c)):=by
  have h1 : X.evs G [.list [[iv a],[iv b],[iv c]]] [.mk (.pk .llen) [.t 0]] = some [iv 3]:=rfl
  have h2 : ∀ ρ,X.evs G ρ [.q (.v (.int .i64 0)),.q (.v (.int .i64 0))] = some [iv 0,iv 0]:=fun ρ=>rfl
  have s0 : ∀ rec,evalFT G (n + 4) body95 [rec] ([.list [[iv a],[iv b],[iv c]]] ++ [iv 3] ++ [iv 0,iv 0]) = if a = 0 then rec [iv 1,iv 0] else some (iv a):=fun rec=>step95 rfl (by decide) (by decide)
  have s1 : ∀ rec,evalFT G (n + 4) body95 [rec] ([.list [[iv a],[iv b],[iv c]]] ++ [iv 3] ++ [iv 1,iv 0]) = if b = 0 then rec [iv 2,iv 0] else some (iv b):=fun rec=>step95 rfl (by decide) (by decide)
  have s2 : ∀ rec,evalFT G (n + 4) body95 [rec] ([.list [[iv a],[iv b],[iv c]]] ++ [iv 3] ++ [iv 2,iv 0]) = if c = 0 then rec [iv 3,iv 0] else some (iv c):=fun rec=>step95 rfl (by decide) (by decide)
  have s3 : ∀ rec,evalFT G (n + 4) body95 [rec] ([.list [[iv a],[iv b],[iv c]]] ++ [iv 3] ++ [iv 3,iv 0]) = some (iv 0):=fun rec=>last95
  generalize body95 = B at *
  simp only [evalFT,h1,h2,Option.bind_some,iter]
  rw [s0]
  by_cases ha : a = 0
  · rw [if_pos ha,s1]
    by_cases hb : b = 0
    · rw [if_pos hb,s2]
      by_cases hc : c = 0
      · rw [if_pos hc,s3]; simp [first3,ha,hb,hc]
      · rw [if_neg hc]; simp [first3,ha,hb]
    · rw [if_neg hb]; simp [first3,ha,hb]
  · rw [if_neg ha]; simp [first3,ha]
theorem f95_ok (a b c : Int) : GK 95 [.list [[iv a],[iv b],[iv c]]] = some (iv (first3 a b c)):=by
  refine GG_evalT ok95 rfl (by decide) rfl rfl ?_
  rw [tm95_eq]
  exact core95 (GG cx bitsH 10000) 9996 a b c
def key3 (a b c : Int) : D:=.agg [iv a,iv b,iv c]
theorem f58_ok (a b c x y z : Int) : GK 58 [key3 a b c,key3 x y z] = some (iv (first3 (cmp1 a x) (cmp1 b y) (cmp1 c z))):=by
  refine GG_evalT ok58 rfl (by decide) rfl rfl ?_
  rw [tm58_eq]
  have h : ∀ a b,GG cx bitsH 10000 96 [iv a,iv b] = some (iv (cmp1 a b)):=f96_ok
  have k : ∀ a b c,GG cx bitsH 10000 95 [.list [[iv a],[iv b],[iv c]]] = some (iv (first3 a b c)):=f95_ok
  generalize GG cx bitsH 10000 = G at *
  simp [evalFT,key3,X.ev,X.evs,XK.run,callX,h,k,D.bare,PK.run,fboxV,fldV,loadV,D.noT,D.noTC,D.noTB,viewA,viewC,tagN,D.flat,D.flatC,D.cells,D.okC,D.nz,fillV,chop,rowsOK,D.nfC,D.nfB,putAt]
end Go.Proofs.YtkcfpgaepmllhaaGreatDoor
namespace Go.Proofs.YtkcfpgaepmllhaaGreatDoor
open Go.RowKit
set_option maxRecDepth 100000
def goodK : List D→Bool
  | [.v (.int .i64 _),.v (.int .i64 _),.v (.int .i64 _)]=>true
  | _=>false
def cfK : List D→List D→Int
  | [.v (.int .i64 a),.v (.int .i64 b),.v (.int .i64 c)],[.v (.int .i64 x),.v (.int .i64 y),.v (.int .i64 z)]=>first3 (cmp1 a x) (cmp1 b y) (cmp1 c z)
  | _,_=>0
theorem goodK_of {x : List D} (h : goodK x = true) : ∃ a b c,x = [iv a,iv b,iv c]:=by
  unfold goodK at h
  split at h
  · exact ⟨_,_,_,rfl⟩
  · cases h
theorem cfK_lt (a b c x y z : Int) : cfK [iv a,iv b,iv c] [iv x,iv y,iv z] < 0 ↔ a < x ∨ a = x∧(b < y ∨ b = y∧c < z):=by
  show first3 (cmp1 a x) (cmp1 b y) (cmp1 c z) < 0 ↔ _
  unfold first3 cmp1
  repeat' split
  all_goals omega
theorem keyCmp : CmpD Tryz.prog 58 3 goodK cfK where
  len x h:=by obtain ⟨a,b,c,rfl⟩:=goodK_of h; rfl
  pl x h d hd:=by
    obtain ⟨a,b,c,rfl⟩:=goodK_of h
    simp only [List.mem_cons,List.not_mem_nil,or_false] at hd
    rcases hd with rfl | rfl | rfl <;> rfl
  ok x y hx hy:=by
    obtain ⟨a,b,c,rfl⟩:=goodK_of hx
    obtain ⟨a',b',c',rfl⟩:=goodK_of hy
    exact ((GG_sound (C:=cx) (N:=10000) rfl bits_sound mixedP).p 58 _ _ (by decide) (f58_ok a b c a' b' c')).1
  body:=⟨Tryz.f58,Tryz.func58,rfl,by kernel_rfl⟩
  lt:=by decide
  irrefl x h:=by
    obtain ⟨a,b,c,rfl⟩:=goodK_of h
    rw [cfK_lt]; omega
  trans x y z hx hy hz:=by
    obtain ⟨a,b,c,rfl⟩:=goodK_of hx
    obtain ⟨a',b',c',rfl⟩:=goodK_of hy
    obtain ⟨a2,b2,c2,rfl⟩:=goodK_of hz
    simp only [cfK_lt]; omega
  ntrans x y z hx hy hz:=by
    obtain ⟨a,b,c,rfl⟩:=goodK_of hx
    obtain ⟨a',b',c',rfl⟩:=goodK_of hy
    obtain ⟨a2,b2,c2,rfl⟩:=goodK_of hz
    simp only [cfK_lt]; omega
  anti x y hx hy:=by
    obtain ⟨a,b,c,rfl⟩:=goodK_of hx
    obtain ⟨a',b',c',rfl⟩:=goodK_of hy
    simp only [cfK_lt]
    intro h1 h2
    have e1 : a = a':=by omega
    have e2 : b = b':=by omega
    have e3 : c = c':=by omega
    rw [e1,e2,e3]
theorem keySort {es : List (List D)} (hne : es ≠ []) (hes : ∀ x ∈ es,goodK x = true) (hlen : es.length < 4611686018427387904) : VEp Tryz.prog 0 57 [.list es,.clo 58 []] es (sortS (ltD cfK) es) (.tup []):=
  keyCmp.sort (ρ:=Tryz.sortKey_ren) Tryz.sortKey (fun w=>by rfl) (fun w=>by rfl) ⟨Tryz.f57,Tryz.func57,rfl,by kernel_rfl⟩ (x0:=[iv 0,iv 0,iv 0]) rfl hes hlen (fun h=>absurd h hne)
def handH : FP:=fun f ds=>if f = 1000057 then (match ds with
    | [.list es,.clo 58 []]=>if es.isEmpty = false∧es.all goodK = true∧es.length < 65536 then some (.tup [.tup [],.list (sortS (ltD cfK) es)]) else none
    | _=>none) else bitsH f ds
theorem hand_sound : Sound Tryz.prog (env0 handH) where
  p f ds d hlt h:=by
    have h : handH f ds = some d:=h
    unfold handH at h
    rw [if_neg (by omega)] at h
    exact bits_sound.p f ds d hlt h
  e k f ds r hf h:=by
    replace h : handH (1000000 + (1000000 * k + f)) ds = some r:=h
    unfold handH at h
    split at h
    · rename_i he
      have hk : k = 0:=by omega
      have hf7 : f = 57:=by omega
      rw [hk,hf7]
      split at h
      · rename_i es
        split at h <;> cases h
        rename_i hc
        exact ⟨es,_,_,rfl,rfl,keySort (fun e=>by rw [e] at hc; cases hc.1) (fun x hx=>List.all_eq_true.1 hc.2.1 x hx) (by omega)⟩
      · cases h
    · exact bits_sound.e k f ds r hf h
end Go.Proofs.YtkcfpgaepmllhaaGreatDoor
