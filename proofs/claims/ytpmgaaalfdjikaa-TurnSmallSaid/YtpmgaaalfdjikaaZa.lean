/- TurnSmall: the law returns true (first part of the proof). No condition. -/
import Derived.Test.YtpmgaaalfdjikaaHo
import Derived.Test.YtpmgaaalfdjikaaProg
import Derived.Test.YtpmgaaalfdjikaaRows
import Derived.Test.YtpmgaaalfdjikaaQa
import Derived.Test.YtpmgaaalfdjikaaProg
import Derived.Laws.BitsAllLaws
import Derived.ProofKit
import Derived.Deep.DeepHandedRow
import Derived.OpenShut
namespace Go.Proofs.Ytpmgaaalfdjikaa
open Go.RowKit
def frs : List Nat:=[13,14,17,20,22,23,24,26,33,34,41,42,43,44,46,54,55,58,72]
def frm : List Nat:=[36,37,50,51,52,61,69,70,71]
def frOf (f : Nat) : Nat:=if frs.contains f then 1 else if frm.contains f || decide (77≤f∧f≤93) then 2 else 0
theorem mixed : Try.prog.follows .mixedOrders = true:=by kernel_rfl
structure Row where
  r : Int
  t : Int
  ns : Int
  ew : Int
  s : Int
  deriving DecidableEq
def Row.cells (x : Row) : List D:=[iv x.r,iv x.t,iv x.ns,iv x.ew,iv x.s]
def Row.zero : Row:=⟨0,0,0,0,0⟩
def rowsL (l : List Row) : List (List D):=l.map Row.cells
structure Mv where
  t : Int
  r : Int
  s : Int
  c : Int
  w : Int
  rows : List Row
def Mv.cellsW (m : Mv) (d : D) : List D:=[iv m.t,iv m.r,iv m.s,iv m.c,iv m.w,d]
def Mv.cells (m : Mv) : List D:=m.cellsW (.list (rowsL m.rows))
@[simp] theorem Mv.eta (m : Mv) : (⟨m.t,m.r,m.s,m.c,m.w,m.rows⟩ : Mv) = m:=rfl
def ints (l : List Int) : List (List D):=l.map fun z=>[iv z]
def lists (l : List (List Int)) : List (List D):=l.map fun z=>[.list (ints z)]
def tab (n : Nat) (f : Nat→D) : List D:=(List.range n).map f
@[simp] theorem rowsL_len (l : List Row) : (rowsL l).length = l.length:=by simp [rowsL]
@[simp] theorem ints_len (l : List Int) : (ints l).length = l.length:=by simp [ints]
@[simp] theorem lists_len (l : List (List Int)) : (lists l).length = l.length:=by simp [lists]
@[simp] theorem rowsL_get (l : List Row) (k : Nat) (h : k < (rowsL l).length) : (rowsL l)[k] = (l[k]'(by simpa using h)).cells:=by simp [rowsL]
@[simp] theorem ints_get (l : List Int) (k : Nat) (h : k < (ints l).length) : (ints l)[k] = [iv (l[k]'(by simpa using h))]:=by simp [ints]
@[simp] theorem lists_get (l : List (List Int)) (k : Nat) (h : k < (lists l).length) : (lists l)[k] = [.list (ints (l[k]'(by simpa using h)))]:=by simp [lists]
@[simp] theorem rowsL_nil : rowsL [] = []:=rfl
@[simp] theorem ints_nil : ints [] = []:=rfl
@[simp] theorem lists_nil : lists [] = []:=rfl
theorem snilV_rows {neg : Bool} {l : List Row} (h : l ≠ []) : snilV neg [.list (rowsL l),.nil] = some (bv neg):=by cases l with | nil=>exact absurd rfl h | cons=>rfl
theorem snilV_ints {neg : Bool} {l : List Int} (h : l ≠ []) : snilV neg [.list (ints l),.nil] = some (bv neg):=by cases l with | nil=>exact absurd rfl h | cons=>rfl
@[simp] theorem rowsL_isEmpty (l : List Row) : (rowsL l).isEmpty = l.isEmpty:=by cases l <;> rfl
@[simp] theorem ints_isEmpty (l : List Int) : (ints l).isEmpty = l.isEmpty:=by cases l <;> rfl
@[simp] theorem rowsL_eq_nil (l : List Row) : (rowsL l = []) = (l = []):=by cases l <;> simp [rowsL]
@[simp] theorem ints_eq_nil (l : List Int) : (ints l = []) = (l = []):=by cases l <;> simp [ints]
@[simp] theorem lists_eq_nil (l : List (List Int)) : (lists l = []) = (l = []):=by cases l <;> simp [lists]
@[simp] theorem rowsL_ex (l : List Row) : (∃ x,x ∈ rowsL l∧¬ x.length = 5) = False:=by
  simp only [eq_iff_iff,iff_false]; rintro ⟨x,hx,h⟩; obtain ⟨y,_,rfl⟩:=List.mem_map.1 hx; exact h rfl
@[simp] theorem ints_ex (l : List Int) : (∃ x,x ∈ ints l∧¬ x.length = 1) = False:=by
  simp only [eq_iff_iff,iff_false]; rintro ⟨x,hx,h⟩; obtain ⟨y,_,rfl⟩:=List.mem_map.1 hx; exact h rfl
@[simp] theorem lists_ex (l : List (List Int)) : (∃ x,x ∈ lists l∧¬ x.length = 1) = False:=by
  simp only [eq_iff_iff,iff_false]; rintro ⟨x,hx,h⟩; obtain ⟨y,_,rfl⟩:=List.mem_map.1 hx; exact h rfl
@[simp] theorem rowsL_fa (l : List Row) : (∀ x,x ∈ rowsL l→x.length = 5) = True:=by
  simp only [eq_iff_iff,iff_true]; intro x hx; obtain ⟨y,_,rfl⟩:=List.mem_map.1 hx; rfl
@[simp] theorem ints_fa (l : List Int) : (∀ x,x ∈ ints l→x.length = 1) = True:=by
  simp only [eq_iff_iff,iff_true]; intro x hx; obtain ⟨y,_,rfl⟩:=List.mem_map.1 hx; rfl
@[simp] theorem lists_fa (l : List (List Int)) : (∀ x,x ∈ lists l→x.length = 1) = True:=by
  simp only [eq_iff_iff,iff_true]; intro x hx; obtain ⟨y,_,rfl⟩:=List.mem_map.1 hx; rfl
@[simp] theorem rowsL_ren (f : Tok→Tok) (l : List Row) : (rowsL l).map (List.map (D.renC f)) = rowsL l:=by
  simp only [rowsL,List.map_map]; rfl
@[simp] theorem ints_ren (f : Tok→Tok) (l : List Int) : (ints l).map (List.map (D.renC f)) = ints l:=by
  simp only [ints,List.map_map]; rfl
@[simp] theorem lists_ren (f : Tok→Tok) (l : List (List Int)) : (lists l).map (List.map (D.renC f)) = lists l:=by
  simp only [lists,List.map_map]; rfl
theorem rowsL_set (l : List Row) (k : Nat) (x : Row) : rowsL (l.set k x) = (rowsL l).set k x.cells:=by simp [rowsL,List.map_set]
theorem ints_set (l : List Int) (k : Nat) (x : Int) : ints (l.set k x) = (ints l).set k [iv x]:=by simp [ints,List.map_set]
theorem rowsL_append (l l' : List Row) : rowsL (l ++ l') = rowsL l ++ rowsL l':=by simp [rowsL]
theorem ints_append (l l' : List Int) : ints (l ++ l') = ints l ++ ints l':=by simp [ints]
theorem maxMade_le {n : Nat} (h : n≤1000000) : n≤maxMade:=by unfold maxMade; omega
theorem rowsL_at {l : List Row} {k : Nat} (h : k < l.length) : (rowsL l)[k]? = some l[k].cells:=by simp [rowsL,h]
theorem ints_at {l : List Int} {k : Nat} (h : k < l.length) : (ints l)[k]? = some [iv l[k]]:=by simp [ints,h]
theorem lists_at {l : List (List Int)} {k : Nat} (h : k < l.length) : (lists l)[k]? = some [.list (ints l[k])]:=by simp [lists,h]
@[simp] theorem tab_len (n : Nat) (f : Nat→D) : (tab n f).length = n:=by simp [tab]
@[simp] theorem tab_get (n : Nat) (f : Nat→D) (k : Nat) (h : k < (tab n f).length) : (tab n f)[k] = f k:=by simp [tab]
@[simp] theorem putAt_zero (a : D) (l xs : List D) : putAt (a :: l) 0 xs = xs ++ (a :: l).drop xs.length:=by simp [putAt]
@[simp] theorem putAt_succ (a : D) (l xs : List D) (n : Nat) : putAt (a :: l) (n + 1) xs = a :: putAt l n xs:=by
  simp only [putAt,List.take_succ_cons,List.cons_append,show n + 1 + xs.length = (n + xs.length) + 1 by omega,List.drop_succ_cons]
theorem tab_congr {n : Nat} {f g : Nat→D} (h : ∀ i,i < n→f i = g i) : tab n f = tab n g:=List.map_congr_left fun i hi=>h i (by simpa using hi)
theorem tab_at {n k : Nat} {f : Nat→D} (h : k < n) : (tab n f)[k]? = some (f k):=by simp [tab,h]
theorem tab_put {n k : Nat} {f : Nat→D} {d : D} (h : k < n) : putAt (tab n f) k [d] = tab n fun i=>if i = k then d else f i:=by
  apply List.ext_getElem?
  intro i
  simp only [putAt,List.length_singleton]
  by_cases h1 : i < k
  · rw [List.append_assoc,List.getElem?_append_left (by simp; omega),List.getElem?_take_of_lt h1]
    by_cases hi : i < n
    · rw [tab_at hi,tab_at hi,if_neg (by omega)]
    · omega
  · by_cases h2 : i = k
    · subst h2
      rw [List.append_assoc,List.getElem?_append_right (by simp; omega),tab_at h,if_pos rfl]
      have : i - (List.take i (tab n f)).length = 0:=by simp; omega
      rw [this]
      rfl
    · rw [List.getElem?_append_right (by simp; omega),List.getElem?_drop]
      have e : k + 1 + (i - (List.take k (tab n f) ++ [d]).length) = i:=by simp; omega
      rw [e]
      by_cases hi : i < n
      · rw [tab_at hi,tab_at hi,if_neg h2]
      · simp [tab,hi]
theorem tab_rep (n : Nat) (d : D) : List.replicate n d = tab n fun _=>d:=by
  apply List.ext_getElem?
  intro i
  simp [tab,List.getElem?_replicate]
  by_cases h : i < n <;> simp [h]
def zrep (n : Nat) (d : D) : List D:=List.replicate n d
@[simp] theorem zrep_tab (n : Nat) (d : D) : zrep n d = tab n fun _=>d:=tab_rep n d
@[simp] theorem tab_okb (n : Nat) (g : Nat→Bool) : (tab n fun i=>bv (g i)).all D.okC = true:=by simp [tab]
@[simp] theorem tab_oki (n : Nat) (g : Nat→Int) : (tab n fun i=>iv (g i)).all D.okC = true:=by simp [tab]
@[simp] theorem tab_fab (n : Nat) (g : Nat→Bool) : (∀ x,x ∈ (tab n fun i=>bv (g i))→x.okC = true) = True:=by simp [tab]
@[simp] theorem tab_fai (n : Nat) (g : Nat→Int) : (∀ x,x ∈ (tab n fun i=>iv (g i))→x.okC = true) = True:=by simp [tab]
def asInts : List (List D)→Option (List Int)
  | []=>some []
  | [.v (.int .i64 n)] :: r=>(asInts r).map (n :: ·)
  | _=>none
def asRows : List (List D)→Option (List Row)
  | []=>some []
  | [.v (.int .i64 a),.v (.int .i64 b),.v (.int .i64 c),.v (.int .i64 d),.v (.int .i64 e)] :: r=>(asRows r).map (⟨a,b,c,d,e⟩ :: ·)
  | _=>none
def asLists : List (List D)→Option (List (List Int))
  | []=>some []
  | [.list es] :: r=>(asInts es).bind fun l=>(asLists r).map (l :: ·)
  | _=>none
def asMv : List D→Option Mv
  | [.v (.int .i64 a),.v (.int .i64 b),.v (.int .i64 c),.v (.int .i64 d),.v (.int .i64 e),.list es]=>(asRows es).map fun l=>⟨a,b,c,d,e,l⟩
  | _=>none
@[simp] theorem asInts_ints : ∀ (l : List Int),asInts (ints l) = some l
  | []=>rfl
  | x :: l=>by
    have:=asInts_ints l
    simp only [ints,List.map_cons] at this ⊢
    simp only [asInts,this,Option.map_some]
theorem asInts_eq : ∀ {es : List (List D)} {l : List Int},asInts es = some l→es = ints l
  | [],_,h=>by cases h; rfl
  | e :: r,l,h=>by
    unfold asInts at h
    split at h
    · rename_i hh; cases hh
    · rename_i hh
      cases hh
      obtain ⟨l',h',rfl⟩:=Option.map_eq_some_iff.1 h
      rw [asInts_eq h']; rfl
    · cases h
@[simp] theorem asRows_rowsL : ∀ (l : List Row),asRows (rowsL l) = some l
  | []=>rfl
  | x :: l=>by
    have:=asRows_rowsL l
    simp only [rowsL,List.map_cons,Row.cells] at this ⊢
    simp only [asRows,this,Option.map_some]
theorem asRows_eq : ∀ {es : List (List D)} {l : List Row},asRows es = some l→es = rowsL l
  | [],_,h=>by cases h; rfl
  | e :: r,l,h=>by
    unfold asRows at h
    split at h
    · rename_i hh; cases hh
    · rename_i hh
      cases hh
      obtain ⟨l',h',rfl⟩:=Option.map_eq_some_iff.1 h
      rw [asRows_eq h']; rfl
    · cases h
@[simp] theorem asLists_lists : ∀ (l : List (List Int)),asLists (lists l) = some l
  | []=>rfl
  | x :: l=>by
    have:=asLists_lists l
    simp only [lists,List.map_cons] at this ⊢
    simp only [asLists,asInts_ints,Option.bind_some,this,Option.map_some]
theorem asLists_eq : ∀ {es : List (List D)} {l : List (List Int)},asLists es = some l→es = lists l
  | [],_,h=>by cases h; rfl
  | e :: r,l,h=>by
    unfold asLists at h
    split at h
    · rename_i hh; cases hh
    · rename_i hh
      cases hh
      rw [Option.bind_eq_some_iff] at h
      obtain ⟨l1,h1,h⟩:=h
      obtain ⟨l',h',rfl⟩:=Option.map_eq_some_iff.1 h
      rw [asInts_eq h1,asLists_eq h']; rfl
    · cases h
@[simp] theorem asMv_cells (a b c d e : Int) (l : List Row) : asMv [.v (.int .i64 a),.v (.int .i64 b),.v (.int .i64 c),.v (.int .i64 d),.v (.int .i64 e),.list (rowsL l)] = some ⟨a,b,c,d,e,l⟩:=by
  simp only [asMv,asRows_rowsL,Option.map_some]
@[simp] theorem asMv_nil (a b c d e : Int) : asMv [.v (.int .i64 a),.v (.int .i64 b),.v (.int .i64 c),.v (.int .i64 d),.v (.int .i64 e),.list []] = some ⟨a,b,c,d,e,[]⟩:=rfl
theorem asMv_eq {xs : List D} {m : Mv} (h : asMv xs = some m) : xs = m.cells:=by
  unfold asMv at h
  split at h
  · obtain ⟨l,h1,rfl⟩:=Option.map_eq_some_iff.1 h
    rw [asRows_eq h1]; rfl
  · cases h
@[simp] theorem asRows_nil : asRows [] = some []:=rfl
@[simp] theorem asInts_nil : asInts [] = some []:=rfl
@[simp] theorem asLists_nil : asLists [] = some []:=rfl
def look {β : Type} : List (Nat × β)→Nat→Option β
  | [],_=>none
  | (k,v) :: r,f=>if f = k then some v else look r f
@[simp] theorem look_nil {β : Type} (f : Nat) : look ([] : List (Nat × β)) f = none:=rfl
@[simp] theorem look_cons {β : Type} (k f : Nat) (v : β) (r : List (Nat × β)) : look ((k,v) :: r) f = if f = k then some v else look r f:=rfl
def mkEnv (ps : List (Nat × (List D→Option D))) (qs : List (Nat × (List D→Option (D × Mem)))) (ms : List (Nat × (Mem→List D→Option (D × Mem)))) : Env:=
  ⟨fun f ds=>(look ps f).bind fun s=>s ds,fun f ds=>(look qs f).bind fun s=>s ds,fun f m ds=>(look ms f).bind fun s=>s m ds⟩
theorem look_mem {β : Type} : ∀ {l : List (Nat × β)} {f : Nat} {s : β},look l f = some s→(f,s) ∈ l
  | (k,v) :: l,f,s,h=>by
    simp only [look_cons] at h
    split at h
    · rename_i e
      cases h
      subst e
      exact List.mem_cons_self
    · exact List.mem_cons_of_mem _ (look_mem h)
def OkP (f : Nat) (s : List D→Option D) : Prop:=∀ ds d,s ds = some d→VCp Try.prog f ds d
def OkQ (f : Nat) (s : List D→Option (D × Mem)) : Prop:=∀ ds d m,s ds = some (d,m)→VCq Try.prog f ds d m
def OkM (f : Nat) (s : Mem→List D→Option (D × Mem)) : Prop:=∀ m ds d m',s m ds = some (d,m')→VCm Try.prog f m ds d m'
theorem sound_mk {ps : List (Nat × (List D→Option D))} {qs : List (Nat × (List D→Option (D × Mem)))} {ms : List (Nat × (Mem→List D→Option (D × Mem)))}
    (hp : ∀ p ∈ ps,OkP p.1 p.2) (hq : ∀ p ∈ qs,OkQ p.1 p.2) (hm : ∀ p ∈ ms,OkM p.1 p.2) : Sound Try.prog (mkEnv ps qs ms):=by
  refine ⟨fun f ds d h=>?_,fun f ds d m h=>?_,fun f m ds d m' h=>?_⟩
  · obtain ⟨s,hs,h⟩:=Option.bind_eq_some_iff.1 h
    exact hp _ (look_mem hs) ds d h
  · obtain ⟨s,hs,h⟩:=Option.bind_eq_some_iff.1 h
    exact hq _ (look_mem hs) ds d m h
  · obtain ⟨s,hs,h⟩:=Option.bind_eq_some_iff.1 h
    exact hm _ (look_mem hs) m ds d m' h
def rowMem (e : Nat) (es : List (List D)) : Mem:=fun t=>if t = [] then some (.row [0] e es) else none
@[simp] theorem rowMem_nil (e : Nat) (es : List (List D)) : rowMem e es [] = some (.row [0] e es):=rfl
@[simp] theorem rowMem_cons (e : Nat) (es : List (List D)) (a : Nat) (t : Tok) : rowMem e es (a :: t) = none:=rfl
theorem rowMem_some {e : Nat} {es : List (List D)} {t : Tok} {o : HO} (h : rowMem e es t = some o) : t = []∧o = .row [0] e es:=by
  unfold rowMem at h
  split at h <;> cases h
  exact ⟨by assumption,rfl⟩
theorem Out.row {σ : St} {t g : Tok} {e size len : Nat} {es : List (List D)} (h : σ.m t = some (.row g e es)) (hf : ∀ c ∈ es,c.all D.flatC = true) : Out σ (.sl t size 0 len none) (.sl [] size 0 len none) (rowMem e es):=by
  have hn : ∀ c ∈ es,∀ d ∈ c,∃ x,d = .v x:=fun c hc d hd=>by
    have:=List.all_eq_true.1 (hf c hc) d hd
    cases d <;> simp [D.flatC] at this ⊢
  refine ⟨fun s=>if s = [] then t else if s = [0] then g else [],by simp,rfl,fun s o ho=>?_,fun s s' o o' h1 h2 _=>by rw [(rowMem_some h1).1,(rowMem_some h2).1]⟩
  obtain ⟨rfl,rfl⟩:=rowMem_some ho
  refine ⟨fun c hc d hd=>by obtain ⟨x,rfl⟩:=hn c hc d hd; rfl,?_⟩
  have : es.map (fun c=>c.map (D.renC fun s=>if s = [] then t else if s = [0] then g else [])) = es:=by
    conv=>rhs; rw [← List.map_id es]
    refine List.map_congr_left fun c hc=>?_
    conv=>rhs; rw [id,← List.map_id c]
    exact List.map_congr_left fun d hd=>by obtain ⟨x,rfl⟩:=hn c hc d hd; rfl
  simp only [if_true,HO.ren,this,h]
  simp
theorem Out.aggRow {σ : St} {t g : Tok} {e size len : Nat} {es : List (List D)} {pre : List D} (hp : pre.all D.flatC = true) (h : σ.m t = some (.row g e es)) (hf : ∀ c ∈ es,c.all D.flatC = true) :
    Out σ (.agg (pre ++ [.sl t size 0 len none])) (.agg (pre ++ [.sl [] size 0 len none])) (rowMem e es):=by
  obtain ⟨f,h1,h2,h3,h4⟩:=Out.row (size:=size) (len:=len) h hf
  have hv : ∀ d ∈ pre,∃ x,d = .v x:=fun d hd=>by
    have:=List.all_eq_true.1 hp d hd
    cases d <;> simp [D.flatC] at this ⊢
  refine ⟨f,?_,?_,h3,h4⟩
  · simp only [D.ren,D.renA,List.map_append,List.map_cons,List.map_nil]
    have e1 : pre.map (D.renC f) = pre:=by
      conv=>rhs; rw [← List.map_id pre]
      exact List.map_congr_left fun d hd=>by obtain ⟨x,rfl⟩:=hv d hd; rfl
    have e2 : D.renC f (.sl [] size 0 len none) = .sl t size 0 len none:=by simpa [D.ren,D.renA] using h1.symm
    rw [e1,e2]
  · simp only [D.noF,D.noFA,List.all_append,List.all_cons,List.all_nil,Bool.and_true,Bool.and_eq_true]
    refine ⟨List.all_eq_true.2 fun d hd=>?_,rfl⟩
    obtain ⟨x,rfl⟩:=hv d hd
    rfl
@[simp] theorem rowsL_flat (l : List Row) : ∀ c ∈ rowsL l,c.all D.flatC = true:=fun c hc=>by
  obtain ⟨x,_,rfl⟩:=List.mem_map.1 hc; rfl
@[simp] theorem ints_flat (l : List Int) : ∀ c ∈ ints l,c.all D.flatC = true:=fun c hc=>by
  obtain ⟨x,_,rfl⟩:=List.mem_map.1 hc; rfl
@[simp] theorem rowsL_size (l : List Row) : (rowsL l).all (fun c=>c.length == 5) = true:=by
  rw [List.all_eq_true]; intro c hc; obtain ⟨x,_,rfl⟩:=List.mem_map.1 hc; rfl
@[simp] theorem ints_size (l : List Int) : (ints l).all (fun c=>c.length == 1) = true:=by
  rw [List.all_eq_true]; intro c hc; obtain ⟨x,_,rfl⟩:=List.mem_map.1 hc; rfl
@[simp] theorem lists_size (l : List (List Int)) : (lists l).all (fun c=>c.length == 1) = true:=by
  rw [List.all_eq_true]; intro c hc; obtain ⟨x,_,rfl⟩:=List.mem_map.1 hc; rfl
def boxMem (xs : List D) : Mem:=fun t=>if t = [] then some (.box xs) else none
@[simp] theorem boxMem_nil (xs : List D) : boxMem xs [] = some (.box xs):=rfl
@[simp] theorem boxMem_cons (xs : List D) (a : Nat) (t : Tok) : boxMem xs (a :: t) = none:=rfl
@[simp] theorem tab_reni (f : Tok→Tok) (n : Nat) (g : Nat→Int) : (tab n fun i=>iv (g i)).map (D.renC f) = tab n fun i=>iv (g i):=by
  simp only [tab,List.map_map]; rfl
theorem Out.box {σ : St} {t : Tok} {xs : List D} (h : σ.m t = some (.box xs)) (hf : ∀ d ∈ xs,d.flatC = true) : Out σ (.ptr t 0) (.ptr [] 0) (boxMem xs):=by
  have hv : ∀ d ∈ xs,∃ x,d = .v x:=fun d hd=>by
    have:=hf d hd
    cases d <;> simp [D.flatC] at this ⊢
  refine ⟨fun _=>t,rfl,rfl,fun s o ho=>?_,fun s s' o o' h1 h2 _=>?_⟩
  · unfold boxMem at ho
    split at ho <;> cases ho
    refine ⟨fun d hd=>by obtain ⟨x,rfl⟩:=hv d hd; rfl,?_⟩
    have : xs.map (D.renC fun _=>t) = xs:=by
      conv=>rhs; rw [← List.map_id xs]
      exact List.map_congr_left fun d hd=>by obtain ⟨x,rfl⟩:=hv d hd; rfl
    simp only [HO.ren,this,h]
  · unfold boxMem at h1 h2
    by_cases e1 : s = []
    · by_cases e2 : s' = []
      · rw [e1,e2]
      · rw [if_neg e2] at h2; cases h2
    · rw [if_neg e1] at h1; cases h1
theorem nodup_bound : ∀ (n : Nat) (l : List Nat),l.Nodup→(∀ x ∈ l,x < n)→l.length≤n
  | 0,l,_,h=>by
    cases l with
    | nil=>simp
    | cons x l=>have:=h x (by simp); omega
  | n + 1,l,hn,h=>by
    by_cases hm : n ∈ l
    · have ih:=nodup_bound n (l.erase n) (hn.erase n) fun x hx=>by
        have h1:=(hn.mem_erase_iff).1 hx
        have h2:=h x h1.2
        have:=h1.1
        omega
      rw [List.length_erase_of_mem hm] at ih
      omega
    · have ih:=nodup_bound n l hn fun x hx=>by
        have h2:=h x hx
        have : x ≠ n:=fun e=>hm (e ▸ hx)
        omega
      omega
@[simp] theorem viewRows_rows (f : D→Option D) (l : List Row) : viewRows f (rowsL l) = some (rowsL l):=viewRows_flat (List.all_eq_true.2 fun c hc=>rowsL_flat l c hc)
@[simp] theorem viewRows_ints (f : D→Option D) (l : List Int) : viewRows f (ints l) = some (ints l):=viewRows_flat (List.all_eq_true.2 fun c hc=>ints_flat l c hc)
@[simp] theorem rowsL_take (l : List Row) : (rowsL l).take l.length = rowsL l:=List.take_of_length_le (by simp)
@[simp] theorem ints_take (l : List Int) : (ints l).take l.length = ints l:=List.take_of_length_le (by simp)
theorem rep_empty {w : World} {pr : Prot} {tk : Places} {v : Value} (h : Rep w pr tk v (.list [])) : Rep w pr tk v .nil ∨ Rep w pr tk v .mt:=by
  generalize he : D.list [] = d at h
  cases h with
  | nil'=>exact .inl .nil
  | emp=>exact .inr .mt
  | list us a b c e=>cases he; exact .inr .mt
  | _=>cases he
theorem rep_none {w : World} {pr pr' : Prot} {tk tk' : Places} {v : Value} {d : D} (h : Rep w pr tk v d) (hd : d.lenD = some 0) : Rep w pr' tk' v (.list []):=by
  have mk : ∀ (b off cap : Nat),Rep w pr' tk' (.slice (some ⟨b,off,none⟩) 0 cap) (.list []):=fun b off cap=>.emp
  cases h <;> simp only [D.lenD] at hd <;> try (cases hd; done)
  case nil=>exact .nil'
  case nil'=>exact .nil'
  case mt=>exact .emp
  case emp=>exact .emp
  case list es us a b c e=>
    simp only [Option.some.injEq,List.length_eq_zero_iff] at hd
    subst hd
    exact mk _ _ _
  case sl=>
    simp only [Option.some.injEq] at hd
    subst hd
    exact mk _ _ _
theorem VCq.empty {f : Nat} {ds1 ds2 : List D} {d d' : D} {m m' : Mem} (h1 : VCq Try.prog f (ds1 ++ .nil :: ds2) d m) (h2 : VCq Try.prog f (ds1 ++ .mt :: ds2) d' m') (hd : d.lenD = some 0) (hd' : d'.lenD = some 0) :
    VCq Try.prog f (ds1 ++ .list [] :: ds2) (.list []) noMem:=by
  refine ⟨h1.1,fun w pr cargs hpr hargs=>?_⟩
  have split : ∀ (vs : List Value) (ds1 : List D),Reps w pr noTok vs (ds1 ++ .list [] :: ds2)→Reps w pr noTok vs (ds1 ++ .nil :: ds2) ∨ Reps w pr noTok vs (ds1 ++ .mt :: ds2):=by
    intro vs ds1
    induction ds1 generalizing vs with
    | nil=>
      intro h
      match vs,h with
      | v :: vs,h=>exact (rep_empty h.1).imp (fun k=>⟨k,h.2⟩) (fun k=>⟨k,h.2⟩)
    | cons d ds1 ih=>
      intro h
      match vs,h with
      | v :: vs,h=>exact (ih vs h.2).imp (fun k=>⟨h.1,k⟩) (fun k=>⟨h.1,k⟩)
  rcases split _ _ hargs with hargs | hargs
  · refine (h1.2 w pr cargs hpr hargs).mono ?_
    rintro e w' ⟨v,tk',rfl,g1,g2,g3,g4⟩
    exact ⟨v,noTok,rfl,g1,⟨fun t o h=>(by cases h),fun t t' o o' b c c' h=>(by cases h)⟩,fun t o b c h=>(by cases h),rep_none g4 hd⟩
  · refine (h2.2 w pr cargs hpr hargs).mono ?_
    rintro e w' ⟨v,tk',rfl,g1,g2,g3,g4⟩
    exact ⟨v,noTok,rfl,g1,⟨fun t o h=>(by cases h),fun t t' o o' b c c' h=>(by cases h)⟩,fun t o b c h=>(by cases h),rep_none g4 hd'⟩
def cnt (n : Nat) : D→Nat
  | .v (.int _ k)=>n - k.toNat
  | _=>0
@[simp] theorem cnt_iv (n : Nat) (k : Int) : cnt n (iv k) = n - k.toNat:=rfl
@[simp] theorem toNat_succ (k : Nat) : ((k : Int) + 1).toNat = k + 1:=by omega
theorem wrap_succ {k : Nat} (h : k≤1000000000) : IntKind.i64.wrap ((k : Int) + 1) = (k : Int) + 1:=wrap_in (by omega) (by omega)
@[simp] theorem wrap_0 : IntKind.i64.wrap 0 = 0:=wrap_in (by omega) (by omega)
@[simp] theorem wrap_1 : IntKind.i64.wrap 1 = 1:=wrap_in (by omega) (by omega)
@[simp] theorem wrap_2 : IntKind.i64.wrap 2 = 2:=wrap_in (by omega) (by omega)
theorem ite_iff {α : Type} {p q : Prop} [Decidable p] [Decidable q] {a b : α} (h : p ↔ q) : (if p then a else b) = if q then a else b:=by
  by_cases hp : p
  · rw [if_pos hp,if_pos (h.1 hp)]
  · rw [if_neg hp,if_neg fun hq=>hp (h.2 hq)]
end Go.Proofs.Ytpmgaaalfdjikaa
namespace Go.Proofs.Ytpmgaaalfdjikaa
open Go.RowKit
set_option linter.unusedSimpArgs false
set_option linter.unusedVariables false
def W53 : WC × List VRes:=(.seq (.reg [.stm (.eff (.box 1 (.t 0)) none),.set [(2,.c (.v (.int .i64 0)))] [2]]) (.seq (.reg [.set [(3,.c (.v (.int .i64 0)))] [3]]) (.seq (.seq (.reg [.set [(7,.ap (.load 1 false) [.ap (.fld 5) [.t 1]]),(8,.ap .llen [.ap (.load 1 false) [.ap (.fld 5) [.t 1]]]),(9,.c (.v (.int .i64 0)))] [6,7,8,9]]) (.block 0 (.loop (.seq (.reg [.set [(10,.ap (.ibin .lss) [.t 9,.t 8])] [10]]) (.seq (.cond (.t 10) .skip (.exit 0)) (.seq (.block 1 (.seq (.reg [.set [(12,.ap (.load 5 true) [.ap (.idx 53 5) [.t 7,.t 9]])] [11,12],.stm (.eff (.box 5 (.c (.agg [.v (.int .i64 0),.v (.int .i64 0),.v (.int .i64 0),.v (.int .i64 0),.v (.int .i64 0)]))) none),.stm (.eff (.store 5 (.t 5) (.t 12)) none)]) (.reg [.set [(3,.ap (.mx3 true) [.t 3,.ap (.load 1 false) [.ap (.fld 2) [.t 5]],.ap (.load 1 false) [.ap (.fld 3) [.t 5]]])] [13,14,15,16,17,18,3]]))) (.reg [.set [(9,.ap (.ibin .add) [.t 9,.c (.v (.int .i64 1))])] [19,9]]))))))) (.seq (.reg [.set [(2,.t 3)] [20,2]]) .ret))),[.t 2])
theorem is53 : IsFn Try.prog frOf 53 Try.f53 W53:=⟨by kernel_rfl,by kernel_rfl,by kernel_rfl⟩
theorem nt53 : Try.f53.ntmps = 21:=by kernel_rfl
def W39 : WC × List VRes:=(.seq (.reg [.stm (.eff (.box 2 (.t 0)) none),.set [(4,.c (.v (.bool false)))] [4]]) (.seq (.reg [.set [(5,.c (.v (.int .i64 (-1))))] [5]]) (.seq (.seq (.reg [.set [(8,.t 1),(9,.ap .llen [.t 1]),(10,.c (.v (.int .i64 0)))] [8,9,10]]) (.block 0 (.loop (.seq (.reg [.set [(11,.ap (.ibin .lss) [.t 10,.t 9])] [11]]) (.seq (.cond (.t 11) .skip (.exit 0)) (.seq (.block 1 (.seq (.reg [.set [(7,.ap (.load 1 false) [.ap (.idx 3 1) [.t 8,.t 10]])] [12,13,7]]) (.seq (.seq (.reg [.set [(22,.ite (.ap (.ibin .leq) [.t 7,.t 5]) (.c (.v (.bool true))) (.ap (.ibin .geq) [.t 7,.ap (.load 1 false) [.ap (.fld 1) [.t 2]]]))] [14,15,16,17,18,19,20,21,22]]) (.cond (.t 22) (.seq (.reg [.set [(4,.c (.v (.bool false)))] [4]]) .ret) .skip)) (.reg [.set [(5,.t 7)] [23,5]])))) (.reg [.set [(10,.ap (.ibin .add) [.t 10,.c (.v (.int .i64 1))])] [24,10]]))))))) (.seq (.reg [.set [(4,.c (.v (.bool true)))] [4]]) .ret))),[.t 4])
theorem is39 : IsFn Try.prog frOf 39 Try.f39 W39:=⟨by kernel_rfl,by kernel_rfl,by kernel_rfl⟩
theorem nt39 : Try.f39.ntmps = 25:=by kernel_rfl
def W74 : WC × List VRes:=(.seq (.reg [.set [(4,.c (.v (.bool false)))] [4]]) (.seq (.reg [.set [(4,.ite (.ite (.ap (.call 94) [.t 0]) (.ap .inot [.ap (.call 94) [.t 1]]) (.c (.v (.bool false)))) (.c (.v (.bool true))) (.ap (.ibin .lss) [.t 0,.t 1]))] [5,6,7,8,9,10,11,12,13,14,15,16,4]]) .ret),[.t 4])
theorem is74 : IsFn Try.prog frOf 74 Try.f74 W74:=⟨by kernel_rfl,by kernel_rfl,by kernel_rfl⟩
theorem nt74 : Try.f74.ntmps = 17:=by kernel_rfl
def W75 : WC × List VRes:=(.seq (.reg [.set [(2,.c (.v (.bool false)))] [2]]) (.seq (.reg [.set [(2,.ap (.ibin .neq) [.t 0,.t 0])] [3,4,5,2]]) .ret),[.t 2])
theorem is75 : IsFn Try.prog frOf 75 Try.f75 W75:=⟨by kernel_rfl,by kernel_rfl,by kernel_rfl⟩
theorem nt75 : Try.f75.ntmps = 6:=by kernel_rfl
def W94 : WC × List VRes:=(.seq (.reg [.set [(2,.c (.v (.bool false)))] [2]]) (.seq (.reg [.set [(2,.ap (.ibin .neq) [.t 0,.t 0])] [3,4,5,2]]) .ret),[.t 2])
theorem is94 : IsFn Try.prog frOf 94 Try.f94 W94:=⟨by kernel_rfl,by kernel_rfl,by kernel_rfl⟩
theorem nt94 : Try.f94.ntmps = 6:=by kernel_rfl
def W63 : WC × List VRes:=(.seq (.reg [.set [(4,.c (.v (.int .i64 0))),(5,.c (.v (.bool false)))] [4,5]]) (.seq (.reg [.set [(6,.ap .llen [.t 0])] [10,11,6]]) (.seq (.reg [.set [(7,.c (.v (.int .i64 0))),(8,.t 6)] [12,7,8]]) (.seq (.block 0 (.loop (.seq (.seq (.reg [.set [(15,.ap (.ibin .lss) [.t 7,.t 8])] [13,14,15]]) (.cond (.t 15) .skip (.exit 0))) (.block 1 (.seq (.reg [.set [(9,.ap (.conv .i64) [.ap (.ishift .shr) [.ap (.conv .u64) [.ap (.ibin .add) [.t 7,.t 8]],.c (.v (.int .u64 1))]])] [16,17,18,19,20,21,9]]) (.seq (.reg [.set [(27,.ap (.call 74) [.ap (.load 1 false) [.ap (.idx 3 1) [.t 0,.t 9]],.t 1])] [22,23,24,25,26,27]]) (.cond (.t 27) (.reg [.set [(7,.ap (.ibin .add) [.t 9,.c (.v (.int .i64 1))])] [28,29,7]]) (.reg [.set [(8,.t 9)] [30,8]])))))))) (.seq (.reg [.set [(4,.t 7),(5,.ite (.ap (.ibin .lss) [.t 7,.t 6]) (.ite (.ap (.ibin .eql) [.ap (.load 1 false) [.ap (.idx 3 1) [.t 0,.t 7]],.t 1]) (.c (.v (.bool true))) (.ite (.ap (.call 75) [.ap (.load 1 false) [.ap (.idx 3 1) [.t 0,.t 7]]]) (.ap (.call 75) [.t 1]) (.c (.v (.bool false))))) (.c (.v (.bool false))))] [31,32,33,34,35,36,37,38,39,40,41,42,43,44,45,46,47,48,49,50,51,52,53,4,5]]) .ret)))),[.t 4,.t 5])
theorem is63 : IsFn Try.prog frOf 63 Try.f63 W63:=⟨by kernel_rfl,by kernel_rfl,by kernel_rfl⟩
theorem nt63 : Try.f63.ntmps = 54:=by kernel_rfl
def W62 : WC × List VRes:=(.seq (.reg [.set [(3,.c (.v (.bool false)))] [3]]) (.seq (.reg [.set [(4,.ap (.ext 0) [.ap (.call 63) [.ap (.load 1 false) [.t 1],.t 0]]),(5,.ap (.ext 1) [.ap (.call 63) [.ap (.load 1 false) [.t 1],.t 0]])] [7,8,9,6,10,11,4,5]]) (.seq (.reg [.set [(3,.t 5)] [12,3]]) .ret)),[.t 3])
theorem is62 : IsFn Try.prog frOf 62 Try.f62 W62:=⟨by kernel_rfl,by kernel_rfl,by kernel_rfl⟩
theorem nt62 : Try.f62.ntmps = 13:=by kernel_rfl
def W24 : WC × List VRes:=(.seq (.reg [.set [(2,.c .nil)] [2]]) (.seq (.seq (.reg [.set [(4,.ap (.snil false) [.t 0,.c .nil])] [3,4]]) (.cond (.t 4) (.seq (.reg [.set [(2,.c .nil)] [2]]) .ret) .skip)) (.seq (.reg [.stm (.eff (.lit 5 53 5 0 [] [] []) none),.set [(6,.t 0)] [6],.stm (.eff (.app 7 53 5 (.t 5) (.t 6)) none),.set [(2,.t 7)] [2]]) .ret)),[.t 2])
theorem is24 : IsFn Try.prog frOf 24 Try.f24 W24:=⟨by kernel_rfl,by kernel_rfl,by kernel_rfl⟩
theorem nt24 : Try.f24.ntmps = 8:=by kernel_rfl
def W55 : WC × List VRes:=(.seq (.reg [.set [(2,.c .nil)] [2]]) (.seq (.seq (.reg [.set [(4,.ap (.snil false) [.t 0,.c .nil])] [3,4]]) (.cond (.t 4) (.seq (.reg [.set [(2,.c .nil)] [2]]) .ret) .skip)) (.seq (.reg [.stm (.eff (.lit 5 3 1 0 [] [] []) none),.set [(6,.t 0)] [6],.stm (.eff (.app 7 3 1 (.t 5) (.t 6)) none),.set [(2,.t 7)] [2]]) .ret)),[.t 2])
theorem is55 : IsFn Try.prog frOf 55 Try.f55 W55:=⟨by kernel_rfl,by kernel_rfl,by kernel_rfl⟩
theorem nt55 : Try.f55.ntmps = 8:=by kernel_rfl
def great (l : List Row) : Int:=l.foldl (fun p x=>max (max p x.ns) x.ew) 0
theorem great_succ {l : List Row} {k : Nat} (h : k < l.length) : great (l.take (k + 1)) = max (max (great (l.take k)) l[k].ns) l[k].ew:=by
  rw [List.take_succ_eq_append_getElem h,great,List.foldl_append]
  rfl
theorem c53 (m : Mv) (hl : m.rows.length≤1000000) : VCp Try.prog 53 [.agg m.cells] (iv (great m.rows)):=by
  refine wcontract_p sound0 mixed is53 (by rw [nt53]; simp) ?_ rfl
  simp [W53,Mv.cells,Mv.cellsW]
  refine wwp_loop (fun σ=>∃ k : Nat,k≤m.rows.length∧σ.s 9 = iv k∧σ.s 8 = iv m.rows.length∧σ.s 7 = .list (rowsL m.rows)∧σ.s 3 = iv (great (m.rows.take k))) (fun σ=>cnt m.rows.length (σ.s 9)) ?_ ?_
  · exact ⟨0,by simp,by simp,by simp,by simp,by simp [great]⟩
  · rintro σ hw ⟨k,hk,h9,h8,h7,h3⟩
    simp [h9,h8]
    refine condK_dec (fun hlt=>?_) (fun hge=>?_)
    · simp [h7,h8,h9,h3,rowsL_at hlt,Row.cells,wrap_succ (show k≤1000000000 by omega),putAt]
      refine ⟨⟨k + 1,by omega,by omega,?_⟩,by omega⟩
      rw [great_succ hlt]
      split <;> split <;> omega
    · simp [h3]
      rw [List.take_of_length_le (by omega)]
def listOK (r : Int) : Int→List Int→Bool
  | _,[]=>true
  | p,x :: l=>decide (p < x) && decide (x < r) && listOK r x l
theorem listOK_cons (r p x : Int) (l : List Int) : listOK r p (x :: l) = true ↔ p < x∧x < r∧listOK r x l = true:=by
  simp only [listOK,Bool.and_eq_true,decide_eq_true_eq,and_assoc]
theorem listOK_snoc (r : Int) : ∀ (l : List Int) (p x : Int),listOK r p (l ++ [x]) = true ↔ listOK r p l = true∧(p :: l).getLast (by simp) < x∧x < r
  | [],p,x=>by rw [List.nil_append,listOK_cons]; simp [listOK]
  | y :: l,p,x=>by
    rw [List.cons_append,listOK_cons,listOK_snoc r l y x,listOK_cons,List.getLast_cons_cons]
    simp only [and_assoc]
theorem listOK_take {r p : Int} : ∀ {l : List Int} (k : Nat),listOK r p l = true→listOK r p (l.take k) = true
  | _,0,_=>rfl
  | [],_ + 1,_=>rfl
  | x :: l,k + 1,h=>by
    rw [listOK_cons] at h
    rw [List.take_succ_cons,listOK_cons]
    exact ⟨h.1,h.2.1,listOK_take k h.2.2⟩
theorem c39 (m : Mv) (d : D) (hd : d.okC = true) (l : List Int) (hl : l.length≤1000000) : VCp Try.prog 39 [.agg (m.cellsW d),.list (ints l)] (bv (listOK m.r (-1) l)):=by
  refine wcontract_p sound0 mixed is39 (by rw [nt39]; simp) ?_ rfl
  simp [W39,Mv.cellsW,hd]
  refine wwp_loop (fun σ=>∃ k : Nat,k≤l.length∧σ.s 10 = iv k∧σ.s 9 = iv l.length∧σ.s 8 = .list (ints l)∧σ.s 5 = iv ((-1 :: l.take k).getLast (by simp))∧listOK m.r (-1) (l.take k) = true∧σ.s 2 = .ptr [3,0] 0∧
    σ.m [3,0] = some (.box [iv m.t,iv m.r,iv m.s,iv m.c,iv m.w,d])) (fun σ=>cnt l.length (σ.s 10)) ?_ ?_
  · refine ⟨0,by simp,by simp,by simp,by simp,by simp,by simp [listOK],by simp,by simp⟩
  · rintro σ hw ⟨k,hk,h10,h9,h8,h5,hok,h2,hm⟩
    simp [h9,h10]
    refine condK_dec (fun hlt=>?_) (fun hge=>?_)
    · simp [h8,h9,h10,h5,h2,hm,ints_at hlt]
      have hb:=listOK_snoc m.r (l.take k) (-1) l[k]
      rw [← List.take_succ_eq_append_getElem hlt] at hb
      refine condK_b (fun hx=>?_) (fun hx=>?_)
      · simp only [Bool.or_eq_true,decide_eq_true_eq] at hx
        have : listOK m.r (-1) l = false:=by
          cases h : listOK m.r (-1) l
          · rfl
          · have:=hb.1 (listOK_take (k + 1) h)
            omega
        simp [this]
      · simp only [Bool.or_eq_false_iff,decide_eq_false_iff_not] at hx
        have hok' : listOK m.r (-1) (l.take (k + 1)) = true:=hb.2 ⟨hok,by omega,by omega⟩
        have hlast : (-1 :: l.take (k + 1)).getLast (by simp) = l[k]:=by
          simp only [List.take_succ_eq_append_getElem hlt]
          exact List.getLast_concat (l:=-1 :: l.take k)
        simp [h9,h10,h8,h2,hm,wrap_succ (show k≤1000000000 by omega)]
        refine ⟨⟨k + 1,by omega,by omega,?_,hok'⟩,by omega⟩
        rw [hlast]
    · rw [List.take_of_length_le (by omega)] at hok
      simp [hok]
theorem c94 (x : Int) : VCp Try.prog 94 [iv x] (bv false):=by
  refine wcontract_p sound0 mixed is94 (by rw [nt94]; simp) ?_ rfl
  simp [W94]
theorem c75 (x : Int) : VCp Try.prog 75 [iv x] (bv false):=by
  refine wcontract_p sound0 mixed is75 (by rw [nt75]; simp) ?_ rfl
  simp [W75]
def S94 : List D→Option D
  | [.v (.int .i64 _)]=>some (bv false)
  | _=>none
theorem s94 : OkP 94 S94:=fun ds d h=>by
  unfold S94 at h
  split at h <;> cases h
  exact c94 _
def S75 : List D→Option D
  | [.v (.int .i64 _)]=>some (bv false)
  | _=>none
theorem s75 : OkP 75 S75:=fun ds d h=>by
  unfold S75 at h
  split at h <;> cases h
  exact c75 _
def env74 : Env:=mkEnv [(94,S94)] [] []
@[simp] theorem env74_p (f : Nat) (ds : List D) : env74.p f ds = (look [(94,S94)] f).bind fun s=>s ds:=rfl
theorem sound74 : Sound Try.prog env74:=sound_mk (by simpa using s94) (by simp) (by simp)
theorem c74 (x y : Int) : VCp Try.prog 74 [iv x,iv y] (bv (decide (x < y))):=by
  refine wcontract_p sound74 mixed is74 (by rw [nt74]; simp) ?_ rfl
  simp [W74,S94]
def S74 : List D→Option D
  | [.v (.int .i64 x),.v (.int .i64 y)]=>some (bv (decide (x < y)))
  | _=>none
theorem s74 : OkP 74 S74:=fun ds d h=>by
  unfold S74 at h
  split at h <;> cases h
  exact c74 _ _
def S53 : List D→Option D
  | [.agg xs]=>(asMv xs).bind fun m=>if m.rows.length≤1000000 then some (iv (great m.rows)) else none
  | _=>none
theorem s53 : OkP 53 S53:=fun ds d h=>by
  unfold S53 at h
  split at h
  · rw [Option.bind_eq_some_iff] at h
    obtain ⟨m,hm,h⟩:=h
    split at h <;> cases h
    rw [asMv_eq hm]
    exact c53 m (by assumption)
  · cases h
def S39 : List D→Option D
  | [.agg [.v (.int .i64 a),.v (.int .i64 b),.v (.int .i64 c),.v (.int .i64 d),.v (.int .i64 e),r],.list es]=>if r.okC = true then (asInts es).bind fun l=>if l.length≤1000000 then some (bv (listOK b (-1) l)) else none else none
  | _=>none
theorem s39 : OkP 39 S39:=fun ds d h=>by
  unfold S39 at h
  split at h
  · split at h
    · rw [Option.bind_eq_some_iff] at h
      obtain ⟨l,hl,h⟩:=h
      split at h <;> cases h
      rw [asInts_eq hl]
      exact c39 ⟨_,_,_,_,_,[]⟩ _ (by assumption) l (by assumption)
    · cases h
  · cases h
def bsAt (l : List Int) (x : Int) : Nat:=(l.filter fun y=>decide (y < x)).length
def rises (l : List Int) : Bool:=decide (l.Pairwise (· < ·))
def env63 : Env:=mkEnv [(74,S74),(75,S75)] [] []
@[simp] theorem env63_p (f : Nat) (ds : List D) : env63.p f ds = (look [(74,S74),(75,S75)] f).bind fun s=>s ds:=rfl
theorem sound63 : Sound Try.prog env63:=sound_mk (by simp [s74,s75]) (by simp) (by simp)
theorem mid_wrap {i j : Nat} (h : i + j≤2000000) : IntKind.i64.wrap ((IntKind.u64.wrap (IntKind.i64.wrap ((i : Int) + j))).fdiv (2 ^ min 1 IntKind.u64.bits)) = ((i + j) / 2 : Nat):=by
  have e : (2 : Int) ^ min 1 IntKind.u64.bits = 2:=by decide
  rw [e,Int.fdiv_eq_ediv_of_nonneg _ (by omega)]
  simp only [IntKind.wrap_i64,IntKind.wrap_u64]
  omega
theorem bsAt_eq {l : List Int} {x : Int} {i : Nat} (hi : i≤l.length) (hlo : ∀ k (h : k < l.length),k < i→l[k] < x) (hhi : ∀ k (h : k < l.length),i≤k→x≤l[k]) : bsAt l x = i:=by
  unfold bsAt
  have e : l.filter (fun y=>decide (y < x)) = l.take i:=by
    conv=>lhs; rw [← List.take_append_drop i l]
    rw [List.filter_append]
    have h1 : (l.take i).filter (fun y=>decide (y < x)) = l.take i:=List.filter_eq_self.2 fun y hy=>by
      obtain ⟨k,hk,rfl⟩:=List.getElem_of_mem hy
      have hk' : k < i∧k < l.length:=by rw [List.length_take] at hk; omega
      simpa using hlo k hk'.2 hk'.1
    have h2 : (l.drop i).filter (fun y=>decide (y < x)) = []:=List.filter_eq_nil_iff.2 fun y hy=>by
      obtain ⟨k,hk,rfl⟩:=List.getElem_of_mem hy
      have hk' : i + k < l.length:=by simp at hk; omega
      have:=hhi (i + k) hk' (by omega)
      simpa using this
    rw [h1,h2,List.append_nil]
  rw [e,List.length_take]
  omega
theorem mem_eq {l : List Int} {x : Int} {i : Nat} (hs : l.Pairwise (· < ·)) (hi : i < l.length) (hlo : ∀ k (h : k < l.length),k < i→l[k] < x) (hhi : ∀ k (h : k < l.length),i≤k→x≤l[k]) : decide (x ∈ l) = (l[i] == x):=by
  rw [Bool.eq_iff_iff,decide_eq_true_eq,beq_iff_eq]
  constructor
  · intro hx
    obtain ⟨k,hk,rfl⟩:=List.getElem_of_mem hx
    rcases Nat.lt_trichotomy k i with h | h | h
    · have:=hlo k hk h; omega
    · subst h; rfl
    · have h1:=hhi i hi (Nat.le_refl _)
      have h2:=List.pairwise_iff_getElem.1 hs i k hi hk h
      omega
  · rintro rfl; exact List.getElem_mem hi
theorem c63 (l : List Int) (x : Int) (hl : l.length≤1000000) (hs : l.Pairwise (· < ·)) : VCp Try.prog 63 [.list (ints l),iv x] (.tup [iv (bsAt l x),bv (l.contains x)]):=by
  refine wcontract_p sound63 mixed is63 (by rw [nt63]; simp) ?_ rfl
  simp [W63]
  refine wwp_loop (fun σ=>∃ i j : Nat,i≤j∧j≤l.length∧σ.s 7 = iv i∧σ.s 8 = iv j∧σ.s 6 = iv l.length∧σ.s 0 = .list (ints l)∧σ.s 1 = iv x∧(∀ k (h : k < l.length),k < i→l[k] < x)∧(∀ k (h : k < l.length),j≤k→x≤l[k]))
    (fun σ=>(match σ.s 8 with | .v (.int _ j)=>j.toNat | _=>0) - (match σ.s 7 with | .v (.int _ i)=>i.toNat | _=>0)) ?_ ?_
  · exact ⟨0,l.length,by omega,by omega,by simp,by simp,by simp,by simp,by simp,by omega,by omega⟩
  · rintro σ hw ⟨i,j,hij,hj,h7,h8,h6,h0,h1,hlo,hhi⟩
    simp [h7,h8]
    refine condK_dec (fun hlt=>?_) (fun hge=>?_)
    · obtain ⟨h,hh⟩ : ∃ h,h = (i + j) / 2:=⟨_,rfl⟩
      have hmid : h < l.length:=by omega
      have hih : i≤h:=by omega
      have hhj : h < j:=by omega
      have hmw:=mid_wrap (show i + j≤2000000 by omega)
      rw [← hh] at hmw
      simp [h7,h8,h0,h1,hmw,ints_at hmid,S74]
      refine condK_dec (fun hx=>?_) (fun hx=>?_)
      · simp [h8,h6,h0,h1,wrap_succ (show h≤1000000000 by omega)]
        refine ⟨⟨h + 1,j,by omega,by omega,by omega,rfl,?_,hhi⟩,Nat.sub_lt_sub_left hlt (Nat.lt_succ_of_le hih)⟩
        intro k hk hkh
        rcases Nat.lt_or_ge k h with hlt' | hge'
        · exact Int.lt_trans (List.pairwise_iff_getElem.1 hs k h hk hmid hlt') hx
        · obtain rfl : k = h:=by omega
          exact hx
      · simp [h7,h8,h6,h0,h1]
        clear hmw
        refine ⟨⟨i,h,by omega,by omega,rfl,rfl,hlo,?_⟩,by omega⟩
        intro k hk hkh
        rcases Nat.lt_or_ge h k with hlt' | hge'
        · exact Int.le_of_lt (Int.lt_of_le_of_lt (Int.not_lt.1 hx) (List.pairwise_iff_getElem.1 hs h k hmid hk hlt'))
        · obtain rfl : k = h:=by omega
          exact Int.not_lt.1 hx
    · have : i = j:=by omega
      subst this
      have hat : bsAt l x = i:=bsAt_eq hj hlo hhi
      by_cases hlt : i < l.length
      · have hmem : decide (x ∈ l) = (l[i] == x):=mem_eq hs hlt hlo hhi
        simp [h7,h8,h6,h0,h1,S75,hlt,ints_at hlt,hat,hmem]
      · have hmem : x ∉ l:=fun hx=>by
          obtain ⟨k,hk,rfl⟩:=List.getElem_of_mem hx
          have:=hlo k hk (by omega)
          omega
        simp [h7,h8,h6,h0,h1,S75,hlt,hat,hmem]
def S63 : List D→Option D
  | [.list es,.v (.int .i64 x)]=>(asInts es).bind fun l=>if l.length≤1000000∧rises l = true then some (.tup [iv (bsAt l x),bv (l.contains x)]) else none
  | _=>none
theorem s63 : OkP 63 S63:=fun ds d h=>by
  unfold S63 at h
  split at h
  · rw [Option.bind_eq_some_iff] at h
    obtain ⟨l,hl,h⟩:=h
    split at h <;> cases h
    rename_i hc
    rw [asInts_eq hl]
    exact c63 l _ hc.1 (by simpa [rises] using hc.2)
  · cases h
def env62 : Env:=mkEnv [(63,S63)] [] []
@[simp] theorem env62_p (f : Nat) (ds : List D) : env62.p f ds = (look [(63,S63)] f).bind fun s=>s ds:=rfl
theorem sound62 : Sound Try.prog env62:=sound_mk (by simp [s63]) (by simp) (by simp)
theorem c62 (l : List Int) (x : Int) (hl : l.length≤1000000) (hs : rises l = true) : VCp Try.prog 62 [iv x,.lptr [.list (ints l)]] (bv (l.contains x)):=by
  refine wcontract_p sound62 mixed is62 (by rw [nt62]; simp) ?_ rfl
  simp [W62,S63,hl,hs]
def S62 : List D→Option D
  | [.v (.int .i64 x),.lptr [.list es]]=>(asInts es).bind fun l=>if l.length≤1000000∧rises l = true then some (bv (l.contains x)) else none
  | _=>none
theorem s62 : OkP 62 S62:=fun ds d h=>by
  unfold S62 at h
  split at h
  · rw [Option.bind_eq_some_iff] at h
    obtain ⟨l,hl,h⟩:=h
    split at h <;> cases h
    rename_i hc
    rw [asInts_eq hl]
    exact c62 l _ hc.1 hc.2
  · cases h
theorem c24_nil : VCq Try.prog 24 [.nil] .nil noMem:=by
  refine wcontract_q sound0 mixed is24 (by rw [nt24]; simp) ?_
  simp [W24]
  exact Out.flat rfl rfl
theorem c24_mt : VCq Try.prog 24 [.mt] (.sl [] 5 0 0 none) (rowMem 53 []):=by
  refine wcontract_q sound0 mixed is24 (by rw [nt24]; simp) ?_
  simp [W24]
  exact Out.row (g:=[6,0]) (by simp) (by simp)
theorem c24_l (l : List Row) (hl : l ≠ []) (h : l.length≤1000000) : VCq Try.prog 24 [.list (rowsL l)] (.sl [] 5 0 l.length none) (rowMem 53 (rowsL l)):=by
  refine wcontract_q sound0 mixed is24 (by rw [nt24]; simp) ?_
  simp [W24,snilV_rows hl,hl,maxMade_le h]
  exact Out.row (g:=[6,0]) (es:=rowsL l) (by simp) (rowsL_flat l)
def S24 : List D→Option (D × Mem)
  | [.list es]=>(asRows es).bind fun l=>if l.length≤1000000 then if l.isEmpty then some (.list [],noMem) else some (.sl [] 5 0 l.length none,rowMem 53 (rowsL l)) else none
  | _=>none
theorem s24 : OkQ 24 S24:=fun ds d m h=>by
  unfold S24 at h
  split at h
  · rw [Option.bind_eq_some_iff] at h
    obtain ⟨l,hl,h⟩:=h
    rw [asRows_eq hl]
    split at h
    · split at h
      · rename_i h1 h2
        cases h
        rw [List.isEmpty_iff.1 h2]
        exact VCq.empty (ds1:=[]) (ds2:=[]) c24_nil c24_mt rfl rfl
      · rename_i h1 h2
        cases h
        exact c24_l l (by simpa using h2) h1
    · cases h
  · cases h
theorem c55_nil : VCq Try.prog 55 [.nil] .nil noMem:=by
  refine wcontract_q sound0 mixed is55 (by rw [nt55]; simp) ?_
  simp [W55]
  exact Out.flat rfl rfl
theorem c55_mt : VCq Try.prog 55 [.mt] (.sl [] 1 0 0 none) (rowMem 3 []):=by
  refine wcontract_q sound0 mixed is55 (by rw [nt55]; simp) ?_
  simp [W55]
  exact Out.row (g:=[6,0]) (by simp) (by simp)
theorem c55_l (l : List Int) (hl : l ≠ []) (h : l.length≤1000000) : VCq Try.prog 55 [.list (ints l)] (.sl [] 1 0 l.length none) (rowMem 3 (ints l)):=by
  refine wcontract_q sound0 mixed is55 (by rw [nt55]; simp) ?_
  simp [W55,snilV_ints hl,hl,maxMade_le h]
  exact Out.row (g:=[6,0]) (es:=ints l) (by simp) (ints_flat l)
def S55 : List D→Option (D × Mem)
  | [.list es]=>(asInts es).bind fun l=>if l.length≤1000000 then if l.isEmpty then some (.list [],noMem) else some (.sl [] 1 0 l.length none,rowMem 3 (ints l)) else none
  | _=>none
theorem s55 : OkQ 55 S55:=fun ds d m h=>by
  unfold S55 at h
  split at h
  · rw [Option.bind_eq_some_iff] at h
    obtain ⟨l,hl,h⟩:=h
    rw [asInts_eq hl]
    split at h
    · split at h
      · rename_i h1 h2
        cases h
        rw [List.isEmpty_iff.1 h2]
        exact VCq.empty (ds1:=[]) (ds2:=[]) c55_nil c55_mt rfl rfl
      · rename_i h1 h2
        cases h
        exact c55_l l (by simpa using h2) h1
    · cases h
  · cases h
end Go.Proofs.Ytpmgaaalfdjikaa
namespace Go.Proofs.Ytpmgaaalfdjikaa
open Go.RowKit
set_option linter.unusedSimpArgs false
set_option linter.unusedVariables false
def W41 : WC × List VRes:=(.seq (.reg [.stm (.eff (.box 2 (.t 0)) none),.stm (.eff (.box 3 (.t 1)) none),.stm (.eff (.box 4 (.c (.agg [.v (.int .i64 0),.v (.int .i64 0),.v (.int .i64 0),.v (.int .i64 0),.v (.int .i64 0),.nil]))) none)]) (.seq (.reg [.set [(5,.ap (.clo 62) [.t 3])] [8,5]]) (.seq (.reg [.set [(10,.ap (.load 1 false) [.ap (.fld 5) [.t 2]])] [9,10],.stm (.eff (.callq 11 24 [.t 10]) none),.set [(12,.ap (.fld 5) [.t 2])] [12],.stm (.eff (.store 1 (.t 12) (.t 11)) none)]) (.seq (.seq (.reg [.set [(14,.ap (.load 1 false) [.ap (.fld 5) [.t 2]]),(15,.ap .llen [.ap (.load 1 false) [.ap (.fld 5) [.t 2]]]),(16,.c (.v (.int .i64 0)))] [13,14,15,16]]) (.block 0 (.loop (.seq (.reg [.set [(17,.ap (.ibin .lss) [.t 16,.t 15])] [17]]) (.seq (.cond (.t 17) .skip (.exit 0)) (.seq (.block 1 (.seq (.reg [.set [(18,.t 16),(20,.ap (.load 5 true) [.ap (.idx 53 5) [.t 14,.t 16]])] [18,19,20],.stm (.eff (.box 7 (.c (.agg [.v (.int .i64 0),.v (.int .i64 0),.v (.int .i64 0),.v (.int .i64 0),.v (.int .i64 0)]))) none),.set [(6,.t 18)] [6],.stm (.eff (.store 5 (.t 7) (.t 20)) none)]) (.seq (.reg [.set [(24,.ap .ccall [.t 5,.ap (.load 1 false) [.ap (.fld 0) [.t 7]]])] [21,22,23,24]]) (.cond (.t 24) (.drw [[.op 25 (.fld 5) [.t 2] none,.op 26 (.load 1 false) [.t 25] none,.op 27 .mv [.t 6] none,.op 28 (.fld 5) [.t 2] none,.op 30 .mv [.t 6] none,.op 31 (.fld 3) [.t 7] none,.op 32 (.load 1 false) [.t 31] none,.op 33 (.fld 2) [.t 7] none,.op 35 (.idx 53 5) [.t 26,.t 27] none,.op 36 (.fld 2) [.t 35] none,.op 29 (.load 1 false) [.t 28] none,.op 34 (.load 1 false) [.t 33] none,.eff (.store 1 (.t 36) (.t 32)) none,.op 37 (.idx 53 5) [.t 29,.t 30] none,.op 38 (.fld 3) [.t 37] none,.eff (.store 1 (.t 38) (.t 34)) none],[.op 25 (.fld 5) [.t 2] none,.op 26 (.load 1 false) [.t 25] none,.op 27 .mv [.t 6] none,.op 28 (.fld 5) [.t 2] none,.op 30 .mv [.t 6] none,.op 31 (.fld 3) [.t 7] none,.op 32 (.load 1 false) [.t 31] none,.op 33 (.fld 2) [.t 7] none,.op 35 (.idx 53 5) [.t 26,.t 27] none,.op 36 (.fld 2) [.t 35] none,.op 29 (.load 1 false) [.t 28] none,.eff (.store 1 (.t 36) (.t 32)) none,.op 34 (.load 1 false) [.t 33] none,.op 37 (.idx 53 5) [.t 29,.t 30] none,.op 38 (.fld 3) [.t 37] none,.eff (.store 1 (.t 38) (.t 34)) none],[.op 25 (.fld 5) [.t 2] none,.op 26 (.load 1 false) [.t 25] none,.op 27 .mv [.t 6] none,.op 28 (.fld 5) [.t 2] none,.op 30 .mv [.t 6] none,.op 31 (.fld 3) [.t 7] none,.op 32 (.load 1 false) [.t 31] none,.op 33 (.fld 2) [.t 7] none,.op 35 (.idx 53 5) [.t 26,.t 27] none,.op 36 (.fld 2) [.t 35] none,.op 34 (.load 1 false) [.t 33] none,.op 29 (.load 1 false) [.t 28] none,.eff (.store 1 (.t 36) (.t 32)) none,.op 37 (.idx 53 5) [.t 29,.t 30] none,.op 38 (.fld 3) [.t 37] none,.eff (.store 1 (.t 38) (.t 34)) none],[.op 25 (.fld 5) [.t 2] none,.op 26 (.load 1 false) [.t 25] none,.op 27 .mv [.t 6] none,.op 28 (.fld 5) [.t 2] none,.op 30 .mv [.t 6] none,.op 31 (.fld 3) [.t 7] none,.op 32 (.load 1 false) [.t 31] none,.op 33 (.fld 2) [.t 7] none,.op 35 (.idx 53 5) [.t 26,.t 27] none,.op 36 (.fld 2) [.t 35] none,.op 34 (.load 1 false) [.t 33] none,.eff (.store 1 (.t 36) (.t 32)) none,.op 29 (.load 1 false) [.t 28] none,.op 37 (.idx 53 5) [.t 29,.t 30] none,.op 38 (.fld 3) [.t 37] none,.eff (.store 1 (.t 38) (.t 34)) none],[.op 25 (.fld 5) [.t 2] none,.op 26 (.load 1 false) [.t 25] none,.op 27 .mv [.t 6] none,.op 28 (.fld 5) [.t 2] none,.op 30 .mv [.t 6] none,.op 31 (.fld 3) [.t 7] none,.op 32 (.load 1 false) [.t 31] none,.op 33 (.fld 2) [.t 7] none,.op 35 (.idx 53 5) [.t 26,.t 27] none,.op 36 (.fld 2) [.t 35] none,.eff (.store 1 (.t 36) (.t 32)) none,.op 29 (.load 1 false) [.t 28] none,.op 34 (.load 1 false) [.t 33] none,.op 37 (.idx 53 5) [.t 29,.t 30] none,.op 38 (.fld 3) [.t 37] none,.eff (.store 1 (.t 38) (.t 34)) none]]) .skip)))) (.reg [.set [(16,.ap (.ibin .add) [.t 16,.c (.v (.int .i64 1))])] [39,16]]))))))) (.seq (.seq (.reg [.set [(42,.ap (.ibin .gtr) [.ap .llen [.ap (.load 1 false) [.t 3]],.c (.v (.int .i64 0))])] [40,41,42]]) (.cond (.t 42) (.reg [.set [(43,.ap (.fld 4) [.t 2])] [43],.stm (.eff (.store 1 (.t 43) (.c (.v (.int .i64 1)))) none)]) .skip)) (.seq (.reg [.set [(44,.ap (.load 6 true) [.t 2])] [44],.stm (.eff (.store 6 (.t 4) (.t 44)) none)]) .ret))))),[.cell 4 6 true])
theorem is41 : IsFn Try.prog frOf 41 Try.f41 W41:=⟨by kernel_rfl,by kernel_rfl,by kernel_rfl⟩
theorem nt41 : Try.f41.ntmps = 45:=by kernel_rfl
def turnRow (L : List Int) (x : Row) : Row:=if L.contains x.r then { x with ns:=x.ew,ew:=x.ns } else x
def exch (m : Mv) (L : List Int) : Mv:={ m with w:=if L.isEmpty then m.w else 1,rows:=m.rows.map (turnRow L) }
def half (L : List Int) (k : Nat) (l : List Row) : List Row:=(l.take k).map (turnRow L) ++ l.drop k
theorem half_len (L : List Int) (k : Nat) (l : List Row) : (half L k l).length = l.length:=by simp [half]; omega
theorem half_get {L : List Int} {k : Nat} {l : List Row} (h : k < l.length) : (half L k l)[k]? = some l[k]:=by
  unfold half
  rw [List.getElem?_append_right (by simp; omega)]
  have : k - ((l.take k).map (turnRow L)).length = 0:=by simp; omega
  rw [this,List.getElem?_drop,Nat.add_zero,List.getElem?_eq_getElem h]
theorem half_at {L : List Int} {k : Nat} {l : List Row} (h : k < l.length) : (rowsL (half L k l))[k]? = some l[k].cells:=by
  simp [rowsL,half_get h]
theorem half_succ {L : List Int} {k : Nat} {l : List Row} (h : k < l.length) : half L (k + 1) l = (half L k l).set k (turnRow L l[k]):=by
  unfold half
  rw [List.set_append_right _ _ (by simp; omega),List.take_succ_eq_append_getElem h,List.map_append]
  have e : k - ((l.take k).map (turnRow L)).length = 0:=by simp; omega
  rw [e,List.drop_eq_getElem_cons h,List.set_cons_zero,List.append_assoc]
  rfl
theorem half_all (L : List Int) (l : List Row) : half L l.length l = l.map (turnRow L):=by simp [half]
def env41 : Env:=mkEnv [(62,S62)] [(24,S24)] []
@[simp] theorem env41_p (f : Nat) (ds : List D) : env41.p f ds = (look [(62,S62)] f).bind fun s=>s ds:=rfl
@[simp] theorem env41_q (f : Nat) (ds : List D) : env41.q f ds = (look [(24,S24)] f).bind fun s=>s ds:=rfl
theorem sound41 : Sound Try.prog env41:=sound_mk (by simp [s62]) (by simp [s24]) (by simp)
theorem c41 (m : Mv) (L : List Int) (hm : m.rows.length≤1000000) (h0 : m.rows ≠ []) (hL : L.length≤1000000) (hs : rises L = true) :
    VCq Try.prog 41 [.agg m.cells,.list (ints L)] (.agg ((exch m L).cellsW (.sl [] 5 0 m.rows.length none))) (rowMem 53 (rowsL (exch m L).rows)):=by
  refine wcontract_q sound41 mixed is41 (by rw [nt41]; simp) ?_
  simp [W41,Mv.cells,Mv.cellsW,S24,hm,h0]
  refine wwp_loop (fun σ=>∃ k : Nat,k≤m.rows.length∧σ.s 16 = iv k∧σ.s 15 = iv m.rows.length∧σ.s 14 = .sl [12,0] 5 0 m.rows.length none∧σ.s 5 = .clo 62 [.ptr [4,0] 0]∧σ.s 2 = .ptr [3,0] 0∧σ.s 3 = .ptr [4,0] 0∧σ.s 4 = .ptr [5,0] 0∧
    σ.m [3,0] = some (.box [iv m.t,iv m.r,iv m.s,iv m.c,iv m.w,.sl [12,0] 5 0 m.rows.length none])∧σ.m [4,0] = some (.box [.list (ints L)])∧σ.m [5,0] = some (.box [iv 0,iv 0,iv 0,iv 0,iv 0,.nil])∧
    σ.m [12,0] = some (.row [12,0,0] 53 (rowsL (half L k m.rows)))) (fun σ=>cnt m.rows.length (σ.s 16)) ?_ ?_
  · exact ⟨0,by simp,by simp,by simp,by simp,by simp,by simp,by simp,by simp,by simp,by simp,by simp,by simp [half]⟩
  · rintro σ hw ⟨k,hk,h16,h15,h14,h5,h2,h3,h4,m3,m4,m5,m12⟩
    simp [h15,h16]
    refine condK_dec (fun hlt=>?_) (fun hge=>?_)
    · have hat : (rowsL (half L k m.rows))[k]? = some m.rows[k].cells:=half_at hlt
      have hhl : (half L k m.rows).length = m.rows.length:=half_len _ _ _
      simp [h14,h16,h5,m12,m4,hlt,hat,Row.cells,S62,hL,hs]
      refine condK_dec (fun hx=>?_) (fun hx=>?_)
      · refine wwp_drw_h [25,26,27,28,29,30,31,32,33,34,35,36,37,38] (by decide) ?_
        simp [h2,h3,h4,h5,h14,h15,h16,m3,m4,m5,m12,hlt,hat,hhl,Row.cells,wrap_succ (show k≤1000000000 by omega)]
        refine ⟨⟨k + 1,by omega,by omega,?_⟩,by omega⟩
        have hget : (half L k m.rows)[k]'(by omega) = m.rows[k]:=by
          have:=half_get (L:=L) hlt
          rw [List.getElem?_eq_getElem (by omega)] at this
          exact Option.some.inj this
        rw [half_succ hlt,rowsL_set,hget]
        simp [turnRow,hx,Row.cells]
      · simp [h16,h15,h14,h5,h2,h3,h4,m3,m4,m5,m12,wrap_succ (show k≤1000000000 by omega)]
        refine ⟨⟨k + 1,by omega,by omega,?_⟩,by omega⟩
        rw [half_succ hlt]
        have hget:=half_get (L:=L) hlt
        have : (half L k m.rows).set k (turnRow L m.rows[k]) = half L k m.rows:=by
          simp only [turnRow,List.contains_eq_mem,hx,decide_false,Bool.false_eq_true,if_false]
          rw [List.getElem?_eq_getElem (by omega)] at hget
          rw [← Option.some.inj hget]
          exact List.set_getElem_self _
        rw [this]
    · have hkn : k = m.rows.length:=by omega
      subst hkn
      simp [h2,h3,h4,m3,m4,m5]
      rw [half_all] at m12
      refine condK_dec (fun hl0=>?_) (fun hl0=>?_)
      · have hne : L ≠ []:=fun e=>by rw [e] at hl0; simp at hl0
        simp [h2,h3,h4,m3,m4,m5]
        have hw1 : (exch m L).w = 1:=by simp [exch,hne]
        rw [hw1]
        exact Out.aggRow (t:=[12,0]) (g:=[12,0,0]) (es:=rowsL (m.rows.map (turnRow L))) (pre:=[iv m.t,iv m.r,iv m.s,iv m.c,iv 1]) rfl (by simp [m12]) (rowsL_flat _)
      · have hne : L = []:=List.eq_nil_of_length_eq_zero (by omega)
        simp [h2,h3,h4,m3,m4,m5]
        have hw1 : (exch m L).w = m.w:=by simp [exch,hne]
        rw [hw1]
        exact Out.aggRow (t:=[12,0]) (g:=[12,0,0]) (es:=rowsL (m.rows.map (turnRow L))) (pre:=[iv m.t,iv m.r,iv m.s,iv m.c,iv m.w]) rfl (by simp [m12]) (rowsL_flat _)
theorem c41_nil (m : Mv) (L : List Int) (h0 : m.rows = []) (hL : L.length≤1000000) (hs : rises L = true) :
    VCq Try.prog 41 [.agg m.cells,.list (ints L)] (.agg ((exch m L).cellsW (.list []))) noMem:=by
  refine wcontract_q sound41 mixed is41 (by rw [nt41]; simp) ?_
  simp [W41,Mv.cells,Mv.cellsW,S24,h0]
  refine wwp_loop (fun σ=>σ.s 16 = iv 0∧σ.s 15 = iv 0∧σ.s 2 = .ptr [3,0] 0∧σ.s 3 = .ptr [4,0] 0∧σ.s 4 = .ptr [5,0] 0∧
    σ.m [3,0] = some (.box [iv m.t,iv m.r,iv m.s,iv m.c,iv m.w,.list []])∧σ.m [4,0] = some (.box [.list (ints L)])∧σ.m [5,0] = some (.box [iv 0,iv 0,iv 0,iv 0,iv 0,.nil])) (fun σ=>0) ?_ ?_
  · exact ⟨by simp,by simp,by simp,by simp,by simp,by simp,by simp,by simp⟩
  · rintro σ hw ⟨h16,h15,h2,h3,h4,m3,m4,m5⟩
    simp [h15,h16,h2,h3,h4,m3,m4,m5]
    refine condK_dec (fun hl0=>?_) (fun hl0=>?_)
    · have hne : L ≠ []:=fun e=>by rw [e] at hl0; simp at hl0
      have hw1 : (exch m L).w = 1:=by simp [exch,hne]
      simp [h2,h3,h4,m3,m4,m5,hw1]
      exact Out.flat rfl rfl
    · have hne : L = []:=List.eq_nil_of_length_eq_zero (by omega)
      have hw1 : (exch m L).w = m.w:=by simp [exch,hne]
      simp [h2,h3,h4,m3,m4,m5,hw1]
      exact Out.flat rfl rfl
def S41 : List D→Option (D × Mem)
  | [.agg xs,.list es]=>(asMv xs).bind fun m=>(asInts es).bind fun L=>if m.rows.length≤1000000∧L.length≤1000000∧rises L = true then
      if m.rows.isEmpty then some (.agg ((exch m L).cellsW (.list [])),noMem) else some (.agg ((exch m L).cellsW (.sl [] 5 0 m.rows.length none)),rowMem 53 (rowsL (exch m L).rows)) else none
  | _=>none
theorem s41 : OkQ 41 S41:=fun ds d mm h=>by
  unfold S41 at h
  split at h
  · rw [Option.bind_eq_some_iff] at h
    obtain ⟨m,hm,h⟩:=h
    rw [Option.bind_eq_some_iff] at h
    obtain ⟨L,hL,h⟩:=h
    rw [asMv_eq hm,asInts_eq hL]
    split at h
    · rename_i hc
      split at h
      · rename_i h0
        cases h
        exact c41_nil m L (by simpa using h0) hc.2.1 hc.2.2
      · rename_i h0
        cases h
        exact c41 m L hc.1 (by simpa using h0) hc.2.1 hc.2.2
    · cases h
  · cases h
end Go.Proofs.Ytpmgaaalfdjikaa
namespace Go.Proofs.Ytpmgaaalfdjikaa
open Go.RowKit
set_option linter.unusedSimpArgs false
set_option linter.unusedVariables false
def W27 : WC × List VRes:=(.seq (.reg [.stm (.eff (.box 1 (.t 0)) none),.set [(2,.c (.v (.bool false)))] [2]]) (.seq (.seq (.reg [.set [(37,.ite (.ite (.ite (.ite (.ap (.ibin .lss) [.ap (.load 1 false) [.ap (.fld 0) [.t 1]],.c (.v (.int .i64 1))]) (.c (.v (.bool true))) (.ap (.ibin .gtr) [.ap (.load 1 false) [.ap (.fld 0) [.t 1]],.c (.v (.int .i64 24))])) (.c (.v (.bool true))) (.ap (.ibin .lss) [.ap (.load 1 false) [.ap (.fld 1) [.t 1]],.c (.v (.int .i64 1))])) (.c (.v (.bool true))) (.ap (.ibin .gtr) [.ap (.load 1 false) [.ap (.fld 1) [.t 1]],.c (.v (.int .i64 47))])) (.c (.v (.bool true))) (.ap (.ibin .gtr) [.ap .llen [.ap (.load 1 false) [.ap (.fld 5) [.t 1]]],.ap (.ibin .mul) [.ap (.load 1 false) [.ap (.fld 0) [.t 1]],.ap (.load 1 false) [.ap (.fld 1) [.t 1]]]]))] [9,10,11,12,13,14,15,16,17,18,19,20,21,22,23,24,25,26,27,28,29,30,31,32,33,34,35,36,37]]) (.cond (.t 37) (.seq (.reg [.set [(2,.c (.v (.bool false)))] [2]]) .ret) .skip)) (.seq (.reg [.stm (.eff (.box 3 (.c (.agg (zrep 1128 (.v (.bool false)))))) none)]) (.seq (.reg [.stm (.eff (.box 4 (.c (.agg (zrep 2350 (.v (.bool false)))))) none)]) (.seq (.seq (.reg [.set [(39,.ap (.load 1 false) [.ap (.fld 5) [.t 1]]),(40,.ap .llen [.ap (.load 1 false) [.ap (.fld 5) [.t 1]]]),(41,.c (.v (.int .i64 0)))] [38,39,40,41]]) (.block 0 (.loop (.seq (.reg [.set [(42,.ap (.ibin .lss) [.t 41,.t 40])] [42]]) (.seq (.cond (.t 42) .skip (.exit 0)) (.seq (.block 1 (.seq (.reg [.set [(44,.ap (.load 5 true) [.ap (.idx 53 5) [.t 39,.t 41]])] [43,44],.stm (.eff (.box 6 (.c (.agg [.v (.int .i64 0),.v (.int .i64 0),.v (.int .i64 0),.v (.int .i64 0),.v (.int .i64 0)]))) none),.stm (.eff (.store 5 (.t 6) (.t 44)) none)]) (.seq (.seq (.reg [.set [(87,.ite (.ite (.ite (.ite (.ite (.ite (.ap (.ibin .lss) [.ap (.load 1 false) [.ap (.fld 0) [.t 6]],.c (.v (.int .i64 0))]) (.c (.v (.bool true))) (.ap (.ibin .geq) [.ap (.load 1 false) [.ap (.fld 0) [.t 6]],.ap (.load 1 false) [.ap (.fld 1) [.t 1]]])) (.c (.v (.bool true))) (.ap (.ibin .lss) [.ap (.load 1 false) [.ap (.fld 1) [.t 6]],.c (.v (.int .i64 0))])) (.c (.v (.bool true))) (.ap (.ibin .geq) [.ap (.load 1 false) [.ap (.fld 1) [.t 6]],.ap (.load 1 false) [.ap (.fld 0) [.t 1]]])) (.c (.v (.bool true))) (.ap (.ibin .lss) [.ap (.load 1 false) [.ap (.fld 4) [.t 6]],.c (.v (.int .i64 0))])) (.c (.v (.bool true))) (.ap (.ibin .geq) [.ap (.load 1 false) [.ap (.fld 4) [.t 6]],.ap (.load 1 false) [.ap (.fld 2) [.t 1]]])) (.c (.v (.bool true))) (.ap (.load 1 false) [.ap (.aidx 24 1) [.ap (.aidx 47 24) [.t 3,.ap (.load 1 false) [.ap (.fld 0) [.t 6]]],.ap (.load 1 false) [.ap (.fld 1) [.t 6]]]]))] [45,46,47,48,49,50,51,52,53,54,55,56,57,58,59,60,61,62,63,64,65,66,67,68,69,70,71,72,73,74,75,76,77,78,79,80,81,82,83,84,85,86,87]]) (.cond (.t 87) (.seq (.reg [.set [(2,.c (.v (.bool false)))] [2]]) .ret) .skip)) (.seq (.reg [.set [(93,.ap (.aidx 24 1) [.ap (.aidx 47 24) [.t 3,.ap (.load 1 false) [.ap (.fld 0) [.t 6]]],.ap (.load 1 false) [.ap (.fld 1) [.t 6]]])] [88,89,90,91,92,93],.stm (.eff (.store 1 (.t 93) (.c (.v (.bool true)))) none)]) (.seq (.reg [.set [(98,.ap (.build [.v (.int .i64 0),.v (.int .i64 0)] [(0,1),(1,1)]) [.ap (.load 1 false) [.ap (.fld 2) [.t 6]],.ap (.load 1 false) [.ap (.fld 3) [.t 6]]]),(99,.c (.v (.int .i64 0)))] [94,95,96,97,98,99]]) (.block 2 (.loop (.seq (.reg [.set [(100,.ap (.ibin .lss) [.t 99,.c (.v (.int .i64 2))])] [100]]) (.seq (.cond (.t 100) .skip (.exit 2)) (.seq (.block 3 (.seq (.reg [.set [(8,.ap (.aix 2 1 false) [.t 98,.t 99])] [101,8]]) (.seq (.seq (.reg [.set [(119,.ite (.ite (.ap (.ibin .lss) [.t 8,.c (.v (.int .i64 0))]) (.c (.v (.bool true))) (.ap (.ibin .gtr) [.t 8,.c (.v (.int .i64 49))])) (.c (.v (.bool true))) (.ite (.ap (.ibin .gtr) [.t 8,.c (.v (.int .i64 0))]) (.ap (.load 1 false) [.ap (.aidx 50 1) [.ap (.aidx 47 50) [.t 4,.ap (.load 1 false) [.ap (.fld 0) [.t 6]]],.t 8]]) (.c (.v (.bool false)))))] [102,103,104,105,106,107,108,109,110,111,112,113,114,115,116,117,118,119]]) (.cond (.t 119) (.seq (.reg [.set [(2,.c (.v (.bool false)))] [2]]) .ret) .skip)) (.reg [.set [(124,.ap (.aidx 50 1) [.ap (.aidx 47 50) [.t 4,.ap (.load 1 false) [.ap (.fld 0) [.t 6]]],.t 8])] [120,121,122,123,124],.stm (.eff (.store 1 (.t 124) (.c (.v (.bool true)))) none)])))) (.reg [.set [(99,.ap (.ibin .add) [.t 99,.c (.v (.int .i64 1))])] [125,99]]))))))))))) (.reg [.set [(41,.ap (.ibin .add) [.t 41,.c (.v (.int .i64 1))])] [126,41]]))))))) (.seq (.reg [.set [(2,.c (.v (.bool true)))] [2]]) .ret))))),[.t 2])
theorem is27 : IsFn Try.prog frOf 27 Try.f27 W27:=⟨by kernel_rfl,by kernel_rfl,by kernel_rfl⟩
theorem nt27 : Try.f27.ntmps = 127:=by kernel_rfl
def pairOK (f : Nat→Bool) (r p : Int) : Bool:=decide (0≤p) && decide (p≤49) && !(decide (0 < p) && f (r.toNat * 50 + p.toNat))
def usedAt (prev : List Row) (i : Nat) : Bool:=prev.any fun x=>x.r.toNat * 24 + x.t.toNat == i
def seatAt (prev : List Row) (i : Nat) : Bool:=prev.any fun x=>x.r.toNat * 50 + x.ns.toNat == i || x.r.toNat * 50 + x.ew.toNat == i
def inOK (m : Mv) (x : Row) : Prop:=0≤x.r∧x.r < m.r∧0≤x.t∧x.t < m.t∧0≤x.s∧x.s < m.s
instance (m : Mv) (x : Row) : Decidable (inOK m x):=by unfold inOK; exact inferInstance
def fitRow (m : Mv) (prev : List Row) (x : Row) : Bool:=
  decide (inOK m x) && !usedAt prev (x.r.toNat * 24 + x.t.toNat) && pairOK (seatAt prev) x.r x.ns && pairOK (fun i=>seatAt prev i || i == x.r.toNat * 50 + x.ns.toNat) x.r x.ew
def boundOK (m : Mv) : Prop:=1≤m.t∧m.t≤24∧1≤m.r∧m.r≤47∧(m.rows.length : Int)≤m.t * m.r
instance (m : Mv) : Decidable (boundOK m):=by unfold boundOK; exact inferInstance
def fitB (m : Mv) : Bool:=decide (boundOK m) && (List.range m.rows.length).all fun k=>fitRow m (m.rows.take k) (m.rows.getD k Row.zero)
theorem fitB_iff (m : Mv) : fitB m = true ↔ boundOK m∧∀ k (h : k < m.rows.length),fitRow m (m.rows.take k) m.rows[k] = true:=by
  simp only [fitB,Bool.and_eq_true,decide_eq_true_eq,List.all_eq_true,List.mem_range]
  refine and_congr Iff.rfl ⟨fun h k hk=>?_,fun h k hk=>?_⟩
  · have:=h k hk; simpa [List.getD,hk] using this
  · have:=h k hk; simpa [List.getD,hk] using this
theorem usedAt_snoc (l : List Row) (x : Row) (i : Nat) : usedAt (l ++ [x]) i = (usedAt l i || x.r.toNat * 24 + x.t.toNat == i):=by simp [usedAt]
theorem seatAt_snoc (l : List Row) (x : Row) (i : Nat) : seatAt (l ++ [x]) i = (seatAt l i || (x.r.toNat * 50 + x.ns.toNat == i || x.r.toNat * 50 + x.ew.toNat == i)):=by simp [seatAt]
theorem fit_false {m : Mv} {k : Nat} (h : k < m.rows.length) (hr : fitRow m (m.rows.take k) m.rows[k] = false) : fitB m = false:=by
  cases hf : fitB m
  · rfl
  · have:=((fitB_iff m).1 hf).2 k h
    rw [hr] at this; cases this
theorem c27 (m : Mv) : VCp Try.prog 27 [.agg m.cells] (bv (fitB m)):=by
  refine wcontract_p sound0 mixed is27 (by rw [nt27]; simp) ?_ rfl
  simp [W27,Mv.cells,Mv.cellsW]
  have hbi : (decide (m.t < 1) || decide (24 < m.t) || decide (m.r < 1) || decide (47 < m.r) || decide (IntKind.i64.wrap (m.t * m.r) < ↑m.rows.length)) = false ↔ boundOK m:=by
    simp only [Bool.or_eq_false_iff,decide_eq_false_iff_not,boundOK]
    have hw : 1≤m.t→m.t≤24→1≤m.r→m.r≤47→IntKind.i64.wrap (m.t * m.r) = m.t * m.r:=fun h1 h2 h3 h4=>by
      have e1 : m.t * m.r≤24 * 47:=Int.mul_le_mul h2 h4 (by omega) (by omega)
      have e2 : 0≤m.t * m.r:=Int.mul_nonneg (by omega) (by omega)
      exact wrap_in (by omega) (by omega)
    constructor
    · rintro ⟨⟨⟨⟨a,b⟩,c⟩,d⟩,e⟩
      rw [hw (by omega) (by omega) (by omega) (by omega)] at e
      omega
    · rintro ⟨a,b,c,d,e⟩
      rw [hw a b c d]
      omega
  refine condK_b (fun hb=>?_) (fun hb=>?_)
  · have : fitB m = false:=by
      cases hf : fitB m
      · rfl
      · have:=hbi.2 ((fitB_iff m).1 hf).1
        rw [this] at hb; cases hb
    simp [this]
  · have hbd:=hbi.1 hb
    obtain ⟨b1,b2,b3,b4,b5⟩:=id hbd
    have hlen : m.rows.length≤1128:=by
      have e1 : m.t * m.r≤24 * 47:=Int.mul_le_mul b2 b4 (by omega) (by omega)
      omega
    clear hbi hb
    simp
    refine wwp_loop (fun σ=>∃ k : Nat,k≤m.rows.length∧σ.s 41 = iv k∧σ.s 40 = iv m.rows.length∧σ.s 39 = .list (rowsL m.rows)∧σ.s 1 = .ptr [2,0] 0∧σ.s 3 = .ptr [4,0] 0∧σ.s 4 = .ptr [5,0] 0∧
      σ.m [2,0] = some (.box [iv m.t,iv m.r,iv m.s,iv m.c,iv m.w,.list (rowsL m.rows)])∧σ.m [4,0] = some (.box (tab 1128 fun i=>bv (usedAt (m.rows.take k) i)))∧
      σ.m [5,0] = some (.box (tab 2350 fun i=>bv (seatAt (m.rows.take k) i)))∧∀ i (h : i < m.rows.length),i < k→fitRow m (m.rows.take i) m.rows[i] = true) (fun σ=>cnt m.rows.length (σ.s 41)) ?_ ?_
    · exact ⟨0,by omega,by simp,by simp,by simp,by simp,by simp,by simp,by simp,by simp [usedAt],by simp [seatAt],by omega⟩
    · rintro σ hw ⟨k,hk,h41,h40,h39,h1,h3,h4,m2,m4,m5,hok⟩
      simp [h40,h41]
      refine condK_dec (fun hlt=>?_) (fun hge=>?_)
      · simp [h39,h41,rowsL_at hlt,Row.cells,h1,h3,h4,m2,m4,m5]
        obtain ⟨x,hx⟩ : ∃ x,x = m.rows[k]:=⟨_,rfl⟩
        have hff:=fit_false hlt
        rw [← hx] at hff ⊢
        by_cases hin : inOK m x
        · obtain ⟨i1,i2,i3,i4,i5,i6⟩:=id hin
          have hp : x.r.toNat * 24 + x.t.toNat < 1128:=by omega
          have hp' : x.r.toNat * 24 + x.t.toNat≤1127:=by omega
          have g1 : ¬ x.r < 0:=by omega
          have g2 : ¬ m.r≤x.r:=by omega
          have g3 : ¬ x.t < 0:=by omega
          have g4 : ¬ m.t≤x.t:=by omega
          have g5 : ¬ x.s < 0:=by omega
          have g6 : ¬ m.s≤x.s:=by omega
          have g7 : x.r < 47:=by omega
          have g8 : x.t < 24:=by omega
          simp [g1,g2,g3,g4,g5,g6,g7,g8,i1,i3,h3,m4,hp,hp',tab_at hp]
          refine condK_b (fun hu=>?_) (fun hu=>?_)
          · have hfr : fitRow m (m.rows.take k) x = false:=by simp [fitRow,hu]
            simp [hff hfr]
          · simp [g7,g8,i1,i3,h3,m4,hp,hp',tab_put hp]
            refine wwp_loop (fun σ'=>∃ j : Nat,j≤2∧σ'.s 99 = iv j∧σ'.s 98 = .agg [iv x.ns,iv x.ew]∧σ'.s 41 = iv k∧σ'.s 40 = iv m.rows.length∧σ'.s 39 = .list (rowsL m.rows)∧σ'.s 1 = .ptr [2,0] 0∧σ'.s 3 = .ptr [4,0] 0∧σ'.s 4 = .ptr [5,0] 0∧
              σ'.s 6 = .ptr [7,σ.c 6] 0∧σ'.m [2,0] = some (.box [iv m.t,iv m.r,iv m.s,iv m.c,iv m.w,.list (rowsL m.rows)])∧σ'.m [4,0] = some (.box (tab 1128 fun i=>bv (usedAt (m.rows.take (k + 1)) i)))∧
              σ'.m [5,0] = some (.box (tab 2350 fun i=>bv (seatAt (m.rows.take k) i || (decide (0 < j) && i == x.r.toNat * 50 + x.ns.toNat) || (decide (1 < j) && i == x.r.toNat * 50 + x.ew.toNat))))∧
              σ'.m [7,σ.c 6] = some (.box [iv x.r,iv x.t,iv x.ns,iv x.ew,iv x.s])∧
              (0 < j→pairOK (seatAt (m.rows.take k)) x.r x.ns = true)∧(1 < j→pairOK (fun i=>seatAt (m.rows.take k) i || i == x.r.toNat * 50 + x.ns.toNat) x.r x.ew = true)) (fun σ'=>cnt 2 (σ'.s 99)) ?_ ?_
            · refine ⟨0,by omega,by simp,by simp,by simp [h41],by simp [h40],by simp [h39],by simp [h1],by simp [h3],by simp [h4],by simp,by simp [m2],?_,by simp [m5],by simp,by omega,by omega⟩
              simp
              refine tab_congr fun i _=>?_
              rw [List.take_succ_eq_append_getElem hlt,usedAt_snoc,← hx]
              by_cases hi : i = x.r.toNat * 24 + x.t.toNat
              · simp [hi]
              · simp [hi,Ne.symm hi]
            · rintro σ' hw' ⟨j,hj,e99,e98,e41,e40,e39,e1,e3,e4,e6,n2,n4,n5,n7,ok0,ok1⟩
              simp [e99]
              have hj3 : j = 0 ∨ j = 1 ∨ j = 2:=by omega
              rcases hj3 with rfl | rfl | rfl
              · simp [e99,e98,e4,e6,n5,n7,i1,g7]
                by_cases hr : 0≤x.ns∧x.ns≤49
                · have q1 : ¬ x.ns < 0:=by omega
                  have q2 : ¬ 49 < x.ns:=by omega
                  have q3 : x.ns < 50:=by omega
                  have q4 : x.r.toNat * 50 + x.ns.toNat < 2350:=by omega
                  have q5 : x.r.toNat * 50 + x.ns.toNat≤2349:=by omega
                  have fin : ∀ i,(if i = x.r.toNat * 50 + x.ns.toNat then D.v (.bool true) else bv (seatAt (m.rows.take k) i)) = bv (seatAt (m.rows.take k) i || i == x.r.toNat * 50 + x.ns.toNat):=fun i=>by
                    by_cases hi : i = x.r.toNat * 50 + x.ns.toNat <;> simp [hi]
                  by_cases h0 : 0 < x.ns
                  · simp [q1,q2,q3,q4,q5,hr.1,h0,n5]
                    refine condK_b (fun hu=>?_) (fun hu=>?_)
                    · have hfr : fitRow m (m.rows.take k) x = false:=by simp [fitRow,pairOK,h0,hu]
                      simp [hff hfr]
                    · simp [q1,q2,q3,q4,q5,hr.1,h0,n5,e99,e98,e41,e40,e39,e1,e3,e4,e6,n2,n4,n7,i1,g7,tab_put q4,fin]
                      exact ⟨1,by omega,rfl,by simp,fun _=>by simp [pairOK,hr.1,hr.2,hu],by omega⟩
                  · simp [q1,q2,q3,q4,q5,hr.1,h0,n5,e99,e98,e41,e40,e39,e1,e3,e4,e6,n2,n4,n7,i1,g7,tab_put q4,fin]
                    exact ⟨1,by omega,rfl,by simp,fun _=>by simp [pairOK,hr.1,hr.2,h0],by omega⟩
                · have hc : (decide (x.ns < 0) || decide (49 < x.ns)) = true:=by
                    simp only [Bool.or_eq_true,decide_eq_true_eq]; omega
                  have hfr : fitRow m (m.rows.take k) x = false:=by
                    have : pairOK (seatAt (m.rows.take k)) x.r x.ns = false:=by
                      simp only [pairOK,Bool.and_eq_false_iff,decide_eq_false_iff_not]; omega
                    simp [fitRow,this]
                  simp [hc,hff hfr]
              · simp [e99,e98,e4,e6,n5,n7,i1,g7]
                have hok0:=ok0 (by omega)
                by_cases hr : 0≤x.ew∧x.ew≤49
                · have q1 : ¬ x.ew < 0:=by omega
                  have q2 : ¬ 49 < x.ew:=by omega
                  have q3 : x.ew < 50:=by omega
                  have q4 : x.r.toNat * 50 + x.ew.toNat < 2350:=by omega
                  have q5 : x.r.toNat * 50 + x.ew.toNat≤2349:=by omega
                  have fin : ∀ i,(if i = x.r.toNat * 50 + x.ew.toNat then D.v (.bool true) else bv (seatAt (m.rows.take k) i || i == x.r.toNat * 50 + x.ns.toNat)) =
                      bv (seatAt (m.rows.take k) i || i == x.r.toNat * 50 + x.ns.toNat || i == x.r.toNat * 50 + x.ew.toNat):=fun i=>by
                    by_cases hi : i = x.r.toNat * 50 + x.ew.toNat <;> simp [hi]
                  by_cases h0 : 0 < x.ew
                  · simp [q1,q2,q3,q4,q5,hr.1,h0,n5]
                    refine condK_b (fun hu=>?_) (fun hu=>?_)
                    · have hfr : fitRow m (m.rows.take k) x = false:=by
                        simp only [Bool.or_eq_true,beq_iff_eq,decide_eq_true_eq] at hu
                        have : pairOK (fun i=>seatAt (m.rows.take k) i || i == x.r.toNat * 50 + x.ns.toNat) x.r x.ew = false:=by
                          rcases hu with hu | hu <;> simp [pairOK,h0,hu]
                        simp [fitRow,this]
                      simp [hff hfr]
                    · simp only [Bool.or_eq_false_iff,beq_eq_false_iff_ne,decide_eq_false_iff_not] at hu
                      simp [q1,q2,q3,q4,q5,hr.1,h0,n5,e99,e98,e41,e40,e39,e1,e3,e4,e6,n2,n4,n7,i1,g7,tab_put q4,fin]
                      exact ⟨2,by omega,rfl,by simp,fun _=>hok0,fun _=>by
                        have hu2 : ¬ x.ew.toNat = x.ns.toNat:=by have:=hu.2; omega
                        simp [pairOK,hr.1,hr.2,hu.1,hu2]⟩
                  · simp [q1,q2,q3,q4,q5,hr.1,h0,n5,e99,e98,e41,e40,e39,e1,e3,e4,e6,n2,n4,n7,i1,g7,tab_put q4,fin]
                    exact ⟨2,by omega,rfl,by simp,fun _=>hok0,fun _=>by simp [pairOK,hr.1,hr.2,h0]⟩
                · have hc : (decide (x.ew < 0) || decide (49 < x.ew)) = true:=by
                    simp only [Bool.or_eq_true,decide_eq_true_eq]; omega
                  have hfr : fitRow m (m.rows.take k) x = false:=by
                    have : pairOK (fun i=>seatAt (m.rows.take k) i || i == x.r.toNat * 50 + x.ns.toNat) x.r x.ew = false:=by
                      simp only [pairOK,Bool.and_eq_false_iff,decide_eq_false_iff_not]; omega
                    simp [fitRow,this]
                  simp [hc,hff hfr]
              · simp [e99,e98,e4,e6,n5,n7,i1,g7,e41,e40,e39,e1,e3,n2,n4,wrap_succ (show k≤1000000000 by omega)]
                refine ⟨⟨k + 1,by omega,by omega,rfl,tab_congr fun i _=>?_,fun i hi hik=>?_⟩,by omega⟩
                · rw [List.take_succ_eq_append_getElem hlt,seatAt_snoc,← hx]
                  rw [Bool.or_assoc,BEq.comm (a:=i) (b:=x.r.toNat * 50 + x.ns.toNat),BEq.comm (a:=i) (b:=x.r.toNat * 50 + x.ew.toNat)]
                · by_cases hik' : i < k
                  · exact hok i hi hik'
                  · obtain rfl : i = k:=by omega
                    rw [← hx]
                    simp [fitRow,hin,hu,ok0 (by omega),ok1 (by omega)]
        · have hc : (decide (x.r < 0) || decide (m.r≤x.r) || decide (x.t < 0) || decide (m.t≤x.t) || decide (x.s < 0) || decide (m.s≤x.s)) = true:=by
            simp only [Bool.or_eq_true,decide_eq_true_eq]
            unfold inOK at hin
            omega
          have hfr : fitRow m (m.rows.take k) x = false:=by simp [fitRow,hin]
          simp [hc,hff hfr]
      · have hf : fitB m = true:=(fitB_iff m).2 ⟨hbd,fun i hi=>hok i hi (by omega)⟩
        simp [hf]
end Go.Proofs.Ytpmgaaalfdjikaa
namespace Go.Proofs.Ytpmgaaalfdjikaa
open Go.RowKit
set_option linter.unusedSimpArgs false
set_option linter.unusedVariables false
def W72 : WC × List VRes:=(.seq (.reg [.stm (.eff (.box 1 (.t 0)) none),.set [(2,.c .nilmap)] [2]]) (.seq (.reg [.stm (.eff (.mkm 6) none),.set [(3,.t 6)] [3]]) (.seq (.seq (.reg [.set [(8,.ap (.load 1 false) [.ap (.fld 5) [.t 1]]),(9,.ap .llen [.ap (.load 1 false) [.ap (.fld 5) [.t 1]]]),(10,.c (.v (.int .i64 0)))] [7,8,9,10]]) (.block 0 (.loop (.seq (.reg [.set [(11,.ap (.ibin .lss) [.t 10,.t 9])] [11]]) (.seq (.cond (.t 11) .skip (.exit 0)) (.seq (.block 1 (.seq (.reg [.set [(13,.ap (.load 5 true) [.ap (.idx 53 5) [.t 8,.t 10]])] [12,13],.stm (.eff (.box 5 (.c (.agg [.v (.int .i64 0),.v (.int .i64 0),.v (.int .i64 0),.v (.int .i64 0),.v (.int .i64 0)]))) none),.stm (.eff (.store 5 (.t 5) (.t 13)) none)]) (.seq (.reg [.set [(21,.ite (.ap (.ibin .gtr) [.ap (.load 1 false) [.ap (.fld 2) [.t 5]],.c (.v (.int .i64 0))]) (.ap (.ibin .gtr) [.ap (.load 1 false) [.ap (.fld 3) [.t 5]],.c (.v (.int .i64 0))]) (.c (.v (.bool false))))] [14,15,16,17,18,19,20,21]]) (.cond (.t 21) (.drw [[.op 22 .mv [.t 3] none,.op 23 (.fld 4) [.t 5] none,.op 25 .mv [.t 3] none,.op 26 (.fld 4) [.t 5] none,.op 27 (.load 1 false) [.t 26] none,.op 28 (.lkp [3] .nil false) [.t 25,.t 27] none,.op 29 (.load 5 true) [.t 5] none,.op 24 (.load 1 false) [.t 23] none,.eff (.lit 30 53 5 1 [.v (.int .i64 0),.v (.int .i64 0),.v (.int .i64 0),.v (.int .i64 0),.v (.int .i64 0)] [(0,5)] [.t 29]) none,.eff (.app 31 53 5 (.t 28) (.t 30)) none,.eff (.mupd [3] (.t 22) (.t 24) (.t 31)) none],[.op 22 .mv [.t 3] none,.op 23 (.fld 4) [.t 5] none,.op 25 .mv [.t 3] none,.op 26 (.fld 4) [.t 5] none,.op 27 (.load 1 false) [.t 26] none,.op 28 (.lkp [3] .nil false) [.t 25,.t 27] none,.op 29 (.load 5 true) [.t 5] none,.eff (.lit 30 53 5 1 [.v (.int .i64 0),.v (.int .i64 0),.v (.int .i64 0),.v (.int .i64 0),.v (.int .i64 0)] [(0,5)] [.t 29]) none,.op 24 (.load 1 false) [.t 23] none,.eff (.app 31 53 5 (.t 28) (.t 30)) none,.eff (.mupd [3] (.t 22) (.t 24) (.t 31)) none],[.op 22 .mv [.t 3] none,.op 23 (.fld 4) [.t 5] none,.op 25 .mv [.t 3] none,.op 26 (.fld 4) [.t 5] none,.op 27 (.load 1 false) [.t 26] none,.op 28 (.lkp [3] .nil false) [.t 25,.t 27] none,.op 29 (.load 5 true) [.t 5] none,.eff (.lit 30 53 5 1 [.v (.int .i64 0),.v (.int .i64 0),.v (.int .i64 0),.v (.int .i64 0),.v (.int .i64 0)] [(0,5)] [.t 29]) none,.eff (.app 31 53 5 (.t 28) (.t 30)) none,.op 24 (.load 1 false) [.t 23] none,.eff (.mupd [3] (.t 22) (.t 24) (.t 31)) none]]) .skip)))) (.reg [.set [(10,.ap (.ibin .add) [.t 10,.c (.v (.int .i64 1))])] [32,10]]))))))) (.seq (.reg [.set [(2,.t 3)] [33,2]]) .ret))),[.t 2])
theorem is72 : IsFn Try.prog frOf 72 Try.f72 W72:=⟨by kernel_rfl,by kernel_rfl,by kernel_rfl⟩
theorem nt72 : Try.f72.ntmps = 34:=by kernel_rfl
def addPlay (ps : List (Int × List Row)) (x : Row) : List (Int × List Row):=
  match ps.findIdx? (fun p=>x.s == p.1) with
  | some i=>ps.set i (x.s,(ps.getD i (0,[])).2 ++ [x])
  | none=>ps ++ [(x.s,[x])]
def played (x : Row) : Bool:=decide (0 < x.ns) && decide (0 < x.ew)
def playsOf (l : List Row) : List (Int × List Row):=(l.filter played).foldl addPlay []
theorem playsOf_snoc {l : List Row} {k : Nat} (h : k < l.length) : playsOf (l.take (k + 1)) = if played l[k] then addPlay (playsOf (l.take k)) l[k] else playsOf (l.take k):=by
  rw [List.take_succ_eq_append_getElem h,playsOf,List.filter_append,List.foldl_append]
  cases hp : played l[k] <;> simp [List.filter,hp,playsOf]
theorem addPlay_len (ps : List (Int × List Row)) (x : Row) : (addPlay ps x).length≤ps.length + 1:=by
  unfold addPlay; split <;> simp
theorem playsOf_len (l : List Row) : (playsOf l).length≤l.length:=by
  have key : ∀ (l : List Row) (ps : List (Int × List Row)),(l.foldl addPlay ps).length≤ps.length + l.length:=by
    intro l
    induction l with
    | nil=>intro ps; simp
    | cons x l ih=>intro ps; have:=ih (addPlay ps x); have:=addPlay_len ps x; simp only [List.foldl_cons,List.length_cons]; omega
  have h1:=key (l.filter played) []
  have h2:=List.length_filter_le played l
  simp only [List.length_nil] at h1
  unfold playsOf
  omega
theorem playsOf_each (l : List Row) : ∀ p ∈ playsOf l,p.2.length≤l.length:=by
  have key : ∀ (l : List Row) (ps : List (Int × List Row)) (n : Nat),(∀ p ∈ ps,p.2.length≤n)→∀ p ∈ l.foldl addPlay ps,p.2.length≤n + l.length:=by
    intro l
    induction l with
    | nil=>intro ps n h; simpa using h
    | cons x l ih=>
      intro ps n h p hp
      have:=ih (addPlay ps x) (n + 1) (fun q hq=>by
        unfold addPlay at hq
        split at hq
        · rename_i i hi
          rcases List.mem_or_eq_of_mem_set hq with hq | rfl
          · have:=h q hq; omega
          · have hil : i < ps.length:=(List.findIdx?_eq_some_iff_getElem.1 hi).1
            have h2:=h ps[i] (List.getElem_mem hil)
            simp only [List.getD,List.getElem?_eq_getElem hil,Option.getD_some,List.length_append,List.length_singleton]
            omega
        · rcases List.mem_append.1 hq with hq | hq
          · have:=h q hq; omega
          · simp at hq; subst hq; simp) p hp
      simp only [List.length_cons]; omega
  intro p hp
  have h1:=key (l.filter played) [] 0 (by simp) p hp
  have h2:=List.length_filter_le played l
  omega
theorem one_made : 1≤maxMade:=by decide
theorem findV_int (s : Int) : ∀ (l : List (Int × D)) (i : Nat),findV [3] (iv s) (l.map fun p=>(iv p.1,p.2)) i = some ((l.findIdx? (fun p=>s == p.1)).map (· + i))
  | [],i=>rfl
  | p :: l,i=>by
    have ih:=findV_int s l (i + 1)
    simp only [List.map_cons,findV]
    have e : eqKey [3] (iv s) (iv p.1) = some (s == p.1):=by simp [eqKey,eqCells,kindNo]
    rw [e,Option.bind_some]
    cases h : (s == p.1)
    · simp only [Bool.false_eq_true,if_false,ih,List.findIdx?_cons,h,Option.map_map]
      congr 2
      funext a
      simp; omega
    · simp [List.findIdx?_cons,h]
structure Ent where
  t : Tok
  a : Nat
  s : Int
  l : List Row
def Ent.pair (e : Ent) : Int × D:=(e.s,.sl e.t 5 0 e.l.length none)
def Ent.kv (e : Ent) : D × D:=(iv e.s,.sl e.t 5 0 e.l.length none)
def Ent.play (e : Ent) : Int × List Row:=(e.s,e.l)
structure EntOK (es : List Ent) (m : Mem) (c : Nat) : Prop where
  at_ : ∀ e ∈ es,m e.t = some (.row [32,e.a] 53 (rowsL e.l))
  a : ∀ e ∈ es,e.a < c
  tt : ∀ e ∈ es,∃ b,e.t = [32,b]∧b < c
  dt : es.Pairwise fun e e'=>e.t ≠ e'.t
  da : es.Pairwise fun e e'=>e.a ≠ e'.a
def playsMem (ps : List (Int × List Row)) : Mem:=fun t=>match t with
  | []=>some (.map ((List.range ps.length).map fun i=>(iv (ps.getD i (0,[])).1,.sl [i + 1] 5 0 (ps.getD i (0,[])).2.length none)))
  | [i + 1]=>(ps[i]?).map fun p=>.row [0,i] 53 (rowsL p.2)
  | _=>none
theorem addPlay_ents (es : List Ent) (x : Row) : addPlay (es.map Ent.play) x = match es.findIdx? (fun e=>x.s == e.s) with
    | some i=>(es.map Ent.play).set i (x.s,((es.map Ent.play).getD i (0,[])).2 ++ [x])
    | none=>es.map Ent.play ++ [(x.s,[x])]:=by
  unfold addPlay
  rw [List.findIdx?_map]
  rfl
theorem EntOK.push {es : List Ent} {m m' : Mem} {c : Nat} (h : EntOK es m c) {s : Int} {x : Row} (h0 : m [32,c] = none) (hm : ∀ e ∈ es,m' e.t = m e.t) (hn : m' [32,c] = some (.row [32,c] 53 (rowsL [x]))) : EntOK (es ++ [⟨[32,c],c,s,[x]⟩]) m' (c + 1):=by
  refine ⟨fun e he=>?_,fun e he=>?_,fun e he=>?_,?_,?_⟩
  · rcases List.mem_append.1 he with he | he
    · rw [hm e he]; exact h.at_ e he
    · simp at he; subst he; exact hn
  · rcases List.mem_append.1 he with he | he
    · have:=h.a e he; omega
    · simp at he; subst he; simp
  · rcases List.mem_append.1 he with he | he
    · obtain ⟨b,h1,h2⟩:=h.tt e he; exact ⟨b,h1,by omega⟩
    · simp at he; subst he; exact ⟨c,rfl,by omega⟩
  · refine List.pairwise_append.2 ⟨h.dt,by simp,fun e he e' he'=>?_⟩
    simp at he'; subst he'
    intro e2
    have:=h.at_ e he
    simp only at e2
    rw [e2,h0] at this; cases this
  · refine List.pairwise_append.2 ⟨h.da,by simp,fun e he e' he'=>?_⟩
    simp at he'; subst he'
    have:=h.a e he
    simp; omega
theorem EntOK.same {es : List Ent} {m m' : Mem} {c : Nat} (h : EntOK es m c) (hm : ∀ e ∈ es,m' e.t = m e.t) : EntOK es m' c:=
  ⟨fun e he=>by rw [hm e he]; exact h.at_ e he,h.a,h.tt,h.dt,h.da⟩
theorem pw_get {α : Type} {R : α→α→Prop} (hs : ∀ a b,R a b→R b a) {l : List α} (h : l.Pairwise R) {i j : Nat} (hi : i < l.length) (hj : j < l.length) (hne : i ≠ j) : R l[i] l[j]:=by
  rcases Nat.lt_or_gt_of_ne hne with hlt | hlt
  · exact List.pairwise_iff_getElem.1 h i j hi hj hlt
  · exact hs _ _ (List.pairwise_iff_getElem.1 h j i hj hi hlt)
theorem EntOK.grow {es : List Ent} {m m' : Mem} {c i : Nat} (h : EntOK es m c) (hi : i < es.length) {x : Row} (h0 : m [32,c] = none) (hm : ∀ j (hj : j < es.length),j ≠ i→m' es[j].t = m es[j].t)
    (hn : m' [32,c] = some (.row [32,es[i].a] 53 (rowsL (es[i].l ++ [x])))) : EntOK (es.set i { es[i] with t:=[32,c],l:=es[i].l ++ [x] }) m' (c + 1):=by
  have hget : ∀ j (hj : j < es.length),(es.set i { es[i] with t:=[32,c],l:=es[i].l ++ [x] })[j]'(by simpa using hj) = if i = j then { es[i] with t:=[32,c],l:=es[i].l ++ [x] } else es[j]:=fun j hj=>by
    rw [List.getElem_set]
  have hall : ∀ e ∈ es.set i { es[i] with t:=[32,c],l:=es[i].l ++ [x] },e = { es[i] with t:=[32,c],l:=es[i].l ++ [x] } ∨ ∃ j,∃ hj : j < es.length,j ≠ i∧e = es[j]:=fun e he=>by
    obtain ⟨j,hj,rfl⟩:=List.getElem_of_mem he
    have hj' : j < es.length:=by simpa using hj
    rw [hget j hj']
    split
    · exact .inl rfl
    · rename_i hne; exact .inr ⟨j,hj',fun e=>hne e.symm,rfl⟩
  have hnt : ∀ e ∈ es,e.t ≠ [32,c]:=fun e he e2=>by
    have:=h.at_ e he
    rw [e2,h0] at this; cases this
  refine ⟨fun e he=>?_,fun e he=>?_,fun e he=>?_,?_,?_⟩
  · rcases hall e he with rfl | ⟨j,hj,hne,rfl⟩
    · exact hn
    · rw [hm j hj hne]; exact h.at_ _ (List.getElem_mem hj)
  · rcases hall e he with rfl | ⟨j,hj,hne,rfl⟩
    · have:=h.a _ (List.getElem_mem hi); simp only; omega
    · have:=h.a _ (List.getElem_mem hj); omega
  · rcases hall e he with rfl | ⟨j,hj,hne,rfl⟩
    · exact ⟨c,rfl,by omega⟩
    · obtain ⟨b,h1,h2⟩:=h.tt _ (List.getElem_mem hj); exact ⟨b,h1,by omega⟩
  · rw [List.pairwise_iff_getElem]
    intro p q hp hq hpq
    have hp' : p < es.length:=by simpa using hp
    have hq' : q < es.length:=by simpa using hq
    rw [hget p hp',hget q hq']
    split <;> split
    · omega
    · exact fun e=>hnt _ (List.getElem_mem hq') e.symm
    · exact hnt _ (List.getElem_mem hp')
    · exact pw_get (fun a b hab=>Ne.symm hab) h.dt hp' hq' (by omega)
  · rw [List.pairwise_iff_getElem]
    intro p q hp hq hpq
    have hp' : p < es.length:=by simpa using hp
    have hq' : q < es.length:=by simpa using hq
    rw [hget p hp',hget q hq']
    split <;> split
    · omega
    · exact pw_get (fun a b hab=>Ne.symm hab) h.da hi hq' (by omega)
    · exact pw_get (fun a b hab=>Ne.symm hab) h.da hp' hi (by omega)
    · exact pw_get (fun a b hab=>Ne.symm hab) h.da hp' hq' (by omega)
theorem Out.plays {σ : St} {es : List Ent} {c : Nat} (h7 : σ.m [7,0] = some (.map (es.map Ent.kv))) (hes : EntOK es σ.m c) : Out σ (.mp [7,0]) (.mp []) (playsMem (es.map Ent.play)):=by
  let f : Tok→Tok:=fun t=>match t with
    | []=>[7,0]
    | [i + 1]=>(es[i]?).elim [] Ent.t
    | [0,i]=>(es[i]?).elim [] fun e=>[32,e.a]
    | _=>[]
  have hf1 : ∀ i (h : i < es.length),f [i + 1] = es[i].t:=fun i h=>by simp [f,h]
  have hf2 : ∀ i (h : i < es.length),f [0,i] = [32,es[i].a]:=fun i h=>by simp [f,h]
  have hm : ∀ t o,playsMem (es.map Ent.play) t = some o→(t = []∧o = .map ((List.range es.length).map fun i=>(iv ((es.map Ent.play).getD i (0,[])).1,.sl [i + 1] 5 0 ((es.map Ent.play).getD i (0,[])).2.length none))) ∨
      ∃ i,∃ hi : i < es.length,t = [i + 1]∧o = .row [0,i] 53 (rowsL es[i].l):=fun t o h=>by
    match t,h with
    | [],h=>simp only [playsMem,List.length_map,Option.some.injEq] at h; exact .inl ⟨rfl,h.symm⟩
    | [0],h=>exact absurd h (by simp [playsMem])
    | [i + 1],h=>
      simp only [playsMem,List.getElem?_map,Option.map_map,Option.map_eq_some_iff] at h
      obtain ⟨e,he,rfl⟩:=h
      obtain ⟨hi,rfl⟩:=List.getElem?_eq_some_iff.1 he
      exact .inr ⟨i,hi,rfl,rfl⟩
    | _ :: _ :: _,h=>exact absurd h (by simp [playsMem])
  refine ⟨f,rfl,rfl,fun t o h=>?_,fun t t' o o' h h' hor=>?_⟩
  · rcases hm t o h with ⟨rfl,rfl⟩ | ⟨i,hi,rfl,rfl⟩
    · refine ⟨fun p hp=>?_,?_⟩
      · obtain ⟨i,_,rfl⟩:=List.mem_map.1 hp
        exact ⟨rfl,rfl⟩
      · show σ.m [7,0] = _
        rw [h7]
        simp only [HO.ren,List.map_map,Option.some.injEq,HO.map.injEq]
        apply List.ext_getElem
        · simp
        · intro i h1 h2
          have hi : i < es.length:=by simpa using h1
          simp [Ent.kv,Ent.play,D.renA,D.renC,hi,hf1 i hi]
    · refine ⟨fun c hc d hd=>?_,?_⟩
      · have:=List.all_eq_true.1 (rowsL_flat es[i].l c hc) d hd
        cases d <;> simp [D.flatC,D.noFC] at this ⊢
      · rw [hf1 i hi,hes.at_ es[i] (List.getElem_mem hi)]
        simp [HO.ren,hf2 i hi]
  · rcases hm t o h with ⟨rfl,rfl⟩ | ⟨i,hi,rfl,rfl⟩ <;> rcases hm t' o' h' with ⟨rfl,rfl⟩ | ⟨j,hj,rfl,rfl⟩
    · rfl
    · exfalso
      rcases hor with h | ⟨h1,_⟩
      · rw [hf1 j hj] at h
        have h2:=hes.at_ es[j] (List.getElem_mem hj)
        rw [← h,show f [] = [7,0] from rfl,h7] at h2
        cases h2
      · simp [HO.ren,HO.grp] at h1
    · exfalso
      rcases hor with h | ⟨_,h1⟩
      · rw [hf1 i hi] at h
        have h2:=hes.at_ es[i] (List.getElem_mem hi)
        rw [h,show f [] = [7,0] from rfl,h7] at h2
        cases h2
      · simp [HO.ren,HO.grp] at h1
    · by_cases hij : i = j
      · rw [hij]
      · exfalso
        rcases hor with h | ⟨_,h1⟩
        · rw [hf1 i hi,hf1 j hj] at h
          exact pw_get (fun a b hab=>Ne.symm hab) hes.dt hi hj hij h
        · simp only [HO.ren,HO.grp,Option.some.injEq,hf2 i hi,hf2 j hj] at h1
          exact pw_get (fun a b hab=>Ne.symm hab) hes.da hi hj hij (by simpa using h1)
theorem c72 (m : Mv) (hm : m.rows.length≤1000000) : VCq Try.prog 72 [.agg m.cells] (.mp []) (playsMem (playsOf m.rows)):=by
  refine wcontract_q sound0 mixed is72 (by rw [nt72]; simp) ?_
  simp [W72,Mv.cells,Mv.cellsW]
  refine wwp_loop (fun σ=>∃ (k : Nat) (es : List Ent),k≤m.rows.length∧σ.s 10 = iv k∧σ.s 9 = iv m.rows.length∧σ.s 8 = .list (rowsL m.rows)∧σ.s 3 = .mp [7,0]∧σ.m [7,0] = some (.map (es.map Ent.kv))∧EntOK es σ.m (σ.c 31)∧es.map Ent.play = playsOf (m.rows.take k))
    (fun σ=>cnt m.rows.length (σ.s 10)) ?_ ?_
  · exact ⟨0,[],by omega,by simp,by simp,by simp,by simp,by simp,⟨by simp,by simp,by simp,by simp,by simp⟩,by simp [playsOf]⟩
  · rintro σ hw ⟨k,es,hk,h10,h9,h8,h3,m7,hes,hpl⟩
    simp [h10,h9]
    refine condK_dec (fun hlt=>?_) (fun hge=>?_)
    · simp [h8,h10,rowsL_at hlt,Row.cells]
      obtain ⟨x,hx⟩ : ∃ x,x = m.rows[k]:=⟨_,rfl⟩
      rw [← hx]
      refine condK_b (fun hb=>?_) (fun hb=>?_)
      · refine wwp_drw_h [22,23,24,25,26,27,28,29,30,31] (by decide) ?_
        have hfind : findV [3] (iv x.s) (es.map Ent.kv) 0 = some (es.findIdx? (fun e=>x.s == e.s)):=by
          have:=findV_int x.s (es.map Ent.pair) 0
          rw [List.map_map,List.findIdx?_map] at this
          refine Eq.trans this ?_
          have hid : ∀ o : Option Nat,o.map (· + 0) = o:=fun o=>by cases o <;> rfl
          rw [hid]; rfl
        have hel : es.length < maxMade:=by
          have h1:=playsOf_len (m.rows.take k)
          rw [← hpl,List.length_map,List.length_take] at h1
          unfold maxMade; omega
        cases hfi : es.findIdx? (fun e=>x.s == e.s) with
        | none=>
          rw [hfi] at hfind
          simp [h3,h8,h9,h10,m7,hfind,one_made,hel,wrap_succ (show k≤1000000000 by omega)]
          refine ⟨⟨k + 1,by omega,by omega,es ++ [⟨[32,σ.c 31],σ.c 31,x.s,[x]⟩],by simp [Ent.kv],hes.push (hw.tok 31) (fun e he=>?_) (by simp [rowsL,Row.cells]),?_⟩,by omega⟩
          · have hme:=hes.at_ e he
            have n1:=hw.ne hme 30 (σ.c 30) []
            have n2:=hw.ne hme 31 (σ.c 31) []
            have n3:=hw.ne hme 5 (σ.c 5) []
            have n4 : e.t ≠ [7,0]:=fun e2=>by rw [e2,m7] at hme; cases hme
            simp [n1,n2,n3,n4]
          · rw [playsOf_snoc hlt,← hx,← hpl,addPlay_ents,hfi]
            simp [played,hb,Ent.play]
        | some i=>
          rw [hfi] at hfind
          have hil : i < es.length:=(List.findIdx?_eq_some_iff_getElem.1 hfi).1
          have hei : (es.map Ent.kv)[i]? = some es[i].kv:=by simp [hil]
          have hmi:=hes.at_ es[i] (List.getElem_mem hil)
          have hlen1 : es[i].l.length + 1≤maxMade:=by
            have h1:=playsOf_each (m.rows.take k) es[i].play (by rw [← hpl]; exact List.mem_map_of_mem (List.getElem_mem hil))
            rw [List.length_take] at h1
            simp only [Ent.play] at h1
            unfold maxMade; omega
          have n1:=hw.ne hmi 30 (σ.c 30) []
          have n2:=hw.ne hmi 31 (σ.c 31) []
          have n3:=hw.ne hmi 5 (σ.c 5) []
          simp [h3,h8,h9,h10,m7,hfind,one_made,hel,hei,Ent.kv,hil,hmi,n1,n3,hlen1,wrap_succ (show k≤1000000000 by omega)]
          have hxs : x.s = es[i].s:=by
            have:=(List.findIdx?_eq_some_iff_getElem.1 hfi).2.1
            simpa using this
          refine ⟨⟨k + 1,by omega,by omega,es.set i { es[i] with t:=[32,σ.c 31],l:=es[i].l ++ [x] },by simp [List.map_set,Ent.kv],hes.grow hil (x:=x) (hw.tok 31) (fun j hj hne=>?_) ?_,?_⟩,by omega⟩
          · have hme:=hes.at_ es[j] (List.getElem_mem hj)
            have p1:=hw.ne hme 30 (σ.c 30) []
            have p2:=hw.ne hme 31 (σ.c 31) []
            have p3:=hw.ne hme 5 (σ.c 5) []
            have p4 : es[j].t ≠ [7,0]:=fun e2=>by rw [e2,m7] at hme; cases hme
            have p5 : es[j].a ≠ es[i].a:=pw_get (fun a b hab=>Ne.symm hab) hes.da hj hil hne
            simp [p1,p2,p3,p4,hme,p5]
          · rw [rowsL_append]
            simp [rowsL,Row.cells]
            try exact List.take_of_length_le (by simp)
          · rw [playsOf_snoc hlt,← hx,← hpl,addPlay_ents,hfi]
            simp [played,hb,Ent.play,List.map_set,hxs,hil]
      · simp [h3,h8,h9,h10,m7,wrap_succ (show k≤1000000000 by omega)]
        refine ⟨⟨k + 1,by omega,by omega,es,rfl,hes.same fun e he=>?_,?_⟩,by omega⟩
        · have hme:=hes.at_ e he
          have p3:=hw.ne hme 5 (σ.c 5) []
          simp [p3]
        · rw [playsOf_snoc hlt,← hx,← hpl]
          simp [played,hb]
    · have hkn : k = m.rows.length:=by omega
      subst hkn
      rw [List.take_length] at hpl
      simp [h3]
      rw [← hpl]
      exact Out.plays (by simpa using m7) (hes.same fun e he=>by simp)
def S72 : List D→Option (D × Mem)
  | [.agg xs]=>(asMv xs).bind fun m=>if m.rows.length≤1000000 then some (.mp [],playsMem (playsOf m.rows)) else none
  | _=>none
theorem s72 : OkQ 72 S72:=fun ds d mm h=>by
  unfold S72 at h
  split at h
  · rw [Option.bind_eq_some_iff] at h
    obtain ⟨m,hm,h⟩:=h
    split at h <;> cases h
    rw [asMv_eq hm]
    exact c72 m (by assumption)
  · cases h
end Go.Proofs.Ytpmgaaalfdjikaa
namespace Go.Proofs.Ytpmgaaalfdjikaa
open Go.RowKit
set_option linter.unusedSimpArgs false
set_option linter.unusedVariables false
def W54 : WC × List VRes:=(.seq (.reg [.stm (.eff (.box 1 (.t 0)) none),.set [(2,.c (.v (.pointer none)))] [2]]) (.seq (.reg [.set [(11,.ap (.build (zrep 2500 (.v (.int .i64 0))) []) [])] [11],.stm (.eff (.box 12 (.t 11)) none),.set [(3,.t 12)] [3]]) (.seq (.seq (.reg [.set [(13,.ap (.load 6 true) [.t 1])] [13],.stm (.eff (.callq 14 72 [.t 13]) none),.stm (.eff (.rng 15 (.t 14)) none)]) (.block 0 (.loop (.seq (.seq (.reg []) (.seq (.nxt 16 (.t 15)) (.reg [.set [(17,.ap (.ext 0) [.t 16])] [17]]))) (.seq (.cond (.t 17) .skip (.exit 0)) (.block 1 (.seq (.reg [.set [(5,.ap (.ext 1) [.ap .ent [.t 15]])] [18,19,5]]) (.seq (.reg [.set [(20,.t 5),(21,.ap .llen [.t 5]),(22,.c (.v (.int .i64 0)))] [20,21,22]]) (.block 2 (.loop (.seq (.reg [.set [(23,.ap (.ibin .lss) [.t 22,.t 21])] [23]]) (.seq (.cond (.t 23) .skip (.exit 2)) (.seq (.block 3 (.seq (.reg [.set [(25,.ap (.load 5 true) [.ap (.idx 53 5) [.t 20,.t 22]])] [24,25],.stm (.eff (.box 7 (.c (.agg [.v (.int .i64 0),.v (.int .i64 0),.v (.int .i64 0),.v (.int .i64 0),.v (.int .i64 0)]))) none),.stm (.eff (.store 5 (.t 7) (.t 25)) none)]) (.seq (.reg [.set [(26,.t 5),(27,.ap .llen [.t 5]),(28,.c (.v (.int .i64 0)))] [26,27,28]]) (.block 4 (.loop (.seq (.reg [.set [(29,.ap (.ibin .lss) [.t 28,.t 27])] [29]]) (.seq (.cond (.t 29) .skip (.exit 4)) (.seq (.block 5 (.seq (.reg [.set [(31,.ap (.load 5 true) [.ap (.idx 53 5) [.t 26,.t 28]])] [30,31],.stm (.eff (.box 9 (.c (.agg [.v (.int .i64 0),.v (.int .i64 0),.v (.int .i64 0),.v (.int .i64 0),.v (.int .i64 0)]))) none),.stm (.eff (.store 5 (.t 9) (.t 31)) none)]) (.seq (.seq (.reg [.set [(34,.ap (.aeq false [3,3,3,3,3]) [.ap (.load 5 true) [.t 7],.ap (.load 5 true) [.t 9]])] [32,33,34]]) (.cond (.t 34) (.seq (.reg [.set [(47,.ap (.ibin .add) [.ap (.load 1 false) [.ap (.aidx 50 1) [.ap (.aidx 50 50) [.ap .chk [.t 3],.ap (.load 1 false) [.ap (.fld 2) [.t 7]]],.ap (.load 1 false) [.ap (.fld 3) [.t 7]]]],.ap (.ibin .sub) [.ap .llen [.t 5],.c (.v (.int .i64 1))]]),(50,.ap (.aidx 50 1) [.ap (.aidx 50 50) [.ap .chk [.t 3],.ap (.load 1 false) [.ap (.fld 2) [.t 7]]],.ap (.load 1 false) [.ap (.fld 3) [.t 7]]])] [35,36,37,38,39,40,41,42,43,44,45,46,47,48,49,50],.stm (.eff (.store 1 (.t 50) (.t 47)) none)]) (.seq (.reg [.set [(63,.ap (.ibin .add) [.ap (.load 1 false) [.ap (.aidx 50 1) [.ap (.aidx 50 50) [.ap .chk [.t 3],.ap (.load 1 false) [.ap (.fld 3) [.t 7]]],.ap (.load 1 false) [.ap (.fld 2) [.t 7]]]],.ap (.ibin .sub) [.ap .llen [.t 5],.c (.v (.int .i64 1))]]),(66,.ap (.aidx 50 1) [.ap (.aidx 50 50) [.ap .chk [.t 3],.ap (.load 1 false) [.ap (.fld 3) [.t 7]]],.ap (.load 1 false) [.ap (.fld 2) [.t 7]]])] [51,52,53,54,55,56,57,58,59,60,61,62,63,64,65,66],.stm (.eff (.store 1 (.t 66) (.t 63)) none)]) (.exit 5))) .skip)) (.seq (.reg [.set [(76,.ap (.ibin .add) [.ap (.load 1 false) [.ap (.aidx 50 1) [.ap (.aidx 50 50) [.ap .chk [.t 3],.ap (.load 1 false) [.ap (.fld 2) [.t 7]]],.ap (.load 1 false) [.ap (.fld 2) [.t 9]]]],.c (.v (.int .i64 1))]),(79,.ap (.aidx 50 1) [.ap (.aidx 50 50) [.ap .chk [.t 3],.ap (.load 1 false) [.ap (.fld 2) [.t 7]]],.ap (.load 1 false) [.ap (.fld 2) [.t 9]]])] [67,68,69,70,71,72,73,74,75,76,77,78,79],.stm (.eff (.store 1 (.t 79) (.t 76)) none)]) (.seq (.reg [.set [(89,.ap (.ibin .add) [.ap (.load 1 false) [.ap (.aidx 50 1) [.ap (.aidx 50 50) [.ap .chk [.t 3],.ap (.load 1 false) [.ap (.fld 3) [.t 7]]],.ap (.load 1 false) [.ap (.fld 3) [.t 9]]]],.c (.v (.int .i64 1))]),(92,.ap (.aidx 50 1) [.ap (.aidx 50 50) [.ap .chk [.t 3],.ap (.load 1 false) [.ap (.fld 3) [.t 7]]],.ap (.load 1 false) [.ap (.fld 3) [.t 9]]])] [80,81,82,83,84,85,86,87,88,89,90,91,92],.stm (.eff (.store 1 (.t 92) (.t 89)) none)]) (.seq (.reg [.set [(102,.ap (.ibin .sub) [.ap (.load 1 false) [.ap (.aidx 50 1) [.ap (.aidx 50 50) [.ap .chk [.t 3],.ap (.load 1 false) [.ap (.fld 2) [.t 7]]],.ap (.load 1 false) [.ap (.fld 3) [.t 9]]]],.c (.v (.int .i64 1))]),(105,.ap (.aidx 50 1) [.ap (.aidx 50 50) [.ap .chk [.t 3],.ap (.load 1 false) [.ap (.fld 2) [.t 7]]],.ap (.load 1 false) [.ap (.fld 3) [.t 9]]])] [93,94,95,96,97,98,99,100,101,102,103,104,105],.stm (.eff (.store 1 (.t 105) (.t 102)) none)]) (.reg [.set [(115,.ap (.ibin .sub) [.ap (.load 1 false) [.ap (.aidx 50 1) [.ap (.aidx 50 50) [.ap .chk [.t 3],.ap (.load 1 false) [.ap (.fld 3) [.t 7]]],.ap (.load 1 false) [.ap (.fld 2) [.t 9]]]],.c (.v (.int .i64 1))]),(118,.ap (.aidx 50 1) [.ap (.aidx 50 50) [.ap .chk [.t 3],.ap (.load 1 false) [.ap (.fld 3) [.t 7]]],.ap (.load 1 false) [.ap (.fld 2) [.t 9]]])] [106,107,108,109,110,111,112,113,114,115,116,117,118],.stm (.eff (.store 1 (.t 118) (.t 115)) none)]))))))) (.reg [.set [(28,.ap (.ibin .add) [.t 28,.c (.v (.int .i64 1))])] [119,28]]))))))))) (.reg [.set [(22,.ap (.ibin .add) [.t 22,.c (.v (.int .i64 1))])] [120,22]])))))))))))))) (.seq (.seq (.reg [.set [(10,.c (.v (.int .i64 1)))] [10]]) (.block 6 (.loop (.seq (.seq (.reg [.set [(122,.ap (.ibin .leq) [.t 10,.c (.v (.int .i64 49))])] [121,122]]) (.cond (.t 122) .skip (.exit 6))) (.seq (.block 7 (.reg [.set [(130,.ap (.aidx 50 1) [.ap (.aidx 50 50) [.ap .chk [.t 3],.t 10],.t 10])] [125,126,127,128,129,130],.stm (.eff (.store 1 (.t 130) (.c (.v (.int .i64 0)))) none)])) (.reg [.set [(10,.ap (.ibin .add) [.t 10,.c (.v (.int .i64 1))])] [123,124,10]])))))) (.seq (.reg [.set [(2,.t 3)] [131,2]]) .ret)))),[.t 2])
theorem is54 : IsFn Try.prog frOf 54 Try.f54 W54:=⟨by kernel_rfl,by kernel_rfl,by kernel_rfl⟩
theorem nt54 : Try.f54.ntmps = 132:=by kernel_rfl
def cellOf (p q : Int) : Nat:=p.toNat * 50 + q.toNat
def hit (q i : Nat) (v : Int) : Int:=if i = q then v else 0
def contr (n : Int) (a b : Row) (i : Nat) : Int:=
  if a = b then hit (cellOf a.ns a.ew) i (n - 1) + hit (cellOf a.ew a.ns) i (n - 1)
  else hit (cellOf a.ns b.ns) i 1 + hit (cellOf a.ew b.ew) i 1 + hit (cellOf a.ns b.ew) i (-1) + hit (cellOf a.ew b.ns) i (-1)
def sumB (n : Int) (a : Row) (l : List Row) (i : Nat) : Int:=(l.map fun b=>contr n a b i).sum
def sumA (L l : List Row) (i : Nat) : Int:=(l.map fun a=>sumB L.length a L i).sum
def setSum (L : List Row) (i : Nat) : Int:=sumA L L i
def allSum (ps : List (Int × List Row)) (i : Nat) : Int:=(ps.map fun p=>setSum p.2 i).sum
def seenSum (ps : List (Int × List Row)) (seen : List Nat) (i : Nat) : Int:=(seen.map fun k=>setSum (ps.getD k (0,[])).2 i).sum
theorem sumB_snoc (n : Int) (a : Row) {l : List Row} {k : Nat} (h : k < l.length) (i : Nat) : sumB n a (l.take (k + 1)) i = sumB n a (l.take k) i + contr n a l[k] i:=by
  rw [List.take_succ_eq_append_getElem h,sumB,sumB,List.map_append,List.sum_append]; simp only [List.map_cons,List.map_nil,List.sum_cons,List.sum_nil,Int.add_zero]
theorem sumA_snoc (L : List Row) {l : List Row} {k : Nat} (h : k < l.length) (i : Nat) : sumA L (l.take (k + 1)) i = sumA L (l.take k) i + sumB L.length l[k] L i:=by
  rw [List.take_succ_eq_append_getElem h,sumA,sumA,List.map_append,List.sum_append]; simp only [List.map_cons,List.map_nil,List.sum_cons,List.sum_nil,Int.add_zero]
theorem seenSum_snoc (ps : List (Int × List Row)) (seen : List Nat) (k i : Nat) : seenSum ps (seen ++ [k]) i = seenSum ps seen i + setSum (ps.getD k (0,[])).2 i:=by simp [seenSum]
theorem perm_sum {l l' : List Int} (h : l.Perm l') : l.sum = l'.sum:=by
  induction h with
  | nil=>rfl
  | cons x _ ih=>simp [ih]
  | swap x y l=>simp; omega
  | trans _ _ h1 h2=>exact h1.trans h2
theorem seenSum_all {ps : List (Int × List Row)} {seen : List Nat} (hn : seen.Nodup) (hlt : ∀ i ∈ seen,i < ps.length) (hall : ∀ i,i < ps.length→i ∈ seen) (i : Nat) : seenSum ps seen i = allSum ps i:=by
  have hp : seen.Perm (List.range ps.length):=(List.perm_ext_iff_of_nodup hn List.nodup_range).2 fun a=>⟨fun h=>List.mem_range.2 (hlt a h),fun h=>hall a (List.mem_range.1 h)⟩
  have e : (List.range ps.length).map (fun k=>setSum (ps.getD k (0,[])).2 i) = ps.map fun p=>setSum p.2 i:=by
    apply List.ext_getElem
    · simp
    · intro j h1 h2
      have hj : j < ps.length:=by simpa using h1
      simp [hj]
  unfold seenSum allSum
  rw [← e]
  exact perm_sum (hp.map _)
theorem wrap_wrap (x v : Int) : IntKind.i64.wrap (IntKind.i64.wrap x + v) = IntKind.i64.wrap (x + v):=by simp only [IntKind.wrap_i64]; omega
theorem upd_tab (S : Nat→Int) (q : Nat) (v : Int) : (tab 2500 fun i=>if i = q then iv (IntKind.i64.wrap (IntKind.i64.wrap (S q) + v)) else iv (IntKind.i64.wrap (S i))) = tab 2500 fun i=>iv (IntKind.i64.wrap (S i + hit q i v)):=by
  refine tab_congr fun i _=>?_
  by_cases h : i = q
  · subst h; simp [hit,wrap_wrap]
  · simp [hit,h]
theorem upd_sub (S : Nat→Int) (q : Nat) : (tab 2500 fun i=>if i = q then iv (IntKind.i64.wrap (IntKind.i64.wrap (S q) - 1)) else iv (IntKind.i64.wrap (S i))) = tab 2500 fun i=>iv (IntKind.i64.wrap (S i + hit q i (-1))):=upd_tab S q (-1)
def mapOf (ps : List (Int × List Row)) : List (D × D):=(List.range ps.length).map fun i=>(iv (ps.getD i (0,[])).1,.sl [15,0,i + 1] 5 0 (ps.getD i (0,[])).2.length none)
theorem playsOf_mem {l : List Row} : ∀ p ∈ playsOf l,∀ x ∈ p.2,x ∈ l:=by
  have key : ∀ (l : List Row) (ps : List (Int × List Row)) (S : List Row),(∀ p ∈ ps,∀ x ∈ p.2,x ∈ S)→(∀ x ∈ l,x ∈ S)→∀ p ∈ l.foldl addPlay ps,∀ x ∈ p.2,x ∈ S:=by
    intro l
    induction l with
    | nil=>intro ps S h _; simpa using h
    | cons y l ih=>
      intro ps S h hl
      refine ih (addPlay ps y) S (fun q hq=>?_) fun x hx=>hl x (List.mem_cons_of_mem _ hx)
      unfold addPlay at hq
      split at hq
      · rename_i i hi
        rcases List.mem_or_eq_of_mem_set hq with hq | rfl
        · exact h q hq
        · have hil : i < ps.length:=(List.findIdx?_eq_some_iff_getElem.1 hi).1
          intro x hx
          simp only [List.getD,List.getElem?_eq_getElem hil,Option.getD_some,List.mem_append,List.mem_singleton] at hx
          rcases hx with hx | rfl
          · exact h ps[i] (List.getElem_mem hil) x hx
          · exact hl _ List.mem_cons_self
      · rcases List.mem_append.1 hq with hq | hq
        · exact h q hq
        · simp at hq; subst hq
          intro x hx
          simp at hx; subst hx
          exact hl _ List.mem_cons_self
  intro p hp x hx
  exact key (l.filter played) [] l (by simp) (fun x hx=>(List.mem_filter.1 hx).1) p hp x hx
structure Fr (ps : List (Int × List Row)) (seen : List Nat) (E : Nat→Int) (σ : St) : Prop where
  s3 : σ.s 3 = .ptr [13,0] 0
  s15 : σ.s 15 = .ptr [16,0] 0
  m13 : σ.m [13,0] = some (.box (tab 2500 fun i=>iv (IntKind.i64.wrap (E i))))
  m16 : σ.m [16,0] = some (.iter [15,0] ps.length seen)
  m15 : σ.m [15,0] = some (.map (mapOf ps))
  rows : ∀ i (h : i < ps.length),σ.m [15,0,i + 1] = some (.row [15,0,0,i] 53 (rowsL ps[i].2))
def conT (m : Mv) (i : Nat) : Int:=if i / 50 = i % 50∧1≤i / 50 then 0 else IntKind.i64.wrap (allSum (playsOf m.rows) i)
def env54 : Env:=mkEnv [] [(72,S72)] []
@[simp] theorem env54_q (f : Nat) (ds : List D) : env54.q f ds = (look [(72,S72)] f).bind fun s=>s ds:=rfl
theorem sound54 : Sound Try.prog env54:=sound_mk (by simp) (by simp [s72]) (by simp)
theorem c54 (m : Mv) (hm : m.rows.length≤1000000) (hr : ∀ x ∈ m.rows,0≤x.ns∧x.ns≤49∧0≤x.ew∧x.ew≤49) :
    VCq Try.prog 54 [.agg m.cells] (.ptr [] 0) (boxMem (tab 2500 fun i=>iv (conT m i))):=by
  refine wcontract_q sound54 mixed is54 (by rw [nt54]; simp) ?_
  obtain ⟨ps,hps⟩ : ∃ ps,ps = playsOf m.rows:=⟨_,rfl⟩
  simp [W54,Mv.cells,Mv.cellsW,S72,hm,playsMem]
  refine wwp_loop (fun σ=>∃ seen : List Nat,seen.Nodup∧(∀ i ∈ seen,i < ps.length)∧Fr ps seen (seenSum ps seen) σ) (fun σ=>match σ.m [16,0] with | some (.iter _ n seen)=>n - seen.length | _=>0) ?_ ?_
  · rw [← hps]
    refine ⟨[],by simp,by simp,⟨by simp,by simp,by simp [seenSum],by simp,?_,fun i hi=>?_⟩⟩
    · simp [playsMem,mapOf,List.map_map,Function.comp_def,D.renA]
    · simp [playsMem,hi]
  · rintro σ hw ⟨seen,hn,hlt,hf⟩
    simp [hf.s15]
    refine ⟨[16,0],[15,0],ps.length,seen,mapOf ps,rfl,hf.m16,hf.m15,by simp [mapOf],fun hall=>?_,fun i p hp hi=>?_⟩
    · simp
      have hsum : ∀ c,seenSum ps seen c = allSum ps c:=seenSum_all hn hlt hall
      refine wwp_loop (fun σ'=>∃ p : Nat,1≤p∧p≤50∧σ'.s 10 = iv p∧σ'.s 3 = .ptr [13,0] 0∧σ'.m [13,0] = some (.box (tab 2500 fun c=>iv (if c / 50 = c % 50∧1≤c / 50∧c / 50 < p then 0 else IntKind.i64.wrap (allSum ps c))))) (fun σ'=>cnt 50 (σ'.s 10)) ?_ ?_
      · refine ⟨1,by omega,by omega,by simp,by simp [hf.s3],?_⟩
        simp [hf.m13]
        refine tab_congr fun c _=>?_
        rw [hsum,if_neg (by omega)]
      · rintro σ' hw' ⟨p,hp1,hp50,e10,e3,n13⟩
        simp [e10]
        refine condK_dec (fun hlt=>?_) (fun hge=>?_)
        · have q1 : p * 50 + p < 2500:=by omega
          have q2 : p * 50 + p≤2499:=by omega
          have q3 : (p : Int) < 50:=by omega
          simp [e10,e3,n13,q1,q2,q3,tab_put q1,wrap_succ (show p≤1000000000 by omega)]
          refine ⟨⟨p + 1,by omega,by omega,by omega,?_⟩,by omega⟩
          refine tab_congr fun c _=>?_
          by_cases hc : c = p * 50 + p
          · rw [if_pos hc,if_pos (by omega)]
          · rw [if_neg hc]
            refine congrArg (fun z=>iv z) (ite_iff ?_)
            omega
        · simp [e3,n13]
          have hp : p = 50:=by omega
          subst hp
          have e : (tab 2500 fun c=>iv (if c / 50 = c % 50∧1≤c / 50∧c / 50 < 50 then 0 else IntKind.i64.wrap (allSum ps c))) = tab 2500 fun c=>iv (conT m c):=by
            refine tab_congr fun c hc=>?_
            rw [hps]
            unfold conT
            refine congrArg (fun z=>iv z) (ite_iff ?_)
            omega
          rw [e] at n13
          exact Out.box (by simp [n13]) (fun d hd=>by obtain ⟨c,_,rfl⟩:=List.mem_map.1 hd; rfl)
    · have hil : i < ps.length:=by
        have:=(List.getElem?_eq_some_iff.1 hp).1
        simpa [mapOf] using this
      have hpe : p = (iv ps[i].1,.sl [15,0,i + 1] 5 0 ps[i].2.length none):=by
        simp [mapOf,hil] at hp
        exact hp.symm
      subst hpe
      have hf15:=hf.m15
      have hml : (mapOf ps).length = ps.length:=by simp [mapOf]
      obtain ⟨L,hL⟩ : ∃ L,L = ps[i].2:=⟨_,rfl⟩
      have hLb : ∀ x ∈ L,0≤x.ns∧x.ns≤49∧0≤x.ew∧x.ew≤49:=fun x hx=>hr x (by
        refine playsOf_mem ps[i] ?_ x (by rw [← hL]; exact hx)
        rw [← hps]; exact List.getElem_mem hil)
      have hLn : L.length≤1000000:=by
        have:=playsOf_each m.rows ps[i] (by rw [← hps]; exact List.getElem_mem hil)
        rw [← hL] at this; omega
      rw [← hL] at hp ⊢
      simp [hf.s15,hf15,hml,hp]
      refine wwp_loop (fun σ'=>∃ ja : Nat,ja≤L.length∧σ'.s 22 = iv ja∧σ'.s 21 = iv L.length∧σ'.s 20 = .sl [15,0,i + 1] 5 0 L.length none∧σ'.s 5 = .sl [15,0,i + 1] 5 0 L.length none∧
        Fr ps (seen ++ [i]) (fun c=>seenSum ps seen c + sumA L (L.take ja) c) σ') (fun σ'=>cnt L.length (σ'.s 22)) ?_ ?_
      · refine ⟨0,by omega,by simp,by simp,by simp,by simp,⟨by simp [hf.s3],by simp [hf.s15],?_,by simp,by simp [hf15],fun j hj=>by simp [hf.rows j hj]⟩⟩
        simp [hf.m13,sumA]
      · rintro σ1 hw1 ⟨ja,hja,e22,e21,e20,e5,f1⟩
        have hrow:=f1.rows i hil
        rw [← hL] at hrow
        simp [e21,e22]
        refine condK_dec (fun hlt1=>?_) (fun hge1=>?_)
        · simp [e20,e22,e5,hlt1,hrow,rowsL_at hlt1,Row.cells]
          obtain ⟨a,ha⟩ : ∃ a,a = L[ja]:=⟨_,rfl⟩
          have hab:=hLb a (by rw [ha]; exact List.getElem_mem hlt1)
          obtain ⟨a1,a2,a3,a4⟩:=hab
          rw [← ha]
          refine wwp_loop (fun σ'=>∃ jb : Nat,jb≤L.length∧σ'.s 28 = iv jb∧σ'.s 27 = iv L.length∧σ'.s 26 = .sl [15,0,i + 1] 5 0 L.length none∧σ'.s 22 = iv ja∧σ'.s 21 = iv L.length∧σ'.s 20 = .sl [15,0,i + 1] 5 0 L.length none∧
            σ'.s 5 = .sl [15,0,i + 1] 5 0 L.length none∧σ'.s 7 = .ptr [8,σ1.c 7] 0∧σ'.m [8,σ1.c 7] = some (.box [iv a.r,iv a.t,iv a.ns,iv a.ew,iv a.s])∧
            Fr ps (seen ++ [i]) (fun c=>seenSum ps seen c + sumA L (L.take ja) c + sumB L.length a (L.take jb) c) σ') (fun σ'=>cnt L.length (σ'.s 28)) ?_ ?_
          · refine ⟨0,by omega,by simp,by simp,by simp,by simp [e22],by simp [e21],by simp [e20],by simp [e5],by simp,by simp,⟨by simp [f1.s3],by simp [f1.s15],?_,by simp [f1.m16],by simp [f1.m15],fun j hj=>by simp [f1.rows j hj]⟩⟩
            simp [f1.m13,sumB]
          · rintro σ2 hw2 ⟨jb,hjb,g28,g27,g26,g22,g21,g20,g5,g7,n8,f2⟩
            have hrow2:=f2.rows i hil
            rw [← hL] at hrow2
            simp [g28,g27]
            refine condK_dec (fun hlt2=>?_) (fun hge2=>?_)
            · simp [g26,g28,g7,n8,hlt2,hrow2,rowsL_at hlt2,Row.cells]
              obtain ⟨b,hb⟩ : ∃ b,b = L[jb]:=⟨_,rfl⟩
              have hbb:=hLb b (by rw [hb]; exact List.getElem_mem hlt2)
              obtain ⟨b1,b2,b3,b4⟩:=hbb
              rw [← hb]
              obtain ⟨S,hS⟩ : ∃ S : Nat→Int,S = fun c=>seenSum ps seen c + sumA L (L.take ja) c + sumB L.length a (L.take jb) c:=⟨_,rfl⟩
              have f13:=f2.m13
              have hSe : ∀ c,seenSum ps seen c + sumA L (L.take ja) c + sumB L.length a (L.take jb) c = S c:=fun c=>by rw [hS]
              simp only [hSe] at f13
              have hS2 : ∀ c,seenSum ps seen c + sumA L (L.take ja) c + sumB L.length a (L.take (jb + 1)) c = S c + contr L.length a b c:=fun c=>by rw [sumB_snoc _ _ hlt2,← hb,← hSe]; omega
              have w1 : IntKind.i64.wrap ((L.length : Int) - 1) = (L.length : Int) - 1:=wrap_in (by omega) (by omega)
              have x1 : a.ns < 50:=by omega
              have x2 : a.ew < 50:=by omega
              have x3 : b.ns < 50:=by omega
              have x4 : b.ew < 50:=by omega
              by_cases hab : a = b
              · subst hab
                have q1 : a.ns.toNat * 50 + a.ew.toNat < 2500:=by omega
                have q1' : a.ns.toNat * 50 + a.ew.toNat≤2499:=by omega
                have q2 : a.ew.toNat * 50 + a.ns.toNat < 2500:=by omega
                have q2' : a.ew.toNat * 50 + a.ns.toNat≤2499:=by omega
                simp [g28,g27,g26,g22,g21,g20,g5,g7,n8,f2.s3,f13,a1,a3,x1,x2,q1,q1',q2,q2',w1,tab_put q1,tab_put q2,upd_tab S (a.ns.toNat * 50 + a.ew.toNat) ((L.length : Int) - 1),
                  upd_tab (fun i=>S i + hit (a.ns.toNat * 50 + a.ew.toNat) i ((L.length : Int) - 1)) (a.ew.toNat * 50 + a.ns.toNat) ((L.length : Int) - 1),wrap_succ (show jb≤1000000000 by omega)]
                refine ⟨⟨jb + 1,by omega,by omega,⟨by simp [f2.s3],by simp [f2.s15],?_,by simp [f2.m16],by simp [f2.m15],fun j hj=>by simp [f2.rows j hj]⟩⟩,by omega⟩
                simp
                refine tab_congr fun c _=>?_
                rw [hS2]
                simp only [contr,if_true,cellOf]
                refine congrArg (fun z=>iv (IntKind.i64.wrap z)) ?_
                omega
              · have hne : (a.r == b.r && (a.t == b.t && (a.ns == b.ns && (a.ew == b.ew && a.s == b.s)))) = false:=by
                  cases h : (a.r == b.r && (a.t == b.t && (a.ns == b.ns && (a.ew == b.ew && a.s == b.s))))
                  · rfl
                  · simp only [Bool.and_eq_true,beq_iff_eq] at h
                    exact absurd (by cases a; cases b; simp_all) hab
                have q1 : a.ns.toNat * 50 + b.ns.toNat < 2500:=by omega
                have q1' : a.ns.toNat * 50 + b.ns.toNat≤2499:=by omega
                have q2 : a.ew.toNat * 50 + b.ew.toNat < 2500:=by omega
                have q2' : a.ew.toNat * 50 + b.ew.toNat≤2499:=by omega
                have q3 : a.ns.toNat * 50 + b.ew.toNat < 2500:=by omega
                have q3' : a.ns.toNat * 50 + b.ew.toNat≤2499:=by omega
                have q4 : a.ew.toNat * 50 + b.ns.toNat < 2500:=by omega
                have q4' : a.ew.toNat * 50 + b.ns.toNat≤2499:=by omega
                simp [hne,g28,g27,g26,g22,g21,g20,g5,g7,n8,f2.s3,f13,a1,a3,b1,b3,x1,x2,x3,x4,q1,q1',q2,q2',q3,q3',q4,q4',tab_put q1,tab_put q2,tab_put q3,tab_put q4,
                  upd_tab S (a.ns.toNat * 50 + b.ns.toNat) 1,
                  upd_tab (fun i=>S i + hit (a.ns.toNat * 50 + b.ns.toNat) i 1) (a.ew.toNat * 50 + b.ew.toNat) 1,
                  upd_sub (fun i=>S i + hit (a.ns.toNat * 50 + b.ns.toNat) i 1 + hit (a.ew.toNat * 50 + b.ew.toNat) i 1) (a.ns.toNat * 50 + b.ew.toNat),
                  upd_sub (fun i=>S i + hit (a.ns.toNat * 50 + b.ns.toNat) i 1 + hit (a.ew.toNat * 50 + b.ew.toNat) i 1 + hit (a.ns.toNat * 50 + b.ew.toNat) i (-1)) (a.ew.toNat * 50 + b.ns.toNat),wrap_succ (show jb≤1000000000 by omega)]
                refine ⟨⟨jb + 1,by omega,by omega,⟨by simp [f2.s3],by simp [f2.s15],?_,by simp [f2.m16],by simp [f2.m15],fun j hj=>by simp [f2.rows j hj]⟩⟩,by omega⟩
                simp
                refine tab_congr fun c _=>?_
                rw [hS2]
                simp only [contr,if_neg hab,cellOf]
                refine congrArg (fun z=>iv (IntKind.i64.wrap z)) ?_
                omega
            · have hjb : jb = L.length:=by omega
              subst hjb
              simp [g22,g21,g20,g5,wrap_succ (show ja≤1000000000 by omega)]
              refine ⟨⟨ja + 1,by omega,by omega,⟨by simp [f2.s3],by simp [f2.s15],?_,by simp [f2.m16],by simp [f2.m15],fun j hj=>by simp [f2.rows j hj]⟩⟩,by omega⟩
              simp [f2.m13]
              refine tab_congr fun c _=>?_
              rw [sumA_snoc L hlt1,← ha]
              refine congrArg (fun z=>iv (IntKind.i64.wrap z)) ?_
              omega
        · have hja' : ja = L.length:=by omega
          subst hja'
          simp
          have hnd : (seen ++ [i]).Nodup:=List.nodup_append.2 ⟨hn,by simp,fun x hx y hy=>by simp at hy; subst hy; exact fun e=>hi (e ▸ hx)⟩
          have hlt' : ∀ x ∈ seen ++ [i],x < ps.length:=fun x hx=>by
            rcases List.mem_append.1 hx with hx | hx
            · exact hlt x hx
            · simp at hx; omega
          refine ⟨⟨seen ++ [i],hnd,hlt',⟨by simp [f1.s3],by simp [f1.s15],?_,by simp [f1.m16],by simp [f1.m15],fun j hj=>by simp [f1.rows j hj]⟩⟩,?_⟩
          · simp [f1.m13]
            refine tab_congr fun c _=>?_
            rw [seenSum_snoc]
            simp [setSum,hil,← hL]
          · have:=nodup_bound _ _ hnd hlt'
            simp at this
            simp [f1.m16,hf.m16]
            omega
def inPairs (l : List Row) : Bool:=l.all fun x=>decide (0≤x.ns) && decide (x.ns≤49) && decide (0≤x.ew) && decide (x.ew≤49)
theorem inPairs_mem {l : List Row} (h : inPairs l = true) : ∀ x ∈ l,0≤x.ns∧x.ns≤49∧0≤x.ew∧x.ew≤49:=fun x hx=>by
  have:=List.all_eq_true.1 h x hx
  simp only [Bool.and_eq_true,decide_eq_true_eq] at this
  exact ⟨this.1.1.1,this.1.1.2,this.1.2,this.2⟩
def S54 : List D→Option (D × Mem)
  | [.agg xs]=>(asMv xs).bind fun m=>if m.rows.length≤1000000∧inPairs m.rows = true then some (.ptr [] 0,boxMem (tab 2500 fun i=>iv (conT m i))) else none
  | _=>none
theorem s54 : OkQ 54 S54:=fun ds d mm h=>by
  unfold S54 at h
  split at h
  · rw [Option.bind_eq_some_iff] at h
    obtain ⟨m,hm,h⟩:=h
    split at h <;> cases h
    rename_i hc
    rw [asMv_eq hm]
    exact c54 m hc.1 (inPairs_mem hc.2)
  · cases h
end Go.Proofs.Ytpmgaaalfdjikaa
namespace Go.Proofs.Ytpmgaaalfdjikaa
open Go.RowKit
set_option linter.unusedSimpArgs false
set_option linter.unusedVariables false
def W25 : WC × List VRes:=(.seq (.reg [.stm (.eff (.box 3 (.t 0)) none),.set [(6,.c (.v (.int .i64 0))),(7,.c (.v (.int .i64 0)))] [6,7]]) (.seq (.seq (.reg [.set [(11,.ap .inot [.ap (.call 27) [.ap (.load 6 true) [.t 3]]])] [9,10,11]]) (.cond (.t 11) (.seq (.reg [.set [(6,.c (.v (.int .i64 0))),(7,.c (.v (.int .i64 290)))] [6,7]]) .ret) .skip)) (.seq (.reg [.set [(8,.ap (.call 53) [.ap (.load 6 true) [.t 3]])] [12,13,8]]) (.seq (.seq (.reg [.set [(34,.ite (.ite (.ite (.ite (.ap (.ibin .lss) [.t 1,.c (.v (.int .i64 1))]) (.c (.v (.bool true))) (.ap (.ibin .gtr) [.t 1,.t 8])) (.c (.v (.bool true))) (.ap (.ibin .lss) [.t 2,.c (.v (.int .i64 1))])) (.c (.v (.bool true))) (.ap (.ibin .gtr) [.t 2,.t 8])) (.c (.v (.bool true))) (.ap (.ibin .eql) [.t 1,.t 2]))] [14,15,16,17,18,19,20,21,22,23,24,25,26,27,28,29,30,31,32,33,34]]) (.cond (.t 34) (.seq (.reg [.set [(6,.c (.v (.int .i64 0))),(7,.c (.v (.int .i64 2)))] [6,7]]) .ret) .skip)) (.seq (.reg [.set [(35,.ap (.load 6 true) [.t 3])] [35],.stm (.eff (.callq 36 54 [.t 35]) none),.set [(6,.ap (.load 1 false) [.ap (.aidx 50 1) [.ap (.aidx 50 50) [.ap .chk [.t 36],.t 1],.t 2]]),(7,.c (.v (.int .i64 0)))] [37,38,39,40,41,42,6,7]]) .ret)))),[.t 6,.t 7])
theorem is25 : IsFn Try.prog frOf 25 Try.f25 W25:=⟨by kernel_rfl,by kernel_rfl,by kernel_rfl⟩
theorem nt25 : Try.f25.ntmps = 43:=by kernel_rfl
def W40 : WC × List VRes:=(.seq (.reg [.stm (.eff (.box 1 (.t 0)) none),.set [(2,.c (.v (.int .i64 0)))] [2]]) (.seq (.reg [.set [(7,.ap (.load 6 true) [.t 1])] [7],.stm (.eff (.callq 8 54 [.t 7]) none),.set [(3,.t 8)] [3]]) (.seq (.reg [.set [(4,.c (.v (.int .i64 0)))] [4]]) (.seq (.seq (.reg [.set [(9,.c (.v (.int .i64 0)))] [9]]) (.block 0 (.loop (.seq (.reg [.set [(10,.ap (.ibin .lss) [.t 9,.c (.v (.int .i64 50))])] [10]]) (.seq (.cond (.t 10) .skip (.exit 0)) (.seq (.block 1 (.seq (.reg [.set [(5,.t 9)] [11,5]]) (.seq (.reg [.set [(6,.ap (.ibin .add) [.t 5,.c (.v (.int .i64 1))])] [12,13,6]]) (.block 2 (.loop (.seq (.seq (.reg [.set [(15,.ap (.ibin .lss) [.t 6,.c (.v (.int .i64 50))])] [14,15]]) (.cond (.t 15) .skip (.exit 2))) (.seq (.block 3 (.reg [.set [(4,.ap (.ibin .add) [.t 4,.ap (.ibin .mul) [.ap (.load 1 false) [.ap (.aidx 50 1) [.ap (.aidx 50 50) [.ap .chk [.t 3],.t 5],.t 6]],.ap (.load 1 false) [.ap (.aidx 50 1) [.ap (.aidx 50 50) [.ap .chk [.t 3],.t 5],.t 6]]]])] [18,19,20,21,22,23,24,25,26,27,28,29,30,31,32,33,34,4]])) (.reg [.set [(6,.ap (.ibin .add) [.t 6,.c (.v (.int .i64 1))])] [16,17,6]])))))))) (.reg [.set [(9,.ap (.ibin .add) [.t 9,.c (.v (.int .i64 1))])] [35,9]]))))))) (.seq (.reg [.set [(2,.t 4)] [36,2]]) .ret)))),[.t 2])
theorem is40 : IsFn Try.prog frOf 40 Try.f40 W40:=⟨by kernel_rfl,by kernel_rfl,by kernel_rfl⟩
theorem nt40 : Try.f40.ntmps = 37:=by kernel_rfl
def W18 : WC × List VRes:=(.seq (.reg [.stm (.eff (.box 1 (.t 0)) none),.set [(2,.c (.v (.int .i64 0))),(3,.c (.v (.int .i64 0)))] [2,3]]) (.seq (.seq (.reg [.set [(6,.ap .inot [.ap (.call 27) [.ap (.load 6 true) [.t 1]]])] [4,5,6]]) (.cond (.t 6) (.seq (.reg [.set [(2,.c (.v (.int .i64 0))),(3,.c (.v (.int .i64 290)))] [2,3]]) .ret) .skip)) (.seq (.reg [.set [(2,.ap (.call 40) [.ap (.load 6 true) [.t 1]]),(3,.c (.v (.int .i64 0)))] [7,8,2,3]]) .ret)),[.t 2,.t 3])
theorem is18 : IsFn Try.prog frOf 18 Try.f18 W18:=⟨by kernel_rfl,by kernel_rfl,by kernel_rfl⟩
theorem nt18 : Try.f18.ntmps = 9:=by kernel_rfl
def W38 : WC × List VRes:=(.seq (.reg [.set [(4,.c (.v (.bool false)))] [4]]) (.seq (.seq (.reg [.set [(10,.ap (.ibin .neq) [.ap .llen [.t 0],.ap .llen [.t 1]])] [6,7,8,9,10]]) (.cond (.t 10) (.seq (.reg [.set [(4,.c (.v (.bool false)))] [4]]) .ret) .skip)) (.seq (.seq (.reg [.set [(5,.c (.v (.int .i64 0)))] [5]]) (.block 0 (.loop (.seq (.seq (.reg [.set [(14,.ap (.ibin .lss) [.t 5,.ap .llen [.t 0]])] [11,12,13,14]]) (.cond (.t 14) .skip (.exit 0))) (.seq (.block 1 (.seq (.reg [.set [(25,.ap (.ibin .neq) [.ap (.load 1 false) [.ap (.idx 3 1) [.t 0,.t 5]],.ap (.load 1 false) [.ap (.idx 3 1) [.t 1,.t 5]]])] [17,18,19,20,21,22,23,24,25]]) (.cond (.t 25) (.seq (.reg [.set [(4,.c (.v (.bool false)))] [4]]) .ret) .skip))) (.reg [.set [(5,.ap (.ibin .add) [.t 5,.c (.v (.int .i64 1))])] [15,16,5]])))))) (.seq (.reg [.set [(4,.c (.v (.bool true)))] [4]]) .ret))),[.t 4])
theorem is38 : IsFn Try.prog frOf 38 Try.f38 W38:=⟨by kernel_rfl,by kernel_rfl,by kernel_rfl⟩
theorem nt38 : Try.f38.ntmps = 26:=by kernel_rfl
def S27 : List D→Option D
  | [.agg xs]=>(asMv xs).map fun m=>bv (fitB m)
  | _=>none
theorem s27 : OkP 27 S27:=fun ds d h=>by
  unfold S27 at h
  split at h
  · obtain ⟨m,hm,rfl⟩:=Option.map_eq_some_iff.1 h
    rw [asMv_eq hm]
    exact c27 m
  · cases h
theorem fit_len {m : Mv} (h : fitB m = true) : m.rows.length≤1128:=by
  obtain ⟨a,b,c,d,e⟩:=((fitB_iff m).1 h).1
  have e1 : m.t * m.r≤24 * 47:=Int.mul_le_mul b d (by omega) (by omega)
  omega
theorem pairOK_bounds {f : Nat→Bool} {r p : Int} (h : pairOK f r p = true) : 0≤p∧p≤49:=by
  simp only [pairOK,Bool.and_eq_true,decide_eq_true_eq] at h
  exact h.1
theorem fit_pairs {m : Mv} (h : fitB m = true) : inPairs m.rows = true:=by
  unfold inPairs
  rw [List.all_eq_true]
  intro x hx
  obtain ⟨k,hk,rfl⟩:=List.getElem_of_mem hx
  have:=((fitB_iff m).1 h).2 k hk
  simp only [fitRow,Bool.and_eq_true] at this
  have h1:=pairOK_bounds this.1.2
  have h2:=pairOK_bounds this.2
  simp [h1,h2]
theorem great_bounds {l : List Row} (h : inPairs l = true) : 0≤great l∧great l≤49:=by
  have key : ∀ (l : List Row) (p : Int),(∀ x ∈ l,0≤x.ns∧x.ns≤49∧0≤x.ew∧x.ew≤49)→0≤p→p≤49→0≤l.foldl (fun p x=>max (max p x.ns) x.ew) p∧l.foldl (fun p x=>max (max p x.ns) x.ew) p≤49:=by
    intro l
    induction l with
    | nil=>intro p _ h1 h2; exact ⟨h1,h2⟩
    | cons x l ih=>
      intro p hx h1 h2
      have:=hx x List.mem_cons_self
      exact ih _ (fun y hy=>hx y (List.mem_cons_of_mem _ hy)) (by simp only; omega) (by simp only; omega)
  exact key l 0 (inPairs_mem h) (by omega) (by omega)
def contestR (m : Mv) (p q : Int) : Int × Int:=
  if fitB m = true then (if p < 1 ∨ great m.rows < p ∨ q < 1 ∨ great m.rows < q ∨ p = q then (0,2) else (conT m (p.toNat * 50 + q.toNat),0)) else (0,290)
def env25 : Env:=mkEnv [(27,S27),(53,S53)] [(54,S54)] []
@[simp] theorem env25_p (f : Nat) (ds : List D) : env25.p f ds = (look [(27,S27),(53,S53)] f).bind fun s=>s ds:=rfl
@[simp] theorem env25_q (f : Nat) (ds : List D) : env25.q f ds = (look [(54,S54)] f).bind fun s=>s ds:=rfl
theorem sound25 : Sound Try.prog env25:=sound_mk (by simp [s27,s53]) (by simp [s54]) (by simp)
theorem c25 (m : Mv) (p q : Int) : VCp Try.prog 25 [.agg m.cells,iv p,iv q] (.tup [iv (contestR m p q).1,iv (contestR m p q).2]):=by
  refine wcontract_p sound25 mixed is25 (by rw [nt25]; simp) ?_ rfl
  simp [W25,Mv.cells,Mv.cellsW,S27]
  refine condK_b (fun hf=>?_) (fun hf=>?_)
  · have hf' : fitB m = false:=by simpa using hf
    simp [contestR,hf']
  · have hf' : fitB m = true:=by simpa using hf
    have hl:=fit_len hf'
    have hp:=fit_pairs hf'
    have hg:=great_bounds hp
    simp [S53,show m.rows.length≤1000000 by omega]
    refine condK_b (fun hx=>?_) (fun hx=>?_)
    · simp only [Bool.or_eq_true,decide_eq_true_eq,beq_iff_eq] at hx
      have hc : p < 1 ∨ great m.rows < p ∨ q < 1 ∨ great m.rows < q ∨ p = q:=by omega
      simp [contestR,hf',hc]
    · simp only [Bool.or_eq_false_iff,decide_eq_false_iff_not,beq_eq_false_iff_ne] at hx
      have hc : ¬ (p < 1 ∨ great m.rows < p ∨ q < 1 ∨ great m.rows < q ∨ p = q):=by omega
      have q1 : p.toNat * 50 + q.toNat < 2500:=by omega
      have q2 : p.toNat * 50 + q.toNat≤2499:=by omega
      have q3 : 0≤p:=by omega
      have q4 : 0≤q:=by omega
      have q5 : p < 50:=by omega
      have q6 : q < 50:=by omega
      simp [S54,show m.rows.length≤1000000 by omega,hp,q1,q2,q3,q4,q5,q6,contestR,hf',hc]
def sqIn (E : Nat→Int) (p q : Nat) : Int:=((List.range q).map fun k=>if p < k then E (p * 50 + k) * E (p * 50 + k) else 0).sum
def sqOut (E : Nat→Int) (p : Nat) : Int:=((List.range p).map fun a=>sqIn E a 50).sum
theorem sqIn_succ (E : Nat→Int) (p q : Nat) : sqIn E p (q + 1) = sqIn E p q + if p < q then E (p * 50 + q) * E (p * 50 + q) else 0:=by simp [sqIn,List.range_succ]
theorem sqIn_zero (E : Nat→Int) (p : Nat) : ∀ q,q≤p + 1→sqIn E p q = 0
  | 0,_=>rfl
  | q + 1,h=>by rw [sqIn_succ,sqIn_zero E p q (by omega),if_neg (by omega)]; rfl
theorem sqOut_succ (E : Nat→Int) (p : Nat) : sqOut E (p + 1) = sqOut E p + sqIn E p 50:=by simp [sqOut,List.range_succ]
def unbV (m : Mv) : Int:=IntKind.i64.wrap (sqOut (conT m) 50)
theorem wrap_add2 (x y : Int) : IntKind.i64.wrap (IntKind.i64.wrap x + IntKind.i64.wrap y) = IntKind.i64.wrap (x + y):=by simp only [IntKind.wrap_i64]; omega
def env40 : Env:=mkEnv [] [(54,S54)] []
@[simp] theorem env40_q (f : Nat) (ds : List D) : env40.q f ds = (look [(54,S54)] f).bind fun s=>s ds:=rfl
theorem sound40 : Sound Try.prog env40:=sound_mk (by simp) (by simp [s54]) (by simp)
theorem c40 (m : Mv) (hm : m.rows.length≤1000000) (hp : inPairs m.rows = true) : VCp Try.prog 40 [.agg m.cells] (iv (unbV m)):=by
  refine wcontract_p sound40 mixed is40 (by rw [nt40]; simp) ?_ rfl
  simp [W40,Mv.cells,Mv.cellsW,S54,hm,hp]
  refine wwp_loop (fun σ=>∃ a : Nat,a≤50∧σ.s 9 = iv a∧σ.s 3 = .ptr [9,0] 0∧σ.m [9,0] = some (.box (tab 2500 fun i=>iv (conT m i)))∧σ.s 4 = iv (IntKind.i64.wrap (sqOut (conT m) a))) (fun σ=>cnt 50 (σ.s 9)) ?_ ?_
  · exact ⟨0,by omega,by simp,by simp,by simp,by simp [sqOut]⟩
  · rintro σ hw ⟨a,ha,h9,h3,m9,h4⟩
    simp [h9]
    refine condK_dec (fun hlt=>?_) (fun hge=>?_)
    · simp [h9,h3,h4,wrap_succ (show a≤1000000000 by omega)]
      refine wwp_loop (fun σ'=>∃ b : Nat,a + 1≤b∧b≤50∧σ'.s 6 = iv b∧σ'.s 5 = iv a∧σ'.s 9 = iv a∧σ'.s 3 = .ptr [9,0] 0∧σ'.m [9,0] = some (.box (tab 2500 fun i=>iv (conT m i)))∧
        σ'.s 4 = iv (IntKind.i64.wrap (sqOut (conT m) a + sqIn (conT m) a b))) (fun σ'=>cnt 50 (σ'.s 6)) ?_ ?_
      · exact ⟨a + 1,by omega,by omega,by simp,by simp,by simp [h9],by simp [h3],by simp [m9],by simp [h4,sqIn_zero]⟩
      · rintro σ' hw' ⟨b,hb1,hb2,e6,e5,e9,e3,n9,e4⟩
        simp [e6]
        refine condK_dec (fun hlt'=>?_) (fun hge'=>?_)
        · have q1 : a * 50 + b < 2500:=by omega
          have q2 : a * 50 + b≤2499:=by omega
          have q3 : (a : Int) < 50:=by omega
          have q4 : (b : Int) < 50:=by omega
          simp [e6,e5,e9,e3,e4,n9,q1,q2,q3,q4,wrap_succ (show b≤1000000000 by omega),wrap_add2]
          refine ⟨⟨b + 1,by omega,by omega,by omega,?_⟩,by omega⟩
          rw [sqIn_succ,if_pos (by omega),Int.add_assoc]
        · have hb50 : b = 50:=by omega
          subst hb50
          simp [e9,e3,n9,e4,wrap_succ (show a≤1000000000 by omega)]
          refine ⟨⟨a + 1,by omega,by omega,?_⟩,by omega⟩
          rw [sqOut_succ]
    · have ha50 : a = 50:=by omega
      subst ha50
      simp [h4,unbV]
def S40 : List D→Option D
  | [.agg xs]=>(asMv xs).bind fun m=>if m.rows.length≤1000000∧inPairs m.rows = true then some (iv (unbV m)) else none
  | _=>none
theorem s40 : OkP 40 S40:=fun ds d h=>by
  unfold S40 at h
  split at h
  · rw [Option.bind_eq_some_iff] at h
    obtain ⟨m,hm,h⟩:=h
    split at h <;> cases h
    rename_i hc
    rw [asMv_eq hm]
    exact c40 m hc.1 hc.2
  · cases h
def S25 : List D→Option D
  | [.agg xs,.v (.int .i64 p),.v (.int .i64 q)]=>(asMv xs).map fun m=>.tup [iv (contestR m p q).1,iv (contestR m p q).2]
  | _=>none
theorem s25 : OkP 25 S25:=fun ds d h=>by
  unfold S25 at h
  split at h
  · obtain ⟨m,hm,rfl⟩:=Option.map_eq_some_iff.1 h
    rw [asMv_eq hm]
    exact c25 m _ _
  · cases h
def unbR (m : Mv) : Int × Int:=if fitB m = true then (unbV m,0) else (0,290)
def env18 : Env:=mkEnv [(27,S27),(40,S40)] [] []
@[simp] theorem env18_p (f : Nat) (ds : List D) : env18.p f ds = (look [(27,S27),(40,S40)] f).bind fun s=>s ds:=rfl
theorem sound18 : Sound Try.prog env18:=sound_mk (by simp [s27,s40]) (by simp) (by simp)
theorem c18 (m : Mv) : VCp Try.prog 18 [.agg m.cells] (.tup [iv (unbR m).1,iv (unbR m).2]):=by
  refine wcontract_p sound18 mixed is18 (by rw [nt18]; simp) ?_ rfl
  simp [W18,Mv.cells,Mv.cellsW,S27]
  refine condK_b (fun hf=>?_) (fun hf=>?_)
  · have hf' : fitB m = false:=by simpa using hf
    simp [unbR,hf']
  · have hf' : fitB m = true:=by simpa using hf
    have hl:=fit_len hf'
    simp [S40,show m.rows.length≤1000000 by omega,fit_pairs hf',unbR,hf']
def S18 : List D→Option D
  | [.agg xs]=>(asMv xs).map fun m=>.tup [iv (unbR m).1,iv (unbR m).2]
  | _=>none
theorem s18 : OkP 18 S18:=fun ds d h=>by
  unfold S18 at h
  split at h
  · obtain ⟨m,hm,rfl⟩:=Option.map_eq_some_iff.1 h
    rw [asMv_eq hm]
    exact c18 m
  · cases h
theorem c38 (a b : List Int) (ha : a.length≤1000000) (hb : b.length≤1000000) : VCp Try.prog 38 [.list (ints a),.list (ints b)] (bv (decide (a = b))):=by
  refine wcontract_p sound0 mixed is38 (by rw [nt38]; simp) ?_ rfl
  simp [W38]
  refine condK_b (fun hl=>?_) (fun hl=>?_)
  · have : a ≠ b:=fun e=>by subst e; simp at hl
    simp [this]
  · have hl' : a.length = b.length:=by simp at hl; omega
    simp
    refine wwp_loop (fun σ=>∃ k : Nat,k≤a.length∧σ.s 5 = iv k∧σ.s 0 = .list (ints a)∧σ.s 1 = .list (ints b)∧∀ i (h : i < a.length),i < k→a[i] = b[i]'(by omega)) (fun σ=>cnt a.length (σ.s 5)) ?_ ?_
    · exact ⟨0,by omega,by simp,by simp,by simp,by omega⟩
    · rintro σ hw ⟨k,hk,h5,h0,h1,hall⟩
      simp [h5,h0]
      refine condK_dec (fun hlt=>?_) (fun hge=>?_)
      · have hltb : k < b.length:=by omega
        simp [h5,h0,h1,hlt,hltb]
        refine condK_b (fun hx=>?_) (fun hx=>?_)
        · have : a ≠ b:=fun e=>by subst e; simp at hx
          simp [this]
        · have hx' : a[k] = b[k]:=by simpa using hx
          simp [h5,h0,h1,wrap_succ (show k≤1000000000 by omega)]
          refine ⟨⟨k + 1,by omega,by omega,fun i hi hik=>?_⟩,by omega⟩
          by_cases h : i < k
          · exact hall i hi h
          · obtain rfl : i = k:=by omega
            exact hx'
      · have : a = b:=List.ext_getElem hl' fun i hi _=>hall i hi (by omega)
        simp [this]
def S38 : List D→Option D
  | [.list a,.list b]=>(asInts a).bind fun a=>(asInts b).bind fun b=>if a.length≤1000000∧b.length≤1000000 then some (bv (decide (a = b))) else none
  | _=>none
theorem s38 : OkP 38 S38:=fun ds d h=>by
  unfold S38 at h
  split at h
  · rw [Option.bind_eq_some_iff] at h
    obtain ⟨a,ha,h⟩:=h
    rw [Option.bind_eq_some_iff] at h
    obtain ⟨b,hb,h⟩:=h
    split at h <;> cases h
    rename_i hc
    rw [asInts_eq ha,asInts_eq hb]
    exact c38 a b hc.1 hc.2
  · cases h
end Go.Proofs.Ytpmgaaalfdjikaa
namespace Go.Proofs.Ytpmgaaalfdjikaa
open Go.RowKit
set_option linter.unusedSimpArgs false
set_option linter.unusedVariables false
def W17 : WC × List VRes:=(.seq (.reg [.stm (.eff (.box 2 (.t 0)) none),.stm (.eff (.box 4 (.c (.agg [.v (.int .i64 0),.v (.int .i64 0),.v (.int .i64 0),.v (.int .i64 0),.v (.int .i64 0),.nil]))) none),.set [(5,.c (.v (.int .i64 0)))] [5]]) (.seq (.seq (.reg [.set [(8,.ap .inot [.ap (.call 27) [.ap (.load 6 true) [.t 2]]])] [6,7,8]]) (.cond (.t 8) (.seq (.reg [.set [(9,.ap (.build [.v (.int .i64 0),.v (.int .i64 0),.v (.int .i64 0),.v (.int .i64 0),.v (.int .i64 0),.nil] []) [])] [9],.stm (.eff (.store 6 (.t 4) (.t 9)) none),.set [(5,.c (.v (.int .i64 290)))] [5]]) .ret) .skip)) (.seq (.seq (.reg [.set [(13,.ap .inot [.ap (.call 39) [.ap (.load 6 true) [.t 2],.t 1]])] [10,11,12,13]]) (.cond (.t 13) (.seq (.reg [.set [(14,.ap (.build [.v (.int .i64 0),.v (.int .i64 0),.v (.int .i64 0),.v (.int .i64 0),.v (.int .i64 0),.nil] []) [])] [14],.stm (.eff (.store 6 (.t 4) (.t 14)) none),.set [(5,.c (.v (.int .i64 291)))] [5]]) .ret) .skip)) (.seq (.reg [.set [(15,.ap (.load 6 true) [.t 2]),(16,.t 1)] [15,16],.stm (.eff (.callq 17 41 [.t 15,.t 16]) none),.stm (.eff (.store 6 (.t 4) (.t 17)) none),.set [(5,.c (.v (.int .i64 0)))] [5]]) .ret))),[.cell 4 6 true,.t 5])
theorem is17 : IsFn Try.prog frOf 17 Try.f17 W17:=⟨by kernel_rfl,by kernel_rfl,by kernel_rfl⟩
theorem nt17 : Try.f17.ntmps = 18:=by kernel_rfl
def W20 : WC × List VRes:=(.seq (.reg [.stm (.eff (.box 2 (.t 0)) none),.set [(4,.c .nil),(5,.c (.v (.int .i64 0)))] [4,5]]) (.seq (.seq (.reg [.set [(10,.ap .inot [.ap (.call 27) [.ap (.load 6 true) [.t 2]]])] [8,9,10]]) (.cond (.t 10) (.seq (.reg [.set [(4,.c .nil),(5,.c (.v (.int .i64 290)))] [4,5]]) .ret) .skip)) (.seq (.seq (.reg [.set [(18,.ite (.ap (.ibin .lss) [.t 1,.c (.v (.int .i64 0))]) (.c (.v (.bool true))) (.ap (.ibin .gtr) [.t 1,.ap (.load 1 false) [.ap (.fld 1) [.t 2]]]))] [11,12,13,14,15,16,17,18]]) (.cond (.t 18) (.seq (.reg [.set [(4,.c .nil),(5,.c (.v (.int .i64 2)))] [4,5]]) .ret) .skip)) (.seq (.reg [.set [(6,.c .nil)] [6]]) (.seq (.seq (.reg [.set [(7,.ap (.ibin .sub) [.ap (.load 1 false) [.ap (.fld 1) [.t 2]],.t 1])] [19,20,21,22,7]]) (.block 0 (.loop (.seq (.seq (.reg [.set [(26,.ap (.ibin .lss) [.t 7,.ap (.load 1 false) [.ap (.fld 1) [.t 2]]])] [23,24,25,26]]) (.cond (.t 26) .skip (.exit 0))) (.seq (.block 1 (.reg [.set [(29,.t 6),(30,.t 7)] [29,30],.stm (.eff (.lit 31 3 1 1 [.v (.int .i64 0)] [(0,1)] [.t 30]) none),.stm (.eff (.app 32 3 1 (.t 29) (.t 31)) none),.set [(6,.t 32)] [6]])) (.reg [.set [(7,.ap (.ibin .add) [.t 7,.c (.v (.int .i64 1))])] [27,28,7]])))))) (.seq (.reg [.set [(4,.t 6),(5,.c (.v (.int .i64 0)))] [33,4,5]]) .ret))))),[.t 4,.t 5])
theorem is20 : IsFn Try.prog frOf 20 Try.f20 W20:=⟨by kernel_rfl,by kernel_rfl,by kernel_rfl⟩
theorem nt20 : Try.f20.ntmps = 34:=by kernel_rfl
def W15 : WC × List VRes:=(.seq (.reg [.stm (.eff (.box 2 (.t 0)) none),.set [(4,.c (.v (.int .i64 0))),(5,.c (.v (.int .i64 0)))] [4,5]]) (.seq (.seq (.reg [.set [(15,.ap .inot [.ap (.call 27) [.ap (.load 6 true) [.t 2]]])] [13,14,15]]) (.cond (.t 15) (.seq (.reg [.set [(4,.c (.v (.int .i64 0))),(5,.c (.v (.int .i64 290)))] [4,5]]) .ret) .skip)) (.seq (.seq (.reg [.set [(18,.ap (.ibin .gtr) [.ap .llen [.t 1],.c (.v (.int .i64 64))])] [16,17,18]]) (.cond (.t 18) (.seq (.reg [.set [(4,.c (.v (.int .i64 0))),(5,.c (.v (.int .i64 5)))] [4,5]]) .ret) .skip)) (.seq (.seq (.reg [.set [(21,.ap (.ibin .eql) [.ap .llen [.t 1],.c (.v (.int .i64 0))])] [19,20,21]]) (.cond (.t 21) (.seq (.reg [.set [(4,.c (.v (.int .i64 0))),(5,.c (.v (.int .i64 6)))] [4,5]]) .ret) .skip)) (.seq (.seq (.reg [.set [(22,.t 1),(23,.ap .llen [.t 1]),(24,.c (.v (.int .i64 0)))] [22,23,24]]) (.block 0 (.loop (.seq (.reg [.set [(25,.ap (.ibin .lss) [.t 24,.t 23])] [25]]) (.seq (.cond (.t 25) .skip (.exit 0)) (.seq (.block 1 (.seq (.reg [.set [(7,.ap (.load 1 false) [.ap (.idx 34 1) [.t 22,.t 24]])] [26,27,7]]) (.seq (.reg [.set [(31,.ap .inot [.ap (.call 39) [.ap (.load 6 true) [.t 2],.t 7]])] [28,29,30,31]]) (.cond (.t 31) (.seq (.reg [.set [(4,.c (.v (.int .i64 0))),(5,.c (.v (.int .i64 291)))] [4,5]]) .ret) .skip)))) (.reg [.set [(24,.ap (.ibin .add) [.t 24,.c (.v (.int .i64 1))])] [32,24]]))))))) (.seq (.reg [.set [(8,.c (.v (.int .i64 0))),(9,.c (.v (.int .i64 0)))] [8,9]]) (.seq (.seq (.reg [.set [(33,.t 1),(34,.ap .llen [.t 1]),(35,.c (.v (.int .i64 0)))] [33,34,35]]) (.block 2 (.loop (.seq (.reg [.set [(36,.ap (.ibin .lss) [.t 35,.t 34])] [36]]) (.seq (.cond (.t 36) .skip (.exit 2)) (.seq (.block 3 (.seq (.reg [.set [(10,.t 35),(11,.ap (.load 1 false) [.ap (.idx 34 1) [.t 33,.t 35]])] [37,38,39,10,11]]) (.seq (.reg [.set [(40,.ap (.load 6 true) [.t 2]),(41,.t 11)] [40,41],.stm (.eff (.callq 42 41 [.t 40,.t 41]) none),.set [(12,.ap (.call 40) [.t 42])] [43,12]]) (.seq (.reg [.set [(50,.ite (.ap (.ibin .eql) [.t 10,.c (.v (.int .i64 0))]) (.c (.v (.bool true))) (.ap (.ibin .lss) [.t 12,.t 9]))] [44,45,46,47,48,49,50]]) (.cond (.t 50) (.reg [.set [(8,.t 10),(9,.t 12)] [51,52,8,9]]) .skip))))) (.reg [.set [(35,.ap (.ibin .add) [.t 35,.c (.v (.int .i64 1))])] [53,35]]))))))) (.seq (.reg [.set [(4,.t 8),(5,.c (.v (.int .i64 0)))] [54,4,5]]) .ret))))))),[.t 4,.t 5])
theorem is15 : IsFn Try.prog frOf 15 Try.f15 W15:=⟨by kernel_rfl,by kernel_rfl,by kernel_rfl⟩
theorem nt15 : Try.f15.ntmps = 55:=by kernel_rfl
theorem listOK_rises {r : Int} : ∀ {l : List Int} {p : Int},listOK r p l = true→(∀ x ∈ l,p < x)∧l.Pairwise (· < ·)
  | [],p,_=>⟨by simp,by simp⟩
  | x :: l,p,h=>by
    rw [listOK_cons] at h
    obtain ⟨h1,h2⟩:=listOK_rises h.2.2
    refine ⟨fun y hy=>?_,List.pairwise_cons.2 ⟨h1,h2⟩⟩
    rcases List.mem_cons.1 hy with rfl | hy
    · exact h.1
    · have:=h1 y hy; omega
theorem listOK_rises' {r p : Int} {l : List Int} (h : listOK r p l = true) : rises l = true:=by
  simpa [rises] using (listOK_rises h).2
theorem Out.tup {σ : St} {xs ys : List D} {m' : Mem} (h : Out σ (.agg xs) (.agg ys) m') (x : Value) : Out σ (.tup [.agg xs,.v x]) (.tup [.agg ys,.v x]) m':=by
  obtain ⟨f,h1,h2,h3,h4⟩:=h
  refine ⟨f,?_,?_,h3,h4⟩
  · have : D.agg xs = (D.agg ys).renA f:=h1
    simp only [D.ren,List.map_cons,List.map_nil,← this]
    rfl
  · have : (D.agg ys).noFA = true:=h2
    simp [D.noF,this]; rfl
theorem Out.tupSl {σ : St} {t : Tok} {size off len : Nat} {l : Option Nat} {t' : Tok} {m' : Mem} (h : Out σ (.sl t size off len l) (.sl t' size off len l) m') (x : Value) : Out σ (.tup [.sl t size off len l,.v x]) (.tup [.sl t' size off len l,.v x]) m':=by
  obtain ⟨f,h1,h2,h3,h4⟩:=h
  refine ⟨f,?_,rfl,h3,h4⟩
  have : D.sl t size off len l = (D.sl t' size off len l).renA f:=h1
  simp only [D.ren,List.map_cons,List.map_nil,← this]
  rfl
def noMv : List D:=[iv 0,iv 0,iv 0,iv 0,iv 0,.nil]
def turnE (m : Mv) (L : List Int) : Int:=if fitB m = true then (if listOK m.r (-1) L = true then 0 else 291) else 290
def turnR (m : Mv) (L : List Int) : D × Mem:=
  if turnE m L = 0 then (if m.rows.isEmpty then (.tup [.agg ((exch m L).cellsW (.list [])),iv 0],noMem)
    else (.tup [.agg ((exch m L).cellsW (.sl [] 5 0 m.rows.length none)),iv 0],rowMem 53 (rowsL (exch m L).rows)))
  else (.tup [.agg noMv,iv (turnE m L)],noMem)
def env17 : Env:=mkEnv [(27,S27),(39,S39)] [(41,S41)] []
@[simp] theorem env17_p (f : Nat) (ds : List D) : env17.p f ds = (look [(27,S27),(39,S39)] f).bind fun s=>s ds:=rfl
@[simp] theorem env17_q (f : Nat) (ds : List D) : env17.q f ds = (look [(41,S41)] f).bind fun s=>s ds:=rfl
theorem sound17 : Sound Try.prog env17:=sound_mk (by simp [s27,s39]) (by simp [s41]) (by simp)
theorem c17 (m : Mv) (L : List Int) (hL : L.length≤1000000) : VCq Try.prog 17 [.agg m.cells,.list (ints L)] (turnR m L).1 (turnR m L).2:=by
  refine wcontract_q sound17 mixed is17 (by rw [nt17]; simp) ?_
  simp [W17,Mv.cells,Mv.cellsW,S27]
  refine condK_b (fun hf=>?_) (fun hf=>?_)
  · have hf' : fitB m = false:=by simpa using hf
    simp [turnR,turnE,hf']
    exact Out.flat rfl rfl
  · have hf' : fitB m = true:=by simpa using hf
    have hl:=fit_len hf'
    simp [S39,hL]
    refine condK_b (fun hk=>?_) (fun hk=>?_)
    · have hk' : listOK m.r (-1) L = false:=by simpa using hk
      simp [turnR,turnE,hf',hk']
      exact Out.flat rfl rfl
    · have hk' : listOK m.r (-1) L = true:=by simpa using hk
      have hr:=listOK_rises' hk'
      by_cases h0 : m.rows = []
      · obtain ⟨mt,mr,ms,mc,mw,rows⟩:=m
        simp only at h0
        subst h0
        simp [turnR,turnE,hf',hk',S41,hL,hr,Mv.cellsW]
        exact Out.flat rfl rfl
      · simp [turnR,turnE,hf',hk',S41,hL,hr,h0,show m.rows.length≤1000000 by omega,Mv.cellsW]
        exact Out.tup (Out.aggRow (t:=[18,0]) (g:=[18,0,0]) (es:=rowsL (exch m L).rows) (pre:=[iv (exch m L).t,iv (exch m L).r,iv (exch m L).s,iv (exch m L).c,iv (exch m L).w]) rfl (by simp) (rowsL_flat _)) _
def S17 : List D→Option (D × Mem)
  | [.agg xs,.list es]=>(asMv xs).bind fun m=>(asInts es).bind fun L=>if L.length≤1000000 then some (turnR m L) else none
  | _=>none
theorem s17 : OkQ 17 S17:=fun ds d mm h=>by
  unfold S17 at h
  split at h
  · rw [Option.bind_eq_some_iff] at h
    obtain ⟨m,hm,h⟩:=h
    rw [Option.bind_eq_some_iff] at h
    obtain ⟨L,hL,h⟩:=h
    split at h
    · rename_i hc
      have:=c17 m L hc
      rw [Option.some.inj h] at this
      rw [asMv_eq hm,asInts_eq hL]
      exact this
    · cases h
  · cases h
def lastF (r : Int) (n k : Nat) : List Int:=(List.range k).map fun (j : Nat)=>r - (n : Int) + (j : Int)
def lastL (r : Int) (n : Nat) : List Int:=lastF r n n
theorem lastF_len (r : Int) (n k : Nat) : (lastF r n k).length = k:=by simp [lastF]
theorem lastF_succ (r : Int) (n k : Nat) : lastF r n (k + 1) = lastF r n k ++ [r - (n : Int) + (k : Int)]:=by simp [lastF,List.range_succ]
def lastE (m : Mv) (n : Int) : Int:=if fitB m = true then (if n < 0 ∨ m.r < n then 2 else 0) else 290
def lastR (m : Mv) (n : Int) : D × Mem:=
  if lastE m n = 0 then (if n = 0 then (.tup [.nil,iv 0],noMem) else (.tup [.sl [] 1 0 n.toNat none,iv 0],rowMem 3 (ints (lastL m.r n.toNat))))
  else (.tup [.nil,iv (lastE m n)],noMem)
def env20 : Env:=mkEnv [(27,S27)] [] []
@[simp] theorem env20_p (f : Nat) (ds : List D) : env20.p f ds = (look [(27,S27)] f).bind fun s=>s ds:=rfl
theorem sound20 : Sound Try.prog env20:=sound_mk (by simp [s27]) (by simp) (by simp)
theorem c20 (m : Mv) (n : Int) : VCq Try.prog 20 [.agg m.cells,iv n] (lastR m n).1 (lastR m n).2:=by
  refine wcontract_q sound20 mixed is20 (by rw [nt20]; simp) ?_
  simp [W20,Mv.cells,Mv.cellsW,S27]
  refine condK_b (fun hf=>?_) (fun hf=>?_)
  · have hf' : fitB m = false:=by simpa using hf
    simp [lastR,lastE,hf']
    exact Out.flat rfl rfl
  · have hf' : fitB m = true:=by simpa using hf
    obtain ⟨b1,b2,b3,b4,b5⟩:=((fitB_iff m).1 hf').1
    simp
    refine condK_b (fun hk=>?_) (fun hk=>?_)
    · have hk' : n < 0 ∨ m.r < n:=by simpa using hk
      simp [lastR,lastE,hf',hk']
      exact Out.flat rfl rfl
    · have hk' : ¬ n < 0∧¬ m.r < n:=by simpa using hk
      have hk2 : ¬ (n < 0 ∨ m.r < n):=by omega
      simp [wrap_in (show -9223372036854775808≤m.r - n by omega) (show m.r - n≤9223372036854775807 by omega)]
      obtain ⟨N,hN⟩ : ∃ N : Nat,n = N:=⟨n.toNat,by omega⟩
      subst hN
      refine wwp_loop (fun σ=>∃ k : Nat,k≤N∧σ.s 7 = iv (m.r - N + k)∧σ.s 2 = .ptr [3,0] 0∧σ.m [3,0] = some (.box [iv m.t,iv m.r,iv m.s,iv m.c,iv m.w,.list (rowsL m.rows)])∧
        ((k = 0∧σ.s 6 = .nil) ∨ (0 < k∧∃ t g,σ.s 6 = .sl t 1 0 k none∧σ.m t = some (.row g 3 (ints (lastF m.r N k)))))) (fun σ=>match σ.s 7 with | .v (.int _ x)=>(m.r - x).toNat | _=>0) ?_ ?_
      · exact ⟨0,by omega,by simp,by simp,by simp,.inl ⟨rfl,by simp⟩⟩
      · rintro σ hw ⟨k,hk,h7,h2,m3,h6⟩
        simp [h7,h2,m3]
        refine condK_dec (fun hlt=>?_) (fun hge=>?_)
        · rcases h6 with ⟨rfl,h6⟩ | ⟨hk0,t,g,h6,hmt⟩
          · have w1 : IntKind.i64.wrap (m.r - (N : Int) + 1) = m.r - (N : Int) + 1:=wrap_in (by omega) (by omega)
            simp [h6,h7,h2,m3,one_made,w1]
            exact ⟨⟨1,by omega,by omega,by omega,_,⟨rfl,rfl⟩,[33,σ.c 32],by simp [lastF,ints]⟩,by omega⟩
          · have w1 : IntKind.i64.wrap (m.r - (N : Int) + k + 1) = m.r - (N : Int) + k + 1:=wrap_in (by omega) (by omega)
            have n1:=hw.ne hmt 31 (σ.c 31) []
            have hk3 : k + 1≤maxMade:=by unfold maxMade; omega
            have hlf:=lastF_len m.r N k
            simp [h6,h7,h2,m3,n1,hmt,hk3,hlf,w1]
            refine ⟨⟨k + 1,by omega,by omega,by omega,_,⟨rfl,rfl⟩,g,?_⟩,by omega⟩
            have htk : (ints (lastF m.r N k)).take k = ints (lastF m.r N k):=List.take_of_length_le (by simp [hlf])
            rw [if_pos rfl,lastF_succ,ints_append,htk]
            rfl
        · have hkN : k = N:=by omega
          subst hkN
          rcases h6 with ⟨rfl,h6⟩ | ⟨hk0,t,g,h6,hmt⟩
          · have hr0 : 0≤m.r:=by omega
            simp [h6,lastR,lastE,hf',hk2,hr0]
            exact Out.flat rfl rfl
          · have hk0' : ¬ k = 0:=by omega
            have hrk : (k : Int)≤m.r:=by omega
            simp [h6,lastR,lastE,hf',hk2,hk0',hrk]
            exact Out.tupSl (Out.row (g:=g) (es:=ints (lastL m.r k)) (by simp; exact hmt) (ints_flat _)) _
def S20 : List D→Option (D × Mem)
  | [.agg xs,.v (.int .i64 n)]=>(asMv xs).map fun m=>lastR m n
  | _=>none
theorem s20 : OkQ 20 S20:=fun ds d mm h=>by
  unfold S20 at h
  split at h
  · rename_i xs n
    obtain ⟨m,hm,h⟩:=Option.map_eq_some_iff.1 h
    rw [asMv_eq hm]
    have:=c20 m n
    rw [h] at this
    exact this
  · cases h
def bestGo (f : List Int→Int) (Ls : List (List Int)) : Nat→Int × Int
  | 0=>(0,0)
  | k + 1=>if k = 0 ∨ f (Ls.getD k []) < (bestGo f Ls k).2 then (k,f (Ls.getD k [])) else bestGo f Ls k
def bestE (m : Mv) (Ls : List (List Int)) : Int:=
  if fitB m = true then (if 64 < Ls.length then 5 else if Ls.length = 0 then 6 else if Ls.all (fun L=>listOK m.r (-1) L) = true then 0 else 291) else 290
def bestR (m : Mv) (Ls : List (List Int)) : Int × Int:=
  if bestE m Ls = 0 then ((bestGo (fun L=>unbV (exch m L)) Ls Ls.length).1,0) else (0,bestE m Ls)
theorem exch_pairs {m : Mv} {L : List Int} (h : inPairs m.rows = true) : inPairs (exch m L).rows = true:=by
  unfold inPairs
  rw [List.all_eq_true]
  intro x hx
  simp only [exch,List.mem_map] at hx
  obtain ⟨y,hy,rfl⟩:=hx
  have:=inPairs_mem h y hy
  unfold turnRow
  split <;> simp [this]
theorem exch_len (m : Mv) (L : List Int) : (exch m L).rows.length = m.rows.length:=by simp [exch]
@[simp] theorem exch_take (m : Mv) (L : List Int) : (rowsL (exch m L).rows).take m.rows.length = rowsL (exch m L).rows:=List.take_of_length_le (by simp [exch_len])
def env15 : Env:=mkEnv [(27,S27),(39,S39),(40,S40)] [(41,S41)] []
@[simp] theorem env15_p (f : Nat) (ds : List D) : env15.p f ds = (look [(27,S27),(39,S39),(40,S40)] f).bind fun s=>s ds:=rfl
@[simp] theorem env15_q (f : Nat) (ds : List D) : env15.q f ds = (look [(41,S41)] f).bind fun s=>s ds:=rfl
theorem sound15 : Sound Try.prog env15:=sound_mk (by simp [s27,s39,s40]) (by simp [s41]) (by simp)
theorem c15 (m : Mv) (Ls : List (List Int)) (hl : Ls.length≤1000000) (hL : ∀ L ∈ Ls,L.length≤1000000) : VCp Try.prog 15 [.agg m.cells,.list (lists Ls)] (.tup [iv (bestR m Ls).1,iv (bestR m Ls).2]):=by
  refine wcontract_p sound15 mixed is15 (by rw [nt15]; simp) ?_ rfl
  simp [W15,Mv.cells,Mv.cellsW,S27]
  refine condK_b (fun hf=>?_) (fun hf=>?_)
  · have hf' : fitB m = false:=by simpa using hf
    simp [bestR,bestE,hf']
  · have hf' : fitB m = true:=by simpa using hf
    have hfl:=fit_len hf'
    have hfp:=fit_pairs hf'
    simp
    refine condK_dec (fun h64=>?_) (fun h64=>?_)
    · have h64' : 64 < Ls.length:=by omega
      simp [bestR,bestE,hf',h64']
    · have h64' : ¬ 64 < Ls.length:=by omega
      simp
      refine condK_b (fun h0=>?_) (fun h0=>?_)
      · have h0' : Ls = []:=by simpa using h0
        simp [bestR,bestE,hf',h0']
      · have h0' : Ls ≠ []:=by simpa using h0
        have h0'' : Ls.length ≠ 0:=by simpa using h0'
        simp
        refine wwp_loop (fun σ=>∃ k : Nat,k≤Ls.length∧σ.s 24 = iv k∧σ.s 23 = iv Ls.length∧σ.s 22 = .list (lists Ls)∧σ.s 1 = .list (lists Ls)∧σ.s 2 = .ptr [3,0] 0∧σ.m [3,0] = some (.box [iv m.t,iv m.r,iv m.s,iv m.c,iv m.w,.list (rowsL m.rows)])∧
          ∀ i (h : i < Ls.length),i < k→listOK m.r (-1) Ls[i] = true) (fun σ=>cnt Ls.length (σ.s 24)) ?_ ?_
        · exact ⟨0,by omega,by simp,by simp,by simp,by simp,by simp,by simp,by omega⟩
        · rintro σ hw ⟨k,hk,h24,h23,h22,h1,h2,m3,hok⟩
          simp [h24,h23]
          refine condK_dec (fun hlt=>?_) (fun hge=>?_)
          · have hLk:=hL Ls[k] (List.getElem_mem hlt)
            simp [h22,h24,h2,m3,hlt,S39,hLk]
            refine condK_b (fun hx=>?_) (fun hx=>?_)
            · have hx' : listOK m.r (-1) Ls[k] = false:=by simpa using hx
              have hall : ¬ Ls.all (fun L=>listOK m.r (-1) L) = true:=fun h=>by
                have:=List.all_eq_true.1 h Ls[k] (List.getElem_mem hlt)
                rw [hx'] at this; cases this
              simp only [Bool.not_eq_true] at hall
              simp [bestR,bestE,hf',h64',h0',hall]
            · have hx' : listOK m.r (-1) Ls[k] = true:=by simpa using hx
              simp [h24,h23,h22,h1,h2,m3,wrap_succ (show k≤1000000000 by omega)]
              refine ⟨⟨k + 1,by omega,by omega,fun i hi hik=>?_⟩,by omega⟩
              by_cases h : i < k
              · exact hok i hi h
              · obtain rfl : i = k:=by omega
                exact hx'
          · have hall : Ls.all (fun L=>listOK m.r (-1) L) = true:=List.all_eq_true.2 fun L hL=>by
              obtain ⟨i,hi,rfl⟩:=List.getElem_of_mem hL
              exact hok i hi (by omega)
            clear h24 h23 h22 hok
            simp [h1]
            refine wwp_loop (fun σ=>∃ k : Nat,k≤Ls.length∧σ.s 35 = iv k∧σ.s 34 = iv Ls.length∧σ.s 33 = .list (lists Ls)∧σ.s 2 = .ptr [3,0] 0∧σ.m [3,0] = some (.box [iv m.t,iv m.r,iv m.s,iv m.c,iv m.w,.list (rowsL m.rows)])∧
              σ.s 8 = iv (bestGo (fun L=>unbV (exch m L)) Ls k).1∧σ.s 9 = iv (bestGo (fun L=>unbV (exch m L)) Ls k).2) (fun σ=>cnt Ls.length (σ.s 35)) ?_ ?_
            · exact ⟨0,by omega,by simp,by simp,by simp,by simp [h2],by simp [m3],by simp [bestGo],by simp [bestGo]⟩
            · rintro σ hw ⟨k,hk,h35,h34,h33,h2,m3,h8,h9⟩
              simp [h35,h34]
              refine condK_dec (fun hlt=>?_) (fun hge=>?_)
              · have hLk:=hL Ls[k] (List.getElem_mem hlt)
                have hrk:=listOK_rises' (List.all_eq_true.1 hall Ls[k] (List.getElem_mem hlt))
                have hp':=exch_pairs (L:=Ls[k]) hfp
                have hlen':=exch_len m Ls[k]
                have hgo : bestGo (fun L=>unbV (exch m L)) Ls (k + 1) = if k = 0 ∨ unbV (exch m Ls[k]) < (bestGo (fun L=>unbV (exch m L)) Ls k).2 then ((k : Int),unbV (exch m Ls[k])) else bestGo (fun L=>unbV (exch m L)) Ls k:=by
                  simp only [bestGo,List.getD,List.getElem?_eq_getElem hlt,Option.getD_some]
                by_cases hr0 : m.rows = []
                · obtain ⟨mt,mr,ms,mc,mw,rows⟩:=m
                  simp only at hr0
                  subst hr0
                  have hp2 : inPairs ([] : List Row) = true:=rfl
                  have he : (⟨mt,mr,ms,mc,(exch ⟨mt,mr,ms,mc,mw,[]⟩ Ls[k]).w,[]⟩ : Mv) = exch ⟨mt,mr,ms,mc,mw,[]⟩ Ls[k]:=rfl
                  have he2 : (⟨(exch ⟨mt,mr,ms,mc,mw,[]⟩ Ls[k]).t,(exch ⟨mt,mr,ms,mc,mw,[]⟩ Ls[k]).r,(exch ⟨mt,mr,ms,mc,mw,[]⟩ Ls[k]).s,(exch ⟨mt,mr,ms,mc,mw,[]⟩ Ls[k]).c,(exch ⟨mt,mr,ms,mc,mw,[]⟩ Ls[k]).w,[]⟩ : Mv) = exch ⟨mt,mr,ms,mc,mw,[]⟩ Ls[k]:=rfl
                  have hl2 : (exch ⟨mt,mr,ms,mc,mw,[]⟩ Ls[k]).rows.length≤1000000:=by simp [exch_len]
                  simp [h33,h35,h2,m3,hlt,S41,S40,hLk,hrk,Mv.cellsW,hp2,he2,h8,h9,hp',hl2]
                  refine condK_b (fun hx=>?_) (fun hx=>?_)
                  · have hx':=by simpa using hx
                    simp [h35,h34,h33,h2,m3,wrap_succ (show k≤1000000000 by omega)]
                    exact ⟨⟨k + 1,by omega,by omega,by rw [hgo,if_pos hx'],by rw [hgo,if_pos hx']⟩,by omega⟩
                  · have hx' : ¬ (k = 0 ∨ unbV (exch ⟨mt,mr,ms,mc,mw,[]⟩ Ls[k]) < (bestGo (fun L=>unbV (exch ⟨mt,mr,ms,mc,mw,[]⟩ L)) Ls k).2):=by
                      intro h; simp only [Bool.or_eq_false_iff,beq_eq_false_iff_ne,decide_eq_false_iff_not] at hx; omega
                    simp [h35,h34,h33,h2,m3,h8,h9,wrap_succ (show k≤1000000000 by omega)]
                    exact ⟨⟨k + 1,by omega,by omega,by rw [hgo,if_neg hx'],by rw [hgo,if_neg hx']⟩,by omega⟩
                · simp [h33,h35,h2,m3,hlt,S41,S40,hLk,hrk,hr0,hp',hlen',show m.rows.length≤1000000 by omega,Mv.cellsW,h8,h9]
                  refine condK_b (fun hx=>?_) (fun hx=>?_)
                  · have hx':=by simpa using hx
                    simp [h35,h34,h33,h2,m3,wrap_succ (show k≤1000000000 by omega)]
                    exact ⟨⟨k + 1,by omega,by omega,by rw [hgo,if_pos hx'],by rw [hgo,if_pos hx']⟩,by omega⟩
                  · have hx' : ¬ (k = 0 ∨ unbV (exch m Ls[k]) < (bestGo (fun L=>unbV (exch m L)) Ls k).2):=by
                      intro h; simp only [Bool.or_eq_false_iff,beq_eq_false_iff_ne,decide_eq_false_iff_not] at hx; omega
                    simp [h35,h34,h33,h2,m3,h8,h9,wrap_succ (show k≤1000000000 by omega)]
                    exact ⟨⟨k + 1,by omega,by omega,by rw [hgo,if_neg hx'],by rw [hgo,if_neg hx']⟩,by omega⟩
              · have hk : k = Ls.length:=by omega
                subst hk
                simp [h8,bestR,bestE,hf',h64',h0',hall]
                trace_state
end Go.Proofs.Ytpmgaaalfdjikaa
namespace Go.Proofs.Ytpmgaaalfdjikaa
open Go.RowKit
set_option linter.unusedSimpArgs false
set_option linter.unusedVariables false
def W23 : WC × List VRes:=(.seq (.reg [.stm (.eff (.box 0 (.c (.agg [.v (.int .i64 0),.v (.int .i64 0),.v (.int .i64 0),.v (.int .i64 0),.v (.int .i64 0),.nil]))) none)]) (.seq (.reg [.set [(4,.ap (.build [.v (.int .i64 0),.v (.int .i64 0),.v (.int .i64 0),.v (.int .i64 0),.v (.int .i64 0),.nil] [(0,1),(1,1),(2,1),(3,1),(4,1)]) [.c (.v (.int .i64 3)),.c (.v (.int .i64 3)),.c (.v (.int .i64 3)),.c (.v (.int .i64 1)),.c (.v (.int .i64 2))])] [4],.stm (.eff (.box 1 (.c (.agg [.v (.int .i64 0),.v (.int .i64 0),.v (.int .i64 0),.v (.int .i64 0),.v (.int .i64 0),.nil]))) none),.stm (.eff (.store 6 (.t 1) (.t 4)) none)]) (.seq (.seq (.reg [.set [(5,.c (.v (.int .i64 0)))] [5]]) (.block 0 (.loop (.seq (.reg [.set [(6,.ap (.ibin .lss) [.t 5,.c (.v (.int .i64 3))])] [6]]) (.seq (.cond (.t 6) .skip (.exit 0)) (.seq (.block 1 (.seq (.reg [.set [(2,.t 5)] [7,2]]) (.seq (.reg [.set [(8,.c (.v (.int .i64 0)))] [8]]) (.block 2 (.loop (.seq (.reg [.set [(9,.ap (.ibin .lss) [.t 8,.c (.v (.int .i64 3))])] [9]]) (.seq (.cond (.t 9) .skip (.exit 2)) (.seq (.block 3 (.seq (.reg [.set [(3,.t 8)] [10,3]]) (.reg [.set [(12,.ap (.load 1 false) [.ap (.fld 5) [.t 1]]),(27,.ap (.build [.v (.int .i64 0),.v (.int .i64 0),.v (.int .i64 0),.v (.int .i64 0),.v (.int .i64 0)] [(0,1),(1,1),(2,1),(3,1),(4,1)]) [.t 2,.t 3,.ap (.ibin .add) [.t 3,.c (.v (.int .i64 1))],.ap (.ibin .add) [.c (.v (.int .i64 4)),.ap (.ibin .rem) [.ap (.ibin .add) [.t 3,.t 2],.c (.v (.int .i64 3))]],.ap (.ibin .rem) [.ap (.ibin .add) [.t 3,.ap (.ibin .mul) [.c (.v (.int .i64 2)),.t 2]],.c (.v (.int .i64 3))]])] [11,12,13,14,15,16,17,18,19,20,21,22,23,24,25,26,27],.stm (.eff (.lit 28 53 5 1 [.v (.int .i64 0),.v (.int .i64 0),.v (.int .i64 0),.v (.int .i64 0),.v (.int .i64 0)] [(0,5)] [.t 27]) none),.stm (.eff (.app 29 53 5 (.t 12) (.t 28)) none),.set [(30,.ap (.fld 5) [.t 1])] [30],.stm (.eff (.store 1 (.t 30) (.t 29)) none)]))) (.reg [.set [(8,.ap (.ibin .add) [.t 8,.c (.v (.int .i64 1))])] [31,8]]))))))))) (.reg [.set [(5,.ap (.ibin .add) [.t 5,.c (.v (.int .i64 1))])] [32,5]]))))))) (.seq (.reg [.set [(33,.ap (.load 6 true) [.t 1])] [33],.stm (.eff (.store 6 (.t 0) (.t 33)) none)]) .ret))),[.cell 0 6 true])
theorem is23 : IsFn Try.prog frOf 23 Try.f23 W23:=⟨by kernel_rfl,by kernel_rfl,by kernel_rfl⟩
theorem nt23 : Try.f23.ntmps = 34:=by kernel_rfl
def W22 : WC × List VRes:=(.seq (.reg [.stm (.eff (.box 4 (.c (.agg [.v (.int .i64 0),.v (.int .i64 0),.v (.int .i64 0),.v (.int .i64 0),.v (.int .i64 0),.nil]))) none)]) (.seq (.reg [.set [(11,.ap (.build [.v (.int .i64 0),.v (.int .i64 0),.v (.int .i64 0),.v (.int .i64 0),.v (.int .i64 0),.nil] [(0,1),(1,1),(2,1),(3,1),(4,1)]) [.t 0,.t 1,.t 0,.c (.v (.int .i64 1)),.c (.v (.int .i64 2))])] [8,9,10,11],.stm (.eff (.box 5 (.c (.agg [.v (.int .i64 0),.v (.int .i64 0),.v (.int .i64 0),.v (.int .i64 0),.v (.int .i64 0),.nil]))) none),.stm (.eff (.store 6 (.t 5) (.t 11)) none)]) (.seq (.seq (.reg [.set [(12,.t 1),(13,.c (.v (.int .i64 0)))] [12,13]]) (.block 0 (.loop (.seq (.reg [.set [(14,.ap (.ibin .lss) [.t 13,.t 12])] [14]]) (.seq (.cond (.t 14) .skip (.exit 0)) (.seq (.block 1 (.seq (.reg [.set [(6,.t 13)] [15,6]]) (.seq (.reg [.set [(16,.t 0),(17,.c (.v (.int .i64 0)))] [16,17]]) (.block 2 (.loop (.seq (.reg [.set [(18,.ap (.ibin .lss) [.t 17,.t 16])] [18]]) (.seq (.cond (.t 18) .skip (.exit 2)) (.seq (.block 3 (.seq (.reg [.set [(7,.t 17)] [19,7]]) (.reg [.set [(21,.ap (.load 1 false) [.ap (.fld 5) [.t 5]]),(42,.ap (.build [.v (.int .i64 0),.v (.int .i64 0),.v (.int .i64 0),.v (.int .i64 0),.v (.int .i64 0)] [(0,1),(1,1),(2,1),(3,1),(4,1)]) [.t 6,.t 7,.ap (.ibin .add) [.t 7,.c (.v (.int .i64 1))],.ap (.ibin .add) [.ap (.ibin .add) [.t 0,.c (.v (.int .i64 1))],.ap (.ibin .rem) [.ap (.ibin .add) [.t 7,.ap (.ibin .mul) [.t 6,.ap (.ibin .sub) [.t 0,.c (.v (.int .i64 1))]]],.t 0]],.ap (.ibin .rem) [.ap (.ibin .add) [.t 7,.t 6],.t 0]])] [20,21,22,23,24,25,26,27,28,29,30,31,32,33,34,35,36,37,38,39,40,41,42],.stm (.eff (.lit 43 53 5 1 [.v (.int .i64 0),.v (.int .i64 0),.v (.int .i64 0),.v (.int .i64 0),.v (.int .i64 0)] [(0,5)] [.t 42]) none),.stm (.eff (.app 44 53 5 (.t 21) (.t 43)) none),.set [(45,.ap (.fld 5) [.t 5])] [45],.stm (.eff (.store 1 (.t 45) (.t 44)) none)]))) (.reg [.set [(17,.ap (.ibin .add) [.t 17,.c (.v (.int .i64 1))])] [46,17]]))))))))) (.reg [.set [(13,.ap (.ibin .add) [.t 13,.c (.v (.int .i64 1))])] [47,13]]))))))) (.seq (.reg [.set [(48,.ap (.load 6 true) [.t 5])] [48],.stm (.eff (.store 6 (.t 4) (.t 48)) none)]) .ret))),[.cell 4 6 true])
theorem is22 : IsFn Try.prog frOf 22 Try.f22 W22:=⟨by kernel_rfl,by kernel_rfl,by kernel_rfl⟩
theorem nt22 : Try.f22.ntmps = 49:=by kernel_rfl
def S15 : List D→Option D
  | [.agg xs,.list es]=>(asMv xs).bind fun m=>(asLists es).bind fun Ls=>if Ls.length≤1000000∧Ls.all (fun L=>decide (L.length≤1000000)) = true then some (.tup [iv (bestR m Ls).1,iv (bestR m Ls).2]) else none
  | _=>none
theorem s15 : OkP 15 S15:=fun ds d h=>by
  unfold S15 at h
  split at h
  · rw [Option.bind_eq_some_iff] at h
    obtain ⟨m,hm,h⟩:=h
    rw [Option.bind_eq_some_iff] at h
    obtain ⟨Ls,hL,h⟩:=h
    split at h <;> cases h
    rename_i hc
    rw [asMv_eq hm,asLists_eq hL]
    exact c15 m Ls hc.1 fun L hL=>by simpa using List.all_eq_true.1 hc.2 L hL
  · cases h
def part (F : Nat→Nat→Row) (T r t : Nat) : List Row:=((List.range r).flatMap fun a=>(List.range T).map (F a)) ++ (List.range t).map (F r)
theorem part_succ (F : Nat→Nat→Row) (T r t : Nat) : part F T r (t + 1) = part F T r t ++ [F r t]:=by simp [part,List.range_succ]
theorem part_next (F : Nat→Nat→Row) (T r : Nat) : part F T (r + 1) 0 = part F T r T:=by simp [part,List.range_succ]
theorem part_len (F : Nat→Nat→Row) (T r t : Nat) : (part F T r t).length = r * T + t:=by
  have : ∀ r,((List.range r).flatMap fun a=>(List.range T).map (F a)).length = r * T:=by
    intro r
    induction r with
    | zero=>simp
    | succ r ih=>rw [List.range_succ,List.flatMap_append,List.length_append,ih]; simp [Nat.succ_mul]
  simp [part,this]
def RowsAt (m : Mem) (d : D) (l : List Row) : Prop:=(l = []∧d = .nil) ∨ (l ≠ []∧∃ t g,d = .sl t 5 0 l.length none∧m t = some (.row g 53 (rowsL l)))
def exRow (r t : Nat) : Row:=⟨r,t,(t : Int) + 1,4 + ((t : Int) + r) % 3,((t : Int) + 2 * r) % 3⟩
def exM : Mv:=⟨3,3,3,1,2,part exRow 3 3 0⟩
theorem c23 : VCq Try.prog 23 [] (.agg (exM.cellsW (.sl [] 5 0 9 none))) (rowMem 53 (rowsL exM.rows)):=by
  refine wcontract_q sound0 mixed is23 (by rw [nt23]; simp) ?_
  simp [W23]
  refine wwp_loop (fun σ=>∃ (r : Nat) (d : D),r≤3∧σ.s 5 = iv r∧σ.s 0 = .ptr [1,0] 0∧σ.s 1 = .ptr [2,0] 0∧σ.m [1,0] = some (.box [iv 0,iv 0,iv 0,iv 0,iv 0,.nil])∧σ.m [2,0] = some (.box [iv 3,iv 3,iv 3,iv 1,iv 2,d])∧RowsAt σ.m d (part exRow 3 r 0)) (fun σ=>cnt 3 (σ.s 5)) ?_ ?_
  · exact ⟨0,.nil,by omega,by simp,by simp,by simp,by simp,by simp,.inl ⟨rfl,rfl⟩⟩
  · rintro σ hw ⟨r,d,hr,h5,h0,h1,m1,m2,hd⟩
    simp [h5]
    refine condK_dec (fun hlt=>?_) (fun hge=>?_)
    · simp [h5]
      refine wwp_loop (fun σ'=>∃ (t : Nat) (d : D),t≤3∧σ'.s 8 = iv t∧σ'.s 2 = iv r∧σ'.s 5 = iv r∧σ'.s 0 = .ptr [1,0] 0∧σ'.s 1 = .ptr [2,0] 0∧σ'.m [1,0] = some (.box [iv 0,iv 0,iv 0,iv 0,iv 0,.nil])∧σ'.m [2,0] = some (.box [iv 3,iv 3,iv 3,iv 1,iv 2,d])∧
        RowsAt σ'.m d (part exRow 3 r t)) (fun σ'=>cnt 3 (σ'.s 8)) ?_ ?_
      · refine ⟨0,d,by omega,by simp,by simp,by simp [h5],by simp [h0],by simp [h1],by simp [m1],by simp [m2],?_⟩
        simpa [RowsAt] using hd
      · rintro σ' hw' ⟨t,d,ht,e8,e2,e5,e0,e1,n1,n2,hd⟩
        simp [e8]
        refine condK_dec (fun hlt'=>?_) (fun hge'=>?_)
        · have w1 : IntKind.i64.wrap ((t : Int) + 1) = (t : Int) + 1:=wrap_in (by omega) (by omega)
          have w2 : IntKind.i64.wrap (4 + (IntKind.i64.wrap ((t : Int) + r)).tmod 3) = 4 + ((t : Int) + r) % 3:=by
            rw [wrap_in (x:=(t : Int) + r) (by omega) (by omega),Int.tmod_eq_emod_of_nonneg (by omega)]
            rw [wrap_in (by omega) (by omega)]
          have w3 : (IntKind.i64.wrap ((t : Int) + IntKind.i64.wrap (2 * r))).tmod 3 = ((t : Int) + 2 * r) % 3:=by
            rw [wrap_in (x:=2 * (r : Int)) (by omega) (by omega),wrap_in (by omega) (by omega),Int.tmod_eq_emod_of_nonneg (by omega)]
          have hpl:=part_len exRow 3 r t
          rcases hd with ⟨hd0,rfl⟩ | ⟨hd0,tk,g,rfl,htk⟩
          · simp [e8,e2,e5,e0,e1,n1,n2,w1,w2,w3,one_made]
            refine ⟨⟨t + 1,by omega,by omega,.inr ⟨by simp [part_succ],[30,σ'.c 29],[30,σ'.c 29],?_,?_⟩⟩,by omega⟩
            · simp [part_succ,hd0]
            · simp [part_succ,hd0,rowsL,Row.cells,exRow]
          · have p1:=hw'.ne htk 28 (σ'.c 28) []
            have p2:=hw'.ne htk 29 (σ'.c 29) []
            have hmm : (part exRow 3 r t).length + 1≤maxMade:=by unfold maxMade; omega
            simp [e8,e2,e5,e0,e1,n1,n2,w1,w2,w3,htk,p1,hmm]
            refine ⟨⟨t + 1,by omega,by omega,.inr ⟨by simp [part_succ],[30,σ'.c 29],g,?_,?_⟩⟩,by omega⟩
            · simp [part_succ]
            · simp [part_succ,rowsL_append]
              simp [rowsL,Row.cells,exRow]
        · have ht3 : t = 3:=by omega
          subst ht3
          simp [e5,e0,e1,n1,n2,wrap_succ (show r≤1000000000 by omega)]
          refine ⟨⟨r + 1,by omega,by omega,?_⟩,by omega⟩
          rw [part_next]
          simpa [RowsAt] using hd
    · have hr3 : r = 3:=by omega
      subst hr3
      rcases hd with ⟨hd0,rfl⟩ | ⟨hd0,tk,g,rfl,htk⟩
      · have:=part_len exRow 3 3 0
        rw [hd0] at this
        simp at this
      · have htn : tk ≠ [1,0]:=fun e=>by rw [e,m1] at htk; cases htk
        simp [h0,h1,m1,m2]
        exact Out.aggRow (t:=tk) (g:=g) (es:=rowsL (part exRow 3 3 0)) (pre:=[iv 3,iv 3,iv 3,iv 1,iv 2]) rfl (by simp [htn,htk]) (rowsL_flat _)
def mitRow (T r t : Nat) : Row:=⟨r,t,(t : Int) + 1,(T : Int) + 1 + ((t : Int) + r * ((T : Int) - 1)) % T,((t : Int) + r) % T⟩
def mitM (T R : Nat) : Mv:=⟨T,R,T,1,2,part (mitRow T) T R 0⟩
theorem c22 (T R : Nat) (hT : 1≤T) (hT' : T≤100) (hR : 1≤R) (hR' : R≤100) : VCq Try.prog 22 [iv T,iv R] (.agg ((mitM T R).cellsW (.sl [] 5 0 (R * T) none))) (rowMem 53 (rowsL (mitM T R).rows)):=by
  refine wcontract_q sound0 mixed is22 (by rw [nt22]; simp) ?_
  simp [W22]
  refine wwp_loop (fun σ=>∃ (r : Nat) (d : D),r≤R∧σ.s 13 = iv r∧σ.s 12 = iv R∧σ.s 0 = iv T∧σ.s 4 = .ptr [5,0] 0∧σ.s 5 = .ptr [6,0] 0∧σ.m [5,0] = some (.box [iv 0,iv 0,iv 0,iv 0,iv 0,.nil])∧σ.m [6,0] = some (.box [iv T,iv R,iv T,iv 1,iv 2,d])∧RowsAt σ.m d (part (mitRow T) T r 0)) (fun σ=>cnt R (σ.s 13)) ?_ ?_
  · exact ⟨0,.nil,by omega,by simp,by simp,by simp,by simp,by simp,by simp,by simp,.inl ⟨rfl,rfl⟩⟩
  · rintro σ hw ⟨r,d,hr,h13,h12,h0,h4,h5,m5,m6,hd⟩
    simp [h13,h12]
    refine condK_dec (fun hlt=>?_) (fun hge=>?_)
    · simp [h13,h0]
      refine wwp_loop (fun σ'=>∃ (t : Nat) (d : D),t≤T∧σ'.s 17 = iv t∧σ'.s 16 = iv T∧σ'.s 6 = iv r∧σ'.s 13 = iv r∧σ'.s 12 = iv R∧σ'.s 0 = iv T∧σ'.s 4 = .ptr [5,0] 0∧σ'.s 5 = .ptr [6,0] 0∧σ'.m [5,0] = some (.box [iv 0,iv 0,iv 0,iv 0,iv 0,.nil])∧σ'.m [6,0] = some (.box [iv T,iv R,iv T,iv 1,iv 2,d])∧
        RowsAt σ'.m d (part (mitRow T) T r t)) (fun σ'=>cnt T (σ'.s 17)) ?_ ?_
      · refine ⟨0,d,by omega,by simp,by simp,by simp,by simp [h13],by simp [h12],by simp [h0],by simp [h4],by simp [h5],by simp [m5],by simp [m6],?_⟩
        simpa [RowsAt] using hd
      · rintro σ' hw' ⟨t,d,ht,e17,e16,e6,e13,e12,e0,e4,e5,n5,n6,hd⟩
        simp [e17,e16]
        refine condK_dec (fun hlt'=>?_) (fun hge'=>?_)
        · have hTz : ¬ (T : Int) = 0:=by omega
          have hTz' : ¬ T = 0:=by omega
          have hb : 0≤(r : Int) * ((T : Int) - 1)∧(r : Int) * ((T : Int) - 1)≤100 * 100:=⟨Int.mul_nonneg (by omega) (by omega),Int.mul_le_mul (by omega) (by omega) (by omega) (by omega)⟩
          have hm1:=Int.emod_lt_of_pos ((t : Int) + r * ((T : Int) - 1)) (show (0 : Int) < T by omega)
          have hm2:=Int.emod_nonneg ((t : Int) + r * ((T : Int) - 1)) hTz
          have w0 : IntKind.i64.wrap ((t : Int) + 1) = (t : Int) + 1:=wrap_in (by omega) (by omega)
          have w1 : IntKind.i64.wrap ((T : Int) + 1) = (T : Int) + 1:=wrap_in (by omega) (by omega)
          have w2 : IntKind.i64.wrap ((T : Int) - 1) = (T : Int) - 1:=wrap_in (by omega) (by omega)
          have w3 : IntKind.i64.wrap ((r : Int) * ((T : Int) - 1)) = (r : Int) * ((T : Int) - 1):=wrap_in (by omega) (by omega)
          have w4 : (IntKind.i64.wrap ((t : Int) + (r : Int) * ((T : Int) - 1))).tmod T = ((t : Int) + r * ((T : Int) - 1)) % T:=by
            rw [wrap_in (by omega) (by omega),Int.tmod_eq_emod_of_nonneg (by omega)]
          have w5 : IntKind.i64.wrap ((T : Int) + 1 + ((t : Int) + r * ((T : Int) - 1)) % T) = (T : Int) + 1 + ((t : Int) + r * ((T : Int) - 1)) % T:=wrap_in (by omega) (by omega)
          have w6 : (IntKind.i64.wrap ((t : Int) + r)).tmod T = ((t : Int) + r) % T:=by
            rw [wrap_in (by omega) (by omega),Int.tmod_eq_emod_of_nonneg (by omega)]
          have hpl:=part_len (mitRow T) T r t
          have hrT : r * T≤100 * 100:=Nat.mul_le_mul (by omega) (by omega)
          rcases hd with ⟨hd0,rfl⟩ | ⟨hd0,tk,g,rfl,htk⟩
          · simp [e17,e16,e6,e13,e12,e0,e4,e5,n5,n6,w0,w1,w2,w3,w4,w5,w6,hTz,hTz',one_made]
            refine ⟨⟨t + 1,by omega,by omega,.inr ⟨by simp [part_succ],[45,σ'.c 44],[45,σ'.c 44],?_,?_⟩⟩,by omega⟩
            · simp [part_succ,hd0]
            · simp [part_succ,hd0,rowsL,Row.cells,mitRow]
          · have p1:=hw'.ne htk 43 (σ'.c 43) []
            have p2:=hw'.ne htk 44 (σ'.c 44) []
            have hmm : (part (mitRow T) T r t).length + 1≤maxMade:=by unfold maxMade; omega
            simp [e17,e16,e6,e13,e12,e0,e4,e5,n5,n6,w0,w1,w2,w3,w4,w5,w6,hTz,hTz',htk,p1,hmm]
            refine ⟨⟨t + 1,by omega,by omega,.inr ⟨by simp [part_succ],[45,σ'.c 44],g,?_,?_⟩⟩,by omega⟩
            · simp [part_succ]
            · simp [part_succ,rowsL_append]
              simp [rowsL,Row.cells,mitRow]
        · have ht3 : t = T:=by omega
          subst ht3
          simp [e13,e12,e0,e4,e5,n5,n6,wrap_succ (show r≤1000000000 by omega)]
          refine ⟨⟨r + 1,by omega,by omega,?_⟩,by omega⟩
          rw [part_next]
          simpa [RowsAt] using hd
    · have hr3 : r = R:=by omega
      subst hr3
      have hpl:=part_len (mitRow T) T r 0
      have hpos : 0 < r * T:=Nat.mul_pos (by omega) (by omega)
      rcases hd with ⟨hd0,rfl⟩ | ⟨hd0,tk,g,rfl,htk⟩
      · rw [hd0] at hpl
        simp at hpl
        omega
      · have htn : tk ≠ [5,0]:=fun e=>by rw [e,m5] at htk; cases htk
        simp [h4,h5,m5,m6]
        have hl : (part (mitRow T) T r 0).length = r * T:=by omega
        rw [hl]
        exact Out.aggRow (t:=tk) (g:=g) (size:=5) (len:=r * T) (es:=rowsL (part (mitRow T) T r 0)) (pre:=[iv T,iv r,iv T,iv 1,iv 2]) rfl (by simp [htn,htk]) (rowsL_flat _)
end Go.Proofs.Ytpmgaaalfdjikaa
namespace Go.Proofs.Ytpmgaaalfdjikaa
open Go.RowKit
set_option linter.unusedSimpArgs false
set_option linter.unusedVariables false
theorem viewRows_mapM {f : D→Option D} (hf : ∀ x,f (.v x) = some (.v x)) (l : List (List D)) : viewRows f l = l.mapM (viewRow f):=by
  unfold viewRows
  split
  · rename_i h
    symm
    induction l with
    | nil=>rfl
    | cons c l ih=>
      simp only [List.all_cons,Bool.and_eq_true] at h
      rw [List.mapM_cons,viewRow_flat h.1,ih h.2]; rfl
  · rfl
theorem viewRows_cons (f : D→Option D) (c : List D) (l : List (List D)) (hf : ∀ x,f (.v x) = some (.v x)) : viewRows f (c :: l) = (viewRow f c).bind fun c'=>(viewRows f l).map fun l'=>c' :: l':=by
  rw [viewRows_mapM hf,viewRows_mapM hf,List.mapM_cons]
  simp only [Option.bind_eq_bind,Option.pure_def]
  cases viewRow f c with
  | none=>rfl
  | some c'=>simp only [Option.bind_some]; cases l.mapM (viewRow f) <;> rfl
@[simp] theorem viewRows_nil (f : D→Option D) : viewRows f [] = some []:=rfl
@[simp] theorem viewRows5 (m : Mem) (c : List D) (l : List (List D)) : viewRows (viewC m 5) (c :: l) = (viewRow (viewC m 5) c).bind fun c'=>(viewRows (viewC m 5) l).map fun l'=>c' :: l':=viewRows_cons _ _ _ fun _=>rfl
@[simp] theorem viewRows4 (m : Mem) (c : List D) (l : List (List D)) : viewRows (viewC m 4) (c :: l) = (viewRow (viewC m 4) c).bind fun c'=>(viewRows (viewC m 4) l).map fun l'=>c' :: l':=viewRows_cons _ _ _ fun _=>rfl
theorem ints1 (a : Int) : [[D.v (.int .i64 a)]] = ints [a]:=rfl
theorem ints2 (a b : Int) : [[D.v (.int .i64 a)],[D.v (.int .i64 b)]] = ints [a,b]:=rfl
theorem lists2 (a b : List Int) : [[D.list (ints a)],[D.list (ints b)]] = lists [a,b]:=rfl
def exRows : List Row:=part exRow 3 3 0
def exM' : Mv:=⟨3,3,3,1,2,exRows⟩
def exT : List Row:=(exch exM' [2]).rows
theorem exRows_len : exRows.length = 9:=by decide +kernel
theorem exT_len : exT.length = 9:=by decide +kernel
theorem exT_6 : exT[6]? = some ⟨2,0,6,1,1⟩:=by decide +kernel
def S23 : List D→Option (D × Mem)
  | []=>some (.agg [iv 3,iv 3,iv 3,iv 1,iv 2,.sl [] 5 0 9 none],rowMem 53 (rowsL exRows))
  | _=>none
theorem s23 : OkQ 23 S23:=fun ds d mm h=>by
  unfold S23 at h
  split at h
  · cases h
    exact c23
  · cases h
theorem ex_1 : contestR ⟨3,3,3,1,2,exRows⟩ 1 2 = (3,0):=by decide +kernel
theorem ex_2 : contestR ⟨3,3,3,1,2,exRows⟩ 1 4 = (0,0):=by decide +kernel
theorem ex_3 : unbR ⟨3,3,3,1,2,exRows⟩ = (54,0):=by decide +kernel
theorem ex_4 : lastR ⟨3,3,3,1,2,exRows⟩ 2 = (.tup [.sl [] 1 0 2 none,iv 0],rowMem 3 (ints [1,2])):=by
  have h1 : lastE ⟨3,3,3,1,2,exRows⟩ 2 = 0:=by decide +kernel
  simp [lastR,h1]
  rfl
theorem ex_5 : turnR ⟨3,3,3,1,2,exRows⟩ [2] = (.tup [.agg [iv 3,iv 3,iv 3,iv 1,iv 1,.sl [] 5 0 9 none],iv 0],rowMem 53 (rowsL exT)):=by
  have h1 : turnE ⟨3,3,3,1,2,exRows⟩ [2] = 0:=by decide +kernel
  have h2 : exRows.isEmpty = false:=by decide +kernel
  simp [turnR,h1,h2,exRows_len]
  exact ⟨rfl,rfl⟩
theorem ex_take : (rowsL exRows).take 9 = rowsL exRows:=List.take_of_length_le (by simp [exRows_len])
theorem exT_take : (rowsL exT).take 9 = rowsL exT:=List.take_of_length_le (by simp [exT_len])
theorem ex_6 : contestR ⟨3,3,3,1,1,exT⟩ 1 2 = (-1,0):=by decide +kernel
theorem ex_7 : bestR ⟨3,3,3,1,2,exRows⟩ [[],[2]] = (0,0):=by decide +kernel
theorem wwp_cut {Γ : Env} {cs : List CStm} {b : WC} {Q : VE→St→Prop} {s : St} (I : St→Prop) (h1 : runK (cruns Γ cs s) I) (h2 : ∀ s',I s'→wwp Γ b Q s') : wwp Γ (.seq (.reg cs) b) Q s:=by
  obtain ⟨s',e,hi⟩:=h1
  exact ⟨s',e,h2 s' hi⟩
end Go.Proofs.Ytpmgaaalfdjikaa
namespace Go.Proofs.Ytpmgaaalfdjikaa
open Go.RowKit
set_option linter.unusedSimpArgs false
set_option linter.unusedVariables false
def W12 : WC × List VRes:=(.seq (.reg [.set [(0,.c (.v (.bool false)))] [0]]) (.seq (.reg [.stm (.eff (.callq 16 23 []) none),.stm (.eff (.box 1 (.c (.agg [.v (.int .i64 0),.v (.int .i64 0),.v (.int .i64 0),.v (.int .i64 0),.v (.int .i64 0),.nil]))) none),.stm (.eff (.store 6 (.t 1) (.t 16)) none)]) (.seq (.reg [.set [(2,.ap (.ext 0) [.ap (.call 25) [.ap (.load 6 true) [.t 1],.c (.v (.int .i64 1)),.c (.v (.int .i64 2))]]),(3,.ap (.ext 1) [.ap (.call 25) [.ap (.load 6 true) [.t 1],.c (.v (.int .i64 1)),.c (.v (.int .i64 2))]])] [18,19,17,20,21,2,3]]) (.seq (.reg [.set [(4,.ap (.ext 0) [.ap (.call 25) [.ap (.load 6 true) [.t 1],.c (.v (.int .i64 1)),.c (.v (.int .i64 4))]]),(5,.ap (.ext 1) [.ap (.call 25) [.ap (.load 6 true) [.t 1],.c (.v (.int .i64 1)),.c (.v (.int .i64 4))]])] [23,24,22,25,26,4,5]]) (.seq (.reg [.set [(6,.ap (.ext 0) [.ap (.call 18) [.ap (.load 6 true) [.t 1]]]),(7,.ap (.ext 1) [.ap (.call 18) [.ap (.load 6 true) [.t 1]]])] [28,29,27,30,31,6,7]]) (.seq (.reg [.set [(33,.ap (.load 6 true) [.t 1])] [33],.stm (.eff (.callq 34 20 [.t 33,.c (.v (.int .i64 2))]) none),.set [(8,.ap (.ext 0) [.t 34]),(9,.ap (.ext 1) [.t 34])] [32,35,36,8,9]]) (.seq (.reg [.set [(38,.ap (.load 6 true) [.t 1])] [38],.stm (.eff (.lit 39 3 1 1 [.v (.int .i64 0)] [(0,1)] [.c (.v (.int .i64 2))]) none),.stm (.eff (.callq 40 17 [.t 38,.t 39]) none),.set [(41,.ap (.ext 0) [.t 40]),(42,.ap (.ext 1) [.t 40])] [37,41,42],.stm (.eff (.box 10 (.c (.agg [.v (.int .i64 0),.v (.int .i64 0),.v (.int .i64 0),.v (.int .i64 0),.v (.int .i64 0),.nil]))) none),.stm (.eff (.store 6 (.t 10) (.t 41)) none),.set [(11,.t 42)] [11]]) (.seq (.reg [.set [(12,.ap (.ext 0) [.ap (.call 25) [.ap (.load 6 true) [.t 10],.c (.v (.int .i64 1)),.c (.v (.int .i64 2))]]),(13,.ap (.ext 1) [.ap (.call 25) [.ap (.load 6 true) [.t 10],.c (.v (.int .i64 1)),.c (.v (.int .i64 2))]])] [44,45,43,46,47,12,13]]) (.seq (.reg [.set [(49,.ap (.load 6 true) [.t 1])] [49],.stm (.eff (.lit 50 3 1 1 [.v (.int .i64 0)] [(0,1)] [.c (.v (.int .i64 2))]) none),.stm (.eff (.lit 51 34 1 2 [.nil,.nil] [(0,1),(1,1)] [.c .nil,.t 50]) none),.set [(14,.ap (.ext 0) [.ap (.call 15) [.t 49,.t 51]]),(15,.ap (.ext 1) [.ap (.call 15) [.t 49,.t 51]])] [52,48,53,54,14,15]]) (.seq (.seq (.reg [.stm (.op 55 .mv [.t 3] none),.stm (.op 56 .mv [.t 5] none),.stm (.op 57 (.ibin .add) [.t 55,.t 56] none),.stm (.op 58 .mv [.t 7] none),.stm (.op 59 (.ibin .add) [.t 57,.t 58] none),.stm (.op 60 .mv [.t 9] none),.stm (.op 61 (.ibin .add) [.t 59,.t 60] none),.stm (.op 62 .mv [.t 11] none),.stm (.op 63 (.ibin .add) [.t 61,.t 62] none),.stm (.op 64 .mv [.t 13] none),.stm (.op 65 (.ibin .add) [.t 63,.t 64] none),.stm (.op 66 .mv [.t 15] none),.stm (.op 67 (.ibin .add) [.t 65,.t 66] none),.stm (.op 68 (.ibin .neq) [.t 67,.c (.v (.int .i64 0))] none),.stm (.op 69 .mv [.t 68] none),.stm (.op 70 .mv [.t 2] (some (69,false))),.stm (.op 71 (.ibin .neq) [.t 70,.c (.v (.int .i64 3))] (some (69,false))),.stm (.op 72 .pick [.t 69,.c (.v (.bool true)),.t 71] none),.stm (.op 73 .mv [.t 72] none),.stm (.op 74 .mv [.t 4] (some (73,false))),.stm (.op 75 (.ibin .neq) [.t 74,.c (.v (.int .i64 0))] (some (73,false))),.stm (.op 76 .pick [.t 73,.c (.v (.bool true)),.t 75] none),.stm (.op 77 .mv [.t 76] none),.stm (.op 78 .mv [.t 6] (some (77,false))),.stm (.op 79 (.ibin .neq) [.t 78,.c (.v (.int .i64 54))] (some (77,false))),.stm (.op 80 .pick [.t 77,.c (.v (.bool true)),.t 79] none),.stm (.op 81 .mv [.t 80] none),.stm (.op 82 .mv [.t 12] (some (81,false))),.stm (.op 83 (.ibin .neq) [.t 82,.c (.v (.int .i64 (-1)))] (some (81,false))),.stm (.op 84 .pick [.t 81,.c (.v (.bool true)),.t 83] none),.stm (.op 85 .mv [.t 84] none),.stm (.op 86 .mv [.t 8] (some (85,false))),.stm (.eff (.lit 87 3 1 2 [.v (.int .i64 0),.v (.int .i64 0)] [(0,1),(1,1)] [.c (.v (.int .i64 1)),.c (.v (.int .i64 2))]) (some (85,false))),.stm (.op 88 (.call 38) [.t 86,.t 87] (some (85,false))),.stm (.op 89 .inot [.t 88] (some (85,false))),.stm (.op 90 .pick [.t 85,.c (.v (.bool true)),.t 89] none),.stm (.op 91 .mv [.t 90] none),.stm (.op 92 (.fld 5) [.t 10] (some (91,false))),.stm (.op 93 (.load 1 false) [.t 92] (some (91,false))),.stm (.op 94 .llen [.t 93] (some (91,false))),.stm (.op 95 (.ibin .neq) [.t 94,.c (.v (.int .i64 9))] (some (91,false))),.stm (.op 96 .pick [.t 91,.c (.v (.bool true)),.t 95] none)]) (.cond (.t 96) (.seq (.reg [.set [(0,.c (.v (.bool false)))] [0]]) .ret) .skip)) (.seq (.reg [.set [(0,.ite (.ite (.ap (.aeq false [3,3,3,3,3]) [.ap (.load 5 true) [.ap (.idx 53 5) [.ap (.load 1 false) [.ap (.fld 5) [.t 10]],.c (.v (.int .i64 6))]],.ap (.build [.v (.int .i64 0),.v (.int .i64 0),.v (.int .i64 0),.v (.int .i64 0),.v (.int .i64 0)] [(0,1),(2,1),(3,1),(4,1)]) [.c (.v (.int .i64 2)),.c (.v (.int .i64 6)),.c (.v (.int .i64 1)),.c (.v (.int .i64 1))]]) (.ap (.ibin .eql) [.ap (.load 1 false) [.ap (.fld 4) [.t 10]],.c (.v (.int .i64 1))]) (.c (.v (.bool false)))) (.ap (.ibin .eql) [.t 14,.c (.v (.int .i64 0))]) (.c (.v (.bool false))))] [97,98,99,100,101,102,103,104,105,106,107,108,109,110,111,0]]) .ret)))))))))),[.t 0])
theorem is12 : IsFn Try.prog frOf 12 Try.f12 W12:=⟨by kernel_rfl,by kernel_rfl,by kernel_rfl⟩
theorem nt12 : Try.f12.ntmps = 112:=by kernel_rfl
def S23R (R : List Row) : List D→Option (D × Mem)
  | []=>some (.agg [iv 3,iv 3,iv 3,iv 1,iv 2,.sl [] 5 0 9 none],rowMem 53 (rowsL R))
  | _=>none
theorem s23R : OkQ 23 (S23R exRows):=fun ds d mm h=>by
  unfold S23R at h
  split at h
  · cases h
    exact c23
  · cases h
def env12 (R : List Row) : Env:=mkEnv [(25,S25),(18,S18),(15,S15),(38,S38)] [(23,S23R R),(20,S20),(17,S17)] []
@[simp] theorem env12_p (R : List Row) (f : Nat) (ds : List D) : (env12 R).p f ds = (look [(25,S25),(18,S18),(15,S15),(38,S38)] f).bind fun s=>s ds:=rfl
@[simp] theorem env12_q (R : List Row) (f : Nat) (ds : List D) : (env12 R).q f ds = (look [(23,S23R R),(20,S20),(17,S17)] f).bind fun s=>s ds:=rfl
theorem sound12 : Sound Try.prog (env12 exRows):=sound_mk (by simp [s25,s18,s15,s38]) (by simp [s23R,s20,s17]) (by simp)
theorem wwp_cutG {Γ : Env} {a b : WC} {Q : VE→St→Prop} {s : St} (I : St→Prop) (h1 : wwp Γ a (VE.thn I Q) s) (h2 : ∀ s',I s'→wwp Γ b Q s') : wwp Γ (.seq a b) Q s:=
  wwp_mono a h1 fun e s hs=>by cases e <;> first | exact h2 _ hs | exact hs
theorem wwp_seq_assoc {Γ : Env} {a b c : WC} {Q : VE→St→Prop} {s : St} (h : wwp Γ (.seq a (.seq b c)) Q s) : wwp Γ (.seq (.seq a b) c) Q s:=
  wwp_mono a h fun e s hs=>by cases e <;> exact hs
theorem runK_take {Γ : Env} {l : List CStm} {s : St} {K : St→Prop} (k : Nat) (I : St→Prop) (h1 : runK (cruns Γ (l.take k) s) I) (h2 : ∀ s',I s'→runK (cruns Γ (l.drop k) s') K) : runK (cruns Γ l s) K:=by
  obtain ⟨s',e,hi⟩:=h1
  obtain ⟨s2,e2,hk⟩:=h2 s' hi
  refine ⟨s2,?_,hk⟩
  have:=cruns_append (Γ:=Γ) (s:=s) (a:=l.take k) (b:=l.drop k)
  rw [List.take_append_drop] at this
  rw [this,e]
  exact e2
theorem ints_takeN (n : Nat) (l : List Int) : (ints l).take n = ints (l.take n):=by simp [ints,List.map_take]
theorem asLists_l2 : asLists [[.list []],[.list (ints [2])]] = some [[],[2]]:=rfl
def awA (R : List Row) (σ : St) : Prop:=σ.s 1 = .ptr [2,0] 0∧σ.m [2,0] = some (.box [iv 3,iv 3,iv 3,iv 1,iv 2,.sl [17,0] 5 0 9 none])∧σ.m [17,0] = some (.row [17,0,0] 53 (rowsL R))
def awK (σ : St) : Prop:=σ.c 10 = 0∧σ.c 39 = 0∧σ.c 40 = 0
def awL (σ : St) : Prop:=σ.c 50 = 0∧σ.c 51 = 0
def awB (σ : St) : Prop:=σ.s 8 = .sl [35,0] 1 0 2 none∧(∃ g,σ.m [35,0] = some (.row g 3 (ints [1,2])))
def awC (T : List Row) (σ : St) : Prop:=σ.s 10 = .ptr [11,0] 0∧σ.m [11,0] = some (.box [iv 3,iv 3,iv 3,iv 1,iv 1,.sl [41,0] 5 0 9 none])∧(∃ g,σ.m [41,0] = some (.row g 53 (rowsL T)))
theorem c12w (R T : List Row) (exRows_len : R.length = 9) (exT_len : T.length = 9) (ex_1 : contestR ⟨3,3,3,1,2,R⟩ 1 2 = (3,0)) (ex_2 : contestR ⟨3,3,3,1,2,R⟩ 1 4 = (0,0)) (ex_3 : unbR ⟨3,3,3,1,2,R⟩ = (54,0))
    (ex_4 : lastR ⟨3,3,3,1,2,R⟩ 2 = (.tup [.sl [] 1 0 2 none,iv 0],rowMem 3 (ints [1,2]))) (ex_5 : turnR ⟨3,3,3,1,2,R⟩ [2] = (.tup [.agg [iv 3,iv 3,iv 3,iv 1,iv 1,.sl [] 5 0 9 none],iv 0],rowMem 53 (rowsL T)))
    (ex_6 : contestR ⟨3,3,3,1,1,T⟩ 1 2 = (-1,0)) (ex_7 : bestR ⟨3,3,3,1,2,R⟩ [[],[2]] = (0,0)) (e6 : ∀ h : 6 < T.length,T[6] = ⟨2,0,6,1,1⟩) :
    wwp (env12 R) W12.1 (fun e s=>okExit e∧resV W12.2 s = some (bv true)) (initV []):=by
  have ex_take : (rowsL R).take 9 = rowsL R:=List.take_of_length_le (by simp [exRows_len])
  have exT_take : (rowsL T).take 9 = rowsL T:=List.take_of_length_le (by simp [exT_len])
  simp only [W12]
  refine wwp_cut (fun σ=>σ.c 16 = 0∧σ.c 1 = 0∧σ.c 34 = 0∧σ.c 39 = 0∧σ.c 40 = 0∧σ.c 10 = 0∧σ.c 50 = 0∧σ.c 51 = 0) (by simp) ?_
  rintro σ ⟨a1,a2,a3,a4,a5,a6,a7,a8⟩
  refine wwp_cut (fun σ=>awA R σ∧σ.c 34 = 0∧awK σ∧awL σ) (by simp [awA,awK,awL,S23R,exRows_len,a1,a2,a3,a4,a5,a6,a7,a8]) ?_
  clear a1 a2 a3 a4 a5 a6 a7 a8 σ
  rintro σ ⟨⟨h1,m2,m17⟩,k1,⟨k2,k3,k4⟩,k5,k6⟩
  refine wwp_cut (fun σ=>awA R σ∧σ.c 34 = 0∧awK σ∧awL σ∧σ.s 2 = iv 3∧σ.s 3 = iv 0) (by simp [awA,awK,awL,h1,m2,m17,k1,k2,k3,k4,k5,k6,exRows_len,ex_take,S25,ex_1]) ?_
  clear h1 m2 m17 k1 k2 k3 k4 k5 k6 σ
  rintro σ ⟨⟨h1,m2,m17⟩,k1,⟨k2,k3,k4⟩,⟨k5,k6⟩,h2,h3⟩
  refine wwp_cut (fun σ=>awA R σ∧σ.c 34 = 0∧awK σ∧awL σ∧σ.s 2 = iv 3∧σ.s 3 = iv 0∧σ.s 4 = iv 0∧σ.s 5 = iv 0) (by simp [awA,awK,awL,h1,m2,m17,k1,k2,k3,k4,k5,k6,h2,h3,exRows_len,ex_take,S25,ex_2]) ?_
  clear h1 m2 m17 k1 k2 k3 k4 k5 k6 h2 h3 σ
  rintro σ ⟨⟨h1,m2,m17⟩,k1,⟨k2,k3,k4⟩,⟨k5,k6⟩,h2,h3,h4,h5⟩
  refine wwp_cut (fun σ=>awA R σ∧σ.c 34 = 0∧awK σ∧awL σ∧σ.s 2 = iv 3∧σ.s 3 = iv 0∧σ.s 4 = iv 0∧σ.s 5 = iv 0∧σ.s 6 = iv 54∧σ.s 7 = iv 0) (by simp [awA,awK,awL,h1,m2,m17,k1,k2,k3,k4,k5,k6,h2,h3,h4,h5,exRows_len,ex_take,S18,ex_3]) ?_
  clear h1 m2 m17 k1 k2 k3 k4 k5 k6 h2 h3 h4 h5 σ
  rintro σ ⟨⟨h1,m2,m17⟩,k1,⟨k2,k3,k4⟩,⟨k5,k6⟩,h2,h3,h4,h5,h6,h7⟩
  refine wwp_cut (fun σ=>awA R σ∧awB σ∧awK σ∧awL σ∧σ.s 2 = iv 3∧σ.s 3 = iv 0∧σ.s 4 = iv 0∧σ.s 5 = iv 0∧σ.s 6 = iv 54∧σ.s 7 = iv 0∧σ.s 9 = iv 0) (by simp [awA,awB,awK,awL,h1,m2,m17,k1,k2,k3,k4,k5,k6,h2,h3,h4,h5,h6,h7,exRows_len,ex_take,S20,ex_4]) ?_
  clear h1 m2 m17 k1 k2 k3 k4 k5 k6 h2 h3 h4 h5 h6 h7 σ
  rintro σ ⟨⟨h1,m2,m17⟩,⟨h8,g,m35⟩,⟨k2,k3,k4⟩,⟨k5,k6⟩,h2,h3,h4,h5,h6,h7,h9⟩
  refine wwp_cut (fun σ=>awA R σ∧awB σ∧awC T σ∧awL σ∧σ.s 2 = iv 3∧σ.s 3 = iv 0∧σ.s 4 = iv 0∧σ.s 5 = iv 0∧σ.s 6 = iv 54∧σ.s 7 = iv 0∧σ.s 9 = iv 0∧σ.s 11 = iv 0) (by simp [awA,awB,awC,awK,awL,h1,m2,m17,k2,k3,k4,k5,k6,h2,h3,h4,h5,h6,h7,h8,h9,m35,exRows_len,ex_take,ints1,ints2,ints_takeN,S17,ex_5]) ?_
  clear h1 m2 m17 h8 m35 g k2 k3 k4 k5 k6 h2 h3 h4 h5 h6 h7 h9 σ
  rintro σ ⟨⟨h1,m2,m17⟩,⟨h8,g,m35⟩,⟨h10,m11,g',m41⟩,⟨k5,k6⟩,h2,h3,h4,h5,h6,h7,h9,h11⟩
  refine wwp_cut (fun σ=>awA R σ∧awB σ∧awC T σ∧awL σ∧σ.s 2 = iv 3∧σ.s 3 = iv 0∧σ.s 4 = iv 0∧σ.s 5 = iv 0∧σ.s 6 = iv 54∧σ.s 7 = iv 0∧σ.s 9 = iv 0∧σ.s 11 = iv 0∧σ.s 12 = iv (-1)∧σ.s 13 = iv 0) (by simp [awA,awB,awC,awK,awL,h1,m2,m17,k5,k6,h2,h3,h4,h5,h6,h7,h8,h9,m35,h10,m11,m41,h11,exT_len,exT_take,S25,ex_6]) ?_
  clear h1 m2 m17 h8 m35 g k5 k6 h10 m11 g' m41 h2 h3 h4 h5 h6 h7 h9 h11 σ
  rintro σ ⟨⟨h1,m2,m17⟩,⟨h8,g,m35⟩,⟨h10,m11,g',m41⟩,⟨k5,k6⟩,h2,h3,h4,h5,h6,h7,h9,h11,h12,h13⟩
  refine wwp_cut (fun σ=>awB σ∧awC T σ∧σ.s 2 = iv 3∧σ.s 3 = iv 0∧σ.s 4 = iv 0∧σ.s 5 = iv 0∧σ.s 6 = iv 54∧σ.s 7 = iv 0∧σ.s 9 = iv 0∧σ.s 11 = iv 0∧σ.s 12 = iv (-1)∧σ.s 13 = iv 0∧σ.s 14 = iv 0∧σ.s 15 = iv 0) (by simp [awA,awB,awC,awK,awL,h1,m2,m17,k5,k6,h2,h3,h4,h5,h6,h7,h8,h9,m35,h10,m11,m41,h11,h12,h13,exRows_len,ex_take,ints1,lists2,ints_takeN,asLists_l2,S15,ex_7]) ?_
  clear h1 m2 m17 h8 m35 g k5 k6 h10 m11 g' m41 h2 h3 h4 h5 h6 h7 h9 h11 h12 h13 σ
  rintro σ ⟨⟨h8,g,m35⟩,⟨h10,m11,g',m41⟩,h2,h3,h4,h5,h6,h7,h9,h11,h12,h13,h14,h15⟩
  refine wwp_seq_assoc (wwp_cut (fun σ=>awC T σ∧σ.s 14 = iv 0∧σ.s 96 = bv false) ?_ ?_)
  · refine runK_take 14 (fun σ=>awB σ∧awC T σ∧σ.s 2 = iv 3∧σ.s 4 = iv 0∧σ.s 6 = iv 54∧σ.s 12 = iv (-1)∧σ.s 14 = iv 0∧σ.s 68 = bv false) (by simp [awB,awC,h2,h3,h4,h5,h6,h7,h8,h9,m35,h10,m11,m41,h11,h12,h13,h14,h15]) ?_
    clear m35 g m11 g' m41 h2 h3 h4 h5 h6 h7 h8 h9 h10 h11 h12 h13 h14 h15 σ
    rintro σ ⟨⟨h8,g,m35⟩,⟨h10,m11,g',m41⟩,h2,h4,h6,h12,h14,h68⟩
    refine runK_take 16 (fun σ=>awB σ∧awC T σ∧σ.s 14 = iv 0∧σ.s 84 = bv false) (by simp [awB,awC,h2,h4,h6,h8,m35,h10,m11,m41,h12,h14,h68]) ?_
    clear m35 g m11 g' m41 h2 h4 h6 h8 h10 h12 h14 h68 σ
    rintro σ ⟨⟨h8,g,m35⟩,⟨h10,m11,g',m41⟩,h14,h84⟩
    simp [awC,h8,m35,h10,m11,m41,h14,h84,S38,ints2,ints_takeN,exT_len]
  clear m35 g m11 g' m41 h2 h3 h4 h5 h6 h7 h8 h9 h10 h11 h12 h13 h14 h15 σ
  rintro σ ⟨⟨h10,m11,g',m41⟩,h14,h96⟩
  simp [h10,m11,m41,h14,h96,exT_len,e6,Row.cells]
theorem c12 : VCp Try.prog 12 [] (bv true):=
  wcontract_p sound12 mixed is12 (by rw [nt12]; simp) (c12w exRows exT exRows_len exT_len ex_1 ex_2 ex_3 ex_4 ex_5 ex_6 ex_7 fun h=>by
    have:=exT_6
    rw [List.getElem?_eq_getElem h] at this
    exact Option.some.inj this) rfl
end Go.Proofs.Ytpmgaaalfdjikaa
namespace Go.Proofs.Ytpmgaaalfdjikaa
open Go.RowKit
set_option linter.unusedSimpArgs false
set_option linter.unusedVariables false
structure Sl where
  all : List Row
  len : Nat
  lim : Option Nat
def Sl.rows (s : Sl) : List Row:=s.all.take s.len
def Row.swap (x : Row) : Row:={ x with ns:=x.ew,ew:=x.ns }
def madeOne (n : Nat) (x : Row) : Row:=if n % 4 = 0 then { x with ns:=0 } else if n % 4 = 1 then { x with ew:=0 } else x.swap
def Sl.step (s : Sl) (n : Nat) : Sl:=
  if n % 4 < 3 then { s with all:=s.all.modify (n / 4 % s.len) (madeOne n) }
  else if 1 < s.len then
    (if n / 4 % s.len + 1 = s.len then { s with len:=n / 4 % s.len,lim:=some (n / 4 % s.len) }
      else ⟨s.all.take (n / 4 % s.len) ++ (s.all.take s.len).drop (n / 4 % s.len + 1),s.len - 1,none⟩)
  else s
def Sl.ok (s : Sl) : Prop:=1≤s.len∧s.len≤s.all.length∧s.all.length≤100
structure Sk where
  t : Nat
  r : Nat
  miss : List Nat
def Sk.T (x : Sk) : Nat:=2 + x.t % 5
def Sk.R (x : Sk) : Nat:=1 + x.r % x.T
def Sk.ok (x : Sk) : Prop:=x.t < 256∧x.r < 256∧(∀ n ∈ x.miss,n < 256)∧x.miss.length≤9223372036854775807
def bytes (l : List Nat) : List (List D):=l.map fun (n : Nat)=>[.v (.int .u8 n)]
@[simp] theorem bytes_len (l : List Nat) : (bytes l).length = l.length:=by simp [bytes]
@[simp] theorem bytes_ex (l : List Nat) : (∃ x,x ∈ bytes l∧¬ x.length = 1) = False:=by
  simp only [eq_iff_iff,iff_false]; rintro ⟨x,hx,h⟩; obtain ⟨y,_,rfl⟩:=List.mem_map.1 hx; exact h rfl
def Sk.cells (x : Sk) : List D:=[.v (.int .u8 x.t),.v (.int .u8 x.r),.list (bytes x.miss)]
def Sk.run (x : Sk) (k : Nat) : Sl:=(x.miss.take k).foldl Sl.step ⟨(mitM x.T x.R).rows,x.R * x.T,none⟩
def Sk.sl (x : Sk) : Sl:=x.run 4
def S22 : List D→Option (D × Mem)
  | [.v (.int .i64 T),.v (.int .i64 R)]=>if 1≤T∧T≤100∧1≤R∧R≤100 then some (.agg ((mitM T.toNat R.toNat).cellsW (.sl [] 5 0 (R.toNat * T.toNat) none)),rowMem 53 (rowsL (mitM T.toNat R.toNat).rows)) else none
  | _=>none
theorem s22 : OkQ 22 S22:=fun ds d mm h=>by
  unfold S22 at h
  split at h
  · rename_i T R
    split at h
    · rename_i hc
      have:=c22 T.toNat R.toNat (by omega) (by omega) (by omega) (by omega)
      cases h
      rw [Int.toNat_of_nonneg (show 0≤T by omega),Int.toNat_of_nonneg (show 0≤R by omega)] at this
      exact this
    · cases h
  · cases h
def env13 : Env:=mkEnv [] [(22,S22)] []
@[simp] theorem env13_q (f : Nat) (ds : List D) : env13.q f ds = (look [(22,S22)] f).bind fun s=>s ds:=rfl
theorem wwp_drw_k {Γ : Env} {ss : List (List VStm)} {Q : VE→St→Prop} {s : St} (T : List Nat) (m' : Mem) (c' : Nat→Nat) (hT : (ss.all fun sts=>(dsts sts).all T.contains) = true)
    (h : ∀ sts ∈ ss,runK (runs Γ sts s) fun s'=>s'.m = m'∧s'.c = c') (hQ : Q .normal ⟨fun j=>if T.contains j then .undef else s.s j,m',c'⟩) : wwp Γ (.drw ss) Q s:=
  wwp_drw_of T [] m' c' hT (fun sts hs=>by
    obtain ⟨s',h1,h2,h3⟩:=h sts hs
    exact ⟨s',h1,h2,h3,by simp⟩) (by simpa using hQ)
end Go.Proofs.Ytpmgaaalfdjikaa
namespace Go.Proofs.Ytpmgaaalfdjikaa
open Go.RowKit
set_option linter.unusedSimpArgs false
set_option linter.unusedVariables false
def rowP (m : Mv) (x : Row) : Prop:=inOK m x∧0≤x.ns∧x.ns≤49∧0≤x.ew∧x.ew≤49∧¬ (0 < x.ns∧x.ns = x.ew)
def sep (x y : Row) : Prop:=x.r = y.r→x.t ≠ y.t∧(0 < y.ns→y.ns ≠ x.ns∧y.ns ≠ x.ew)∧(0 < y.ew→y.ew ≠ x.ns∧y.ew ≠ x.ew)
instance (m : Mv) (x : Row) : Decidable (rowP m x):=by unfold rowP; exact inferInstance
instance (x y : Row) : Decidable (sep x y):=by unfold sep; exact inferInstance
def fitP (m : Mv) : Prop:=boundOK m∧(∀ x ∈ m.rows,rowP m x)∧m.rows.Pairwise sep
theorem fitRow_iff {m : Mv} (hb : m.t≤24) {prev : List Row} {x : Row} (hp : ∀ y ∈ prev,rowP m y) : fitRow m prev x = true ↔ rowP m x∧∀ y ∈ prev,sep y x:=by
  have hu : ∀ (x : Row),inOK m x→∀ y : Row,inOK m y→(y.r.toNat * 24 + y.t.toNat = x.r.toNat * 24 + x.t.toNat ↔ y.r = x.r∧y.t = x.t):=by
    rintro x ⟨a1,a2,a3,a4,a5,a6⟩ y ⟨b1,b2,b3,b4,b5,b6⟩
    omega
  have hs : ∀ (r p r' p' : Int),0≤r→0≤r'→0≤p→p≤49→0≤p'→p'≤49→(r.toNat * 50 + p.toNat = r'.toNat * 50 + p'.toNat ↔ r = r'∧p = p'):=by
    intros; omega
  simp only [fitRow,Bool.and_eq_true,decide_eq_true_eq,pairOK,Bool.not_eq_true',Bool.and_eq_false_iff,decide_eq_false_iff_not,seatAt,usedAt,Bool.or_eq_false_iff,List.any_eq_false,beq_iff_eq,Bool.or_eq_true,beq_eq_false_iff_ne]
  constructor
  · rintro ⟨⟨⟨hi,h1⟩,⟨h2,h3⟩,h4⟩,⟨h5,h6⟩,h7⟩
    obtain ⟨a1,a2,a3,a4,a5,a6⟩:=id hi
    refine ⟨⟨hi,h2,h3,h5,h6,?_⟩,fun y hy hr=>?_⟩
    · rintro ⟨hn,he⟩
      rcases h7 with h | ⟨h7,h8⟩
      · omega
      · rw [← he] at h8; exact h8 rfl
    · obtain ⟨q0,q1,q2,q3,q4,q5⟩:=hp y hy
      obtain ⟨b1,b2,b3,b4,b5,b6⟩:=id q0
      refine ⟨fun ht=>h1 y hy ((hu x hi y q0).2 ⟨hr,ht⟩),fun hn=>?_,fun hn=>?_⟩
      · rcases h4 with h | h
        · exact absurd hn h
        · have:=h y hy
          rw [hs _ _ _ _ b1 a1 q1 q2 h2 h3,hs _ _ _ _ b1 a1 q3 q4 h2 h3] at this
          exact ⟨fun e=>this (.inl ⟨hr,e.symm⟩),fun e=>this (.inr ⟨hr,e.symm⟩)⟩
      · rcases h7 with h | ⟨h,_⟩
        · exact absurd hn h
        · have:=h y hy
          rw [hs _ _ _ _ b1 a1 q1 q2 h5 h6,hs _ _ _ _ b1 a1 q3 q4 h5 h6] at this
          exact ⟨fun e=>this (.inl ⟨hr,e.symm⟩),fun e=>this (.inr ⟨hr,e.symm⟩)⟩
  · rintro ⟨⟨hi,h2,h3,h5,h6,h7⟩,hsep⟩
    obtain ⟨a1,a2,a3,a4,a5,a6⟩:=id hi
    refine ⟨⟨⟨hi,fun y hy e=>?_⟩,⟨h2,h3⟩,?_⟩,⟨h5,h6⟩,?_⟩
    · obtain ⟨q0,q1,q2,q3,q4,q5⟩:=hp y hy
      obtain ⟨er,et⟩:=(hu x hi y q0).1 e
      exact (hsep y hy er).1 et
    · by_cases hn : 0 < x.ns
      · right
        intro y hy
        obtain ⟨q0,q1,q2,q3,q4,q5⟩:=hp y hy
        obtain ⟨b1,b2,b3,b4,b5,b6⟩:=id q0
        rw [hs _ _ _ _ b1 a1 q1 q2 h2 h3,hs _ _ _ _ b1 a1 q3 q4 h2 h3]
        rintro (⟨er,e⟩ | ⟨er,e⟩)
        · exact ((hsep y hy er).2.1 hn).1 e.symm
        · exact ((hsep y hy er).2.1 hn).2 e.symm
      · exact .inl hn
    · by_cases hn : 0 < x.ew
      · right
        refine ⟨fun y hy=>?_,fun e=>?_⟩
        · obtain ⟨q0,q1,q2,q3,q4,q5⟩:=hp y hy
          obtain ⟨b1,b2,b3,b4,b5,b6⟩:=id q0
          rw [hs _ _ _ _ b1 a1 q1 q2 h5 h6,hs _ _ _ _ b1 a1 q3 q4 h5 h6]
          rintro (⟨er,e⟩ | ⟨er,e⟩)
          · exact ((hsep y hy er).2.2 hn).1 e.symm
          · exact ((hsep y hy er).2.2 hn).2 e.symm
        · have:=(hs _ _ _ _ a1 a1 h2 h3 h5 h6).1 e.symm
          omega
      · exact .inl hn
theorem fit_iff (m : Mv) : fitB m = true ↔ fitP m:=by
  rw [fitB_iff]
  unfold fitP
  refine and_congr_right fun hb=>?_
  have hb2 : m.t≤24:=hb.2.1
  constructor
  · intro h
    have key : ∀ n,n≤m.rows.length→(∀ x ∈ m.rows.take n,rowP m x)∧(m.rows.take n).Pairwise sep:=by
      intro n
      induction n with
      | zero=>intro _; simp
      | succ n ih=>
        intro hn
        obtain ⟨i1,i2⟩:=ih (by omega)
        have hf:=(fitRow_iff hb2 i1).1 (h n (by omega))
        rw [List.take_succ_eq_append_getElem (by omega)]
        refine ⟨fun x hx=>?_,?_⟩
        · rcases List.mem_append.1 hx with hx | hx
          · exact i1 x hx
          · rw [List.mem_singleton.1 hx]; exact hf.1
        · rw [List.pairwise_append]
          refine ⟨i2,by simp,fun y hy x hx=>?_⟩
          rw [List.mem_singleton.1 hx]
          exact hf.2 y hy
    have:=key m.rows.length (Nat.le_refl _)
    rwa [List.take_length] at this
  · rintro ⟨h1,h2⟩ k hk
    refine (fitRow_iff hb2 fun y hy=>h1 y (List.mem_of_mem_take hy)).2 ⟨h1 _ (List.getElem_mem hk),fun y hy=>?_⟩
    obtain ⟨j,hj,rfl⟩:=List.getElem_of_mem hy
    rw [List.getElem_take]
    exact List.pairwise_iff_getElem.1 h2 j k (by simp at hj; omega) hk (by simp at hj; omega)
def Less (x' x : Row) : Prop:=x'.r = x.r∧x'.t = x.t∧x'.s = x.s∧(((x'.ns = 0 ∨ x'.ns = x.ns)∧(x'.ew = 0 ∨ x'.ew = x.ew)) ∨ (x'.ns = x.ew∧x'.ew = x.ns))
theorem Less.refl (x : Row) : Less x x:=⟨rfl,rfl,rfl,.inl ⟨.inr rfl,.inr rfl⟩⟩
theorem Less.rowP {m : Mv} {x' x : Row} (h : Less x' x) (hx : rowP m x) : rowP m x':=by
  obtain ⟨h1,h2,h3,h4⟩:=h
  obtain ⟨⟨a1,a2,a3,a4,a5,a6⟩,a7,a8,a9,a10,a11⟩:=hx
  unfold Go.Proofs.Ytpmgaaalfdjikaa.rowP inOK
  omega
theorem Less.sep {x' x y' y : Row} (h : Less x' x) (k : Less y' y) (hs : sep x y) : sep x' y':=by
  obtain ⟨h1,h2,h3,h4⟩:=h
  obtain ⟨k1,k2,k3,k4⟩:=k
  intro hr
  have:=hs (by rw [← h1,← k1]; exact hr)
  omega
theorem fitP_less {m m' : Mv} (ht : m'.t = m.t) (hr : m'.r = m.r) (hs : m'.s = m.s) (hl : m'.rows.length = m.rows.length) (hf : ∀ k (h : k < m.rows.length),Less (m'.rows[k]'(by omega)) m.rows[k]) (h : fitP m) : fitP m':=by
  obtain ⟨h1,h2,h3⟩:=h
  refine ⟨?_,fun x hx=>?_,?_⟩
  · unfold boundOK at h1 ⊢
    rw [ht,hr,hl]
    exact h1
  · obtain ⟨k,hk,rfl⟩:=List.getElem_of_mem hx
    have:=(hf k (by omega)).rowP (h2 _ (List.getElem_mem _))
    unfold rowP inOK at this ⊢
    rw [ht,hr,hs]
    exact this
  · rw [List.pairwise_iff_getElem] at h3 ⊢
    intro i j hi hj hij
    exact (hf i (by omega)).sep (hf j (by omega)) (h3 i j (by omega) (by omega) hij)
theorem turnRow_less (L : List Int) (x : Row) : Less (turnRow L x) x:=by
  unfold turnRow
  split
  · exact ⟨rfl,rfl,rfl,.inr ⟨rfl,rfl⟩⟩
  · exact Less.refl x
theorem fit_exch {m : Mv} {L : List Int} (h : fitB m = true) : fitB (exch m L) = true:=
  (fit_iff _).2 (fitP_less (m:=m) rfl rfl rfl (by simp [exch]) (fun k hk=>by simp only [exch,List.getElem_map]; exact turnRow_less L _) ((fit_iff m).1 h))
def Sk.mv (x : Sk) : Mv:=⟨x.T,x.R,x.T,1,2,x.sl.rows⟩
theorem Sk.range {x : Sk} : 2≤x.T∧x.T≤6∧1≤x.R∧x.R≤x.T:=by
  have hT : x.T = 2 + x.t % 5:=rfl
  have hR : x.R = 1 + x.r % x.T:=rfl
  have:=Nat.mod_lt x.r (show 0 < x.T by omega)
  omega
end Go.Proofs.Ytpmgaaalfdjikaa
namespace Go.Proofs.Ytpmgaaalfdjikaa
open Go.RowKit
set_option linter.unusedSimpArgs false
set_option linter.unusedVariables false
def S12 : List D→Option D
  | []=>some (bv true)
  | _=>none
theorem s12 : OkP 12 S12:=fun ds d h=>by
  unfold S12 at h
  split at h <;> cases h
  exact c12
theorem lastL_len (r : Int) (n : Nat) : (lastL r n).length = n:=lastF_len r n n
@[simp] theorem lastL_take (r : Int) (n : Nat) : (lastL r n).take n = lastL r n:=List.take_of_length_le (by rw [lastL_len]; exact Nat.le_refl _)
theorem listOK_iff (r : Int) : ∀ (l : List Int) (p : Int),listOK r p l = true ↔ ((∀ x ∈ l,p < x)∧l.Pairwise (· < ·))∧∀ x ∈ l,x < r
  | [],p=>by simp [listOK]
  | x :: l,p=>by
    rw [listOK_cons,listOK_iff r l x,List.pairwise_cons]
    constructor
    · rintro ⟨h1,h2,⟨h3,h4⟩,h5⟩
      refine ⟨⟨fun y hy=>?_,h3,h4⟩,fun y hy=>?_⟩
      · rcases List.mem_cons.1 hy with rfl | hy
        · exact h1
        · have:=h3 y hy; omega
      · rcases List.mem_cons.1 hy with rfl | hy
        · exact h2
        · exact h5 y hy
    · rintro ⟨⟨h1,h2,h3⟩,h4⟩
      exact ⟨h1 x (by simp),h4 x (by simp),⟨h2,h3⟩,fun y hy=>h4 y (by simp [hy])⟩
@[simp] theorem mkEnv_p (ps : List (Nat × (List D→Option D))) (qs : List (Nat × (List D→Option (D × Mem)))) (ms : List (Nat × (Mem→List D→Option (D × Mem)))) (f : Nat) (ds : List D) : (mkEnv ps qs ms).p f ds = (look ps f).bind fun s=>s ds:=rfl
@[simp] theorem mkEnv_q (ps : List (Nat × (List D→Option D))) (qs : List (Nat × (List D→Option (D × Mem)))) (ms : List (Nat × (Mem→List D→Option (D × Mem)))) (f : Nat) (ds : List D) : (mkEnv ps qs ms).q f ds = (look qs f).bind fun s=>s ds:=rfl
@[simp] theorem mkEnv_m (ps : List (Nat × (List D→Option D))) (qs : List (Nat × (List D→Option (D × Mem)))) (ms : List (Nat × (Mem→List D→Option (D × Mem)))) (f : Nat) (m : Mem) (ds : List D) : (mkEnv ps qs ms).m f m ds = (look ms f).bind fun s=>s m ds:=rfl
abbrev FP:=List D→Option D
abbrev FQ:=List D→Option (D × Mem)
end Go.Proofs.Ytpmgaaalfdjikaa
namespace Go.Proofs.Ytpmgaaalfdjikaa
open Go.RowKit Go.ChangeShapes Go.WideShapes Go.ChangeAt
set_option linter.unusedSimpArgs false
set_option linter.unusedVariables false
set_option linter.constructorNameAsVariable false
set_option maxRecDepth 100000
theorem own : ownKnob Try.prog.godebug = none:=by kernel_rfl
theorem laidOut : laidOutB Try.prog = true:=by kernel_rfl
theorem argsTy_nil {P : Program} {n : Nat} {Ds : List D} (h : ArgsTy P n [] Ds) : Ds = []:=by
  cases Ds with
  | nil=>rfl
  | cons d ds=>exact h.elim
def TyOK (t : Nat) : Prop:=t < Try.prog.types.size∧okTy Try.prog 4 t = true∧Try.prog.readableRec t = true
end Go.Proofs.Ytpmgaaalfdjikaa
namespace Go.Proofs.Ytpmgaaalfdjikaa
open Go.RowKit Go.ChangeShapes Go.WideShapes Go.ChangeAt
set_option linter.unusedSimpArgs false
set_option linter.unusedVariables false
set_option linter.constructorNameAsVariable false
theorem S20_at (m : Mv) (n : Int) : S20 [.agg m.cells,iv n] = some (lastR m n):=by simp [S20,Mv.cells,Mv.cellsW]
theorem S17_at (m : Mv) (L : List Int) (h : L.length≤1000000) : S17 [.agg m.cells,.list (ints L)] = some (turnR m L):=by
  simp only [S17,Mv.cells,Mv.cellsW,asMv_cells,asInts_ints,Option.bind_some]
  rw [if_pos h]
end Go.Proofs.Ytpmgaaalfdjikaa
namespace Go.Proofs.Ytpmgaaalfdjikaa
open Go.RowKit
set_option linter.unusedSimpArgs false
set_option linter.unusedVariables false
theorem wf_init (ds : List D) : WF (initV ds):=fun x k r _=>rfl
theorem evRoots_mem {Γ : Env} {s : St} : ∀ {rs : List (Nat × VX)} {a b : St},evRoots Γ s rs a = some b→b.m = a.m∧b.c = a.c
  | [],a,b,h=>by cases h; exact ⟨rfl,rfl⟩
  | (i,x) :: rs,a,b,h=>by
    simp only [evRoots] at h
    rw [Option.bind_eq_some_iff] at h
    obtain ⟨d,_,h⟩:=h
    exact evRoots_mem (a:=a.set i d) h
theorem cruns_wf {Γ : Env} : ∀ {cs : List CStm} {s s' : St},WF s→cruns Γ cs s = some s'→WF s'
  | [],s,s',W,h=>by cases h; exact W
  | c :: cs,s,s',W,h=>by
    simp only [cruns] at h
    rw [Option.bind_eq_some_iff] at h
    obtain ⟨s1,h1,h2⟩:=h
    refine cruns_wf ?_ h2
    cases c with
    | stm st=>exact (run_mem W h1).1
    | set rs ts=>
      obtain ⟨e1,e2⟩:=evRoots_mem h1
      intro x k r hk
      rw [e1]
      exact W x k r (by rw [e2] at hk; exact hk)
theorem runs_wf {Γ : Env} : ∀ {cs : List VStm} {s s' : St},WF s→runs Γ cs s = some s'→WF s'
  | [],s,s',W,h=>by cases h; exact W
  | c :: cs,s,s',W,h=>by
    simp only [runs] at h
    rw [Option.bind_eq_some_iff] at h
    obtain ⟨s1,h1,h2⟩:=h
    exact runs_wf (run_mem W h1).1 h2
theorem wwp_cutW {Γ : Env} {cs : List CStm} {b : WC} {Q : VE→St→Prop} {s : St} (W : WF s) (I : St→Prop) (h1 : runK (cruns Γ cs s) I) (h2 : ∀ s',WF s'→I s'→wwp Γ b Q s') : wwp Γ (.seq (.reg cs) b) Q s:=by
  obtain ⟨s',e,hi⟩:=h1
  exact ⟨s',e,h2 s' (cruns_wf W e) hi⟩
theorem wwp_condW {Γ : Env} {v : VArg} {cs : List CStm} {a b : WC} {Q : VE→St→Prop} {s : St} (W : WF s) (I : St→Prop) (h1 : runK (cruns Γ cs s) fun s'=>I s'∧v.val s'.s = bv false) (h2 : ∀ s',WF s'→I s'→wwp Γ b Q s') :
    wwp Γ (.seq (.seq (.reg cs) (.cond v a .skip)) b) Q s:=by
  obtain ⟨s',e,hi,hv⟩:=h1
  refine ⟨s',e,?_⟩
  show wwp Γ (.cond v a .skip) (VE.thn (wwp Γ b Q) Q) s'
  exact ⟨false,hv,fun h=>(by cases h),fun _=>h2 s' (cruns_wf W e) hi⟩
theorem wwp_on {Γ : Env} {cs : List CStm} {t : VArg} {e B : WC} {Q : VE→St→Prop} {s : St} (I : St→Prop) (h1 : runK (cruns Γ cs s) fun s'=>t.val s'.s = bv true∧I s') (h2 : ∀ s',I s'→wwp Γ B Q s') : wwp Γ (.seq (.reg cs) (.seq (.cond t .skip e) B)) Q s:=by
  obtain ⟨s',e',ht,hi⟩:=h1
  refine ⟨s',e',?_⟩
  show wwp Γ (.cond t .skip e) (VE.thn (wwp Γ B Q) Q) s'
  exact ⟨true,ht,fun _=>h2 s' hi,fun h=>(by cases h)⟩
theorem wwp_off {Γ : Env} {cs : List CStm} {t : VArg} {id : Nat} {B : WC} {Q : VE→St→Prop} {s : St} (h1 : runK (cruns Γ cs s) fun s'=>t.val s'.s = bv false∧Q (.exit id) s') : wwp Γ (.seq (.reg cs) (.seq (.cond t .skip (.exit id)) B)) Q s:=by
  obtain ⟨s',e',ht,hq⟩:=h1
  refine ⟨s',e',?_⟩
  show wwp Γ (.cond t .skip (.exit id)) (VE.thn (wwp Γ B Q) Q) s'
  exact ⟨false,ht,fun h=>(by cases h),fun _=>hq⟩
theorem wwp_body {Γ : Env} {id : Nat} {B b : WC} {Q : VE→St→Prop} {s : St} (I : St→Prop) (h1 : wwp Γ B (VE.blk id (VE.thn I Q)) s) (h2 : ∀ s',I s'→wwp Γ b Q s') : wwp Γ (.seq (.block id B) b) Q s:=by
  refine wwp_mono (.block id B) (Q:=VE.thn I Q) h1 fun e s' hs=>?_
  cases e <;> first | exact h2 _ hs | exact hs
def boxOK (x : Nat) : VStm→Bool
  | .op y _ args g=>y != x && !(args.flatMap VArg.reads ++ guardReads g).contains x
  | .eff (.callq y _ args) none=>y != x && !(args.flatMap VArg.reads).contains x
  | _=>false
theorem new_adopt {σ : St} {x y : Nat} (h : y ≠ x) (o : HO) (d d' : D) (m' : Mem) : (σ.new x o d).adopt y d' m' = (σ.adopt y d' m').new x o d:=by
  have hc : (σ.new x o d).c y = σ.c y:=by simp [St.new,St.inc,St.set,St.put,h]
  have hc2 : (σ.adopt y d' m').c x = σ.c x:=by simp [St.adopt,Ne.symm h]
  refine St.ext' ?_ ?_ ?_
  · funext j
    simp only [St.adopt,St.new,St.inc_s,St.set,St.put_s,hc]
    by_cases h1 : j = y
    · subst h1; simp [h,St.tok,hc2,St.inc,St.set,St.put]
    · by_cases h2 : j = x
      · subst h2; simp [h1,St.tok,hc2]
      · simp [h1,h2]
  · funext t
    have e1 : (σ.new x o d).m t = if t = [x + 1,σ.c x] then some o else σ.m t:=rfl
    have e2 : ((σ.adopt y d' m').new x o d).m t = if t = [x + 1,σ.c x] then some o else (σ.adopt y d' m').m t:=by
      show (if t = [x + 1,(σ.adopt y d' m').c x] then some o else (σ.adopt y d' m').m t) = _
      rw [hc2]
    rw [e2]
    match t with
    | []=>rfl
    | [a]=>
      show (σ.new x o d).m [a] = if [a] = [x + 1,σ.c x] then some o else (σ.adopt y d' m').m [a]
      rw [if_neg (by simp)]
      rw [show (σ.adopt y d' m').m [a] = σ.m [a] from rfl]
      show (if [a] = [x + 1,σ.c x] then some o else σ.m [a]) = _
      rw [if_neg (by simp)]
    | a :: b :: r=>
      show (if a = y + 1∧b = (σ.new x o d).c y then (m' r).map (HO.ren fun t=>(y + 1) :: (σ.new x o d).c y :: t) else (σ.new x o d).m (a :: b :: r)) =
        if a :: b :: r = [x + 1,σ.c x] then some o else if a = y + 1∧b = σ.c y then (m' r).map (HO.ren fun t=>(y + 1) :: σ.c y :: t) else σ.m (a :: b :: r)
      rw [hc]
      by_cases h1 : a = y + 1∧b = σ.c y
      · rw [if_pos h1,if_neg,if_pos h1]
        intro e
        simp only [List.cons.injEq] at e
        omega
      · rw [if_neg h1,if_neg h1]
        rfl
  · funext j
    have a1 : ((σ.new x o d).adopt y d' m').c j = if j = y then (σ.new x o d).c j + 1 else (σ.new x o d).c j:=rfl
    have a2 : ((σ.adopt y d' m').new x o d).c j = if j = x then (σ.adopt y d' m').c j + 1 else (σ.adopt y d' m').c j:=rfl
    have a3 : (σ.new x o d).c j = if j = x then σ.c j + 1 else σ.c j:=rfl
    have a4 : (σ.adopt y d' m').c j = if j = y then σ.c j + 1 else σ.c j:=rfl
    rw [a1,a2,a3,a4]
    by_cases h1 : j = y
    · subst h1; simp [h]
    · by_cases h2 : j = x
      · subst h2; simp [h1]
      · simp [h1,h2]
theorem box_ahead1 {Γ : Env} {x : Nat} {d : D} {b : VStm} {σ σ1 σ2 : St} (W : WF σ) (hb : boxOK x b = true) (h1 : b.run Γ σ = some σ1) (h2 : (VStm.eff (.box x (.c d)) none).run Γ σ1 = some σ2) :
    ∃ σ3,(VStm.eff (.box x (.c d)) none).run Γ σ = some σ3∧b.run Γ σ3 = some σ2:=by
  have box : ∀ σ : St,(VStm.eff (.box x (.c d)) none).run Γ σ = if d.cells.all D.okC then some (σ.new x (.box d.cells) (.ptr (σ.tok x) 0)) else none:=fun _=>rfl
  rw [box] at h2
  split at h2
  · rename_i hok
    cases h2
    refine ⟨_,by rw [box,if_pos hok],?_⟩
    cases b with
    | op y k args g=>
      simp only [boxOK,Bool.and_eq_true,bne_iff_ne,ne_eq,Bool.not_eq_true',List.contains_eq_mem,decide_eq_false_iff_not] at hb
      obtain ⟨d',rfl,hc⟩:=op_run_congr h1
      rw [hc _ (fun j hj=>St.new_s fun e=>hb.2 (by rw [← e]; exact hj)) (.inl (MSub.new W _ _ _)),St.tok_set]
      rw [St.new_set hb.1]
    | eff e g=>
      cases e <;> cases g <;> simp only [boxOK] at hb <;> try (cases hb; done)
      rename_i y f args
      simp only [Bool.and_eq_true,bne_iff_ne,ne_eq,Bool.not_eq_true',List.contains_eq_mem,decide_eq_false_iff_not] at hb
      have r1 : ∀ σ : St,(VStm.eff (.callq y f args) none).run Γ σ = callqV Γ y f (args.map (VArg.val σ.s)) σ:=fun _=>rfl
      rw [r1] at h1 ⊢
      unfold callqV at h1 ⊢
      rw [Option.bind_eq_some_iff] at h1
      obtain ⟨as',ha,h1⟩:=h1
      obtain ⟨q,hq,rfl⟩:=Option.map_eq_some_iff.1 h1
      have e1 : args.map (VArg.val (σ.new x (.box d.cells) (.ptr (σ.tok x) 0)).s) = args.map (VArg.val σ.s):=vals_congr fun j hj=>St.new_s fun e=>hb.2 (by rw [← e]; exact hj)
      rw [e1,mapM_mono (fun _ _=>viewA_mono (MSub.new W _ _ _)) ha,Option.bind_some,hq,Option.map_some,new_adopt hb.1]
      have : (σ.adopt y q.1 q.2).tok x = σ.tok x:=by simp [St.tok,St.adopt,Ne.symm hb.1]
      rw [this]
    | nxt=>cases h1
    | bad=>cases h1
  · cases h2
theorem box_ahead {Γ : Env} {x : Nat} {d : D} {post : List VStm} : ∀ {pre : List VStm} {σ σ' : St},WF σ→pre.all (boxOK x) = true→runs Γ (pre ++ .eff (.box x (.c d)) none :: post) σ = some σ'→runs Γ (.eff (.box x (.c d)) none :: (pre ++ post)) σ = some σ'
  | [],σ,σ',_,_,h=>h
  | b :: pre,σ,σ',W,hb,h=>by
    simp only [List.all_cons,Bool.and_eq_true] at hb
    simp only [List.cons_append,runs] at h
    rw [Option.bind_eq_some_iff] at h
    obtain ⟨σ1,h1,h2⟩:=h
    have h3:=box_ahead (run_mem W h1).1 hb.2 h2
    simp only [runs] at h3
    rw [Option.bind_eq_some_iff] at h3
    obtain ⟨σ2,h4,h5⟩:=h3
    obtain ⟨σ3,h6,h7⟩:=box_ahead1 W hb.1 h1 h4
    simp only [List.cons_append,runs,h6,Option.bind_some,h7]
    exact h5
theorem runs_app {Γ : Env} : ∀ {a b : List VStm} {s s' : St},runs Γ (a ++ b) s = some s' ↔ ∃ s1,runs Γ a s = some s1∧runs Γ b s1 = some s'
  | [],b,s,s'=>by simp [runs]
  | c :: a,b,s,s'=>by
    simp only [List.cons_append,runs]
    cases c.run Γ s with
    | none=>simp
    | some s1=>simp only [Option.bind_some]; exact runs_app
def Ahead (l l' : List VStm) : Prop:=∃ (p pre post : List VStm) (x : Nat) (d : D),l = p ++ (pre ++ .eff (.box x (.c d)) none :: post)∧l' = p ++ (.eff (.box x (.c d)) none :: (pre ++ post))∧pre.all (boxOK x) = true
theorem ahead_at {l l' : List VStm} (i j x : Nat) (d : D) (hj : l[j]? = some (.eff (.box x (.c d)) none)) (hij : i≤j) (hok : ((l.drop i).take (j - i)).all (boxOK x) = true)
    (hl : l' = l.take i ++ (.eff (.box x (.c d)) none :: ((l.drop i).take (j - i) ++ l.drop (j + 1)))) : Ahead l l':=by
  refine ⟨l.take i,(l.drop i).take (j - i),l.drop (j + 1),x,d,?_,hl,hok⟩
  obtain ⟨h,hj⟩:=List.getElem?_eq_some_iff.1 hj
  have e1 : .eff (.box x (.c d)) none :: l.drop (j + 1) = l.drop j:=by rw [← hj]; exact List.getElem_cons_drop h
  rw [e1,show l.drop j = (l.drop i).drop (j - i) by rw [List.drop_drop]; congr 1; omega,List.take_append_drop,List.take_append_drop]
theorem Ahead.runs {Γ : Env} {l l' : List VStm} {s s' : St} (h : Ahead l l') (W : WF s) (hr : runs Γ l s = some s') : runs Γ l' s = some s':=by
  obtain ⟨p,pre,post,x,d,rfl,rfl,hb⟩:=h
  obtain ⟨s1,h1,h2⟩:=runs_app.1 hr
  exact runs_app.2 ⟨s1,h1,box_ahead (runs_wf W h1) hb h2⟩
theorem wwp_drw_a {Γ : Env} {Q : VE→St→Prop} {s : St} {sts0 : List VStm} {rest : List (List VStm)} (W : WF s) (hr : ∀ l ∈ rest,Ahead sts0 l) (h : runK (runs Γ sts0 s) (Q .normal)) : wwp Γ (.drw (sts0 :: rest)) Q s:=by
  obtain ⟨s',h1,h2⟩:=h
  refine ⟨s',fun sts hs=>?_,h2⟩
  rcases List.mem_cons.1 hs with rfl | hs
  · exact ⟨s',h1,Sub.refl _⟩
  · exact ⟨s',(hr _ hs).runs W h1,Sub.refl _⟩
theorem wwp_drwW {Γ : Env} {Q : VE→St→Prop} {s : St} {sts0 : List VStm} {rest : List (List VStm)} {b : WC} (W : WF s) (hr : ∀ l ∈ rest,Ahead sts0 l) (I : St→Prop) (h : runK (runs Γ sts0 s) I) (h2 : ∀ s',WF s'→I s'→wwp Γ b Q s') : wwp Γ (.seq (.drw (sts0 :: rest)) b) Q s:=by
  obtain ⟨s',h1,hi⟩:=h
  exact wwp_drw_a W hr ⟨s',h1,h2 s' (runs_wf W h1) hi⟩
def hd (t : Tok) (L : List Int) : D:=if L = [] then .nil else .sl t 1 0 L.length none
def IA (m : Mem) (t : Tok) (L : List Int) : Prop:=L ≠ []→∃ g,m t = some (.row g 3 (ints L))
@[simp] theorem hd_def (t : Tok) (L : List Int) : (hd t L).isDef = true:=by unfold hd; split <;> rfl
@[simp] theorem hd_okC (t : Tok) (L : List Int) : (hd t L).okC = true:=by unfold hd; split <;> rfl
@[simp] theorem hd_len (t : Tok) (L : List Int) : (hd t L).lenD = some L.length:=by
  unfold hd
  split
  · rename_i h; subst h; rfl
  · rfl
theorem hd_viewC {m : Mem} {t : Tok} {L : List Int} (h : IA m t L) (n : Nat) : viewC m (n + 1) (hd t L) = some (.list (ints L)):=by
  unfold hd
  split
  · rename_i h; subst h; rfl
  · rename_i hne
    obtain ⟨g,hg⟩:=h hne
    simp [hg]
@[simp] theorem hd_ren (f : Tok→Tok) (t : Tok) (L : List Int) : (hd t L).ren f = hd (f t) L:=by unfold hd; split <;> rfl
theorem IA.old {m m' : Mem} {t : Tok} {L : List Int} (h : IA m t L) (hm : ∀ g,m t = some (.row g 3 (ints L))→m' t = some (.row g 3 (ints L))) : IA m' t L:=fun hne=>by
  obtain ⟨g,hg⟩:=h hne
  exact ⟨g,hm g hg⟩
def hdMem (L : List Int) : Mem:=if L = [] then noMem else rowMem 3 (ints L)
theorem IA.adopt {σ : St} {x : Nat} {d : D} {L : List Int} : IA (σ.adopt x d (hdMem L)).m [x + 1,σ.c x] L:=fun hne=>by
  refine ⟨[x + 1,σ.c x,0],?_⟩
  have e : hdMem L = rowMem 3 (ints L):=if_neg hne
  rw [e]
  simp [St.adopt]
end Go.Proofs.Ytpmgaaalfdjikaa
namespace Go.Proofs.Ytpmgaaalfdjikaa
open Go.RowKit
set_option linter.unusedSimpArgs false
set_option linter.unusedVariables false
structure Groups (ps : List (Int × List Row)) (P : List Row) : Prop where
  nodup : (ps.map (·.1)).Nodup
  each : ∀ p ∈ ps,p.2 = P.filter fun x=>x.s == p.1
  all : ∀ x ∈ P,x.s ∈ ps.map (·.1)
theorem Groups.push {ps : List (Int × List Row)} {P : List Row} (h : Groups ps P) (x : Row) : Groups (addPlay ps x) (P ++ [x]):=by
  unfold addPlay
  split
  · rename_i i hi
    obtain ⟨hil,hk,_⟩:=List.findIdx?_eq_some_iff_getElem.1 hi
    have hk : ps[i].1 = x.s:=(by simpa using hk : x.s = ps[i].1).symm
    have hfst : (ps.set i (x.s,(ps.getD i (0,[])).2 ++ [x])).map (·.1) = ps.map (·.1):=by
      rw [List.map_set]
      apply List.ext_getElem (by simp)
      intro j h1 h2
      rw [List.getElem_set]
      split
      · rename_i e; subst e; simp [hk]
      · rfl
    refine ⟨by rw [hfst]; exact h.nodup,fun p hp=>?_,fun y hy=>?_⟩
    · obtain ⟨j,hj,rfl⟩:=List.getElem_of_mem hp
      rw [List.length_set] at hj
      rw [List.getElem_set]
      split
      · rename_i e
        subst e
        simp only [List.getD,List.getElem?_eq_getElem hil,Option.getD_some,List.filter_append]
        rw [h.each _ (List.getElem_mem hil),hk]
        simp
      · rename_i e
        have hne : ps[j].1 ≠ x.s:=fun e2=>by
          have:=List.pairwise_iff_getElem.1 h.nodup
          have hj' : j < (ps.map (·.1)).length:=by simpa using hj
          have hi' : i < (ps.map (·.1)).length:=by simpa using hil
          rcases Nat.lt_or_gt_of_ne e with h1 | h1
          · exact this i j hi' hj' h1 (by simp [hk,e2])
          · exact this j i hj' hi' h1 (by simp [hk,e2])
        rw [List.filter_append,h.each _ (List.getElem_mem hj)]
        simp [Ne.symm hne]
    · rw [hfst]
      rcases List.mem_append.1 hy with hy | hy
      · exact h.all y hy
      · rw [List.mem_singleton.1 hy,← hk]
        exact List.mem_map.2 ⟨ps[i],List.getElem_mem hil,rfl⟩
  · rename_i hi
    have hno : ∀ p ∈ ps,p.1 ≠ x.s:=fun p hp e=>by
      have:=List.findIdx?_eq_none_iff.1 hi p hp
      simp [e] at this
    refine ⟨?_,fun p hp=>?_,fun y hy=>?_⟩
    · rw [List.map_append,List.nodup_append]
      refine ⟨h.nodup,by simp,fun a ha b hb=>?_⟩
      obtain ⟨p,hp,rfl⟩:=List.mem_map.1 ha
      simp only [List.map_cons,List.map_nil,List.mem_singleton] at hb
      subst hb
      exact hno p hp
    · rcases List.mem_append.1 hp with hp | hp
      · rw [List.filter_append,h.each p hp]
        simp [Ne.symm (hno p hp)]
      · rw [List.mem_singleton.1 hp,List.filter_append]
        have : P.filter (fun y=>y.s == x.s) = []:=List.filter_eq_nil_iff.2 fun y hy e=>by
          obtain ⟨p,hp,he⟩:=List.mem_map.1 (h.all y hy)
          exact hno p hp (by rw [he]; simpa using e)
        simp [this]
    · rw [List.map_append]
      rcases List.mem_append.1 hy with hy | hy
      · exact List.mem_append_left _ (h.all y hy)
      · rw [List.mem_singleton.1 hy]; simp
theorem groups_fold : ∀ (l : List Row) (ps : List (Int × List Row)) (P : List Row),Groups ps P→Groups (l.foldl addPlay ps) (P ++ l)
  | [],ps,P,h=>by simpa using h
  | x :: l,ps,P,h=>by
    have:=groups_fold l _ _ (h.push x)
    simpa using this
theorem groups (l : List Row) : Groups (playsOf l) (l.filter played):=by
  have:=groups_fold (l.filter played) [] [] ⟨by simp,by simp,by simp⟩
  simpa [playsOf] using this
theorem sum_map_add {α : Type} (f g : α→Int) : ∀ l : List α,(l.map fun x=>f x + g x).sum = (l.map f).sum + (l.map g).sum
  | []=>by simp
  | x :: l=>by simp only [List.map_cons,List.sum_cons,sum_map_add f g l]; omega
theorem sum_map_zero {α : Type} (l : List α) : (l.map fun _=>(0 : Int)).sum = 0:=by
  induction l with
  | nil=>rfl
  | cons x l ih=>simp [ih]
theorem sum_pick (v : Int) (k : Int) : ∀ {ks : List Int},ks.Nodup→k ∈ ks→(ks.map fun s=>if k = s then v else 0).sum = v
  | s :: ks,hn,hk=>by
    rw [List.nodup_cons] at hn
    rw [List.map_cons,List.sum_cons]
    by_cases e : k = s
    · subst e
      have : (ks.map fun s=>if k = s then v else 0) = ks.map fun _=>0:=List.map_congr_left fun s hs=>by
        rw [if_neg]; rintro rfl; exact hn.1 hs
      rw [this,sum_map_zero,if_pos rfl]; omega
    · rw [if_neg e,sum_pick v k hn.2 ((List.mem_cons.1 hk).resolve_left e)]; omega
theorem sum_groups (f : Row→Int) {ks : List Int} (hn : ks.Nodup) : ∀ {P : List Row},(∀ x ∈ P,x.s ∈ ks)→(ks.map fun s=>((P.filter fun x=>x.s == s).map f).sum).sum = (P.map f).sum
  | [],_=>by simp [sum_map_zero]
  | x :: P,h=>by
    have ih:=sum_groups f hn (P:=P) fun y hy=>h y (List.mem_cons_of_mem _ hy)
    have e : (ks.map fun s=>(((x :: P).filter fun x=>x.s == s).map f).sum) = ks.map fun s=>(if x.s = s then f x else 0) + ((P.filter fun x=>x.s == s).map f).sum:=List.map_congr_left fun s _=>by
      by_cases hs : x.s = s
      · simp [List.filter_cons,hs]
      · simp [List.filter_cons,hs]
    rw [e,sum_map_add,ih,sum_pick _ _ hn (h x List.mem_cons_self),List.map_cons,List.sum_cons]
def playsN (P : List Row) (s : Int) : Nat:=(P.filter fun x=>x.s == s).length
def pairC (P : List Row) (i : Nat) (a b : Row) : Int:=if b.s = a.s then contr (playsN P a.s) a b i else 0
def allC (P : List Row) (i : Nat) : Int:=(P.map fun a=>(P.map fun b=>pairC P i a b).sum).sum
theorem sum_filter (f : Row→Int) (p : Row→Bool) : ∀ l : List Row,((l.filter p).map f).sum = (l.map fun x=>if p x = true then f x else 0).sum
  | []=>rfl
  | x :: l=>by
    cases hp : p x <;> simp [List.filter_cons,hp,sum_filter f p l]
theorem allSum_eq (l : List Row) (i : Nat) : allSum (playsOf l) i = allC (l.filter played) i:=by
  obtain ⟨g1,g2,g3⟩:=groups l
  obtain ⟨P,hP⟩ : ∃ P,P = l.filter played:=⟨_,rfl⟩
  rw [← hP] at g2 g3 ⊢
  unfold allSum allC
  rw [← sum_groups _ g1 g3,List.map_map]
  congr 1
  refine List.map_congr_left fun p hp=>?_
  simp only [Function.comp]
  unfold setSum sumA
  rw [g2 p hp]
  congr 1
  refine List.map_congr_left fun a ha=>?_
  have has : a.s = p.1:=by simpa using (List.mem_filter.1 ha).2
  unfold sumB
  rw [sum_filter]
  congr 1
  refine List.map_congr_left fun b _=>?_
  simp only [pairC,playsN,has,beq_iff_eq]
theorem sum_bound {α : Type} (f : α→Int) (B : Nat) : ∀ l : List α,(∀ x ∈ l,-(B : Int)≤f x∧f x≤B)→-((l.length * B : Nat) : Int)≤(l.map f).sum∧(l.map f).sum≤((l.length * B : Nat) : Int)
  | [],_=>by simp
  | x :: l,h=>by
    have ih:=sum_bound f B l fun y hy=>h y (List.mem_cons_of_mem _ hy)
    have hx:=h x List.mem_cons_self
    rw [List.map_cons,List.sum_cons,List.length_cons,Nat.succ_mul]
    omega
theorem hit_bound (q i : Nat) (v : Int) : (hit q i v = 0 ∨ hit q i v = v):=by unfold hit; split <;> simp
theorem contr_bound (n : Nat) (a b : Row) (i : Nat) : -((2 * n + 4 : Nat) : Int)≤contr n a b i∧contr n a b i≤((2 * n + 4 : Nat) : Int):=by
  unfold contr
  split
  · have h1:=hit_bound (cellOf a.ns a.ew) i ((n : Int) - 1)
    have h2:=hit_bound (cellOf a.ew a.ns) i ((n : Int) - 1)
    omega
  · have h1:=hit_bound (cellOf a.ns b.ns) i 1
    have h2:=hit_bound (cellOf a.ew b.ew) i 1
    have h3:=hit_bound (cellOf a.ns b.ew) i (-1)
    have h4:=hit_bound (cellOf a.ew b.ns) i (-1)
    omega
theorem allC_bound {P : List Row} (hl : P.length≤60) (i : Nat) : -1000000≤allC P i∧allC P i≤1000000:=by
  have h1 : ∀ a b,-((124 : Nat) : Int)≤pairC P i a b∧pairC P i a b≤((124 : Nat) : Int):=fun a b=>by
    unfold pairC
    have hn : playsN P a.s≤60:=Nat.le_trans (List.length_filter_le _ _) hl
    split
    · have:=contr_bound (playsN P a.s) a b i; omega
    · omega
  have h2 : ∀ a ∈ P,-((60 * 124 : Nat) : Int)≤(P.map fun b=>pairC P i a b).sum∧(P.map fun b=>pairC P i a b).sum≤((60 * 124 : Nat) : Int):=fun a _=>by
    have:=sum_bound (fun b=>pairC P i a b) 124 P fun b _=>h1 a b
    have : P.length * 124≤60 * 124:=Nat.mul_le_mul_right _ hl
    omega
  have h3:=sum_bound _ _ P h2
  have : P.length * (60 * 124)≤60 * (60 * 124):=Nat.mul_le_mul_right _ hl
  unfold allC
  omega
def cont (l : List Row) (i : Nat) : Int:=if i / 50 = i % 50∧1≤i / 50 then 0 else allC (l.filter played) i
theorem cont_bound {l : List Row} (hl : l.length≤60) (i : Nat) : -1000000≤cont l i∧cont l i≤1000000:=by
  unfold cont
  split
  · omega
  · exact allC_bound (Nat.le_trans (List.length_filter_le _ _) hl) i
theorem conT_eq {m : Mv} (hl : m.rows.length≤60) (i : Nat) : conT m i = cont m.rows i:=by
  have h:=allC_bound (P:=m.rows.filter played) (Nat.le_trans (List.length_filter_le _ _) hl) i
  unfold conT cont
  rw [allSum_eq]
  split
  · rfl
  · exact wrap_in (by omega) (by omega)
theorem sum_nonneg {α : Type} (f : α→Int) (B : Nat) : ∀ l : List α,(∀ x ∈ l,0≤f x∧f x≤B)→0≤(l.map f).sum∧(l.map f).sum≤((l.length * B : Nat) : Int)
  | [],_=>by simp
  | x :: l,h=>by
    have ih:=sum_nonneg f B l fun y hy=>h y (List.mem_cons_of_mem _ hy)
    have hx:=h x List.mem_cons_self
    rw [List.map_cons,List.sum_cons,List.length_cons,Nat.succ_mul]
    omega
theorem sq_bound {x : Int} (h : -1000000≤x∧x≤1000000) : 0≤x * x∧x * x≤1000000000000:=by
  rcases Int.le_total 0 x with h0 | h0
  · exact ⟨Int.mul_nonneg h0 h0,Int.mul_le_mul h.2 h.2 h0 (by omega)⟩
  · have e : x * x = (-x) * (-x):=by rw [Int.neg_mul_neg]
    rw [e]
    have h1 : 0≤-x:=by omega
    have h2 : -x≤1000000:=by omega
    exact ⟨Int.mul_nonneg h1 h1,Int.mul_le_mul h2 h2 h1 (by omega)⟩
theorem sqOut_bound {E : Nat→Int} (h : ∀ i,-1000000≤E i∧E i≤1000000) : 0≤sqOut E 50∧sqOut E 50≤2500000000000000:=by
  have h1 : ∀ a ∈ List.range 50,0≤sqIn E a 50∧sqIn E a 50≤((50000000000000 : Nat) : Int):=fun a _=>by
    have:=sum_nonneg (fun k=>if a < k then E (a * 50 + k) * E (a * 50 + k) else 0) 1000000000000 (List.range 50) fun k _=>by
      split
      · exact sq_bound (h _)
      · omega
    simpa [sqIn] using this
  have:=sum_nonneg _ _ (List.range 50) h1
  simpa [sqOut] using this
theorem unbV_eq {m : Mv} (hl : m.rows.length≤60) : unbV m = sqOut (cont m.rows) 50:=by
  have e : conT m = cont m.rows:=funext fun i=>conT_eq hl i
  have:=sqOut_bound (E:=cont m.rows) fun i=>cont_bound hl i
  unfold unbV
  rw [e]
  exact wrap_in (by omega) (by omega)
theorem bestGo_law (f : List Int→Int) (Ls : List (List Int)) : ∀ k,0 < k→∃ a : Nat,a < k∧bestGo f Ls k = ((a : Int),f (Ls.getD a []))∧(∀ j,j < k→f (Ls.getD a [])≤f (Ls.getD j []))∧∀ j,j < a→f (Ls.getD a []) < f (Ls.getD j [])
  | 1,_=>by
    refine ⟨0,by omega,by simp [bestGo],fun j hj=>?_,fun j hj=>by omega⟩
    have : j = 0:=by omega
    subst this
    exact Int.le_refl _
  | k + 2,_=>by
    obtain ⟨a,h1,h2,h3,h4⟩:=bestGo_law f Ls (k + 1) (by omega)
    rw [bestGo]
    by_cases hlt : f (Ls.getD (k + 1) []) < f (Ls.getD a [])
    · refine ⟨k + 1,by omega,?_,fun j hj=>?_,fun j hj=>?_⟩
      · rw [if_pos (.inr (by rw [h2]; exact hlt))]
      · by_cases e : j = k + 1
        · subst e; exact Int.le_refl _
        · have:=h3 j (by omega); omega
      · have:=h3 j (by omega); omega
    · refine ⟨a,by omega,?_,fun j hj=>?_,h4⟩
      · rw [if_neg (by rw [h2]; simp only; omega),h2]
      · by_cases e : j = k + 1
        · subst e; omega
        · exact h3 j (by omega)
end Go.Proofs.Ytpmgaaalfdjikaa
namespace Go.Proofs.Ytpmgaaalfdjikaa
open Go.RowKit
set_option linter.unusedSimpArgs false
set_option linter.unusedVariables false
def u16s (l : List Nat) : List (List D):=l.map fun (n : Nat)=>[.v (.int .u16 n)]
@[simp] theorem u16s_len (l : List Nat) : (u16s l).length = l.length:=by simp [u16s]
@[simp] theorem u16s_ex (l : List Nat) : (∃ x,x ∈ u16s l∧¬ x.length = 1) = False:=by
  simp only [eq_iff_iff,iff_false]; rintro ⟨x,hx,h⟩; obtain ⟨y,_,rfl⟩:=List.mem_map.1 hx; exact h rfl
def hdOf (x j : Nat) (L : List Int) : D:=if L = [] then .nil else .sl [x,j] 1 0 L.length none
def hdsFrom (x : Nat) : Nat→List (List Int)→List (List D)
  | _,[]=>[]
  | j,L :: Ls=>[hdOf x j L] :: hdsFrom x (j + 1) Ls
theorem hdsFrom_size (x : Nat) : ∀ (Ls : List (List Int)) (j : Nat),∀ c ∈ hdsFrom x j Ls,c.length = 1
  | [],_,c,h=>by simp [hdsFrom] at h
  | L :: Ls,j,c,h=>by
    simp only [hdsFrom,List.mem_cons] at h
    rcases h with rfl | h
    · rfl
    · exact hdsFrom_size x Ls (j + 1) c h
@[simp] theorem hdsFrom_fa (x j : Nat) (Ls : List (List Int)) : (∀ c,c ∈ hdsFrom x j Ls→c.length = 1) = True:=by
  simp only [eq_iff_iff,iff_true]; exact hdsFrom_size x Ls j
@[simp] theorem hdsFrom_ex (x j : Nat) (Ls : List (List Int)) : (∃ c,c ∈ hdsFrom x j Ls∧¬ c.length = 1) = False:=by
  simp only [eq_iff_iff,iff_false]; rintro ⟨c,h1,h2⟩; exact h2 (hdsFrom_size x Ls j c h1)
def LsAt (x : Nat) (m : Mem) (j : Nat) (Ls : List (List Int)) : Prop:=∀ i L,Ls[i]? = some L→L ≠ []→m [x,j + i] = some (.row [x,j + i,0] 3 (ints L))
theorem LsAt.old {x : Nat} {m m' : Mem} {Ls : List (List Int)} {j : Nat} (h : LsAt x m j Ls) (hm : ∀ i,i < Ls.length→∀ es,m [x,j + i] = some (.row [x,j + i,0] 3 es)→m' [x,j + i] = some (.row [x,j + i,0] 3 es)) : LsAt x m' j Ls:=
  fun i L hi hL=>hm i (List.getElem?_eq_some_iff.1 hi).1 _ (h i L hi hL)
theorem LsAt.snoc {x : Nat} {m : Mem} {Ls : List (List Int)} {j : Nat} (h : LsAt x m j Ls) {L : List Int} (hL : L ≠ []→m [x,j + Ls.length] = some (.row [x,j + Ls.length,0] 3 (ints L))) : LsAt x m j (Ls ++ [L]):=fun i L' hi hne=>by
  by_cases hlt : i < Ls.length
  · rw [List.getElem?_append_left hlt] at hi; exact h i L' hi hne
  · have : i = Ls.length:=by
      have:=(List.getElem?_eq_some_iff.1 hi).1
      simp at this; omega
    subst this
    simp at hi
    subst hi
    exact hL hne
def varOf (x k : Nat) : D:=if k = 0 then .nil else .sl [x,k - 1] 1 0 k none
end Go.Proofs.Ytpmgaaalfdjikaa
namespace Go.Proofs.Ytpmgaaalfdjikaa
open Go.RowKit Go.ChangeShapes Go.WideShapes Go.ChangeAt
set_option linter.unusedSimpArgs false
set_option linter.unusedVariables false
set_option linter.constructorNameAsVariable false
theorem S18_at (m : Mv) : S18 [.agg m.cells] = some (.tup [iv (unbR m).1,iv (unbR m).2]):=by simp [S18,Mv.cells,Mv.cellsW]
theorem asMv_of (m : Mv) : asMv m.cells = some m:=by simp only [Mv.cells,Mv.cellsW,asMv_cells]
theorem S15_at (m : Mv) (Ls : List (List Int)) (hl : Ls.length≤1000000) (hL : ∀ L ∈ Ls,L.length≤1000000) : S15 [.agg m.cells,.list (lists Ls)] = some (.tup [iv (bestR m Ls).1,iv (bestR m Ls).2]):=by
  simp only [S15,Mv.cells,Mv.cellsW,asMv_cells,asLists_lists,Option.bind_some]
  rw [if_pos ⟨hl,List.all_eq_true.2 fun L h=>decide_eq_true (hL L h)⟩]
theorem bestR_ok {m : Mv} {Ls : List (List Int)} (hf : fitB m = true) (h64 : Ls.length≤64) (h0 : 0 < Ls.length) (hL : ∀ L ∈ Ls,listOK m.r (-1) L = true) : bestR m Ls = ((bestGo (fun L=>unbV (exch m L)) Ls Ls.length).1,0):=by
  have h1 : bestE m Ls = 0:=by
    unfold bestE
    rw [if_pos hf,if_neg (by omega),if_neg (by omega),if_pos (List.all_eq_true.2 fun L h=>by simpa using hL L h)]
  unfold bestR
  rw [if_pos h1]
end Go.Proofs.Ytpmgaaalfdjikaa
namespace Go.Proofs.Ytpmgaaalfdjikaa
open Go.RowKit
set_option linter.unusedSimpArgs false
set_option linter.unusedVariables false
theorem Row.eq_iff {a b : Row} : (a = b) ↔ (a.r = b.r∧a.t = b.t∧a.ns = b.ns∧a.ew = b.ew∧a.s = b.s):=by
  constructor
  · rintro rfl; simp
  · rintro ⟨h1,h2,h3,h4,h5⟩
    cases a
    cases b
    simp only at h1 h2 h3 h4 h5
    subst h1; subst h2; subst h3; subst h4; subst h5
    rfl
theorem row_ne (a b : Row) : (!a.r == b.r || (!a.t == b.t || (!a.ns == b.ns || (!a.ew == b.ew || !a.s == b.s)))) = !decide (a = b):=by
  rw [Bool.eq_iff_iff]
  simp only [Bool.or_eq_true,Bool.not_eq_true',beq_eq_false_iff_ne,decide_eq_false_iff_not,Row.eq_iff]
  omega
end Go.Proofs.Ytpmgaaalfdjikaa
namespace Go.Proofs.Ytpmgaaalfdjikaa
open Go.RowKit
set_option linter.unusedSimpArgs false
set_option linter.unusedVariables false
def W26 : WC × List VRes:=(.seq (.reg [.stm (.eff (.box 1 (.t 0)) none),.set [(2,.c .nil),(3,.c (.v (.int .i64 0)))] [2,3]]) (.seq (.seq (.reg [.set [(10,.ap .inot [.ap (.call 27) [.ap (.load 6 true) [.t 1]]])] [8,9,10]]) (.cond (.t 10) (.seq (.reg [.set [(2,.c .nil),(3,.c (.v (.int .i64 290)))] [2,3]]) .ret) .skip)) (.seq (.reg [.set [(4,.ap (.call 53) [.ap (.load 6 true) [.t 1]])] [11,12,4]]) (.seq (.reg [.set [(13,.ap (.load 6 true) [.t 1])] [13],.stm (.eff (.callq 14 54 [.t 13]) none),.set [(5,.t 14)] [5]]) (.seq (.reg [.set [(6,.c .nil)] [6]]) (.seq (.seq (.reg [.set [(7,.c (.v (.int .i64 1)))] [7]]) (.block 0 (.loop (.seq (.seq (.reg [.set [(17,.ap (.ibin .leq) [.t 7,.t 4])] [15,16,17]]) (.cond (.t 17) .skip (.exit 0))) (.seq (.block 1 (.reg [.set [(20,.t 6),(27,.ap (.sla 50 true true) [.ap (.aidx 50 50) [.ap .chk [.t 5],.t 7],.c (.v (.int .i64 1)),.ap (.ibin .add) [.t 4,.c (.v (.int .i64 1))]])] [20,21,22,23,24,25,26,27],.stm (.eff (.callq 28 55 [.t 27]) none),.stm (.eff (.lit 29 34 1 1 [.nil] [(0,1)] [.t 28]) none),.stm (.eff (.app 30 34 1 (.t 20) (.t 29)) none),.set [(6,.t 30)] [6]])) (.reg [.set [(7,.ap (.ibin .add) [.t 7,.c (.v (.int .i64 1))])] [18,19,7]])))))) (.seq (.reg [.set [(2,.t 6),(3,.c (.v (.int .i64 0)))] [31,2,3]]) .ret)))))),[.t 2,.t 3])
theorem is26 : IsFn Try.prog frOf 26 Try.f26 W26:=⟨by kernel_rfl,by kernel_rfl,by kernel_rfl⟩
theorem nt26 : Try.f26.ntmps = 32:=by kernel_rfl
def W30 : WC × List VRes:=(.seq (.reg [.set [(4,.c (.v (.bool false)))] [4]]) (.seq (.seq (.reg [.set [(10,.ap (.ibin .neq) [.ap .llen [.t 0],.ap .llen [.t 1]])] [6,7,8,9,10]]) (.cond (.t 10) (.seq (.reg [.set [(4,.c (.v (.bool false)))] [4]]) .ret) .skip)) (.seq (.seq (.reg [.set [(5,.c (.v (.int .i64 0)))] [5]]) (.block 0 (.loop (.seq (.seq (.reg [.set [(14,.ap (.ibin .lss) [.t 5,.ap .llen [.t 0]])] [11,12,13,14]]) (.cond (.t 14) .skip (.exit 0))) (.seq (.block 1 (.seq (.reg [.set [(26,.ap .inot [.ap (.call 38) [.ap (.load 1 false) [.ap (.idx 34 1) [.t 0,.t 5]],.ap (.load 1 false) [.ap (.idx 34 1) [.t 1,.t 5]]]])] [17,18,19,20,21,22,23,24,25,26]]) (.cond (.t 26) (.seq (.reg [.set [(4,.c (.v (.bool false)))] [4]]) .ret) .skip))) (.reg [.set [(5,.ap (.ibin .add) [.t 5,.c (.v (.int .i64 1))])] [15,16,5]])))))) (.seq (.reg [.set [(4,.c (.v (.bool true)))] [4]]) .ret))),[.t 4])
theorem is30 : IsFn Try.prog frOf 30 Try.f30 W30:=⟨by kernel_rfl,by kernel_rfl,by kernel_rfl⟩
theorem nt30 : Try.f30.ntmps = 27:=by kernel_rfl
def hdsF (tk : Nat→Tok) : Nat→List (List Int)→List (List D)
  | _,[]=>[]
  | j,L :: Ls=>[hd (tk j) L] :: hdsF tk (j + 1) Ls
theorem hdsF_len (tk : Nat→Tok) : ∀ (Ls : List (List Int)) (j : Nat),(hdsF tk j Ls).length = Ls.length
  | [],_=>rfl
  | _ :: Ls,j=>by simp [hdsF,hdsF_len tk Ls (j + 1)]
theorem hdsF_snoc (tk : Nat→Tok) (L : List Int) : ∀ (Ls : List (List Int)) (j : Nat),hdsF tk j (Ls ++ [L]) = hdsF tk j Ls ++ [[hd (tk (j + Ls.length)) L]]
  | [],j=>by simp [hdsF]
  | L' :: Ls,j=>by
    simp only [List.cons_append,hdsF,hdsF_snoc tk L Ls (j + 1),List.length_cons]
    rw [show j + 1 + Ls.length = j + (Ls.length + 1) by omega]
theorem hdsF_size (tk : Nat→Tok) : ∀ (Ls : List (List Int)) (j : Nat),∀ c ∈ hdsF tk j Ls,c.length = 1
  | [],_,c,h=>by simp [hdsF] at h
  | L :: Ls,j,c,h=>by
    simp only [hdsF,List.mem_cons] at h
    rcases h with rfl | h
    · rfl
    · exact hdsF_size tk Ls (j + 1) c h
@[simp] theorem hdsF_fa (tk : Nat→Tok) (j : Nat) (Ls : List (List Int)) : (∀ c,c ∈ hdsF tk j Ls→c.length = 1) = True:=by
  simp only [eq_iff_iff,iff_true]; exact hdsF_size tk Ls j
@[simp] theorem hdsF_ex (tk : Nat→Tok) (j : Nat) (Ls : List (List Int)) : (∃ c,c ∈ hdsF tk j Ls∧¬ c.length = 1) = False:=by
  simp only [eq_iff_iff,iff_false]; rintro ⟨c,h1,h2⟩; exact h2 (hdsF_size tk Ls j c h1)
theorem hdsF_at (tk : Nat→Tok) : ∀ (Ls : List (List Int)) (j k : Nat) (h : k < Ls.length),(hdsF tk j Ls)[k]? = some [hd (tk (j + k)) Ls[k]]
  | L :: Ls,j,0,h=>rfl
  | L :: Ls,j,k + 1,h=>by
    have:=hdsF_at tk Ls (j + 1) k (by simpa using h)
    simp only [hdsF,List.getElem?_cons_succ,List.getElem_cons_succ]
    rw [this,show j + 1 + k = j + (k + 1) by omega]
theorem hd_renC (f : Tok→Tok) (t : Tok) (L : List Int) : (hd t L).renC f = hd (f t) L:=by unfold hd; split <;> rfl
theorem hdsF_ren (tk : Nat→Tok) (f : Tok→Tok) : ∀ (Ls : List (List Int)) (j : Nat),(hdsF tk j Ls).map (List.map (D.renC f)) = hdsF (fun j=>f (tk j)) j Ls
  | [],_=>rfl
  | L :: Ls,j=>by simp only [hdsF,List.map_cons,List.map_nil,hd_renC,hdsF_ren tk f Ls (j + 1)]
def LsF (tk gr : Nat→Tok) (m : Mem) (j : Nat) (Ls : List (List Int)) : Prop:=∀ i L,Ls[i]? = some L→L ≠ []→m (tk (j + i)) = some (.row (gr (j + i)) 3 (ints L))
theorem view_listsF {tk gr : Nat→Tok} {m : Mem} {n : Nat} : ∀ {Ls : List (List Int)} {j : Nat},LsF tk gr m j Ls→viewRows (viewC m (n + 1)) (hdsF tk j Ls) = some (lists Ls)
  | [],j,_=>rfl
  | L :: Ls,j,h=>by
    have ih:=view_listsF (n:=n) (Ls:=Ls) (j:=j + 1) fun i L' hi hL=>by
      have:=h (i + 1) L' (by simpa using hi) hL
      rwa [show j + (i + 1) = j + 1 + i by omega] at this
    rw [hdsF,viewRows_cons (viewC m (n + 1)) _ _ (fun _=>rfl),ih]
    have h0 : viewRow (viewC m (n + 1)) [hd (tk j) L] = some [.list (ints L)]:=by
      rw [viewRow_cons (viewC m (n + 1)) _ _ (fun _=>rfl),hd_viewC (fun hne=>⟨_,by have:=h 0 L rfl hne; simpa using this⟩)]
      simp
    rw [h0]
    rfl
theorem LsF.old {tk gr : Nat→Tok} {m m' : Mem} {Ls : List (List Int)} {j : Nat} (h : LsF tk gr m j Ls) (hm : ∀ i,i < Ls.length→∀ es,m (tk (j + i)) = some (.row (gr (j + i)) 3 es)→m' (tk (j + i)) = some (.row (gr (j + i)) 3 es)) : LsF tk gr m' j Ls:=
  fun i L hi hL=>hm i (List.getElem?_eq_some_iff.1 hi).1 _ (h i L hi hL)
theorem LsF.snoc {tk gr : Nat→Tok} {m : Mem} {Ls : List (List Int)} {j : Nat} (h : LsF tk gr m j Ls) {L : List Int} (hL : L ≠ []→m (tk (j + Ls.length)) = some (.row (gr (j + Ls.length)) 3 (ints L))) : LsF tk gr m j (Ls ++ [L]):=fun i L' hi hne=>by
  by_cases hlt : i < Ls.length
  · rw [List.getElem?_append_left hlt] at hi; exact h i L' hi hne
  · have : i = Ls.length:=by
      have:=(List.getElem?_eq_some_iff.1 hi).1
      simp at this; omega
    subst this
    simp at hi
    subst hi
    exact hL hne
def tableMem (Ls : List (List Int)) : Mem:=fun t=>match t with
  | []=>some (.row [0] 34 (hdsF (fun j=>[j + 1]) 0 Ls))
  | [0]=>none
  | [k + 1]=>(Ls[k]?).bind fun L=>if L = [] then none else some (.row [0,k] 3 (ints L))
  | _=>none
def tableRen (t g : Tok) (tk gr : Nat→Tok) : Tok→Tok
  | []=>t
  | [0]=>g
  | [k + 1]=>tk k
  | [0,k]=>gr k
  | _=>[]
theorem Out.table {σ : St} {t g : Tok} {tk gr : Nat→Tok} {n : Nat} {Ls : List (List Int)} {x : Value} (h : σ.m t = some (.row g 34 (hdsF tk 0 Ls))) (hl : LsF tk gr σ.m 0 Ls) (ht : ∀ k,tk k ≠ t) (hi : ∀ j k,tk j = tk k→j = k) (hg : ∀ k,gr k ≠ g) (hgi : ∀ j k,gr j = gr k→j = k) :
    Out σ (.tup [.sl t 1 0 n none,.v x]) (.tup [.sl [] 1 0 n none,.v x]) (tableMem Ls):=by
  refine ⟨tableRen t g tk gr,rfl,rfl,fun s o ho=>?_,fun s s' o o' h1 h2 he=>?_⟩
  · unfold tableMem at ho
    split at ho
    · cases ho
      refine ⟨fun c hc d hd'=>?_,?_⟩
      · have : ∀ (Ls : List (List Int)) (j : Nat) (tk : Nat→Tok),∀ c ∈ hdsF tk j Ls,∀ d ∈ c,d.noFC = true:=by
          intro Ls
          induction Ls with
          | nil=>intro j tk c hc; simp [hdsF] at hc
          | cons L Ls ih=>
            intro j tk c hc d hd'
            simp only [hdsF,List.mem_cons] at hc
            rcases hc with rfl | hc
            · simp only [List.mem_singleton] at hd'
              subst hd'
              unfold hd
              split <;> rfl
            · exact ih _ _ c hc d hd'
        exact this Ls 0 _ c hc d hd'
      · simp only [HO.ren,hdsF_ren,tableRen,h]
    · cases ho
    · rename_i k
      rw [Option.bind_eq_some_iff] at ho
      obtain ⟨L,hL,ho⟩:=ho
      split at ho
      · cases ho
      · rename_i hne
        cases ho
        refine ⟨fun c hc d hd'=>?_,?_⟩
        · obtain ⟨z,_,rfl⟩:=List.mem_map.1 hc
          simp only [List.mem_singleton] at hd'
          subst hd'
          rfl
        · have:=hl k L hL hne
          simp only [Nat.zero_add] at this
          simp only [HO.ren,ints_ren,tableRen,this]
    · cases ho
  · have dom : ∀ s o,tableMem Ls s = some o→(s = []∧(o.ren (tableRen t g tk gr)).grp = some g) ∨ ∃ k,s = [k + 1]∧(o.ren (tableRen t g tk gr)).grp = some (gr k):=fun s o ho=>by
      unfold tableMem at ho
      split at ho
      · cases ho
        exact .inl ⟨rfl,rfl⟩
      · cases ho
      · rename_i k
        rw [Option.bind_eq_some_iff] at ho
        obtain ⟨L,hL,ho⟩:=ho
        split at ho
        · cases ho
        · cases ho
          exact .inr ⟨k,rfl,rfl⟩
      · cases ho
    rcases dom s o h1 with ⟨rfl,g1⟩ | ⟨j,rfl,g1⟩ <;> rcases dom s' o' h2 with ⟨rfl,g2⟩ | ⟨k,rfl,g2⟩ <;> rw [g1,g2] at he
    · rcases he with he | ⟨_,he⟩
      · exact absurd he.symm (ht k)
      · exact absurd (Option.some.inj he).symm (hg k)
    · rcases he with he | ⟨_,he⟩
      · exact absurd he (ht j)
      · exact absurd (Option.some.inj he) (hg j)
    · rcases he with he | ⟨_,he⟩
      · rw [hi j k he]
      · rw [hgi j k (Option.some.inj he)]
def tabL (m : Mv) (n : Nat) : List (List Int):=(List.range n).map fun p=>(List.range n).map fun q=>conT m ((p + 1) * 50 + (q + 1))
theorem tabL_len (m : Mv) (n : Nat) : (tabL m n).length = n:=by simp [tabL]
def tableR (m : Mv) : D × Mem:=
  if fitB m = true then (if (great m.rows).toNat = 0 then (.tup [.nil,iv 0],noMem) else (.tup [.sl [] 1 0 (great m.rows).toNat none,iv 0],tableMem (tabL m (great m.rows).toNat))) else (.tup [.nil,iv 290],noMem)
theorem Out.flatNil {σ : St} {x : Value} : Out σ (.tup [.nil,.v x]) (.tup [.nil,.v x]) noMem:=Out.flat rfl rfl
theorem c26w (p27 p53 : FP) (q54 q55 : FQ) (m : Mv) (n : Nat) (hn : n≤49) (h27 : p27 [.agg [iv m.t,iv m.r,iv m.s,iv m.c,iv m.w,.list (rowsL m.rows)]] = some (bv true)) (h53 : p53 [.agg [iv m.t,iv m.r,iv m.s,iv m.c,iv m.w,.list (rowsL m.rows)]] = some (iv n))
    (h54 : q54 [.agg [iv m.t,iv m.r,iv m.s,iv m.c,iv m.w,.list (rowsL m.rows)]] = some (.ptr [] 0,boxMem (tab 2500 fun i=>iv (conT m i))))
    (h55 : ∀ L : List Int,L ≠ []→L.length≤1000000→q55 [.list (ints L)] = some (.sl [] 1 0 L.length none,rowMem 3 (ints L))) (d : D) (mm : Mem) (hd0 : n = 0→d = .tup [.nil,iv 0]∧mm = noMem) (hd1 : 0 < n→d = .tup [.sl [] 1 0 n none,iv 0]∧mm = tableMem (tabL m n)) :
    wwp (mkEnv [(27,p27),(53,p53)] [(54,q54),(55,q55)] []) W26.1 (fun e s=>okExit e∧∃ d0,resV W26.2 s = some d0∧Out s d0 d mm) (initV [.agg m.cells]):=by
  simp only [W26]
  refine wwp_cut (fun σ=>σ.s 1 = .ptr [2,0] 0∧σ.m [2,0] = some (.box [iv m.t,iv m.r,iv m.s,iv m.c,iv m.w,.list (rowsL m.rows)])∧σ.c 14 = 0∧σ.c 28 = 0∧σ.c 29 = 0∧σ.c 30 = 0) (by simp [Mv.cells,Mv.cellsW]) ?_
  rintro σ ⟨h1,m2,k1,k2,k3,k4⟩
  refine wwp_cutG (fun σ=>σ.s 1 = .ptr [2,0] 0∧σ.m [2,0] = some (.box [iv m.t,iv m.r,iv m.s,iv m.c,iv m.w,.list (rowsL m.rows)])∧σ.c 14 = 0∧σ.c 28 = 0∧σ.c 29 = 0∧σ.c 30 = 0) (by simp [h1,m2,k1,k2,k3,k4,h27]) ?_
  clear h1 m2 k1 k2 k3 k4 σ
  rintro σ ⟨h1,m2,k1,k2,k3,k4⟩
  refine wwp_cut (fun σ=>σ.s 1 = .ptr [2,0] 0∧σ.m [2,0] = some (.box [iv m.t,iv m.r,iv m.s,iv m.c,iv m.w,.list (rowsL m.rows)])∧σ.c 14 = 0∧σ.c 28 = 0∧σ.c 29 = 0∧σ.c 30 = 0∧σ.s 4 = iv n) (by simp [h1,m2,k1,k2,k3,k4,h53]) ?_
  clear h1 m2 k1 k2 k3 k4 σ
  rintro σ ⟨h1,m2,k1,k2,k3,k4,h4⟩
  refine wwp_cut (fun σ=>σ.c 28 = 0∧σ.c 29 = 0∧σ.c 30 = 0∧σ.s 4 = iv n∧σ.s 5 = .ptr [15,0] 0∧σ.m [15,0] = some (.box (tab 2500 fun i=>iv (conT m i)))) (by simp [h1,m2,k1,k2,k3,k4,h4,h54]) ?_
  clear h1 m2 k1 k2 k3 k4 h4 σ
  rintro σ ⟨k2,k3,k4,h4,h5,m15⟩
  obtain ⟨Ls,hLs⟩ : ∃ Ls,Ls = tabL m n:=⟨_,rfl⟩
  have hLl : Ls.length = n:=by rw [hLs,tabL_len]
  refine wwp_cut (fun σ=>σ.c 28 = 0∧σ.c 29 = 0∧σ.c 30 = 0∧σ.s 4 = iv n∧σ.s 5 = .ptr [15,0] 0∧σ.m [15,0] = some (.box (tab 2500 fun i=>iv (conT m i)))∧σ.s 6 = .nil) (by simp [k2,k3,k4,h4,h5,m15]) ?_
  clear k2 k3 k4 h4 h5 m15 σ
  rintro σ ⟨k2,k3,k4,h4,h5,m15,h6⟩
  refine wwp_cutG (fun σ=>σ.s 6 = (if n = 0 then .nil else .sl [31,n - 1] 1 0 n none)∧(0 < n→σ.m [31,n - 1] = some (.row [31,0] 34 (hdsF (fun j=>[29,j]) 0 Ls)))∧LsF (fun j=>[29,j]) (fun j=>[29,j,0]) σ.m 0 Ls) ?_ ?_
  · refine wwp_cut (fun σ=>σ.c 28 = 0∧σ.c 29 = 0∧σ.c 30 = 0∧σ.s 4 = iv n∧σ.s 5 = .ptr [15,0] 0∧σ.m [15,0] = some (.box (tab 2500 fun i=>iv (conT m i)))∧σ.s 6 = .nil∧σ.s 7 = iv 1) (by simp [k2,k3,k4,h4,h5,m15,h6]) ?_
    clear k2 k3 k4 h4 h5 m15 h6 σ
    rintro σ ⟨k2,k3,k4,h4,h5,m15,h6,h7⟩
    simp only [wwp_block]
    refine wwp_loop (fun σ=>∃ k : Nat,k≤n∧σ.c 28 = k∧σ.c 29 = k∧σ.c 30 = k∧σ.s 4 = iv n∧σ.s 5 = .ptr [15,0] 0∧σ.m [15,0] = some (.box (tab 2500 fun i=>iv (conT m i)))∧σ.s 6 = varOf 31 k∧σ.s 7 = iv (k + 1)∧
      (0 < k→σ.m [31,k - 1] = some (.row [31,0] 34 (hdsF (fun j=>[29,j]) 0 (Ls.take k))))∧LsF (fun j=>[29,j]) (fun j=>[29,j,0]) σ.m 0 (Ls.take k)) (fun σ=>cnt (n + 1) (σ.s 7)) ?_ ?_
    · exact ⟨0,by omega,k2,k3,k4,h4,h5,m15,by simpa [varOf] using h6,by simpa using h7,by omega,fun i L h=>by simp at h⟩
    · clear k2 k3 k4 h4 h5 m15 h6 h7 σ
      rintro σ hw ⟨k,hk,k2,k3,k4,h4,h5,m15,h6,h7,m31,hls⟩
      by_cases hlt : k < n
      · have hlL : k < Ls.length:=by omega
        have htk : Ls.take (k + 1) = Ls.take k ++ [Ls[k]]:=List.take_succ_eq_append_getElem hlL
        have hLk : Ls[k] = (List.range n).map fun q=>conT m ((k + 1) * 50 + (q + 1)):=by
          have : ∀ (Ls : List (List Int)) (h : k < Ls.length),Ls = tabL m n→Ls[k] = (List.range n).map fun q=>conT m ((k + 1) * 50 + (q + 1)):=by
            rintro _ h rfl
            simp [tabL]
          exact this Ls hlL hLs
        obtain ⟨L,hL⟩ : ∃ L,L = Ls[k]:=⟨_,rfl⟩
        rw [← hL] at htk hLk
        have hne : L ≠ []:=by rw [hLk]; simp; omega
        have hln : L.length = n:=by rw [hLk]; simp
        have e55:=h55 L hne (by omega)
        have hcut : (((tab 2500 fun i=>iv (conT m i)).drop ((k + 1) * 50 + 1)).take n).map (fun d=>[d]) = ints L:=by
          apply List.ext_getElem?
          intro i
          simp only [List.getElem?_map,List.getElem?_take,List.getElem?_drop]
          by_cases hi : i < n
          · rw [if_pos hi,tab_at (show (k + 1) * 50 + 1 + i < 2500 by omega),ints_at (by omega)]
            have e : L[i]'(by omega) = conT m ((k + 1) * 50 + (i + 1)):=by simp [hLk]
            rw [e,show (k + 1) * 50 + 1 + i = (k + 1) * 50 + (i + 1) by omega]
            rfl
          · rw [if_neg hi]
            have e : (ints L)[i]? = none:=List.getElem?_eq_none (by rw [ints_len]; omega)
            rw [e]
            rfl
        have hw1 : IntKind.i64.wrap ((k : Int) + 1 + 1) = (k : Int) + 1 + 1:=wrap_in (by omega) (by omega)
        have hwn : IntKind.i64.wrap ((n : Int) + 1) = (n : Int) + 1:=wrap_in (by omega) (by omega)
        have a1 : (k : Int) + 1≤n:=by omega
        have b1 : (1 : Int)≤(n : Int) + 1:=by omega
        have b2 : (n : Int) + 1≤50:=by omega
        have b3 : (k + 1) * 50 + 1 + n≤2500:=by omega
        have a2 : (0 : Int)≤(k : Int) + 1∧(k : Int) + 1 < 50:=by omega
        rcases Nat.eq_zero_or_pos k with h0 | h0
        · subst h0
          simp [varOf] at h6
          simp at a1 a2 b3 hcut hw1
          simp [h4,h5,h7,h6,m15,k2,k3,k4,hw1,hwn,a1,a2,b1,b2,b3,hcut,one_made,e55]
          refine ⟨⟨1,by omega,rfl,by simp [varOf],by omega,fun _=>?_,?_⟩,by omega⟩
          · rw [htk,hdsF_snoc]
            simp [hd,hne,hdsF]
          · rw [htk]
            refine LsF.snoc (hls.old fun i hi es h=>?_) fun _=>?_
            · simp at hi
            · simp [k2]
        · have n0 : ¬ k = 0:=by omega
          simp [varOf,n0] at h6
          have m31:=m31 h0
          have hmm : k + 1≤maxMade:=by unfold maxMade; omega
          have hfl:=hdsF_len (fun j=>[29,j]) (Ls.take k) 0
          have htl : (Ls.take k).length = k:=by rw [List.length_take]; omega
          rw [htl] at hfl
          simp [h4,h5,h7,h6,m15,m31,k2,k3,k4,hw1,hwn,a1,a2,b1,b2,b3,hcut,hmm,hfl,one_made,e55]
          refine ⟨⟨k + 1,by omega,rfl,by simp [varOf],by omega,fun _=>?_,?_⟩,by omega⟩
          · rw [htk,hdsF_snoc]
            simp [hd,hne,htl,hfl,List.take_of_length_le]
          · rw [htk]
            refine LsF.snoc (hls.old fun i hi es h=>?_) fun _=>?_
            · rw [htl] at hi
              have hik : ¬ i = k:=by omega
              simp at h
              simp [h,k2,k3,k4,hik]
            · simp [htl,k2]
      · have hkn : k = n:=by omega
        subst hkn
        rw [show Ls.take k = Ls by rw [← hLl]; exact List.take_length] at m31 hls
        have a1 : ¬ (k : Int) + 1≤k:=by omega
        simp [h4,h7,a1]
        exact ⟨by simpa [varOf] using h6,m31,hls⟩
  · clear k2 k3 k4 h4 h5 m15 h6 σ
    rintro σ ⟨h6,m31,hls⟩
    rcases Nat.eq_zero_or_pos n with h0 | h0
    · obtain ⟨rfl,rfl⟩:=hd0 h0
      rw [if_pos h0] at h6
      simp [h6]
      exact Out.flatNil
    · obtain ⟨rfl,rfl⟩:=hd1 h0
      rw [if_neg (by omega)] at h6
      rw [← hLs]
      simp [h6]
      exact Out.table (g:=[31,0]) (tk:=fun j=>[29,j]) (gr:=fun j=>[29,j,0]) (by simpa using m31 h0) (by simpa [LsF] using hls) (fun k e=>by simp at e) (fun j k e=>by simpa using e) (fun k e=>by simp at e) (fun j k e=>by simpa using e)
theorem c26bad (p27 p53 : FP) (q54 q55 : FQ) (m : Mv) (h27 : p27 [.agg [iv m.t,iv m.r,iv m.s,iv m.c,iv m.w,.list (rowsL m.rows)]] = some (bv false)) :
    wwp (mkEnv [(27,p27),(53,p53)] [(54,q54),(55,q55)] []) W26.1 (fun e s=>okExit e∧∃ d0,resV W26.2 s = some d0∧Out s d0 (.tup [.nil,iv 290]) noMem) (initV [.agg m.cells]):=by
  simp [W26,Mv.cells,Mv.cellsW,h27]
  exact Out.flatNil
theorem asMv_self (m : Mv) : asMv m.cells = some m:=by simp only [Mv.cells,Mv.cellsW,asMv_cells]
theorem S27_at (m : Mv) : S27 [.agg m.cells] = some (bv (fitB m)):=by rw [S27,asMv_self]; rfl
theorem S53_at (m : Mv) (h : m.rows.length≤1000000) : S53 [.agg m.cells] = some (iv (great m.rows)):=by rw [S53,asMv_self,Option.bind_some,if_pos h]
theorem S54_at (m : Mv) (h : m.rows.length≤1000000) (hp : inPairs m.rows = true) : S54 [.agg m.cells] = some (.ptr [] 0,boxMem (tab 2500 fun i=>iv (conT m i))):=by rw [S54,asMv_self,Option.bind_some,if_pos ⟨h,hp⟩]
theorem S55_at (L : List Int) (h : L ≠ []) (hl : L.length≤1000000) : S55 [.list (ints L)] = some (.sl [] 1 0 L.length none,rowMem 3 (ints L)):=by
  have e : L.isEmpty = false:=by cases L with | nil=>exact absurd rfl h | cons=>rfl
  rw [S55,asInts_ints,Option.bind_some,if_pos hl,e]
  rfl
theorem sound26 : Sound Try.prog (mkEnv [(27,S27),(53,S53)] [(54,S54),(55,S55)] []):=sound_mk (by simp [s27,s53]) (by simp [s54,s55]) (by simp)
theorem c26 (m : Mv) : VCq Try.prog 26 [.agg m.cells] (tableR m).1 (tableR m).2:=by
  cases hf : fitB m with
  | false=>
    have e : tableR m = (.tup [.nil,iv 290],noMem):=by unfold tableR; rw [hf]; rfl
    rw [e]
    have h:=S27_at m
    rw [hf] at h
    exact wcontract_q sound26 mixed is26 (by rw [nt26]; simp) (c26bad S27 S53 S54 S55 m h)
  | true=>
    have hl:=fit_len hf
    have hg:=great_bounds (fit_pairs hf)
    obtain ⟨n,hn⟩ : ∃ n : Nat,great m.rows = n:=⟨(great m.rows).toNat,by omega⟩
    have h27:=S27_at m
    rw [hf] at h27
    have h53:=S53_at m (by omega)
    rw [hn] at h53
    have e0 : tableR m = if n = 0 then (.tup [.nil,iv 0],noMem) else (.tup [.sl [] 1 0 n none,iv 0],tableMem (tabL m n)):=by
      unfold tableR
      rw [hf,hn,if_pos rfl]
      simp
    refine wcontract_q sound26 mixed is26 (by rw [nt26]; simp) (c26w S27 S53 S54 S55 m n (by omega) h27 h53 (S54_at m (by omega) (fit_pairs hf)) S55_at _ _ (fun h=>?_) fun h=>?_)
    · rw [e0,if_pos h]; exact ⟨rfl,rfl⟩
    · rw [e0,if_neg (by omega)]; exact ⟨rfl,rfl⟩
def S26 : List D→Option (D × Mem)
  | [.agg xs]=>(asMv xs).map tableR
  | _=>none
theorem s26 : OkQ 26 S26:=fun ds d mm h=>by
  unfold S26 at h
  split at h
  · obtain ⟨m,hm,h⟩:=Option.map_eq_some_iff.1 h
    rw [asMv_eq hm]
    have:=c26 m
    rw [h] at this
    exact this
  · cases h
theorem S26_at (m : Mv) : S26 [.agg m.cells] = some (tableR m):=by rw [S26,asMv_self]; rfl
theorem c30w (p38 : FP) (a b : List (List Int)) (h38 : ∀ i (h : i < a.length) (h' : i < b.length),p38 [.list (ints a[i]),.list (ints b[i])] = some (bv (decide (a[i] = b[i])))) (ha : a.length≤1000000) (hb : b.length≤1000000) :
    wwp (mkEnv [(38,p38)] [] []) W30.1 (fun e s=>okExit e∧resV W30.2 s = some (bv (decide (a = b)))) (initV [.list (lists a),.list (lists b)]):=by
  simp [W30]
  refine condK_b (fun hl=>?_) (fun hl=>?_)
  · have : a ≠ b:=fun e=>by subst e; simp at hl
    simp [this]
  · have hl' : a.length = b.length:=by simp at hl; omega
    simp
    refine wwp_loop (fun σ=>∃ k : Nat,k≤a.length∧σ.s 5 = iv k∧σ.s 0 = .list (lists a)∧σ.s 1 = .list (lists b)∧∀ i (h : i < a.length),i < k→a[i] = b[i]'(by omega)) (fun σ=>cnt a.length (σ.s 5)) ?_ ?_
    · exact ⟨0,by omega,by simp,by simp,by simp,by omega⟩
    · rintro σ hw ⟨k,hk,h5,h0,h1,hall⟩
      simp [h5,h0]
      refine condK_dec (fun hlt=>?_) (fun hge=>?_)
      · have hltb : k < b.length:=by omega
        have e38:=h38 k hlt hltb
        simp [h5,h0,h1,lists_at hlt,lists_at hltb,hlt,hltb,e38]
        refine condK_b (fun hx=>?_) (fun hx=>?_)
        · have hx' : a[k] ≠ b[k]:=by simpa using hx
          have : a ≠ b:=fun e=>hx' (by subst e; rfl)
          simp [this]
        · have hx' : a[k] = b[k]:=by simpa using hx
          simp [h5,h0,h1,wrap_succ (show k≤1000000000 by omega)]
          refine ⟨⟨k + 1,by omega,by omega,fun i hi hik=>?_⟩,by omega⟩
          by_cases h : i < k
          · exact hall i hi h
          · obtain rfl : i = k:=by omega
            exact hx'
      · have : a = b:=List.ext_getElem hl' fun i hi _=>hall i hi (by omega)
        simp [this]
theorem S38_at (a b : List Int) (ha : a.length≤1000000) (hb : b.length≤1000000) : S38 [.list (ints a),.list (ints b)] = some (bv (decide (a = b))):=by
  rw [S38,asInts_ints,Option.bind_some,asInts_ints,Option.bind_some,if_pos ⟨ha,hb⟩]
theorem sound30 : Sound Try.prog (mkEnv [(38,S38)] [] []):=sound_mk (by simp [s38]) (by simp) (by simp)
theorem c30 (a b : List (List Int)) (ha : a.length≤1000000) (hb : b.length≤1000000) (ha' : ∀ l ∈ a,l.length≤1000000) (hb' : ∀ l ∈ b,l.length≤1000000) : VCp Try.prog 30 [.list (lists a),.list (lists b)] (bv (decide (a = b))):=
  wcontract_p sound30 mixed is30 (by rw [nt30]; simp) (c30w S38 a b (fun i h h'=>S38_at _ _ (ha' _ (List.getElem_mem h)) (hb' _ (List.getElem_mem h'))) ha hb) rfl
def S30 : List D→Option D
  | [.list a,.list b]=>(asLists a).bind fun a=>(asLists b).bind fun b=>if a.length≤1000000∧b.length≤1000000∧a.all (fun l=>decide (l.length≤1000000)) = true∧b.all (fun l=>decide (l.length≤1000000)) = true then some (bv (decide (a = b))) else none
  | _=>none
theorem s30 : OkP 30 S30:=fun ds d h=>by
  unfold S30 at h
  split at h
  · rw [Option.bind_eq_some_iff] at h
    obtain ⟨a,ha,h⟩:=h
    rw [Option.bind_eq_some_iff] at h
    obtain ⟨b,hb,h⟩:=h
    split at h <;> cases h
    rename_i hc
    rw [asLists_eq ha,asLists_eq hb]
    exact c30 a b hc.1 hc.2.1 (fun l hl=>of_decide_eq_true (List.all_eq_true.1 hc.2.2.1 l hl)) (fun l hl=>of_decide_eq_true (List.all_eq_true.1 hc.2.2.2 l hl))
  · cases h
theorem S30_at (a b : List (List Int)) (ha : a.length≤1000000) (hb : b.length≤1000000) (ha' : ∀ l ∈ a,l.length≤1000000) (hb' : ∀ l ∈ b,l.length≤1000000) : S30 [.list (lists a),.list (lists b)] = some (bv (decide (a = b))):=by
  rw [S30,asLists_lists,Option.bind_some,asLists_lists,Option.bind_some,if_pos ⟨ha,hb,List.all_eq_true.2 fun l hl=>decide_eq_true (ha' l hl),List.all_eq_true.2 fun l hl=>decide_eq_true (hb' l hl)⟩]
end Go.Proofs.Ytpmgaaalfdjikaa
namespace Go.Proofs.Ytpmgaaalfdjikaa
open Go.RowKit
set_option linter.unusedSimpArgs false
set_option linter.unusedVariables false
theorem sum_comm2 {α β : Type} (f : α→β→Int) (B : List β) : ∀ A : List α,(A.map fun a=>(B.map fun b=>f a b).sum).sum = (B.map fun b=>(A.map fun a=>f a b).sum).sum
  | []=>by simp [sum_map_zero]
  | a :: A=>by
    rw [List.map_cons,List.sum_cons,sum_comm2 f B A,← sum_map_add]
    rfl
theorem sum_congr {α : Type} {f g : α→Int} {l : List α} (h : ∀ x ∈ l,f x = g x) : (l.map f).sum = (l.map g).sum:=by rw [List.map_congr_left h]
theorem sum_zero {α : Type} {f : α→Int} {l : List α} (h : ∀ x ∈ l,f x = 0) : (l.map f).sum = 0:=by rw [sum_congr h,sum_map_zero]
def eqI (a b : Int) : Int:=if a = b then 1 else 0
end Go.Proofs.Ytpmgaaalfdjikaa
