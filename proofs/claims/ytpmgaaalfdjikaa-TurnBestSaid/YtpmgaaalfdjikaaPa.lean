/- Data of the chapter: rows, movements, tables; lemmas by which proofs over them reckon. Plain definitions and lemmas; no condition. -/
import Derived.Test.YtpmgaaalfdjikaaHo
import Derived.Test.YtpmgaaalfdjikaaProg
namespace Go.Proofs.Ytpmgaaalfdjikaa
open Go.RowKit

/-- How calls are read: 1, a function that hands back memory; 2, one that is handed memory. -/
def frs : List Nat := [13, 14, 17, 20, 22, 23, 24, 26, 33, 34, 41, 42, 43, 44, 46, 54, 55, 58, 72]
def frm : List Nat := [36, 37, 50, 51, 52, 61, 69, 70, 71]
def frOf (f : Nat) : Nat := if frs.contains f then 1 else if frm.contains f || decide (77 ≤ f ∧ f ≤ 93) then 2 else 0
theorem mixed : Try.prog.follows .mixedOrders = true := by kernel_rfl

structure Row where
  r : Int
  t : Int
  ns : Int
  ew : Int
  s : Int
  deriving DecidableEq
def Row.cells (x : Row) : List D := [iv x.r, iv x.t, iv x.ns, iv x.ew, iv x.s]
def Row.zero : Row := ⟨0, 0, 0, 0, 0⟩
def rowsL (l : List Row) : List (List D) := l.map Row.cells
structure Mv where
  t : Int
  r : Int
  s : Int
  c : Int
  w : Int
  rows : List Row
def Mv.cellsW (m : Mv) (d : D) : List D := [iv m.t, iv m.r, iv m.s, iv m.c, iv m.w, d]
def Mv.cells (m : Mv) : List D := m.cellsW (.list (rowsL m.rows))
@[simp] theorem Mv.eta (m : Mv) : (⟨m.t, m.r, m.s, m.c, m.w, m.rows⟩ : Mv) = m := rfl
def ints (l : List Int) : List (List D) := l.map fun z => [iv z]
def lists (l : List (List Int)) : List (List D) := l.map fun z => [.list (ints z)]
/-- A table of so many cells. -/
def tab (n : Nat) (f : Nat → D) : List D := (List.range n).map f

@[simp] theorem rowsL_len (l : List Row) : (rowsL l).length = l.length := by simp [rowsL]
@[simp] theorem ints_len (l : List Int) : (ints l).length = l.length := by simp [ints]
@[simp] theorem lists_len (l : List (List Int)) : (lists l).length = l.length := by simp [lists]
@[simp] theorem rowsL_get (l : List Row) (k : Nat) (h : k < (rowsL l).length) : (rowsL l)[k] = (l[k]'(by simpa using h)).cells := by simp [rowsL]
@[simp] theorem ints_get (l : List Int) (k : Nat) (h : k < (ints l).length) : (ints l)[k] = [iv (l[k]'(by simpa using h))] := by simp [ints]
@[simp] theorem lists_get (l : List (List Int)) (k : Nat) (h : k < (lists l).length) : (lists l)[k] = [.list (ints (l[k]'(by simpa using h)))] := by simp [lists]
@[simp] theorem rowsL_nil : rowsL [] = [] := rfl
@[simp] theorem ints_nil : ints [] = [] := rfl
@[simp] theorem lists_nil : lists [] = [] := rfl
theorem snilV_rows {neg : Bool} {l : List Row} (h : l ≠ []) : snilV neg [.list (rowsL l), .nil] = some (bv neg) := by cases l with | nil => exact absurd rfl h | cons => rfl
theorem snilV_ints {neg : Bool} {l : List Int} (h : l ≠ []) : snilV neg [.list (ints l), .nil] = some (bv neg) := by cases l with | nil => exact absurd rfl h | cons => rfl
@[simp] theorem rowsL_isEmpty (l : List Row) : (rowsL l).isEmpty = l.isEmpty := by cases l <;> rfl
@[simp] theorem ints_isEmpty (l : List Int) : (ints l).isEmpty = l.isEmpty := by cases l <;> rfl
@[simp] theorem rowsL_eq_nil (l : List Row) : (rowsL l = []) = (l = []) := by cases l <;> simp [rowsL]
@[simp] theorem ints_eq_nil (l : List Int) : (ints l = []) = (l = []) := by cases l <;> simp [ints]
@[simp] theorem lists_eq_nil (l : List (List Int)) : (lists l = []) = (l = []) := by cases l <;> simp [lists]
@[simp] theorem rowsL_ex (l : List Row) : (∃ x, x ∈ rowsL l ∧ ¬ x.length = 5) = False := by
  simp only [eq_iff_iff, iff_false]; rintro ⟨x, hx, h⟩; obtain ⟨y, _, rfl⟩ := List.mem_map.1 hx; exact h rfl
@[simp] theorem ints_ex (l : List Int) : (∃ x, x ∈ ints l ∧ ¬ x.length = 1) = False := by
  simp only [eq_iff_iff, iff_false]; rintro ⟨x, hx, h⟩; obtain ⟨y, _, rfl⟩ := List.mem_map.1 hx; exact h rfl
@[simp] theorem lists_ex (l : List (List Int)) : (∃ x, x ∈ lists l ∧ ¬ x.length = 1) = False := by
  simp only [eq_iff_iff, iff_false]; rintro ⟨x, hx, h⟩; obtain ⟨y, _, rfl⟩ := List.mem_map.1 hx; exact h rfl
@[simp] theorem rowsL_fa (l : List Row) : (∀ x, x ∈ rowsL l → x.length = 5) = True := by
  simp only [eq_iff_iff, iff_true]; intro x hx; obtain ⟨y, _, rfl⟩ := List.mem_map.1 hx; rfl
@[simp] theorem ints_fa (l : List Int) : (∀ x, x ∈ ints l → x.length = 1) = True := by
  simp only [eq_iff_iff, iff_true]; intro x hx; obtain ⟨y, _, rfl⟩ := List.mem_map.1 hx; rfl
@[simp] theorem lists_fa (l : List (List Int)) : (∀ x, x ∈ lists l → x.length = 1) = True := by
  simp only [eq_iff_iff, iff_true]; intro x hx; obtain ⟨y, _, rfl⟩ := List.mem_map.1 hx; rfl
@[simp] theorem rowsL_ren (f : Tok → Tok) (l : List Row) : (rowsL l).map (List.map (D.renC f)) = rowsL l := by
  simp only [rowsL, List.map_map]; rfl
@[simp] theorem ints_ren (f : Tok → Tok) (l : List Int) : (ints l).map (List.map (D.renC f)) = ints l := by
  simp only [ints, List.map_map]; rfl
@[simp] theorem lists_ren (f : Tok → Tok) (l : List (List Int)) : (lists l).map (List.map (D.renC f)) = lists l := by
  simp only [lists, List.map_map]; rfl
theorem rowsL_set (l : List Row) (k : Nat) (x : Row) : rowsL (l.set k x) = (rowsL l).set k x.cells := by simp [rowsL, List.map_set]
theorem ints_set (l : List Int) (k : Nat) (x : Int) : ints (l.set k x) = (ints l).set k [iv x] := by simp [ints, List.map_set]
theorem rowsL_append (l l' : List Row) : rowsL (l ++ l') = rowsL l ++ rowsL l' := by simp [rowsL]
theorem ints_append (l l' : List Int) : ints (l ++ l') = ints l ++ ints l' := by simp [ints]
theorem maxMade_le {n : Nat} (h : n ≤ 1000000) : n ≤ maxMade := by unfold maxMade; omega
theorem rowsL_at {l : List Row} {k : Nat} (h : k < l.length) : (rowsL l)[k]? = some l[k].cells := by simp [rowsL, h]
theorem ints_at {l : List Int} {k : Nat} (h : k < l.length) : (ints l)[k]? = some [iv l[k]] := by simp [ints, h]
theorem lists_at {l : List (List Int)} {k : Nat} (h : k < l.length) : (lists l)[k]? = some [.list (ints l[k])] := by simp [lists, h]
@[simp] theorem tab_len (n : Nat) (f : Nat → D) : (tab n f).length = n := by simp [tab]
@[simp] theorem tab_get (n : Nat) (f : Nat → D) (k : Nat) (h : k < (tab n f).length) : (tab n f)[k] = f k := by simp [tab]
@[simp] theorem putAt_zero (a : D) (l xs : List D) : putAt (a :: l) 0 xs = xs ++ (a :: l).drop xs.length := by simp [putAt]
@[simp] theorem putAt_succ (a : D) (l xs : List D) (n : Nat) : putAt (a :: l) (n + 1) xs = a :: putAt l n xs := by
  simp only [putAt, List.take_succ_cons, List.cons_append, show n + 1 + xs.length = (n + xs.length) + 1 by omega, List.drop_succ_cons]
theorem tab_congr {n : Nat} {f g : Nat → D} (h : ∀ i, i < n → f i = g i) : tab n f = tab n g := List.map_congr_left fun i hi => h i (by simpa using hi)
theorem tab_at {n k : Nat} {f : Nat → D} (h : k < n) : (tab n f)[k]? = some (f k) := by simp [tab, h]
theorem tab_put {n k : Nat} {f : Nat → D} {d : D} (h : k < n) : putAt (tab n f) k [d] = tab n fun i => if i = k then d else f i := by
  apply List.ext_getElem?
  intro i
  simp only [putAt, List.length_singleton]
  by_cases h1 : i < k
  · rw [List.append_assoc, List.getElem?_append_left (by simp; omega), List.getElem?_take_of_lt h1]
    by_cases hi : i < n
    · rw [tab_at hi, tab_at hi, if_neg (by omega)]
    · omega
  · by_cases h2 : i = k
    · subst h2
      rw [List.append_assoc, List.getElem?_append_right (by simp; omega), tab_at h, if_pos rfl]
      have : i - (List.take i (tab n f)).length = 0 := by simp; omega
      rw [this]
      rfl
    · rw [List.getElem?_append_right (by simp; omega), List.getElem?_drop]
      have e : k + 1 + (i - (List.take k (tab n f) ++ [d]).length) = i := by simp; omega
      rw [e]
      by_cases hi : i < n
      · rw [tab_at hi, tab_at hi, if_neg h2]
      · simp [tab, hi]
theorem tab_rep (n : Nat) (d : D) : List.replicate n d = tab n fun _ => d := by
  apply List.ext_getElem?
  intro i
  simp [tab, List.getElem?_replicate]
  by_cases h : i < n <;> simp [h]
/-- So many of one. -/
def zrep (n : Nat) (d : D) : List D := List.replicate n d
@[simp] theorem zrep_tab (n : Nat) (d : D) : zrep n d = tab n fun _ => d := tab_rep n d
@[simp] theorem tab_okb (n : Nat) (g : Nat → Bool) : (tab n fun i => bv (g i)).all D.okC = true := by simp [tab]
@[simp] theorem tab_oki (n : Nat) (g : Nat → Int) : (tab n fun i => iv (g i)).all D.okC = true := by simp [tab]
@[simp] theorem tab_fab (n : Nat) (g : Nat → Bool) : (∀ x, x ∈ (tab n fun i => bv (g i)) → x.okC = true) = True := by simp [tab]
@[simp] theorem tab_fai (n : Nat) (g : Nat → Int) : (∀ x, x ∈ (tab n fun i => iv (g i)) → x.okC = true) = True := by simp [tab]
theorem tab_okC {n : Nat} {f : Nat → D} (h : ∀ i, (f i).okC = true) : (tab n f).all D.okC = true := by
  rw [List.all_eq_true]
  intro x hx
  obtain ⟨i, _, rfl⟩ := List.mem_map.1 hx
  exact h i

/-- Data read again as what they stand for. -/
def asInts : List (List D) → Option (List Int)
  | [] => some []
  | [.v (.int .i64 n)] :: r => (asInts r).map (n :: ·)
  | _ => none
def asRows : List (List D) → Option (List Row)
  | [] => some []
  | [.v (.int .i64 a), .v (.int .i64 b), .v (.int .i64 c), .v (.int .i64 d), .v (.int .i64 e)] :: r => (asRows r).map (⟨a, b, c, d, e⟩ :: ·)
  | _ => none
def asLists : List (List D) → Option (List (List Int))
  | [] => some []
  | [.list es] :: r => (asInts es).bind fun l => (asLists r).map (l :: ·)
  | _ => none
def asMv : List D → Option Mv
  | [.v (.int .i64 a), .v (.int .i64 b), .v (.int .i64 c), .v (.int .i64 d), .v (.int .i64 e), .list es] => (asRows es).map fun l => ⟨a, b, c, d, e, l⟩
  | _ => none
@[simp] theorem asInts_ints : ∀ (l : List Int), asInts (ints l) = some l
  | [] => rfl
  | x :: l => by
    have := asInts_ints l
    simp only [ints, List.map_cons] at this ⊢
    simp only [asInts, this, Option.map_some]
theorem asInts_eq : ∀ {es : List (List D)} {l : List Int}, asInts es = some l → es = ints l
  | [], _, h => by cases h; rfl
  | e :: r, l, h => by
    unfold asInts at h
    split at h
    · rename_i hh; cases hh
    · rename_i hh
      cases hh
      obtain ⟨l', h', rfl⟩ := Option.map_eq_some_iff.1 h
      rw [asInts_eq h']; rfl
    · cases h
@[simp] theorem asRows_rowsL : ∀ (l : List Row), asRows (rowsL l) = some l
  | [] => rfl
  | x :: l => by
    have := asRows_rowsL l
    simp only [rowsL, List.map_cons, Row.cells] at this ⊢
    simp only [asRows, this, Option.map_some]
theorem asRows_eq : ∀ {es : List (List D)} {l : List Row}, asRows es = some l → es = rowsL l
  | [], _, h => by cases h; rfl
  | e :: r, l, h => by
    unfold asRows at h
    split at h
    · rename_i hh; cases hh
    · rename_i hh
      cases hh
      obtain ⟨l', h', rfl⟩ := Option.map_eq_some_iff.1 h
      rw [asRows_eq h']; rfl
    · cases h
@[simp] theorem asLists_lists : ∀ (l : List (List Int)), asLists (lists l) = some l
  | [] => rfl
  | x :: l => by
    have := asLists_lists l
    simp only [lists, List.map_cons] at this ⊢
    simp only [asLists, asInts_ints, Option.bind_some, this, Option.map_some]
theorem asLists_eq : ∀ {es : List (List D)} {l : List (List Int)}, asLists es = some l → es = lists l
  | [], _, h => by cases h; rfl
  | e :: r, l, h => by
    unfold asLists at h
    split at h
    · rename_i hh; cases hh
    · rename_i hh
      cases hh
      rw [Option.bind_eq_some_iff] at h
      obtain ⟨l1, h1, h⟩ := h
      obtain ⟨l', h', rfl⟩ := Option.map_eq_some_iff.1 h
      rw [asInts_eq h1, asLists_eq h']; rfl
    · cases h
@[simp] theorem asMv_cells (a b c d e : Int) (l : List Row) : asMv [.v (.int .i64 a), .v (.int .i64 b), .v (.int .i64 c), .v (.int .i64 d), .v (.int .i64 e), .list (rowsL l)] = some ⟨a, b, c, d, e, l⟩ := by
  simp only [asMv, asRows_rowsL, Option.map_some]
@[simp] theorem asMv_nil (a b c d e : Int) : asMv [.v (.int .i64 a), .v (.int .i64 b), .v (.int .i64 c), .v (.int .i64 d), .v (.int .i64 e), .list []] = some ⟨a, b, c, d, e, []⟩ := rfl
theorem asMv_eq {xs : List D} {m : Mv} (h : asMv xs = some m) : xs = m.cells := by
  unfold asMv at h
  split at h
  · obtain ⟨l, h1, rfl⟩ := Option.map_eq_some_iff.1 h
    rw [asRows_eq h1]; rfl
  · cases h

@[simp] theorem asRows_nil : asRows [] = some [] := rfl
@[simp] theorem asInts_nil : asInts [] = some [] := rfl
@[simp] theorem asLists_nil : asLists [] = some [] := rfl

/-- What is known of functions, as a list. -/
def look {β : Type} : List (Nat × β) → Nat → Option β
  | [], _ => none
  | (k, v) :: r, f => if f = k then some v else look r f
@[simp] theorem look_nil {β : Type} (f : Nat) : look ([] : List (Nat × β)) f = none := rfl
@[simp] theorem look_cons {β : Type} (k f : Nat) (v : β) (r : List (Nat × β)) : look ((k, v) :: r) f = if f = k then some v else look r f := rfl
def mkEnv (ps : List (Nat × (List D → Option D))) (qs : List (Nat × (List D → Option (D × Mem)))) (ms : List (Nat × (Mem → List D → Option (D × Mem)))) : Env :=
  ⟨fun f ds => (look ps f).bind fun s => s ds, fun f ds => (look qs f).bind fun s => s ds, fun f m ds => (look ms f).bind fun s => s m ds⟩
theorem look_mem {β : Type} : ∀ {l : List (Nat × β)} {f : Nat} {s : β}, look l f = some s → (f, s) ∈ l
  | (k, v) :: l, f, s, h => by
    simp only [look_cons] at h
    split at h
    · rename_i e
      cases h
      subst e
      exact List.mem_cons_self
    · exact List.mem_cons_of_mem _ (look_mem h)
def OkP (f : Nat) (s : List D → Option D) : Prop := ∀ ds d, s ds = some d → VCp Try.prog f ds d
def OkQ (f : Nat) (s : List D → Option (D × Mem)) : Prop := ∀ ds d m, s ds = some (d, m) → VCq Try.prog f ds d m
def OkM (f : Nat) (s : Mem → List D → Option (D × Mem)) : Prop := ∀ m ds d m', s m ds = some (d, m') → VCm Try.prog f m ds d m'
theorem sound_mk {ps : List (Nat × (List D → Option D))} {qs : List (Nat × (List D → Option (D × Mem)))} {ms : List (Nat × (Mem → List D → Option (D × Mem)))}
    (hp : ∀ p ∈ ps, OkP p.1 p.2) (hq : ∀ p ∈ qs, OkQ p.1 p.2) (hm : ∀ p ∈ ms, OkM p.1 p.2) : Sound Try.prog (mkEnv ps qs ms) := by
  refine ⟨fun f ds d h => ?_, fun f ds d m h => ?_, fun f m ds d m' h => ?_⟩
  · obtain ⟨s, hs, h⟩ := Option.bind_eq_some_iff.1 h
    exact hp _ (look_mem hs) ds d h
  · obtain ⟨s, hs, h⟩ := Option.bind_eq_some_iff.1 h
    exact hq _ (look_mem hs) ds d m h
  · obtain ⟨s, hs, h⟩ := Option.bind_eq_some_iff.1 h
    exact hm _ (look_mem hs) m ds d m' h

/-- One row, and nothing else. -/
def rowMem (e : Nat) (es : List (List D)) : Mem := fun t => if t = [] then some (.row [0] e es) else none
@[simp] theorem rowMem_nil (e : Nat) (es : List (List D)) : rowMem e es [] = some (.row [0] e es) := rfl
@[simp] theorem rowMem_cons (e : Nat) (es : List (List D)) (a : Nat) (t : Tok) : rowMem e es (a :: t) = none := rfl
theorem rowMem_some {e : Nat} {es : List (List D)} {t : Tok} {o : HO} (h : rowMem e es t = some o) : t = [] ∧ o = .row [0] e es := by
  unfold rowMem at h
  split at h <;> cases h
  exact ⟨by assumption, rfl⟩
/-- A slice of a row that is handed back. -/
theorem Out.row {σ : St} {t g : Tok} {e size len : Nat} {es : List (List D)} (h : σ.m t = some (.row g e es)) (hf : ∀ c ∈ es, c.all D.flatC = true) : Out σ (.sl t size 0 len none) (.sl [] size 0 len none) (rowMem e es) := by
  have hn : ∀ c ∈ es, ∀ d ∈ c, ∃ x, d = .v x := fun c hc d hd => by
    have := List.all_eq_true.1 (hf c hc) d hd
    cases d <;> simp [D.flatC] at this ⊢
  refine ⟨fun s => if s = [] then t else if s = [0] then g else [], by simp, rfl, fun s o ho => ?_, fun s s' o o' h1 h2 _ => by rw [(rowMem_some h1).1, (rowMem_some h2).1]⟩
  obtain ⟨rfl, rfl⟩ := rowMem_some ho
  refine ⟨fun c hc d hd => by obtain ⟨x, rfl⟩ := hn c hc d hd; rfl, ?_⟩
  have : es.map (fun c => c.map (D.renC fun s => if s = [] then t else if s = [0] then g else [])) = es := by
    conv => rhs; rw [← List.map_id es]
    refine List.map_congr_left fun c hc => ?_
    conv => rhs; rw [id, ← List.map_id c]
    exact List.map_congr_left fun d hd => by obtain ⟨x, rfl⟩ := hn c hc d hd; rfl
  simp only [if_true, HO.ren, this, h]
  simp
/-- .. and inside a struct, as its last part. -/
theorem Out.aggRow {σ : St} {t g : Tok} {e size len : Nat} {es : List (List D)} {pre : List D} (hp : pre.all D.flatC = true) (h : σ.m t = some (.row g e es)) (hf : ∀ c ∈ es, c.all D.flatC = true) :
    Out σ (.agg (pre ++ [.sl t size 0 len none])) (.agg (pre ++ [.sl [] size 0 len none])) (rowMem e es) := by
  obtain ⟨f, h1, h2, h3, h4⟩ := Out.row (size := size) (len := len) h hf
  have hv : ∀ d ∈ pre, ∃ x, d = .v x := fun d hd => by
    have := List.all_eq_true.1 hp d hd
    cases d <;> simp [D.flatC] at this ⊢
  refine ⟨f, ?_, ?_, h3, h4⟩
  · simp only [D.ren, D.renA, List.map_append, List.map_cons, List.map_nil]
    have e1 : pre.map (D.renC f) = pre := by
      conv => rhs; rw [← List.map_id pre]
      exact List.map_congr_left fun d hd => by obtain ⟨x, rfl⟩ := hv d hd; rfl
    have e2 : D.renC f (.sl [] size 0 len none) = .sl t size 0 len none := by simpa [D.ren, D.renA] using h1.symm
    rw [e1, e2]
  · simp only [D.noF, D.noFA, List.all_append, List.all_cons, List.all_nil, Bool.and_true, Bool.and_eq_true]
    refine ⟨List.all_eq_true.2 fun d hd => ?_, rfl⟩
    obtain ⟨x, rfl⟩ := hv d hd
    rfl
@[simp] theorem rowsL_flat (l : List Row) : ∀ c ∈ rowsL l, c.all D.flatC = true := fun c hc => by
  obtain ⟨x, _, rfl⟩ := List.mem_map.1 hc; rfl
@[simp] theorem ints_flat (l : List Int) : ∀ c ∈ ints l, c.all D.flatC = true := fun c hc => by
  obtain ⟨x, _, rfl⟩ := List.mem_map.1 hc; rfl
@[simp] theorem rowsL_size (l : List Row) : (rowsL l).all (fun c => c.length == 5) = true := by
  rw [List.all_eq_true]; intro c hc; obtain ⟨x, _, rfl⟩ := List.mem_map.1 hc; rfl
@[simp] theorem ints_size (l : List Int) : (ints l).all (fun c => c.length == 1) = true := by
  rw [List.all_eq_true]; intro c hc; obtain ⟨x, _, rfl⟩ := List.mem_map.1 hc; rfl
@[simp] theorem lists_size (l : List (List Int)) : (lists l).all (fun c => c.length == 1) = true := by
  rw [List.all_eq_true]; intro c hc; obtain ⟨x, _, rfl⟩ := List.mem_map.1 hc; rfl

/-- One variable, and nothing else. -/
def boxMem (xs : List D) : Mem := fun t => if t = [] then some (.box xs) else none
@[simp] theorem boxMem_nil (xs : List D) : boxMem xs [] = some (.box xs) := rfl
@[simp] theorem boxMem_cons (xs : List D) (a : Nat) (t : Tok) : boxMem xs (a :: t) = none := rfl
@[simp] theorem tab_reni (f : Tok → Tok) (n : Nat) (g : Nat → Int) : (tab n fun i => iv (g i)).map (D.renC f) = tab n fun i => iv (g i) := by
  simp only [tab, List.map_map]; rfl
theorem Out.box {σ : St} {t : Tok} {xs : List D} (h : σ.m t = some (.box xs)) (hf : ∀ d ∈ xs, d.flatC = true) : Out σ (.ptr t 0) (.ptr [] 0) (boxMem xs) := by
  have hv : ∀ d ∈ xs, ∃ x, d = .v x := fun d hd => by
    have := hf d hd
    cases d <;> simp [D.flatC] at this ⊢
  refine ⟨fun _ => t, rfl, rfl, fun s o ho => ?_, fun s s' o o' h1 h2 _ => ?_⟩
  · unfold boxMem at ho
    split at ho <;> cases ho
    refine ⟨fun d hd => by obtain ⟨x, rfl⟩ := hv d hd; rfl, ?_⟩
    have : xs.map (D.renC fun _ => t) = xs := by
      conv => rhs; rw [← List.map_id xs]
      exact List.map_congr_left fun d hd => by obtain ⟨x, rfl⟩ := hv d hd; rfl
    simp only [HO.ren, this, h]
  · unfold boxMem at h1 h2
    by_cases e1 : s = []
    · by_cases e2 : s' = []
      · rw [e1, e2]
      · rw [if_neg e2] at h2; cases h2
    · rw [if_neg e1] at h1; cases h1
theorem nodup_bound : ∀ (n : Nat) (l : List Nat), l.Nodup → (∀ x ∈ l, x < n) → l.length ≤ n
  | 0, l, _, h => by
    cases l with
    | nil => simp
    | cons x l => have := h x (by simp); omega
  | n + 1, l, hn, h => by
    by_cases hm : n ∈ l
    · have ih := nodup_bound n (l.erase n) (hn.erase n) fun x hx => by
        have h1 := (hn.mem_erase_iff).1 hx
        have h2 := h x h1.2
        have := h1.1
        omega
      rw [List.length_erase_of_mem hm] at ih
      omega
    · have ih := nodup_bound n l hn fun x hx => by
        have h2 := h x hx
        have : x ≠ n := fun e => hm (e ▸ hx)
        omega
      omega
@[simp] theorem viewRows_rows (f : D → Option D) (l : List Row) : viewRows f (rowsL l) = some (rowsL l) := viewRows_flat (List.all_eq_true.2 fun c hc => rowsL_flat l c hc)
@[simp] theorem viewRows_ints (f : D → Option D) (l : List Int) : viewRows f (ints l) = some (ints l) := viewRows_flat (List.all_eq_true.2 fun c hc => ints_flat l c hc)
@[simp] theorem rowsL_take (l : List Row) : (rowsL l).take l.length = rowsL l := List.take_of_length_le (by simp)
@[simp] theorem ints_take (l : List Int) : (ints l).take l.length = ints l := List.take_of_length_le (by simp)
/-- Nil or empty: both are lists without elements. -/
theorem rep_empty {w : World} {pr : Prot} {tk : Places} {v : Value} (h : Rep w pr tk v (.list [])) : Rep w pr tk v .nil ∨ Rep w pr tk v .mt := by
  generalize he : D.list [] = d at h
  cases h with
  | nil' => exact .inl .nil
  | emp => exact .inr .mt
  | list us a b c e => cases he; exact .inr .mt
  | _ => cases he
theorem rep_none {w : World} {pr pr' : Prot} {tk tk' : Places} {v : Value} {d : D} (h : Rep w pr tk v d) (hd : d.lenD = some 0) : Rep w pr' tk' v (.list []) := by
  have mk : ∀ (b off cap : Nat), Rep w pr' tk' (.slice (some ⟨b, off, none⟩) 0 cap) (.list []) := fun b off cap => .emp
  cases h <;> simp only [D.lenD] at hd <;> try (cases hd; done)
  case nil => exact .nil'
  case nil' => exact .nil'
  case mt => exact .emp
  case emp => exact .emp
  case list es us a b c e =>
    simp only [Option.some.injEq, List.length_eq_zero_iff] at hd
    subst hd
    exact mk _ _ _
  case sl =>
    simp only [Option.some.injEq] at hd
    subst hd
    exact mk _ _ _
/-- A contract for an empty list: one for nil, one for the empty one; what is handed back is empty. -/
theorem VCq.empty {f : Nat} {ds1 ds2 : List D} {d d' : D} {m m' : Mem} (h1 : VCq Try.prog f (ds1 ++ .nil :: ds2) d m) (h2 : VCq Try.prog f (ds1 ++ .mt :: ds2) d' m') (hd : d.lenD = some 0) (hd' : d'.lenD = some 0) :
    VCq Try.prog f (ds1 ++ .list [] :: ds2) (.list []) noMem := by
  refine ⟨h1.1, fun w pr cargs hpr hargs => ?_⟩
  have split : ∀ (vs : List Value) (ds1 : List D), Reps w pr noTok vs (ds1 ++ .list [] :: ds2) → Reps w pr noTok vs (ds1 ++ .nil :: ds2) ∨ Reps w pr noTok vs (ds1 ++ .mt :: ds2) := by
    intro vs ds1
    induction ds1 generalizing vs with
    | nil =>
      intro h
      match vs, h with
      | v :: vs, h => exact (rep_empty h.1).imp (fun k => ⟨k, h.2⟩) (fun k => ⟨k, h.2⟩)
    | cons d ds1 ih =>
      intro h
      match vs, h with
      | v :: vs, h => exact (ih vs h.2).imp (fun k => ⟨h.1, k⟩) (fun k => ⟨h.1, k⟩)
  rcases split _ _ hargs with hargs | hargs
  · refine (h1.2 w pr cargs hpr hargs).mono ?_
    rintro e w' ⟨v, tk', rfl, g1, g2, g3, g4⟩
    exact ⟨v, noTok, rfl, g1, ⟨fun t o h => (by cases h), fun t t' o o' b c c' h => (by cases h)⟩, fun t o b c h => (by cases h), rep_none g4 hd⟩
  · refine (h2.2 w pr cargs hpr hargs).mono ?_
    rintro e w' ⟨v, tk', rfl, g1, g2, g3, g4⟩
    exact ⟨v, noTok, rfl, g1, ⟨fun t o h => (by cases h), fun t t' o o' b c c' h => (by cases h)⟩, fun t o b c h => (by cases h), rep_none g4 hd'⟩

/-- How many are left. -/
def cnt (n : Nat) : D → Nat
  | .v (.int _ k) => n - k.toNat
  | _ => 0
@[simp] theorem cnt_iv (n : Nat) (k : Int) : cnt n (iv k) = n - k.toNat := rfl
@[simp] theorem toNat_succ (k : Nat) : ((k : Int) + 1).toNat = k + 1 := by omega
theorem wrap_succ {k : Nat} (h : k ≤ 1000000000) : IntKind.i64.wrap ((k : Int) + 1) = (k : Int) + 1 := wrap_in (by omega) (by omega)
@[simp] theorem wrap_0 : IntKind.i64.wrap 0 = 0 := wrap_in (by omega) (by omega)
@[simp] theorem wrap_1 : IntKind.i64.wrap 1 = 1 := wrap_in (by omega) (by omega)
@[simp] theorem wrap_2 : IntKind.i64.wrap 2 = 2 := wrap_in (by omega) (by omega)
theorem ite_iff {α : Type} {p q : Prop} [Decidable p] [Decidable q] {a b : α} (h : p ↔ q) : (if p then a else b) = if q then a else b := by
  by_cases hp : p
  · rw [if_pos hp, if_pos (h.1 hp)]
  · rw [if_neg hp, if_neg fun hq => hp (h.2 hq)]
theorem wrap_id {x : Int} (h1 : -9223372036854775808 ≤ x) (h2 : x ≤ 9223372036854775807) : IntKind.i64.wrap x = x := wrap_in h1 h2
end Go.Proofs.Ytpmgaaalfdjikaa
