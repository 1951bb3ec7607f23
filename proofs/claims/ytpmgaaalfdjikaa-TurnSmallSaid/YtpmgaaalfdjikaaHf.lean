/- The H semantics: the steps that write: a new variable, a store, an append, what is made. Lemmas; no condition. -/
import Derived.Test.YtpmgaaalfdjikaaHe
import Derived.Maps.AppendAt
import Derived.Laws.OwnMore
namespace Go.Proofs.Ytpmgaaalfdjikaa
open Go.RowKit

def boxV (x : Nat) (d : D) (σ : St) : Option St :=
  if d.cells.all D.okC then some (σ.new x (.box d.cells) (.ptr (σ.tok x) 0)) else none

/-- A store of the cells of 'v' (so many: n) at an address. -/
def storeV (n : Nat) (a v : D) (σ : St) : Option St :=
  match a with
  | .ptr t off => match σ.m t with
    | some (.box xs) => if v.cells.length = n ∧ off + n ≤ xs.length ∧ v.cells.all D.okC = true then some (σ.put t (some (.box (putAt xs off v.cells)))) else none
    | _ => none
  | .rptr t size i j => match σ.m t with
    | some (.row g e es) => (es[i]?).bind fun c => if v.cells.length = n ∧ j + n ≤ size ∧ c.length = size ∧ v.cells.all D.okC = true then
        some ((σ.strike g i).put t (some (.row g e (es.set i (putAt c j v.cells))))) else none
    | _ => none
  | _ => none

/-- append -/
def appV (x e size : Nat) (a b : D) (σ : St) : Option St :=
  (b.elems σ.m).bind fun es2 => if es2.all (fun c => c.length == size) = false then none else
  match a with
  | .nil => if es2.isEmpty then some (σ.set x .nil) else if es2.length ≤ maxMade then some (σ.new x (.row (σ.tok x) e es2) (.sl (σ.tok x) size 0 es2.length none)) else none
  | .sl t size' off len lim => if es2.isEmpty then some (σ.set x (.sl t size' off len lim)) else match σ.m t with
    | some (.row g e' es1) => if e' = e ∧ size' = size ∧ len + es2.length ≤ maxMade ∧ off + len ≤ es1.length then
        match lim with
        | none => if off = 0 then some ((σ.strike g len).new x (.row g e (es1.take len ++ es2)) (.sl (σ.tok x) size 0 (len + es2.length) none)) else none
        | some c => if c < len + es2.length then some (σ.new x (.row (σ.tok x) e ((es1.drop off).take len ++ es2)) (.sl (σ.tok x) size 0 (len + es2.length) none)) else none
      else none
    | _ => none
  | _ => none

/-- make: of so many elements. -/
def mksV (x e size : Nat) (zero : List D) (a b : D) (σ : St) : Option St :=
  match a, b with
  | .v (.int _ l), .v (.int _ c) => if 0 ≤ l ∧ l ≤ c ∧ c ≤ maxMade then some (σ.new x (.row (σ.tok x) e (List.replicate l.toNat zero)) (.sl (σ.tok x) size 0 l.toNat none)) else none
  | _, _ => none

/-- A literal. -/
def litV (x e size len : Nat) (zero : List D) (places : List (Nat × Nat)) (ds : List D) (σ : St) : Option St :=
  if ds.all (fun d => d.cells.all D.okC) then (fillV zero places ds).bind fun cs => if cs.length = len * size then
    some (σ.new x (.row (σ.tok x) e (chop size len cs)) (.sl (σ.tok x) size 0 len none)) else none else none

def D.renC (f : Tok → Tok) : D → D
  | .sl t size off len lim => .sl (f t) size off len lim
  | .ptr t off => .ptr (f t) off
  | .rptr t size i j => .rptr (f t) size i j
  | .mp t => .mp (f t)
  | .agg _ | .tup _ | .clo .. => .undef
  | d => d
def D.renA (f : Tok → Tok) : D → D
  | .agg xs => .agg (xs.map (D.renC f))
  | .clo g xs => .clo g (xs.map (D.renC f))
  | d => d.renC f
def D.ren (f : Tok → Tok) : D → D
  | .tup xs => .tup (xs.map (D.renA f))
  | d => d.renA f
def HO.ren (f : Tok → Tok) : HO → HO
  | .box xs => .box (xs.map (D.renC f))
  | .row g e es => .row (f g) e (es.map fun c => c.map (D.renC f))
  | .map es => .map (es.map fun p => (p.1.renA f, p.2.renA f))
  | .iter t n seen => .iter (f t) n seen

/-- What a call hands back, as the caller's own. -/
def St.adopt (σ : St) (x : Nat) (d : D) (m' : Mem) : St :=
  ⟨fun j => if j = x then d.ren (fun t => (x + 1) :: σ.c x :: t) else σ.s j,
   fun t => match t with
    | a :: b :: r => if a = x + 1 ∧ b = σ.c x then (m' r).map (HO.ren fun t => (x + 1) :: σ.c x :: t) else σ.m (a :: b :: r)
    | t => σ.m t,
   fun y => if y = x then σ.c y + 1 else σ.c y⟩

def callqV (Γ : Env) (x f : Nat) (ds : List D) (σ : St) : Option St :=
  (ds.mapM (viewA σ.m)).bind fun as => (Γ.q f as).map fun q => σ.adopt x q.1 q.2

section
variable {P : Program} {w0 w : World} {pr : Prot} {A : Area} {n : Nat} {tk : Places} {σ : St} {a : Act}

theorem struck_some {g : Tok} {k : Nat} {o : Option HO} {q : HO} (h : HO.struck g k o = some q) : o = some q ∧ ∀ e es, q = .row g e es → es.length ≤ k := by
  unfold HO.struck at h
  split at h
  · rename_i g' e es
    split at h
    · cases h
    · rename_i hn
      cases h
      refine ⟨rfl, fun e' es' he => ?_⟩
      cases he
      rcases Nat.lt_or_ge k es.length with h1 | h1
      · exact absurd ⟨rfl, h1⟩ hn
      · exact h1
  · rename_i hno
    subst h
    exact ⟨rfl, fun e es he => by subst he; exact absurd rfl (hno g e es)⟩

/-- A new object at a new block. -/
theorem Rel.alloc (R : Rel P w0 pr A n w a.tmps σ tk) {x : Nat} (hx : x < n) {w' : World} (hc : Chg (fun _ => False) w w') {o : HO} {d : D} {v : Value} {cap : Nat}
    (ho : ∀ tk' : Places, tk' (σ.tok x) = some (w.heap.size, cap) → (∀ t p, tk t = some p → tk' t = some p) → RepO P w' pr tk' (σ.tok x) o)
    (hv : ∀ tk' : Places, tk' (σ.tok x) = some (w.heap.size, cap) → Rep w' pr tk' v d) : ∃ tk', Rel P w0 pr A n w' (a.put (some x) v).tmps (σ.new x o d) tk' := by
  let tk' : Places := fun t => if t = σ.tok x then some (w.heap.size, cap) else tk t
  have hnone : tk (σ.tok x) = none := R.fresh x (σ.c x) [] (Nat.le_refl _)
  have hself : tk' (σ.tok x) = some (w.heap.size, cap) := by simp [tk']
  have hext : ∀ t p, tk t = some p → tk' t = some p := fun t p h => by
    have : t ≠ σ.tok x := fun e => by rw [e, hnone] at h; cases h
    simp [tk', this, h]
  have K := R.keepsN hc hext
  have hsz := R.chg.size
  have hm : ∀ t q, (σ.new x o d).m t = some q → (t = σ.tok x ∧ q = o) ∨ (t ≠ σ.tok x ∧ σ.m t = some q) := fun t q h => by
    simp only [St.new, St.inc_m, St.set_m, St.put] at h
    split at h
    · cases h; exact .inl ⟨by assumption, rfl⟩
    · exact .inr ⟨by assumption, h⟩
  have hold : ∀ t q b c, t ≠ σ.tok x → σ.m t = some q → tk' t = some (b, c) → tk t = some (b, c) ∧ b < w.heap.size := fun t q b c hne h ht => by
    simp only [tk', if_neg hne] at ht
    obtain ⟨b1, c1, h1, h2⟩ := (R.mem.obj t q h).place
    rw [ht] at h1; cases h1
    exact ⟨ht, h2⟩
  refine ⟨tk', by simp [Act.put, R.size], R.chg.trans hc (fun _ _ h => h.elim), R.prlt, R.prA, ⟨fun t q h => ?_, fun t t' q q' b c c' h h' ht ht' => ?_⟩, fun t q b c h ht => ?_, fun y k r hk => ?_, fun t => by simp only [tk', St.tok, List.cons.injEq, show ¬ (0 = x + 1) by omega, false_and, if_false]; exact R.zero t, fun i hi => ?_⟩
  · rcases hm t q h with ⟨rfl, rfl⟩ | ⟨hne, h⟩
    · exact ho tk' hself hext
    · exact (R.mem.obj t q h).keeps K fun b c hb => by
        obtain ⟨b1, c1, h1, h2⟩ := (R.mem.obj t q h).place
        rw [hb] at h1; cases h1
        exact hc.block b h2 id
  · rcases hm t q h with ⟨e1, e2⟩ | ⟨hne, k1⟩ <;> rcases hm t' q' h' with ⟨e3, e4⟩ | ⟨hne', k2⟩
    · exact .inl (e1.trans e3.symm)
    · rw [e1, hself] at ht; cases ht
      have := hold t' q' _ c' hne' k2 ht'
      omega
    · rw [e3, hself] at ht'; cases ht'
      have := hold t q _ c hne k1 ht
      omega
    · exact R.mem.inj t t' q q' b c c' k1 k2 (hold t q b c hne k1 ht).1 (hold t' q' b c' hne' k2 ht').1
  · rcases hm t q h with ⟨rfl, rfl⟩ | ⟨hne, h⟩
    · rw [hself] at ht; cases ht
      exact .inl hsz
    · exact R.live t q b c h (hold t q b c hne h ht).1
  · simp only [St.new, St.inc, St.set_c, St.put_c] at hk
    have hne : (y + 1) :: k :: r ≠ σ.tok x := fun e => by
      simp only [St.tok, List.cons.injEq] at e
      obtain ⟨e1, e2, _⟩ := e
      have : y = x := by omega
      subst this
      rw [if_pos rfl] at hk
      omega
    simp only [tk', if_neg hne]
    refine R.fresh y k r ?_
    split at hk <;> omega
  · simp only [Act.put, getD_put (show x < a.tmps.size by rw [R.size]; exact hx), St.new, St.inc_s, St.set]
    split
    · exact hv tk' hself
    · exact (R.slot i hi).keeps K

/-- A token's block is written. -/
theorem Rel.write (R : Rel P w0 pr A n w a.tmps σ tk) {t : Tok} {o o' : HO} {b c : Nat} (hm : σ.m t = some o) (ht : tk t = some (b, c)) {w' : World} (hc : Chg (fun k => k = b) w w') (hg : o'.grp = o.grp) {m' : Mem}
    (hself : m' t = some o') (hrest : ∀ t' q, t' ≠ t → m' t' = some q → σ.m t' = some q) (ho : RepO P w' pr tk t o')
    (hgrp : ∀ t' q c', t' ≠ t → m' t' = some q → tk t' = some (b, c') → RepO P w pr tk t' q → RepO P w' pr tk t' q) : Rel P w0 pr A n w' a.tmps ⟨σ.s, m', σ.c⟩ tk := by
  have K : Keeps w w' pr pr tk tk := ⟨fun b' x h => ⟨hc.cell x (R.prw b' x h) (fun e => by subst e; exact R.free hm ht h), h⟩, fun _ _ h => h⟩
  have hin := fun t' q (h : m' t' = some q) => show ∃ q', σ.m t' = some q' ∧ q'.grp = q.grp from by
    by_cases e : t' = t
    · subst e; rw [hself] at h; cases h; exact ⟨o, hm, hg.symm⟩
    · exact ⟨q, hrest t' q e h, rfl⟩
  refine ⟨R.size, R.chg.trans hc (fun k hk e => ?_), R.prlt, R.prA, ⟨fun t' q (h : m' t' = some q) => ?_, fun t1 t2 q1 q2 b' c1 c2 h1 h2 g1 g2 => ?_⟩, fun t' q b' c' h h1 => ?_, R.fresh, R.zero, fun i hi => (R.slot i hi).keeps K⟩
  · subst e
    rcases R.live t o k c hm ht with h | h
    · omega
    · exact h
  · by_cases e : t' = t
    · subst e; rw [hself] at h; cases h; exact ho
    · have h0 := hrest t' q e h
      have hr := R.mem.obj t' q h0
      obtain ⟨b1, c1, h1, h2⟩ := hr.place
      by_cases hb : b1 = b
      · subst hb; exact hgrp t' q c1 e h h1 hr
      · exact hr.keeps K fun b2 c2 h3 => by
          rw [h1] at h3; cases h3
          exact hc.block b1 h2 hb
  · obtain ⟨q1', k1, e1⟩ := hin t1 q1 h1
    obtain ⟨q2', k2, e2⟩ := hin t2 q2 h2
    rw [← e1, ← e2]
    exact R.mem.inj t1 t2 q1' q2' b' c1 c2 k1 k2 g1 g2
  · obtain ⟨q', k, _⟩ := hin t' q h
    exact R.live t' q' b' c' k h1

theorem rel_box (R : Rel P w0 pr A n w a.tmps σ tk) {t x : Nat} {v : Value} {d : D} {σ' : St} (hv : Rep w pr tk v d) (hx : x < n) (h : boxV x d σ = some σ') :
    ∃ tk', Rel P w0 pr A n (w.alloc (.cells v.cells t)) (a.put (some x) (.pointer (some ⟨w.heap.size, 0, none⟩))).tmps σ' tk' := by
  unfold boxV at h
  split at h <;> cases h
  rename_i hd
  have hc := Chg.alloc (fun _ => False) w (.cells v.cells t)
  refine R.alloc hx (cap := 0) hc (fun tk' hs he => ?_) fun tk' hs => .ptr hs
  exact ⟨w.heap.size, 0, v.cells, t, hs, (Go.MapKept.heap_alloc w _).1, (cells_of_rep hv hd).keeps (R.keepsN hc he)⟩

def putCells (C : Array Value) (off : Nat) (V : Array Value) : Array Value := (C.toList.take off ++ V.toList ++ C.toList.drop (off + V.size)).toArray

theorem putCells_size {C V : Array Value} {off : Nat} (h : off + V.size ≤ C.size) : (putCells C off V).size = C.size := by
  simp [putCells]; omega
theorem putCells_get {C V : Array Value} {off : Nat} (h : off + V.size ≤ C.size) (i : Nat) : (putCells C off V)[i]? = if off ≤ i ∧ i < off + V.size then V[i - off]? else C[i]? := by
  simp only [putCells, List.getElem?_toArray]
  by_cases h1 : i < off
  · rw [if_neg (by omega), List.append_assoc, List.getElem?_append_left (by simp; omega), List.getElem?_take_of_lt h1, Array.getElem?_toList]
  · by_cases h2 : i < off + V.size
    · rw [if_pos (by omega), List.getElem?_append_left (by simp; omega), List.getElem?_append_right (by simp; omega), Array.getElem?_toList]
      congr 1
      simp; omega
    · rw [if_neg (by omega), List.getElem?_append_right (by simp; omega), List.getElem?_drop, Array.getElem?_toList]
      congr 1
      simp; omega

theorem run_store {t b off tt : Nat} {C : Array Value} {v : Value} {ds : List D} (hi : (P.info? t).isSome) (h3 : w.heap[b]? = some (.cells C tt (0, 0))) (hv : RepCs w pr tk v.cells ds) (hl : ds.length = P.cellsOf t) (ho : off + P.cellsOf t ≤ C.size) :
    (Instr.storeAt t (.pointer (some ⟨b, off, none⟩)) v).run P w = .ok () (w.setRow b (putCells C off v.cells)) := by
  have hvs : v.cells.size = P.cellsOf t := by rw [hv.1, hl]
  have hone : ∀ u ∈ v.cells.toList, u.oneCell' = true := fun u hu => by
    obtain ⟨i, hi, rfl⟩ := List.getElem_of_mem hu
    exact hv.2.1 i _ (by rw [← Array.getElem?_toList, List.getElem?_eq_getElem hi])
  have hrun := run_storeCells_at P b off tt v.cells.toList 0 C w h3 (by simp only [Nat.add_zero, Array.length_toList]; omega) hone
  simp only [Nat.add_zero, Array.length_toList] at hrun
  simp [Instr.storeAt, Instr.sureAddr, storeVar, sizeOf_run hi, hvs]
  exact hrun

theorem Chg.setRow (w : World) (b : Nat) (C : Array Value) : Chg (fun k => k = b) w (w.setRow b C) := ⟨rfl, rfl, rfl, by simp, fun k _ h => setRow_other w b k C h⟩

theorem rel_store (R : Rel P w0 pr A n w a.tmps σ tk) {t : Nat} {av v : Value} {d1 d2 : D} {σ' : St} (ha : Rep w pr tk av d1) (hv : Rep w pr tk v d2) (hi : (P.info? t).isSome)
    (h : storeV (P.cellsOf t) d1 d2 σ = some σ') : ∃ w', (Instr.storeAt t av v).run P w = .ok () w' ∧ Rel P w0 pr A n w' a.tmps σ' tk := by
  cases d1 <;> simp only [storeV] at h <;> try (cases h; done)
  case ptr τ off =>
    split at h
    · rename_i xs hm
      split at h <;> cases h
      rename_i hc
      obtain ⟨hlen, hoff, hok⟩ := hc
      cases ha with
      | ptr ht =>
        rename_i b cap
        obtain ⟨b', cap', C, tt, h1, h3, h4⟩ := R.mem.obj τ _ hm
        rw [ht] at h1; cases h1
        have hcv := cells_of_rep hv hok
        have hvs : v.cells.size = P.cellsOf t := by rw [hcv.1, hlen]
        have ho : off + P.cellsOf t ≤ C.size := by rw [h4.1]; omega
        refine ⟨_, run_store hi h3 hcv hlen ho, ?_⟩
        have hchg := Chg.setRow w b (putCells C off v.cells)
        have K : Keeps w (w.setRow b (putCells C off v.cells)) pr pr tk tk := ⟨fun b' x h => ⟨hchg.cell x (R.prw b' x h) (fun e => by subst e; exact R.free hm ht h), h⟩, fun _ _ h => h⟩
        refine R.write hm ht hchg (o' := .box (putAt xs off d2.cells)) rfl (m' := (σ.put τ (some (.box (putAt xs off d2.cells)))).m) (by simp [St.put]) (fun t' q hne hq => by simpa [St.put, hne] using hq) ?_ (fun t' q c' hne hq htk hr => ?_)
        · refine ⟨b, cap, putCells C off v.cells, tt, ht, setRow_heap w b C _ tt _ h3, ?_⟩
          have hcs : RepCs w pr tk (putCells C off v.cells) (putAt xs off d2.cells) := by
            have g := fun i => putCells_get (C := C) (V := v.cells) (off := off) (by omega) i
            refine ⟨by rw [putCells_size (by omega), putAt_length (by omega)]; exact h4.1, fun i c hc => ?_, fun i c x hc hx => ?_⟩
            · rw [g] at hc
              split at hc
              · exact hcv.2.1 _ c hc
              · exact h4.2.1 _ c hc
            · rw [g] at hc
              rw [putAt_get (by omega)] at hx
              have e := hcv.1
              split at hc
              · rw [if_pos (by omega)] at hx
                exact hcv.2.2 _ c x hc hx
              · rename_i hn
                rw [if_neg (by omega)] at hx
                exact h4.2.2 _ c x hc hx
          exact hcs.keeps K
        · have hq' : σ.m t' = some q := by simpa [St.put, hne] using hq
          rcases R.mem.inj t' τ q _ b c' cap hq' hm htk ht with h | ⟨h1, h2⟩
          · exact absurd h hne
          · rw [h2] at h1; simp [HO.grp] at h1
    · cases h
  case rptr τ size i j =>
    split at h
    · rename_i g e es hm
      rw [Option.bind_eq_some_iff] at h
      obtain ⟨c, hc, h⟩ := h
      split at h <;> cases h
      rename_i hcond
      obtain ⟨hlen, hj, hcl, hok⟩ := hcond
      cases ha with
      | rptr ht =>
        rename_i b cap
        obtain ⟨b', cap', C, h1, h3, h5, h6, h7, h8, h9⟩ := R.mem.obj τ _ hm
        rw [ht] at h1; cases h1
        have hsz := h8 c (List.mem_of_getElem? hc)
        have hse : size = P.cellsOf e := by omega
        subst hse
        have hcv := cells_of_rep hv hok
        have hvs : v.cells.size = P.cellsOf t := by rw [hcv.1, hlen]
        have hil := (List.getElem?_eq_some_iff.1 hc).1
        have hend : (i + 1) * P.cellsOf e ≤ cap * P.cellsOf e := Nat.mul_le_mul_right _ (by omega)
        rw [Nat.add_mul] at hend
        have ho : i * P.cellsOf e + j + P.cellsOf t ≤ C.size := by omega
        refine ⟨_, run_store hi h3 hcv hlen ho, ?_⟩
        have hchg := Chg.setRow w b (putCells C (i * P.cellsOf e + j) v.cells)
        have K : Keeps w (w.setRow b (putCells C (i * P.cellsOf e + j) v.cells)) pr pr tk tk := ⟨fun b' x h => ⟨hchg.cell x (R.prw b' x h) (fun e => by subst e; exact R.free hm ht h), h⟩, fun _ _ h => h⟩
        have gget := fun k => putCells_get (C := C) (V := v.cells) (off := i * P.cellsOf e + j) (by omega) k
        refine R.write hm ht hchg (o' := .row g e (es.set i (putAt c j d2.cells))) rfl (m' := ((σ.strike g i).put τ (some (.row g e (es.set i (putAt c j d2.cells))))).m) (by simp [St.put]) (fun t' q hne hq => ?_) ?_ (fun t' q c' hne hq htk hr => ?_)
        · simp only [St.put, hne, if_false, St.strike] at hq
          exact (struck_some hq).1
        · refine ⟨b, cap, putCells C (i * P.cellsOf e + j) v.cells, ht, setRow_heap w b C _ e _ h3, by simpa using h5, h6, by rw [putCells_size (by omega)]; exact h7, ?_⟩
          have hrow : RepRow P w pr tk (putCells C (i * P.cellsOf e + j) v.cells) e (es.set i (putAt c j d2.cells)) := by
            refine ⟨fun q hq => ?_, fun k q hq l d hd => ?_⟩
            · rcases List.mem_or_eq_of_mem_set hq with hq | rfl
              · exact h8 q hq
              · rw [putAt_length (by omega)]; exact hsz
            · rw [gget]
              by_cases hk : k = i
              · subst hk
                rw [List.getElem?_set_self (by omega)] at hq
                cases hq
                rw [putAt_get (by omega)] at hd
                have hcs1 := hcv.1
                split at hd
                · rw [if_pos (by omega)]
                  have hlt : l - j < v.cells.size := by omega
                  have ge := Array.getElem?_eq_getElem hlt
                  have e2 : k * P.cellsOf e + l - (k * P.cellsOf e + j) = l - j := by omega
                  rw [e2]
                  exact ⟨_, ge, hcv.2.1 _ _ ge, hcv.2.2 _ _ d ge hd⟩
                · rw [if_neg (by omega)]
                  exact h9 k c hc l d hd
              · rw [List.getElem?_set_ne (by omega)] at hq
                have hll : l < P.cellsOf e := by rw [← h8 q (List.mem_of_getElem? hq)]; exact (List.getElem?_eq_some_iff.1 hd).1
                have hne2 : ¬ (i * P.cellsOf e + j ≤ k * P.cellsOf e + l ∧ k * P.cellsOf e + l < i * P.cellsOf e + j + v.cells.size) := by
                  rintro ⟨g1, g2⟩
                  rcases Nat.lt_or_ge k i with hki | hki
                  · have : (k + 1) * P.cellsOf e ≤ i * P.cellsOf e := Nat.mul_le_mul_right _ hki
                    rw [Nat.add_mul] at this
                    omega
                  · have : (i + 1) * P.cellsOf e ≤ k * P.cellsOf e := Nat.mul_le_mul_right _ (by omega)
                    rw [Nat.add_mul] at this
                    omega
                rw [if_neg hne2]
                exact h9 k q hq l d hd
          exact hrow.keeps K
        · simp only [St.put, hne, if_false, St.strike] at hq
          obtain ⟨hq1, hq2⟩ := struck_some hq
          rcases R.mem.inj t' τ q _ b c' cap hq1 hm htk ht with h | ⟨g1, g2⟩
          · exact absurd h hne
          · cases q with
            | box => simp [HO.grp] at g1
            | map => simp [HO.grp] at g1
            | iter => simp [HO.grp] at g1
            | row g' e' es' =>
              simp only [HO.grp, Option.some.injEq] at g2
              subst g2
              have hshort := hq2 e' es' rfl
              obtain ⟨b2, cap2, C2, k1, k3, k5, k6, k7, k8, k9⟩ := hr
              rw [htk] at k1; cases k1
              rw [h3] at k3; cases k3
              refine ⟨b, c', putCells C (i * P.cellsOf e + j) v.cells, htk, setRow_heap w b C _ e _ h3, k5, k6, by rw [putCells_size (by omega)]; exact k7, ?_⟩
              refine RepRow.keeps ⟨k8, fun k q hq l d hd => ?_⟩ K
              rw [gget]
              have hkl := (List.getElem?_eq_some_iff.1 hq).1
              have hll : l < P.cellsOf e := by rw [← k8 q (List.mem_of_getElem? hq)]; exact (List.getElem?_eq_some_iff.1 hd).1
              have : (k + 1) * P.cellsOf e ≤ i * P.cellsOf e := Nat.mul_le_mul_right _ (by omega)
              rw [Nat.add_mul] at this
              rw [if_neg (by omega)]
              exact k9 k q hq l d hd
    · cases h

/-- .. a new token for a block that others of its group may lie in. -/
theorem Rel.alias (R : Rel P w0 pr A n w a.tmps σ tk) {x : Nat} (hx : x < n) {g : Tok} {e : Nat} {es : List (List D)} {d : D} {v : Value} {b cap : Nat} (hblk : w0.heap.size ≤ b ∨ A.a b) (hb : b < w.heap.size)
    (hgrp : ∀ t q c, σ.m t = some q → tk t = some (b, c) → q.grp = some g)
    (ho : ∀ tk' : Places, tk' (σ.tok x) = some (b, cap) → (∀ t p, tk t = some p → tk' t = some p) → RepO P w pr tk' (σ.tok x) (.row g e es))
    (hv : ∀ tk' : Places, tk' (σ.tok x) = some (b, cap) → Rep w pr tk' v d) : ∃ tk', Rel P w0 pr A n w (a.put (some x) v).tmps (σ.new x (.row g e es) d) tk' := by
  let tk' : Places := fun t => if t = σ.tok x then some (b, cap) else tk t
  have hnone : tk (σ.tok x) = none := R.fresh x (σ.c x) [] (Nat.le_refl _)
  have hself : tk' (σ.tok x) = some (b, cap) := by simp [tk']
  have hext : ∀ t p, tk t = some p → tk' t = some p := fun t p h => by
    have : t ≠ σ.tok x := fun e => by rw [e, hnone] at h; cases h
    simp [tk', this, h]
  have K := R.keepsN (Chg.refl _ _) hext
  have hm : ∀ t q, (σ.new x (.row g e es) d).m t = some q → (t = σ.tok x ∧ q = .row g e es) ∨ (t ≠ σ.tok x ∧ σ.m t = some q) := fun t q h => by
    simp only [St.new, St.inc_m, St.set_m, St.put] at h
    split at h
    · cases h; exact .inl ⟨by assumption, rfl⟩
    · exact .inr ⟨by assumption, h⟩
  have hold : ∀ t b c, t ≠ σ.tok x → tk' t = some (b, c) → tk t = some (b, c) := fun t b c hne ht => by
    simpa only [tk', if_neg hne] using ht
  refine ⟨tk', by simp [Act.put, R.size], R.chg, R.prlt, R.prA, ⟨fun t q h => ?_, fun t t' q q' b1 c c' h h' ht ht' => ?_⟩, fun t q b1 c h ht => ?_, fun y k r hk => ?_, fun t => by simp only [tk', St.tok, List.cons.injEq, show ¬ (0 = x + 1) by omega, false_and, if_false]; exact R.zero t, fun i hi => ?_⟩
  · rcases hm t q h with ⟨rfl, rfl⟩ | ⟨hne, h⟩
    · exact ho tk' hself hext
    · exact (R.mem.obj t q h).keeps K fun _ _ _ => rfl
  · rcases hm t q h with ⟨e1, e2⟩ | ⟨hne, k1⟩ <;> rcases hm t' q' h' with ⟨e3, e4⟩ | ⟨hne', k2⟩
    · exact .inl (e1.trans e3.symm)
    · rw [e1, hself] at ht; cases ht
      right
      rw [e2, hgrp t' q' c' k2 (hold t' _ c' hne' ht')]
      exact ⟨rfl, rfl⟩
    · rw [e3, hself] at ht'; cases ht'
      right
      rw [e4, hgrp t q c k1 (hold t _ c hne ht)]
      exact ⟨rfl, rfl⟩
    · exact R.mem.inj t t' q q' b1 c c' k1 k2 (hold t b1 c hne ht) (hold t' b1 c' hne' ht')
  · rcases hm t q h with ⟨rfl, rfl⟩ | ⟨hne, h⟩
    · rw [hself] at ht; cases ht
      exact hblk
    · exact R.live t q b1 c h (hold t b1 c hne ht)
  · simp only [St.new, St.inc, St.set_c, St.put_c] at hk
    have hne : (y + 1) :: k :: r ≠ σ.tok x := fun e => by
      simp only [St.tok, List.cons.injEq] at e
      obtain ⟨e1, e2, _⟩ := e
      have : y = x := by omega
      subst this
      rw [if_pos rfl] at hk
      omega
    simp only [tk', if_neg hne]
    refine R.fresh y k r ?_
    split at hk <;> omega
  · simp only [Act.put, getD_put (show x < a.tmps.size by rw [R.size]; exact hx), St.new, St.inc_s, St.set]
    split
    · exact hv tk' hself
    · exact (R.slot i hi).keeps K

/-- A block is written; who is left of those that lie in it reads as it did. -/
theorem Rel.writeG (R : Rel P w0 pr A n w a.tmps σ tk) {t : Tok} {o : HO} {b c : Nat} (hm : σ.m t = some o) (ht : tk t = some (b, c)) {w' : World} (hc : Chg (fun k => k = b) w w') {m' : Mem}
    (hrest : ∀ t' q, m' t' = some q → σ.m t' = some q) (hgrp : ∀ t' q c', m' t' = some q → tk t' = some (b, c') → RepO P w pr tk t' q → RepO P w' pr tk t' q) : Rel P w0 pr A n w' a.tmps ⟨σ.s, m', σ.c⟩ tk := by
  have K : Keeps w w' pr pr tk tk := ⟨fun b' x h => ⟨hc.cell x (R.prw b' x h) (fun e => by subst e; exact R.free hm ht h), h⟩, fun _ _ h => h⟩
  refine ⟨R.size, R.chg.trans hc (fun k hk e => ?_), R.prlt, R.prA, ⟨fun t' q (h : m' t' = some q) => ?_, fun t1 t2 q1 q2 b' c1 c2 h1 h2 g1 g2 => ?_⟩, fun t' q b' c' h h1 => ?_, R.fresh, R.zero, fun i hi => (R.slot i hi).keeps K⟩
  · subst e
    rcases R.live t o k c hm ht with h | h
    · omega
    · exact h
  · have hr := R.mem.obj t' q (hrest t' q h)
    obtain ⟨b1, c1, h1, h2⟩ := hr.place
    by_cases hb : b1 = b
    · subst hb; exact hgrp t' q c1 h h1 hr
    · exact hr.keeps K fun b2 c2 h3 => by
        rw [h1] at h3; cases h3
        exact hc.block b1 h2 hb
  · exact R.mem.inj t1 t2 q1 q2 b' c1 c2 (hrest _ _ h1) (hrest _ _ h2) g1 g2
  · exact R.live t' q b' c' (hrest _ _ h) h1

/-- Elements as the cells of a row, from their cells in memory. -/
theorem row_of_us {e : Nat} {es : List (List D)} {us : Nat → Value} {C : Array Value} (hsz : ∀ c ∈ es, c.length = P.cellsOf e) (hC : ∀ j, j < es.length * P.cellsOf e → C[j]? = some (us j))
    (h1 : ∀ j, j < es.length * P.cellsOf e → (us j).oneCell' = true) (hr : ∀ (i : Nat) (c : List D), es[i]? = some c → ∀ (j : Nat) (x : D), c[j]? = some x → Rep w pr tk (us (i * P.cellsOf e + j)) x) : RepRow P w pr tk C e es := by
  refine ⟨hsz, fun i c hc j d hd => ?_⟩
  have hi := (List.getElem?_eq_some_iff.1 hc).1
  have hj : j < P.cellsOf e := by rw [← hsz c (List.mem_of_getElem? hc)]; exact (List.getElem?_eq_some_iff.1 hd).1
  have hlt : i * P.cellsOf e + j < es.length * P.cellsOf e := by
    have : (i + 1) * P.cellsOf e ≤ es.length * P.cellsOf e := Nat.mul_le_mul_right _ hi
    rw [Nat.add_mul] at this
    omega
  exact ⟨_, hC _ hlt, h1 _ hlt, hr i c hc j d hd⟩

/-- A row's elements, and then others. -/
theorem row_append {e : Nat} {es1 es2 : List (List D)} {C C1 C2 : Array Value} (h1 : RepRow P w pr tk C1 e es1) (h2 : RepRow P w pr tk C2 e es2) (g1 : ∀ j, j < es1.length * P.cellsOf e → C[j]? = C1[j]?)
    (g2 : ∀ j, j < es2.length * P.cellsOf e → C[es1.length * P.cellsOf e + j]? = C2[j]?) : RepRow P w pr tk C e (es1 ++ es2) := by
  refine ⟨fun c hc => (List.mem_append.1 hc).elim (h1.1 c) (h2.1 c), fun i c hc j d hd => ?_⟩
  have below : ∀ {es : List (List D)} {i : Nat}, (∀ c ∈ es, c.length = P.cellsOf e) → es[i]? = some c → i * P.cellsOf e + j < es.length * P.cellsOf e := fun {es i} hs hc => by
    have hi := (List.getElem?_eq_some_iff.1 hc).1
    have hj : j < P.cellsOf e := by rw [← hs c (List.mem_of_getElem? hc)]; exact (List.getElem?_eq_some_iff.1 hd).1
    have : (i + 1) * P.cellsOf e ≤ es.length * P.cellsOf e := Nat.mul_le_mul_right _ hi
    rw [Nat.add_mul] at this
    omega
  by_cases hi : i < es1.length
  · rw [List.getElem?_append_left hi] at hc
    obtain ⟨u, hu, k1, k2⟩ := h1.2 i c hc j d hd
    exact ⟨u, by rw [g1 _ (below h1.1 hc)]; exact hu, k1, k2⟩
  · rw [List.getElem?_append_right (by omega)] at hc
    obtain ⟨u, hu, k1, k2⟩ := h2.2 _ c hc j d hd
    refine ⟨u, ?_, k1, k2⟩
    have e1 : i * P.cellsOf e + j = es1.length * P.cellsOf e + ((i - es1.length) * P.cellsOf e + j) := by
      rw [← Nat.add_assoc, ← Nat.add_mul]
      congr 2
      omega
    rw [e1, g2 _ (below h2.1 hc)]
    exact hu

theorem RepRow.take {e k : Nat} {es : List (List D)} {C : Array Value} (h : RepRow P w pr tk C e es) : RepRow P w pr tk C e (es.take k) :=
  ⟨fun c hc => h.1 c (List.mem_of_mem_take hc), fun i c hc j d hd => by
    have hlt : i < k := by have := (List.getElem?_eq_some_iff.1 hc).1; simp at this; omega
    rw [List.getElem?_take_of_lt hlt] at hc
    exact h.2 i c hc j d hd⟩

theorem RepRow.drop {e k : Nat} {es : List (List D)} {C C' : Array Value} (h : RepRow P w pr tk C e es) (hC : ∀ j, j < (es.length - k) * P.cellsOf e → C'[j]? = C[k * P.cellsOf e + j]?) : RepRow P w pr tk C' e (es.drop k) :=
  ⟨fun c hc => h.1 c (List.mem_of_mem_drop hc), fun i c hc j d hd => by
    rw [List.getElem?_drop] at hc
    obtain ⟨u, hu, k1, k2⟩ := h.2 (k + i) c hc j d hd
    have hi := (List.getElem?_eq_some_iff.1 hc).1
    have hj : j < P.cellsOf e := by rw [← h.1 c (List.mem_of_getElem? hc)]; exact (List.getElem?_eq_some_iff.1 hd).1
    have hlt : i * P.cellsOf e + j < (es.length - k) * P.cellsOf e := by
      have : (i + 1) * P.cellsOf e ≤ (es.length - k) * P.cellsOf e := Nat.mul_le_mul_right _ (by omega)
      rw [Nat.add_mul] at this
      omega
    refine ⟨u, ?_, k1, k2⟩
    rw [hC _ hlt, ← hu]
    congr 1
    rw [Nat.add_mul]; omega⟩
end
end Go.Proofs.Ytpmgaaalfdjikaa
