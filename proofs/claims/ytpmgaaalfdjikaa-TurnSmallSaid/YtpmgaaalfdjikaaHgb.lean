/- The H semantics: maps, and calls that are handed memory. Lemmas; no condition. -/
import Derived.Test.YtpmgaaalfdjikaaHg
namespace Go.Proofs.Ytpmgaaalfdjikaa
open Go.RowKit

def mkmV (x : Nat) (σ : St) : Option St := some (σ.new x (.map []) (.mp (σ.tok x)))
def rngV (x : Nat) (a : D) (σ : St) : Option St :=
  match a with
  | .mp t => match σ.m t with
    | some (.map es) => some (σ.new x (.iter t es.length []) (.ptr (σ.tok x) 0))
    | _ => none
  | _ => none
def mupdV (ks : List Nat) (a k v : D) (σ : St) : Option St :=
  match a with
  | .mp t => match σ.m t with
    | some (.map es) => if v.okM = true ∧ k.okM = true then (findV ks k es 0).bind fun r => match r with
      | some i => (es[i]?).map fun p => σ.put t (some (.map (es.set i (p.1, v))))
      | none => if es.length < maxMade then some (σ.put t (some (.map (es ++ [(k, v)])))) else none
      else none
    | _ => none
  | _ => none

/-- The step of a loop over a map: whichever entry comes. -/
def nxtOK (x : Nat) (a : D) (K : St → Prop) (σ : St) : Prop :=
  ∃ u t n seen es, a = .ptr u 0 ∧ σ.m u = some (.iter t n seen) ∧ σ.m t = some (.map es) ∧ es.length = n ∧
    ((∀ i, i < n → i ∈ seen) → K (σ.set x (.tup [bv false]))) ∧
    ∀ (i : Nat) (p : D × D), es[i]? = some p → i ∉ seen → K ((σ.put u (some (.iter t n (seen ++ [i])))).set x (.tup [bv true, p.1, p.2]))

/-- The names of a callee's tokens. -/
def dnTok (x k : Nat) : Tok → Tok
  | 0 :: t => t
  | t => (x + 1) :: k :: t
def keepOld : Option HO → Option HO → Option HO
  | none, _ => none
  | some _, o => o
theorem keepOld_some {o o' : Option HO} {q : HO} (h : keepOld o o' = some q) : (∃ p, o = some p) ∧ o' = some q := by
  cases o with
  | none => cases h
  | some p => exact ⟨⟨p, rfl⟩, h⟩
def St.adoptM (σ : St) (x : Nat) (d : D) (m' : Mem) : St :=
  ⟨fun j => if j = x then d.ren (dnTok x (σ.c x)) else σ.s j,
   fun t => match t with
    | a :: b :: r => if a = x + 1 ∧ b = σ.c x then (match r with | 0 :: _ => none | r => (m' r).map (HO.ren (dnTok x (σ.c x)))) else keepOld (σ.m (a :: b :: r)) ((m' (0 :: a :: b :: r)).map (HO.ren (dnTok x (σ.c x))))
    | t => keepOld (σ.m t) ((m' (0 :: t)).map (HO.ren (dnTok x (σ.c x)))),
   fun y => if y = x then σ.c y + 1 else σ.c y⟩
def callmV (Γ : Env) (x f : Nat) (ds : List D) (σ : St) : Option St := if ds.all D.isDef then (Γ.m f σ.m ds).map fun q => σ.adoptM x q.1 q.2 else none

section
variable {P : Program} {w0 w : World} {pr : Prot} {A : Area} {n : Nat} {tk : Places} {σ : St} {a : Act}

theorem rel_mkm (R : Rel P w0 pr A n w a.tmps σ tk) {x : Nat} (hx : x < n) {t : Nat} {σ' : St} (h : mkmV x σ = some σ') :
    ∃ v w' tk', (Instr.makeMap t none).run P w = .ok v w' ∧ Rel P w0 pr A n w' (a.put (some x) v).tmps σ' tk' := by
  cases h
  obtain ⟨tk', R'⟩ := R.alloc hx (cap := 0) (Chg.alloc _ w (.map #[] 0)) (o := .map []) (d := .mp (σ.tok x)) (v := .map (some w.heap.size))
    (fun tk' hs _ => ⟨_, _, #[], hs, (MapKept.heap_alloc w _).1, rfl, by simp, fun i en p he => by simp at he⟩) (fun tk' hs => .mp hs)
  exact ⟨_, _, tk', by simp [Instr.makeMap, Result.andThen], R'⟩

theorem rel_rng (R : Rel P w0 pr A n w a.tmps σ tk) {x : Nat} (hx : x < n) {t k e : Nat} (hu : P.underlying t = some (.map k e)) {av : Value} {d : D} {σ' : St} (ha : Rep w pr tk av d) (h : rngV x d σ = some σ') :
    ∃ v w' tk', (Instr.range t av).run P w = .ok v w' ∧ Rel P w0 pr A n w' (a.put (some x) v).tmps σ' tk' := by
  unfold rngV at h
  split at h
  · rename_i u
    split at h <;> cases h
    rename_i es hm
    cases ha with
    | mp ht =>
      rename_i b cap
      obtain ⟨b1, c1, ents, h1, h2, _⟩ := R.mem.obj _ _ hm
      rw [ht] at h1; cases h1
      obtain ⟨tk', R'⟩ := R.alloc hx (cap := 0) (Chg.alloc _ w (.mapIter (some b) es.length #[] es.length)) (o := .iter u es.length []) (d := .ptr (σ.tok x) 0) (v := .pointer (some ⟨w.heap.size, 0, none⟩))
        (fun tk' hs he => ⟨_, _, b, cap, hs, he _ _ ht, (MapKept.heap_alloc w _).1⟩) (fun tk' hs => .ptr hs)
      exact ⟨_, _, tk', by simp [Instr.range, run_underlying hu, MapKept.run_getObj_map h2, Result.andThen], R'⟩
  · cases h

theorem chg_set {b : Nat} {o o' : Obj} (hb : w.heap[b]? = some o) : Chg (fun k => k = b) w { w with heap := w.heap.setIfInBounds b o' } :=
  ⟨rfl, rfl, rfl, by simp, fun k _ hk => (MapKept.heap_set hb).2 k hk⟩

theorem rel_mupd (R : Rel P w0 pr A n w a.tmps σ tk) {t e : Nat} {ks : List Nat} (hk : dKey P t = some (ks, e)) {av kv vv : Value} {d k v : D} {σ' : St} (ha : Rep w pr tk av d) (hkr : Rep w pr tk kv k) (hv : Rep w pr tk vv v)
    (h : mupdV ks d k v σ = some σ') : ∃ w', (Instr.mapUpdate t av kv vv).run P w = .ok () w' ∧ Rel P w0 pr A n w' a.tmps σ' tk := by
  obtain ⟨kt, n', kd, hu, hn, rfl, hkd, hchk⟩ := dKey_spec hk
  unfold mupdV at h
  split at h
  · rename_i u
    split at h
    · rename_i es hm
      split at h
      rotate_left
      · cases h
      rw [Option.bind_eq_some_iff] at h
      obtain ⟨r, hf, h⟩ := h
      cases ha with
      | mp ht =>
        rename_i b cap
        obtain ⟨ents, h2, h3, h4, h5, h6⟩ := findKey_sound R.mem hkd hn hm ht hkr hf
        have fin : ∀ (o' : Obj) (es' : List (D × D)), RepO P { w with heap := w.heap.setIfInBounds b o' } pr tk u (.map es') → Rel P w0 pr A n { w with heap := w.heap.setIfInBounds b o' } a.tmps (σ.put u (some (.map es'))) tk := fun o' es' ho =>
          R.write hm ht (chg_set h2) (o' := .map es') rfl (m' := (σ.put u (some (.map es'))).m) (by simp [St.put]) (fun t' q hne hq => by simpa [St.put, hne] using hq) ho
            (fun t' q c' hne hq ht' _ => by
              have hq : σ.m t' = some q := by simpa [St.put, hne] using hq
              rcases R.mem.inj t' u q _ b c' cap hq hm ht' ht with h | ⟨h1, h2⟩
              · exact absurd h hne
              · rw [h2] at h1; cases h1)
        have hK : ∀ o', Keeps w { w with heap := w.heap.setIfInBounds b o' } pr pr tk tk := fun o' => ⟨fun b' x hp => ⟨(chg_set h2).cell x (R.prw b' x hp) (fun e => by subst e; exact R.free hm ht hp), hp⟩, fun _ _ h => h⟩
        split at h
        · rename_i i
          obtain ⟨p, hp, rfl⟩ := Option.map_eq_some_iff.1 h
          obtain ⟨en, p', g1, g2, g3, g4, g5⟩ := h6
          rw [hp] at g2; cases g2
          have hstay : (Instr.keyThatStays en.key kv).run P w = .ok kv w := by
            rw [← g4]
            simp [Instr.keyThatStays, g5]
          refine ⟨_, ?_, fin (.map (ents.modify i fun e => { e with key := kv, val := vv }) es.length) _ ?_⟩
          · simp [Instr.mapUpdate, run_underlying hu, MapKept.run_getObj_map h2, hchk, g3, g1, hstay, MapKept.run_setObj_map _ h2, Result.andThen]
          · refine ⟨b, cap, ents.modify i fun e => { e with key := kv, val := vv }, ht, by rw [(MapKept.heap_set h2).1]; simp, by simpa using h3, by simpa using h4, fun j en' p' he hp' => ?_⟩
            rw [Array.getElem?_modify] at he
            rw [List.getElem?_set] at hp'
            have hi : i < es.length := (List.getElem?_eq_some_iff.1 hp).1
            by_cases hij : i = j
            · subst hij
              simp only [if_true, g1, Option.map_some, Option.some.injEq] at he
              simp only [if_true, hi, Option.some.injEq] at hp'
              subst he; subst hp'
              obtain ⟨q1, q2, q3⟩ := h5 i en p g1 hp
              exact ⟨q1, by rw [g4]; exact q2.keeps (hK _), hv.keeps (hK _)⟩
            · simp only [hij, if_false] at he hp'
              obtain ⟨q1, q2, q3⟩ := h5 j en' p' he hp'
              exact ⟨q1, q2.keeps (hK _), q3.keeps (hK _)⟩
        · split at h <;> cases h
          rename_i hlt
          refine ⟨_, ?_, fin (.map (ents.push { key := kv, val := vv, born := es.length }) (es.length + 1)) _ ?_⟩
          · simp only [] at h6
            simp [Instr.mapUpdate, run_underlying hu, MapKept.run_getObj_map h2, hchk, h6, MapKept.run_setObj_map _ h2, Result.andThen]
          · refine ⟨b, cap, ents.push { key := kv, val := vv, born := es.length }, ht, by rw [(MapKept.heap_set h2).1]; simp, by simp [h3], by simp [maxMade, maxLen] at hlt ⊢; omega, fun j en' p' he hp' => ?_⟩
            rw [Array.getElem?_push, h3] at he
            by_cases hj : j = es.length
            · subst hj
              simp only [if_true, Option.some.injEq] at he
              rw [List.getElem?_append_right (Nat.le_refl _)] at hp'
              simp only [Nat.sub_self, List.getElem?_cons_zero, Option.some.injEq] at hp'
              subst he; subst hp'
              exact ⟨rfl, hkr.keeps (hK _), hv.keeps (hK _)⟩
            · rw [if_neg hj] at he
              have hjl : j < es.length := by have := (Array.getElem?_eq_some_iff.1 he).1; omega
              rw [List.getElem?_append_left hjl] at hp'
              obtain ⟨q1, q2, q3⟩ := h5 j en' p' he hp'
              exact ⟨q1, q2.keeps (hK _), q3.keeps (hK _)⟩
    · cases h
  · cases h

theorem Chg.drew (A : Nat → Prop) (w : World) : Chg A w w.drew := ⟨rfl, rfl, rfl, Nat.le_refl _, fun _ _ _ => rfl⟩
theorem Rel.world (R : Rel P w0 pr A n w a.tmps σ tk) {w' : World} (hc : Chg (fun _ => False) w w') : Rel P w0 pr A n w' a.tmps σ tk := by
  have K := R.keepsN hc (fun _ _ h => h)
  refine ⟨R.size, R.chg.trans hc (fun _ _ h => h.elim), R.prlt, R.prA, R.mem.keeps K fun t o b c h ht => ?_, R.live, R.fresh, R.zero, fun i hi => (R.slot i hi).keeps K⟩
  obtain ⟨b', c', h1, h2⟩ := (R.mem.obj t o h).place
  rw [ht] at h1
  cases h1
  exact hc.block b h2 id

theorem rel_nxt (R : Rel P w0 pr A n w a.tmps σ tk) {x : Nat} (hx : x < n) {ty : Nat} {av : Value} {d : D} {K : St → Prop} (ha : Rep w pr tk av d) (h : nxtOK x d K σ) :
    ∃ v w' σ', (Instr.next av false ty).run P w = .ok v w' ∧ Rel P w0 pr A n w' (a.put (some x) v).tmps σ' tk ∧ K σ' := by
  obtain ⟨u, t, m, seen, es, rfl, hm1, hm2, rfl, hno, hyes⟩ := h
  cases ha with
  | ptr ht =>
    rename_i r cap
    obtain ⟨b1, c1, b2, c2, g1, g2, g3⟩ := R.mem.obj _ _ hm1
    rw [ht] at g1; cases g1
    obtain ⟨b3, c3, ents, h1, h2, h3, h4, h5⟩ := R.mem.obj _ _ hm2
    rw [g2] at h1; cases h1
    have hborn : ∀ (i : Nat) (en : MapEntry), ents[i]? = some en → en.born = i := fun i en he => by
      have hi : i < es.length := by have := (Array.getElem?_eq_some_iff.1 he).1; omega
      exact (h5 i en es[i] he (List.getElem?_eq_getElem hi)).1
    have hold : ∀ y ∈ ents.toList, y.born < es.length := fun y hy => by
      obtain ⟨i, hi, rfl⟩ := List.getElem_of_mem hy
      have := hborn i _ (Array.getElem?_eq_getElem (by simpa using hi))
      simp only [Array.getElem_toList]
      rw [this]
      simp at hi
      omega
    rcases run_next_at w ty _ b2 es.length es.length seen.toArray ents es.length g3 h2 hold (Nat.le_refl _) with ⟨k1, k2⟩ | ⟨e, k1, w1, k2, k3⟩
    · refine ⟨_, w, _, k2, R.put hx (Chg.refl _ _) (.tup (by simp) fun i c y hc hy => ?_), hno fun i hi => ?_⟩
      · match i, hc, hy with
        | 0, hc, hy => simp at hc hy; subst hc; subst hy; exact .v rfl
        | _ + 1, hc, hy => simp at hc
      · have hempty : leftOf ents seen.toArray = #[] := Array.eq_empty_of_size_eq_zero k1
        unfold leftOf at hempty
        rw [Array.filter_eq_empty_iff] at hempty
        have hil : i < ents.size := by omega
        have := hempty ents[i] (Array.getElem_mem hil)
        rw [hborn i _ (Array.getElem?_eq_getElem hil)] at this
        simpa using this
    · have hmem : e ∈ ents ∧ e.born ∉ seen := by
        unfold leftOf at k1
        simp only [Array.mem_toList_iff, Array.mem_filter] at k1
        exact ⟨k1.1, by simpa using k1.2⟩
      obtain ⟨i, hi, rfl⟩ := Array.getElem_of_mem hmem.1
      have hbi := hborn i _ (Array.getElem?_eq_getElem hi)
      rw [hbi] at hmem k3
      have hil : i < es.length := by omega
      obtain ⟨_, q2, q3⟩ := h5 i ents[i] es[i] (Array.getElem?_eq_getElem hi) (List.getElem?_eq_getElem hil)
      have hw1 : Rel P w0 pr A n w1 a.tmps σ tk := by rcases k2 with rfl | rfl; exact R; exact R.world (Chg.drew _ _)
      have hheap : w1.heap = w.heap := by rcases k2 with rfl | rfl <;> rfl
      have g3' : w1.heap[r]? = some (Obj.mapIter (some b2) es.length seen.toArray es.length) := by rw [hheap]; exact g3
      have hset : ∀ o', ChangeMaps.setBlock w1 r o' = { w1 with heap := w1.heap.setIfInBounds r o' } := fun _ => rfl
      have hfree : ∀ b' y, pr b' y → b' ≠ r := fun b' y hp e => by subst e; exact hw1.free hm1 ht hp
      have hK : ∀ o', Keeps w1 { w1 with heap := w1.heap.setIfInBounds r o' } pr pr tk tk := fun o' => ⟨fun b' y hp => ⟨(chg_set g3').cell y (hw1.prw b' y hp) (hfree b' y hp), hp⟩, fun _ _ h => h⟩
      have R2 : Rel P w0 pr A n { w1 with heap := w1.heap.setIfInBounds r (.mapIter (some b2) es.length (seen.toArray.push i) es.length) } a.tmps (σ.put u (some (.iter t es.length (seen ++ [i])))) tk :=
        hw1.write hm1 ht (chg_set g3') (o' := .iter t es.length (seen ++ [i])) rfl (m' := (σ.put u (some (.iter t es.length (seen ++ [i])))).m) (by simp [St.put]) (fun t' q hne hq => by simpa [St.put, hne] using hq)
          ⟨r, cap, b2, c2, ht, g2, by rw [(MapKept.heap_set g3').1]; simp⟩
          (fun t' q c' hne hq ht' _ => by
            have hq : σ.m t' = some q := by simpa [St.put, hne] using hq
            rcases hw1.mem.inj t' u q _ r c' cap hq hm1 ht' ht with h | ⟨h1, h2⟩
            · exact absurd h hne
            · rw [h2] at h1; cases h1)
      have hq2 : ∀ {v d}, Rep w pr tk v d → Rep w1 pr tk v d := fun {v d} h => by rcases k2 with rfl | rfl; exact h; exact h.keeps (R.keepsN (Chg.drew _ _) fun _ _ h => h)
      refine ⟨_, _, _, k3, R2.put hx (Chg.refl _ _) (.tup (xs := [bv true, es[i].1, es[i].2]) (by simp) fun j c y hc hy => ?_), hyes i es[i] (List.getElem?_eq_getElem hil) hmem.2⟩
      match j, hc, hy with
      | 0, hc, hy => simp at hc hy; subst hc; subst hy; exact .v rfl
      | 1, hc, hy => simp at hc hy; subst hc; subst hy; exact (hq2 q2).keeps (hK _)
      | 2, hc, hy => simp at hc hy; subst hc; subst hy; exact (hq2 q3).keeps (hK _)
      | _ + 3, hc, hy => simp at hc

theorem Rel.adoptM (R : Rel P w0 pr A n w a.tmps σ tk) {x : Nat} (hx : x < n) {w' : World} (hc : Chg (blocksOf tk σ.m) w w') {tkc : Places} {m' : Mem} {d : D} {v : Value} (hz : ∀ t, tkc (0 :: t) = tk t) (M : MemOK P w' pr tkc m')
    (hnew : ∀ t o b c, m' t = some o → tkc t = some (b, c) → w.heap.size ≤ b ∨ blocksOf tk σ.m b) (hv : Rep w' pr tkc v d) : ∃ tk', Rel P w0 pr A n w' (a.put (some x) v).tmps (σ.adoptM x d m') tk' := by
  let f : Tok → Tok := dnTok x (σ.c x)
  let tk' : Places := fun t => match t with
    | a :: b :: r => if a = x + 1 ∧ b = σ.c x then (match r with | 0 :: _ => none | r => tkc r) else tk (a :: b :: r)
    | t => tk t
  have hnone : ∀ r, tk ((x + 1) :: σ.c x :: r) = none := fun r => R.fresh x (σ.c x) r (Nat.le_refl _)
  have hold : ∀ t, (∀ r, t ≠ (x + 1) :: σ.c x :: r) → tk' t = tk t := fun t ht => by
    match t with
    | [] => rfl
    | [_] => rfl
    | p :: b :: r =>
      simp only [tk']
      rw [if_neg]
      rintro ⟨rfl, rfl⟩
      exact ht r rfl
  have hext : ∀ t p, tk t = some p → tk' t = some p := fun t p h => by
    rw [hold t fun r e => by rw [e, hnone] at h; cases h]
    exact h
  have hf : ∀ t p, tkc t = some p → tk' (f t) = some p := fun t p h => by
    match t, h with
    | [], h => simp [f, dnTok, tk', h]
    | 0 :: s, h =>
      rw [hz] at h
      exact hext s p h
    | (q + 1) :: s, h => simp [f, dnTok, tk', h]
  have hm : ∀ t q, (σ.adoptM x d m').m t = some q → ∃ s q0, m' s = some q0 ∧ t = f s ∧ q = q0.ren f ∧ tk' t = tkc s := fun t q h => by
    have other : (σ.adoptM x d m').m t = keepOld (σ.m t) ((m' (0 :: t)).map (HO.ren f)) → (∀ r, t ≠ (x + 1) :: σ.c x :: r) → ∃ s q0, m' s = some q0 ∧ t = f s ∧ q = q0.ren f ∧ tk' t = tkc s := fun e hne => by
      rw [e] at h
      obtain ⟨q0, hq0, rfl⟩ := Option.map_eq_some_iff.1 (keepOld_some h).2
      exact ⟨0 :: t, q0, hq0, rfl, rfl, by rw [hold t hne, hz]⟩
    match t, h, other with
    | [], _, other => exact other rfl (by simp)
    | [_], _, other => exact other rfl (by simp)
    | p :: b :: r, h, other =>
      by_cases hp : p = x + 1 ∧ b = σ.c x
      · obtain ⟨rfl, rfl⟩ := hp
        simp only [St.adoptM, and_self, if_true] at h
        match r, h with
        | [], h =>
          obtain ⟨q0, hq0, rfl⟩ := Option.map_eq_some_iff.1 h
          exact ⟨[], q0, hq0, rfl, rfl, by simp [tk']⟩
        | 0 :: s, h => cases h
        | (y + 1) :: s, h =>
          obtain ⟨q0, hq0, rfl⟩ := Option.map_eq_some_iff.1 h
          exact ⟨(y + 1) :: s, q0, hq0, rfl, rfl, by simp [tk']⟩
      · exact other (by simp only [St.adoptM]; rw [if_neg hp]) fun r' e => hp (by simp only [List.cons.injEq] at e; exact ⟨e.1, e.2.1⟩)
  have hblk : ∀ b, blocksOf tk σ.m b → w0.heap.size ≤ b ∨ A.a b := fun b ⟨t, o, c, h1, h2⟩ => R.live t o b c h1 h2
  have hpr : ∀ b o, pr b o → ¬ blocksOf tk σ.m b := fun b o hp ⟨t, q, c, h1, h2⟩ => R.free h1 h2 hp
  have K : Keeps w w' pr pr tk tk' := ⟨fun b o hp => ⟨hc.cell o (R.prw b o hp) (hpr b o hp), hp⟩, hext⟩
  have hsz := R.chg.size
  refine ⟨tk', by simp [Act.put, R.size], R.chg.trans hc (fun k hk hb => (hblk k hb).resolve_left (by omega)), R.prlt, R.prA, ⟨fun t q h => ?_, fun t t' q q' b c c' h h' ht ht' => ?_⟩, fun t q b c h ht => ?_, fun y k r hk => ?_, fun t => ?_, fun i hi => ?_⟩
  · obtain ⟨s, q0, hq0, rfl, rfl, _⟩ := hm t q h
    exact (M.obj s q0 hq0).ren (fun _ _ h => h) hf
  · obtain ⟨s, q0, hq0, e1, e2, e3⟩ := hm t q h
    obtain ⟨s', q0', hq0', e1', e2', e3'⟩ := hm t' q' h'
    rw [e3] at ht
    rw [e3'] at ht'
    rcases M.inj s s' q0 q0' b c c' hq0 hq0' ht ht' with h | ⟨h1, h2⟩
    · left; rw [e1, e1', h]
    · right
      rw [e2, e2', HO.ren_grp, HO.ren_grp, h2]
      exact ⟨by rw [← h2]; simpa using h1, rfl⟩
  · obtain ⟨s, q0, hq0, _, _, e3⟩ := hm t q h
    rw [e3] at ht
    rcases hnew s q0 b c hq0 ht with h | h
    · exact .inl (by omega)
    · exact hblk b h
  · simp only [St.adoptM] at hk
    have hne : ∀ r', (y + 1) :: k :: r ≠ (x + 1) :: σ.c x :: r' := fun r' e => by
      simp only [List.cons.injEq] at e
      have : y = x := by omega
      subst this
      rw [if_pos rfl] at hk
      omega
    rw [hold _ hne]
    refine R.fresh y k r ?_
    split at hk <;> omega
  · rw [hold (0 :: t) (by intro r e; simp at e)]
    exact R.zero t
  · simp only [Act.put, getD_put (show x < a.tmps.size by rw [R.size]; exact hx), St.adoptM]
    split
    · exact hv.ren (f := f) (fun _ _ h => ⟨rfl, h⟩) hf
    · exact (R.slot i hi).keeps K

/-- A call that is handed memory. -/
theorem step_callm {Γ : Env} (hΓ : Sound P Γ) {o : Oper} {c : Call} {f : Nat} {gs : List VArg} {x : Nat} {σ' : St} {next : Act → World → Prop} {Q : Exit → Act → World → Prop}
    (R : Rel P w0 pr A n w a.tmps σ tk) (ho : o.op = .call c) (hc : c.callee = .value (.func f)) (hgs : c.args.toList.mapM (dArg n) = some gs) (hx : o.dst = some x) (hxn : x < n)
    (hrun : callmV Γ x f (gs.map (VArg.val σ.s)) σ = some σ') (h : ∀ v w' tk', Rel P w0 pr A n w' (a.put (some x) v).tmps σ' tk' → next (a.put (some x) v) w') : o.wp P a w next Q := by
  have hrep := args_rep R hgs
  unfold callmV at hrun
  split at hrun
  rotate_left
  · cases hrun
  obtain ⟨⟨d, m'⟩, hq, rfl⟩ := Option.map_eq_some_iff.1 hrun
  obtain ⟨hb, hcon⟩ := hΓ.m f _ _ _ _ hq
  have hcall := hcon w pr tk (c.args.map a.eval) R.prw (fun b o hp ⟨t, q, cc, h1, h2⟩ => R.free h1 h2 hp) R.mem (by simpa using hrep)
  unfold Oper.wp
  rw [show (execOp a.eval o).run P w = .ok (.enter f (c.args.map a.eval)) w by simp [execOp, ho, resolve, hc, Act.eval, Deferred.ofValue, invoke, run_callFunc hb], Oper.upon_enter]
  refine hcall.mono ?_
  rintro e w' ⟨v, tkc, rfl, h1, h2, h3, h4, h5⟩
  rw [hx]
  obtain ⟨tk', R'⟩ := R.adoptM hxn h1 h2 h3 h4 h5
  exact h v w' tk' R'
end
end Go.Proofs.Ytpmgaaalfdjikaa
