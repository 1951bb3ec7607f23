/- The H semantics: regions of the model whose order is open: all orders that differ are gone through. Lemmas; no condition. -/
import Derived.Test.YtpmgaaalfdjikaaHi
import Derived.Orders
namespace Go.Proofs.Ytpmgaaalfdjikaa
open Go.RowKit

def stAt (sts : List VStm) (k : Nat) : VStm := sts.getD k default

def bindsAny (e : Edge) : Bool := Region.binds .any e

/-- 'M': for each operation the bits of those that surely come before it. -/
def tableOK (ops : Array Oper) (M : Nat → Nat) : Bool :=
  (List.range ops.size).all fun i =>
    match ops[i]? with
    | none => false
    | some o => o.after.toList.all (fun e => !bindsAny e || decide (e.on < i)) &&
      (List.range ops.size).all fun k => !(M i).testBit k || o.after.toList.any fun e => bindsAny e && (e.on == k || (M e.on).testBit k)

def listedAt (L : Array Bool) (i : Nat) : Bool := L.getD i false
def unlisted (ops : Array Oper) (L : Array Bool) : List Nat := (List.range ops.size).filter fun i => !listedAt L i

/-- One that may go first: whatever else may come before it can change places with it. -/
def canFirst (ops : Array Oper) (sts : List VStm) (M : Nat → Nat) (L : Array Bool) (i : Nat) : Bool :=
  (List.range ops.size).all fun j => listedAt L j || j == i || (M j).testBit i || indep (stAt sts i) (stAt sts j)
def pick (ops : Array Oper) (sts : List VStm) (M : Nat → Nat) (L : Array Bool) : Option Nat := (Region.ready .any ops L).find? (canFirst ops sts M L)
/-- The orders that are to be gone through. -/
def seqs (ops : Array Oper) (sts : List VStm) (M : Nat → Nat) : Nat → Array Bool → List (List Nat)
  | 0, _ => [[]]
  | n + 1, L => match pick ops sts M L with
    | some i => (seqs ops sts M n (L.setIfInBounds i true)).map (i :: ·)
    | none => (Region.ready .any ops L).flatMap fun i => (seqs ops sts M n (L.setIfInBounds i true)).map (i :: ·)

section
variable {P : Program} {fr : Nat → Nat} {w0 : World} {pr : Prot} {A : Area} {n : Nat} {Γ : Env} {ops : Array Oper}

theorem listed_set {L : Array Bool} {i : Nat} (hi : i < L.size) (k : Nat) : listedAt (L.setIfInBounds i true) k = (listedAt L k || k == i) := by
  simp only [listedAt, Array.getD_eq_getD_getElem?, Array.getElem?_setIfInBounds]
  by_cases h : i = k
  · subst h; simp [hi]
  · have h2 : (k == i) = false := by simpa using fun e : k = i => h e.symm
    simp [h, h2]

theorem mem_readyV {L : Array Bool} (hL : L.size = ops.size) {i : Nat} (h : i ∈ Region.ready .any ops L) :
    i < ops.size ∧ listedAt L i = false ∧ ∃ o, ops[i]? = some o ∧ ∀ e ∈ o.after, bindsAny e = true → listedAt L e.on = true := by
  simp only [Region.ready, List.mem_filter, List.mem_range, Bool.and_eq_true, Bool.not_eq_true'] at h
  obtain ⟨h1, h2, h3⟩ := h
  have hl : listedAt L i = false := by
    simp only [listedAt, Array.getD_eq_getD_getElem?] at *
    rw [Array.getElem?_eq_getElem (by omega)] at *
    simpa using h2
  refine ⟨h1, hl, ops[i], Array.getElem?_eq_getElem h1, fun e he hb => ?_⟩
  rw [Array.getElem?_eq_getElem h1] at h3
  simp only [Option.map_some, Option.getD_some, Array.all_eq_true_iff_forall_mem] at h3
  have := h3 e he
  have hb' : Region.binds .any e = true := hb
  rw [hb'] at this
  simpa [listedAt] using this

theorem ready_of_least {L : Array Bool} {M : Nat → Nat} (hL : L.size = ops.size) (hB : tableOK ops M = true) {i : Nat} (hi : i < ops.size) (hu : listedAt L i = false) (hlt : ∀ k, k < i → listedAt L k = true) : i ∈ Region.ready .any ops L := by
  simp only [Region.ready, List.mem_filter, List.mem_range, Bool.and_eq_true, Bool.not_eq_true']
  refine ⟨hi, ?_, ?_⟩
  · simp only [listedAt, Array.getD_eq_getD_getElem?] at *
    rw [Array.getElem?_eq_getElem (by omega)] at *
    simpa using hu
  · rw [Array.getElem?_eq_getElem hi]
    simp only [Option.map_some, Option.getD_some, Array.all_eq_true_iff_forall_mem]
    intro e he
    simp only [tableOK, List.all_eq_true, List.mem_range] at hB
    have := hB i hi
    rw [Array.getElem?_eq_getElem hi] at this
    simp only [Bool.and_eq_true, List.all_eq_true] at this
    have h1 := this.1 e (by simpa using he)
    cases hb : Region.binds .any e
    · simp
    · simp only [bindsAny, hb, Bool.not_true, Bool.false_or, decide_eq_true_eq] at h1
      have := hlt _ h1
      simpa [listedAt] using this

def Closed (ops : Array Oper) (L : Array Bool) : Prop := ∀ i o, ops[i]? = some o → listedAt L i = true → ∀ e ∈ o.after, bindsAny e = true → listedAt L e.on = true

theorem closed_table {L : Array Bool} {M : Nat → Nat} (hB : tableOK ops M = true) (hC : Closed ops L) : ∀ (i : Nat), i < ops.size → (listedAt L i = true ∨ ∃ o, ops[i]? = some o ∧ ∀ e ∈ o.after, bindsAny e = true → listedAt L e.on = true) →
    ∀ k, k < ops.size → (M i).testBit k = true → listedAt L k = true := by
  intro i
  induction i using Nat.strongRecOn with
  | _ i ih =>
    intro hi hl k hk hm
    have hB' := hB
    simp only [tableOK, List.all_eq_true, List.mem_range] at hB'
    have := hB' i hi
    rw [Array.getElem?_eq_getElem hi] at this
    simp only [Bool.and_eq_true, List.all_eq_true, List.mem_range] at this
    have hed : ∀ e ∈ ops[i].after, bindsAny e = true → listedAt L e.on = true := by
      rcases hl with hl | ⟨o, ho, hl⟩
      · exact hC i _ (Array.getElem?_eq_getElem hi) hl
      · rw [Array.getElem?_eq_getElem hi] at ho
        cases ho
        exact hl
    have h2 := this.2 k hk
    rw [hm] at h2
    simp only [Bool.not_true, Bool.false_or, List.any_eq_true, Bool.and_eq_true, Bool.or_eq_true, beq_iff_eq] at h2
    obtain ⟨e, he, hb, hor⟩ := h2
    have he' : e ∈ ops[i].after := by simpa using he
    rcases hor with hor | hor
    · subst hor; exact hed e he' hb
    · have hlt := this.1 e he
      rw [hb] at hlt
      have hlt : e.on < i := by simpa using hlt
      exact ih e.on hlt (by omega) (.inl (hed e he' hb)) k hk hor


def Full (Γ : Env) (ops : Array Oper) (sts : List VStm) (K : St → Prop) : Nat → Array Bool → St → Prop
  | 0, _, σ => K σ
  | n + 1, L, σ => ∀ i ∈ Region.ready .any ops L, ∃ σ1, (stAt sts i).run Γ σ = some σ1 ∧ Full Γ ops sts K n (L.setIfInBounds i true) σ1

theorem ready_more {L : Array Bool} (hL : L.size = ops.size) {i j : Nat} (hi : i ∈ Region.ready .any ops L) (hj : j ∈ Region.ready .any ops L) (hne : j ≠ i) : j ∈ Region.ready .any ops (L.setIfInBounds i true) := by
  obtain ⟨i1, i2, _⟩ := mem_readyV hL hi
  obtain ⟨j1, j2, o, ho, hed⟩ := mem_readyV hL hj
  have hset := fun k => listed_set (L := L) (i := i) (by omega) k
  simp only [Region.ready, List.mem_filter, List.mem_range, Bool.and_eq_true, Bool.not_eq_true']
  have hsz : (L.setIfInBounds i true).size = ops.size := by simpa using hL
  refine ⟨j1, ?_, ?_⟩
  · have : listedAt (L.setIfInBounds i true) j = false := by rw [hset, j2]; simpa using hne
    have hlt : j < (L.setIfInBounds i true).size := by omega
    simp only [listedAt, Array.getD_eq_getD_getElem?, Array.getElem?_eq_getElem hlt, Option.getD_some] at this ⊢
    exact this
  · rw [ho]
    simp only [Option.map_some, Option.getD_some, Array.all_eq_true_iff_forall_mem]
    intro e he
    cases hb : Region.binds .any e
    · simp
    · have := hed e he hb
      have h2 : listedAt (L.setIfInBounds i true) e.on = true := by rw [hset, this]; rfl
      simpa [listedAt] using h2

theorem unlisted_set {L : Array Bool} (hL : L.size = ops.size) {i : Nat} (hi : i < ops.size) (hu : listedAt L i = false) {k : Nat} (hk : (unlisted ops L).length = k + 1) : (unlisted ops (L.setIfInBounds i true)).length = k := by
  have hset := fun k => listed_set (L := L) (i := i) (by omega) k
  have hmem : i ∈ unlisted ops L := by simp [unlisted, hi, hu]
  have e : unlisted ops (L.setIfInBounds i true) = (unlisted ops L).filter (· != i) := by
    simp only [unlisted, List.filter_filter]
    apply List.filter_congr
    intro k _
    rw [hset k]
    cases listedAt L k <;> cases hk : (k == i) <;> simp_all [bne]
  have hnd : (unlisted ops L).Nodup := List.Nodup.sublist List.filter_sublist List.nodup_range
  rw [e, ← List.Nodup.erase_eq_filter hnd, List.length_erase_of_mem hmem, hk]
  rfl

theorem closed_set {L : Array Bool} (hL : L.size = ops.size) {i : Nat} (hi : i ∈ Region.ready .any ops L) (hC : Closed ops L) : Closed ops (L.setIfInBounds i true) := fun k ok hok hk e he hb => by
  obtain ⟨i1, i2, o, ho, hed⟩ := mem_readyV hL hi
  rw [listed_set (by omega)] at hk ⊢
  rw [Bool.or_eq_true] at hk ⊢
  rcases hk with hk | hk
  · exact .inl (hC k ok hok hk e he hb)
  · have : k = i := by simpa using hk
    subst this
    rw [ho] at hok; cases hok
    exact .inl (hed e he hb)

theorem set_set_comm (L : Array Bool) (i j : Nat) : (L.setIfInBounds i true).setIfInBounds j true = (L.setIfInBounds j true).setIfInBounds i true := by
  apply Array.ext_getElem?
  intro k
  simp only [Array.getElem?_setIfInBounds, Array.size_setIfInBounds]
  by_cases h1 : i = k <;> by_cases h2 : j = k <;> simp [h1, h2]

/-- To go through the orders that begin with one that may go first is enough. -/
theorem full_of_first {sts : List VStm} {K : St → Prop} {M : Nat → Nat} (hB : tableOK ops M = true) : ∀ (k : Nat) (L : Array Bool) (i : Nat) (σ σ1 : St), L.size = ops.size → Closed ops L → (unlisted ops L).length = k + 1 → WF σ → i ∈ Region.ready .any ops L →
    canFirst ops sts M L i = true → (stAt sts i).run Γ σ = some σ1 → Full Γ ops sts K k (L.setIfInBounds i true) σ1 → Full Γ ops sts K (k + 1) L σ := by
  intro k
  induction k with
  | zero =>
    intro L i σ σ1 hL hC hu W hi hf h1 hF j hj
    obtain ⟨i1, i2, _⟩ := mem_readyV hL hi
    obtain ⟨j1, j2, _⟩ := mem_readyV hL hj
    have hone : ∀ q, q ∈ unlisted ops L → ∀ q', q' ∈ unlisted ops L → q = q' := by
      cases hl : unlisted ops L with
      | nil => simp [hl] at hu
      | cons a r =>
        rw [hl] at hu
        have : r = [] := List.eq_nil_of_length_eq_zero (by simpa using hu)
        subst this
        intro q hq q' hq'
        simp at hq hq'
        rw [hq, hq']
    have : j = i := hone j (by simp [unlisted, j1, j2]) i (by simp [unlisted, i1, i2])
    subst this
    exact ⟨σ1, h1, hF⟩
  | succ k ih =>
    intro L i σ σ1 hL hC hu W hi hf h1 hF j hj
    obtain ⟨i1, i2, _⟩ := mem_readyV hL hi
    obtain ⟨j1, j2, oj, hoj, hedj⟩ := mem_readyV hL hj
    by_cases hji : j = i
    · subst hji; exact ⟨σ1, h1, hF⟩
    · obtain ⟨σ2, h2, hF2⟩ := hF j (ready_more hL hi hj hji)
      have hnd : (M j).testBit i = false := by
        cases hb : (M j).testBit i
        · rfl
        · have := closed_table hB hC j j1 (.inr ⟨oj, hoj, hedj⟩) i i1 hb
          rw [i2] at this; cases this
      have hind : indep (stAt sts i) (stAt sts j) = true := by
        simp only [canFirst, List.all_eq_true, List.mem_range, Bool.or_eq_true, beq_iff_eq] at hf
        rcases hf j j1 with ((h | h) | h) | h
        · rw [j2] at h; cases h
        · exact absurd h hji
        · rw [hnd] at h; cases h
        · exact h
      obtain ⟨σ3, h3, h4⟩ := commute W hind h1 h2
      refine ⟨σ3, h3, ih (L.setIfInBounds j true) i σ3 σ2 (by simpa using hL) (closed_set hL hj hC) (unlisted_set hL j1 j2 hu) (run_mem W h3).1 (ready_more hL hj hi (fun e => hji e.symm)) ?_ h4 ?_⟩
      · simp only [canFirst, List.all_eq_true, List.mem_range, Bool.or_eq_true, beq_iff_eq] at hf ⊢
        intro q hq
        rcases hf q hq with ((h | h) | h) | h
        · left; left; left; rw [listed_set (by omega), h]; rfl
        · exact .inl (.inl (.inr h))
        · exact .inl (.inr h)
        · exact .inr h
      · rw [← set_set_comm]; exact hF2

theorem full_of_seqs {sts : List VStm} {K : St → Prop} {M : Nat → Nat} (hB : tableOK ops M = true) : ∀ (k : Nat) (L : Array Bool) (σ : St), L.size = ops.size → Closed ops L → (unlisted ops L).length = k → WF σ →
    (∀ s ∈ seqs ops sts M k L, ∃ σ', runs Γ (s.map (stAt sts)) σ = some σ' ∧ K σ') → Full Γ ops sts K k L σ := by
  intro k
  induction k with
  | zero =>
    intro L σ hL hC hu W h
    obtain ⟨σ', h1, h2⟩ := h [] (by simp [seqs])
    simp only [List.map_nil, runs, Option.some.injEq] at h1
    subst h1
    exact h2
  | succ k ih =>
    intro L σ hL hC hu W h
    have step : ∀ i, i ∈ Region.ready .any ops L → (seqs ops sts M k (L.setIfInBounds i true)) ≠ [] → (∀ s ∈ seqs ops sts M k (L.setIfInBounds i true), ∃ σ', runs Γ ((i :: s).map (stAt sts)) σ = some σ' ∧ K σ') →
        ∃ σ1, (stAt sts i).run Γ σ = some σ1 ∧ Full Γ ops sts K k (L.setIfInBounds i true) σ1 := by
      intro i hi hne hs
      obtain ⟨i1, i2, _⟩ := mem_readyV hL hi
      cases hr : (stAt sts i).run Γ σ with
      | none =>
        cases hq : seqs ops sts M k (L.setIfInBounds i true) with
        | nil => exact absurd hq hne
        | cons s r =>
          obtain ⟨σ', h1, _⟩ := hs s (by rw [hq]; simp)
          simp [runs, hr] at h1
      | some σ1 =>
        refine ⟨σ1, rfl, ih _ σ1 (by simpa using hL) (closed_set hL hi hC) (unlisted_set hL i1 i2 hu) (run_mem W hr).1 fun s hss => ?_⟩
        obtain ⟨σ', h1, h2⟩ := hs s hss
        exact ⟨σ', by simpa [runs, hr] using h1, h2⟩
    have nonempty : ∀ (k : Nat) (L : Array Bool), L.size = ops.size → (unlisted ops L).length = k → seqs ops sts M k L ≠ [] := by
      intro k
      induction k with
      | zero => intro L _ _; simp [seqs]
      | succ k ih2 =>
        intro L hL hu
        have hrd : Region.ready .any ops L ≠ [] := fun hr => by
          have all : ∀ q, q < ops.size → listedAt L q = true := by
            intro q
            induction q using Nat.strongRecOn with
            | _ q ihq =>
              intro hq
              cases hl : listedAt L q
              · have := ready_of_least hL hB hq hl fun j hj => ihq j hj (by omega)
                rw [hr] at this; cases this
              · rfl
          have : unlisted ops L = [] := by
            simp only [unlisted, List.filter_eq_nil_iff, List.mem_range]
            intro q hq
            simp [all q hq]
          rw [this] at hu; cases hu
        simp only [seqs]
        split
        · rename_i i hp
          have hi := List.mem_of_find?_eq_some hp
          obtain ⟨i1, i2, _⟩ := mem_readyV hL hi
          have := ih2 (L.setIfInBounds i true) (by simpa using hL) (unlisted_set hL i1 i2 hu)
          simpa using this
        · cases hq : Region.ready .any ops L with
          | nil => exact absurd hq hrd
          | cons i r =>
            have hi : i ∈ Region.ready .any ops L := by rw [hq]; simp
            obtain ⟨i1, i2, _⟩ := mem_readyV hL hi
            have := ih2 (L.setIfInBounds i true) (by simpa using hL) (unlisted_set hL i1 i2 hu)
            simp [this]
    simp only [seqs] at h
    split at h
    · rename_i i hp
      have hi := List.mem_of_find?_eq_some hp
      obtain ⟨i1, i2, _⟩ := mem_readyV hL hi
      obtain ⟨σ1, h1, h2⟩ := step i hi (nonempty k _ (by simpa using hL) (unlisted_set hL i1 i2 hu)) fun s hs => h (i :: s) (by simpa using hs)
      exact full_of_first hB k L i σ σ1 hL hC hu W hi (List.find?_some hp) h1 h2
    · intro i hi
      obtain ⟨i1, i2, _⟩ := mem_readyV hL hi
      exact step i hi (nonempty k _ (by simpa using hL) (unlisted_set hL i1 i2 hu)) fun s hs => h (i :: s) (by simp only [List.mem_flatMap, List.mem_map]; exact ⟨i, hi, s, hs, rfl⟩)

theorem Rel.wf {w : World} {cs : Array Value} {σ : St} {tk : Places} (R : Rel P w0 pr A n w cs σ tk) : WF σ := fun x k r hk => by
  cases h : σ.m ((x + 1) :: k :: r) with
  | none => rfl
  | some o =>
    obtain ⟨b, c, h1, _⟩ := (R.mem.obj _ o h).place
    rw [R.fresh x k r hk] at h1; cases h1

theorem any_sound (hΓ : Sound P Γ) {M : Nat → Nat} (hB : tableOK ops M = true) {Q : Exit → Act → World → Prop} {df : List Deferred} {K : St → Prop} (hQ : ∀ a' w' tk' σ', a'.defers = df → Rel P w0 pr A n w' a'.tmps σ' tk' → K σ' → Q .normal a' w') :
    ∀ (k : Nat) (L : Array Bool) (a : Act) (w : World) (tk : Places) (σ : St), L.size = ops.size → Closed ops L → (unlisted ops L).length = k → a.defers = df → Rel P w0 pr A n w a.tmps σ tk →
      Full Γ ops (dReg P fr n ops) K k L σ → wpAny P .any ops Q k L a w := by
  have hget : ∀ i o, ops[i]? = some o → stAt (dReg P fr n ops) i = dStm P fr n ops o := fun i o h => by
    simp [stAt, dReg, List.getD, h]
  have readyNil : ∀ {L : Array Bool}, L.size = ops.size → Region.ready .any ops L = [] → ∀ k, k < ops.size → listedAt L k = true := by
    intro L hL hr k
    induction k using Nat.strongRecOn with
    | _ k ih =>
      intro hk
      cases hl : listedAt L k
      · have := ready_of_least hL hB hk hl fun j hj => ih j hj (by omega)
        rw [hr] at this; cases this
      · rfl
  intro k
  induction k with
  | zero =>
    intro L a w tk σ hL hC hu hdf R hF
    refine ⟨?_, hQ a w tk σ hdf R hF⟩
    cases hr : Region.ready .any ops L with
    | nil => rfl
    | cons i r =>
      obtain ⟨h1, h2, _⟩ := mem_readyV hL (i := i) (by rw [hr]; simp)
      have : i ∈ unlisted ops L := by simp [unlisted, h1, h2]
      rw [List.eq_nil_of_length_eq_zero hu] at this; cases this
  | succ k ih =>
    intro L a w tk σ hL hC hu hdf R hF
    refine ⟨fun hr => ?_, fun i hi => ?_⟩
    · exfalso
      have all := readyNil hL hr
      have : unlisted ops L = [] := by
        simp only [unlisted, List.filter_eq_nil_iff, List.mem_range]
        intro q hq
        simp [all q hq]
      rw [this] at hu; cases hu
    · obtain ⟨i1, i2, o, ho, _⟩ := mem_readyV hL hi
      obtain ⟨σ1, h1, h2⟩ := hF i hi
      rw [hget i o ho] at h1
      have := stm_sound hΓ R h1 (wpAny P .any ops Q k (L.setIfInBounds i true)) Q fun a' w' tk' hdf' R' =>
        ih (L.setIfInBounds i true) a' w' tk' σ1 (by simpa using hL) (closed_set hL hi hC) (unlisted_set hL i1 i2 hu) (hdf'.trans hdf) R' h2
      unfold wpOp
      simp only [ho]
      split
      · rename_i hw
        rw [if_pos hw] at this
        exact .inl this
      · rename_i hw
        rw [if_neg hw] at this
        exact this

/-- The orders that are to be gone through, of a region. -/
def orders (P : Program) (fr : Nat → Nat) (n : Nat) (ops : Array Oper) : Option (List (List VStm)) :=
  let b := Region.before ops
  if tableOK ops (fun i => b.getD i 0) then some ((seqs ops (dReg P fr n ops) (fun i => b.getD i 0) ops.size (Array.replicate ops.size false)).map fun s => s.map (stAt (dReg P fr n ops))) else none

theorem drawn_sound (hΓ : Sound P Γ) (hm : P.follows .mixedOrders = true) {id : Nat} {Q : Exit → Act → World → Prop} {w : World} {tk : Places} {σ : St} {K : St → Prop} {a : Act} {ss : List (List VStm)}
    (R : Rel P w0 pr A n w a.tmps σ tk) (hd : orders P fr n ops = some ss) (hr : ∀ s ∈ ss, ∃ σ', runs Γ s σ = some σ' ∧ K σ')
    (hQ : ∀ a' w' tk' σ', a'.defers = a.defers → Rel P w0 pr A n w' a'.tmps σ' tk' → K σ' → Q .normal a' w') : (Code.region id ops true).wp P Q a w := by
  apply wp_region_any hm
  simp only [orders] at hd
  split at hd <;> cases hd
  rename_i hB
  have hun : ∀ k, listedAt (Array.replicate ops.size false) k = false := fun k => by
    simp only [listedAt, Array.getD_eq_getD_getElem?, Array.getElem?_replicate]
    split <;> rfl
  have hC : Closed ops (Array.replicate ops.size false) := fun i o ho hl => by rw [hun i] at hl; cases hl
  have hu : (unlisted ops (Array.replicate ops.size false)).length = ops.size := by
    have : unlisted ops (Array.replicate ops.size false) = List.range ops.size := List.filter_eq_self.2 fun k _ => by rw [hun k]; rfl
    rw [this, List.length_range]
  have hg : Chg (fun _ => False) w { w with drawn := w.drawn + 1 } := ⟨rfl, rfl, rfl, Nat.le_refl _, fun _ _ _ => rfl⟩
  have K := R.keepsN hg (fun _ _ h => h)
  have R' : Rel P w0 pr A n { w with drawn := w.drawn + 1 } a.tmps σ tk :=
    ⟨R.size, R.chg.trans hg (fun _ _ h => h.elim), R.prlt, R.prA, R.mem.keeps K fun _ _ _ _ _ _ => rfl, R.live, R.fresh, R.zero, fun i hi => (R.slot i hi).keeps K⟩
  refine any_sound hΓ hB hQ ops.size _ a _ tk σ (by simp) hC hu rfl R' (full_of_seqs hB _ _ _ (by simp) hC hu R.wf fun s hs => hr _ (List.mem_map.2 ⟨s, hs, rfl⟩))
end
end Go.Proofs.Ytpmgaaalfdjikaa
