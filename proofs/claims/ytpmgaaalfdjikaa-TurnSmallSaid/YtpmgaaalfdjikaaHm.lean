/- The H semantics: a row of computing operations as expressions. Lemmas; no condition. -/
import Derived.Test.YtpmgaaalfdjikaaHl
namespace Go.Proofs.Ytpmgaaalfdjikaa
open Go.RowKit

/-- Operations that only compute, one behind the other. -/
structure POp where
  x : Nat
  k : PK
  args : List VArg
  g : Option (Nat × Bool)
  deriving Inhabited

inductive VX where
  | t (i : Nat)
  | c (d : D)
  | ap (k : PK) (xs : List VX)
  | ite (c a b : VX)
  deriving Inhabited

mutual
def ev (Γ : Env) (s : St) : VX → Option D
  | .t i => some (s.s i)
  | .c d => some d
  | .ap k xs => (evs Γ s xs).bind (k.run Γ s.m)
  | .ite c a b => (ev Γ s c).bind fun d => d.asBool.bind fun x => bif x then ev Γ s a else ev Γ s b
def evs (Γ : Env) (s : St) : List VX → Option (List D)
  | [] => some []
  | x :: xs => (ev Γ s x).bind fun d => (evs Γ s xs).map fun ds => d :: ds
end

abbrev VEnv := Nat → VX
def argX (e : VEnv) : VArg → VX
  | .t i => e i
  | .c d => .c d
def mkX (e : VEnv) (o : POp) : VX :=
  match o.k, o.args with
  | .mv, [a] => argX e a
  | .pick, [c, a, b] => .ite (argX e c) (argX e a) (argX e b)
  | k, as => .ap k (as.map (argX e))
def stepE (e : VEnv) (o : POp) : VEnv := fun t => if t = o.x then mkX e o else e t
def envAt (l : List POp) : Nat → VEnv
  | 0 => .t
  | i + 1 => stepE (envAt l i) (l.getD i default)

def POp.stm (o : POp) : VStm := .op o.x o.k o.args o.g

def oAt (l : List POp) (i : Nat) : POp := l.getD i default
def defIdx (l : List POp) : Nat → Nat → Option Nat
  | 0, _ => none
  | i + 1, t => if (oAt l i).x = t then some i else defIdx l i t
def chain (l : List POp) : Nat → Nat → List (Nat × Bool)
  | 0, _ => []
  | f + 1, i => match (oAt l i).g with
    | none => []
    | some (g, w) => (g, w) :: match defIdx l i g with
      | some k => chain l f k
      | none => []

def availA (l : List POp) (i : Nat) (ex : List (Nat × Bool)) : VArg → Bool
  | .c _ => true
  | .t t => match defIdx l i t with
    | none => true
    | some k => match (oAt l k).g with
      | none => true
      | some p => (chain l (i + 1) i ++ ex).contains p
def isPick (o : POp) : Option (VArg × VArg × VArg) :=
  match o.k, o.args with
  | .pick, [c, a, b] => some (c, a, b)
  | _, _ => none
def availOK (l : List POp) (i : Nat) : Bool :=
  match isPick (oAt l i) with
  | some (c, a, b) => availA l i [] c &&
    (match c with
     | .t cs => availA l i [(cs, true)] a && availA l i [(cs, false)] b
     | .c _ => availA l i [] a && availA l i [] b)
  | none => (oAt l i).args.all (availA l i [])
def isT (t : Nat) : VArg → Bool
  | .t u => u == t
  | .c _ => false
/-- The operation j surely asks for what the operation i makes. -/
def wants (l : List POp) (j i : Nat) : Bool :=
  let x := (oAt l i).x
  match isPick (oAt l j) with
  | some (c, a, b) => (isT x c && (oAt l i).g == (oAt l j).g) ||
    (match c with
     | .t cs => match defIdx l j cs with
       | some kc => (oAt l kc).g == (oAt l j).g && ((isT x a && (oAt l i).g == some (cs, true)) || (isT x b && (oAt l i).g == some (cs, false)))
       | none => false
     | .c _ => false)
  | none => (oAt l j).args.any (isT x) && (oAt l i).g == (oAt l j).g
def isPickOf (l : List POp) (j g : Nat) : Bool :=
  match isPick (oAt l j) with
  | some (c, _, _) => isT g c
  | none => false

def rowOK (l : List POp) (roots : List Nat) : Bool :=
  let n := l.length
  (List.range n).all fun i =>
    ((List.range i).all fun k => (oAt l k).x != (oAt l i).x) && availOK l i &&
    (match (oAt l i).g with
     | none => true
     | some (g, _) => match defIdx l i g with
       | none => false
       | some k => (List.range n).any fun j => decide (k < j) && isPickOf l j g && (oAt l j).g == (oAt l k).g) &&
    ((roots.contains (oAt l i).x && (oAt l i).g == none) || (List.range n).any fun j => decide (i < j) && wants l j i)

section
variable {Γ : Env} {s : St} {l : List POp}

def EX (l : List POp) (i : Nat) : VX := mkX (envAt l i) (oAt l i)

inductive Tr (Γ : Env) (s : St) (l : List POp) : Nat → Prop
  | free {i : Nat} (h : (oAt l i).g = none) : Tr Γ s l i
  | held {i k g : Nat} {w : Bool} (h : (oAt l i).g = some (g, w)) (hk : k < i) (hx : (oAt l k).x = g) (ht : Tr Γ s l k) (he : ev Γ s (EX l k) = some (bv w)) : Tr Γ s l i

theorem defIdx_some : ∀ {i t k : Nat}, defIdx l i t = some k → k < i ∧ (oAt l k).x = t
  | 0, _, _, h => by simp [defIdx] at h
  | i + 1, t, k, h => by
    simp only [defIdx] at h
    split at h
    · cases h; exact ⟨by omega, by assumption⟩
    · have := defIdx_some h; exact ⟨by omega, this.2⟩
theorem defIdx_none : ∀ {i t : Nat}, defIdx l i t = none → ∀ k, k < i → (oAt l k).x ≠ t
  | 0, _, _, k, hk => by omega
  | i + 1, t, h, k, hk => by
    simp only [defIdx] at h
    split at h
    · cases h
    · by_cases e : k = i
      · subst e; assumption
      · exact defIdx_none h k (by omega)

structure RowOK (l : List POp) (roots : List Nat) : Prop where
  ssa : ∀ i k, i < l.length → k < i → (oAt l k).x ≠ (oAt l i).x
  avail : ∀ i, i < l.length → availOK l i = true
  guard : ∀ i, i < l.length → ∀ g w, (oAt l i).g = some (g, w) → ∃ k, defIdx l i g = some k ∧ ∃ j, j < l.length ∧ k < j ∧ isPickOf l j g = true ∧ (oAt l j).g = (oAt l k).g
  root : ∀ i, i < l.length → (roots.contains (oAt l i).x = true ∧ (oAt l i).g = none) ∨ ∃ j, j < l.length ∧ i < j ∧ wants l j i = true

theorem rowOK_spec {roots : List Nat} (h : rowOK l roots = true) : RowOK l roots := by
  simp only [rowOK, List.all_eq_true, List.mem_range, Bool.and_eq_true, Bool.or_eq_true, List.any_eq_true, decide_eq_true_eq, beq_iff_eq, bne_iff_ne] at h
  refine ⟨fun i k hi hk => (h i hi).1.1.1 k hk, fun i hi => (h i hi).1.1.2, fun i hi g w hg => ?_, fun i hi => ?_⟩
  · have := (h i hi).1.2
    rw [hg] at this
    cases hd : defIdx l i g with
    | none => simp [hd] at this
    | some k =>
      simp only [hd, List.any_eq_true, List.mem_range, Bool.and_eq_true, decide_eq_true_eq, beq_iff_eq] at this
      obtain ⟨j, hj, ⟨h1, h2⟩, h3⟩ := this
      exact ⟨k, rfl, j, hj, h1, h2, h3⟩
  · rcases (h i hi).2 with h | ⟨j, hj, h1, h2⟩
    · exact .inl h
    · exact .inr ⟨j, hj, h1, h2⟩

variable {roots : List Nat}

theorem RowOK.uniq (H : RowOK l roots) {i k : Nat} (hi : i < l.length) (hk : k < l.length) (h : (oAt l i).x = (oAt l k).x) : i = k := by
  rcases Nat.lt_trichotomy i k with h1 | h1 | h1
  · exact absurd h (H.ssa k i hk h1)
  · exact h1
  · exact absurd h.symm (H.ssa i k hi h1)

/-- Which operation made a slot. -/
theorem RowOK.def_eq (H : RowOK l roots) {i k : Nat} (hi : i ≤ l.length) (hk : k < i) : defIdx l i (oAt l k).x = some k := by
  cases h : defIdx l i (oAt l k).x with
  | none => exact absurd rfl (defIdx_none h k hk)
  | some m =>
    have := defIdx_some h
    rw [H.uniq (by omega) (by omega) this.2]

theorem envAt_def (H : RowOK l roots) : ∀ {i k : Nat}, i ≤ l.length → k < i → envAt l i (oAt l k).x = EX l k
  | 0, _, _, h => by omega
  | i + 1, k, hi, hk => by
    simp only [envAt, stepE]
    by_cases e : k = i
    · subst e
      show (if (oAt l k).x = (oAt l k).x then _ else _) = _
      rw [if_pos rfl]; rfl
    · have : (oAt l k).x ≠ (l.getD i default).x := H.ssa i k (by omega) (by omega)
      rw [if_neg this]
      exact envAt_def H (by omega) (by omega)
theorem envAt_no : ∀ {i t : Nat}, (∀ k, k < i → (oAt l k).x ≠ t) → envAt l i t = .t t
  | 0, _, _ => rfl
  | i + 1, t, h => by
    simp only [envAt, stepE]
    rw [if_neg (fun e => h i (by omega) e.symm)]
    exact envAt_no fun k hk => h k (by omega)

theorem Tr.of_guard (H : RowOK l roots) {i j : Nat} (hj : j < l.length) (hi : i < l.length) (h : Tr Γ s l i) (hg : (oAt l j).g = (oAt l i).g) : Tr Γ s l j := by
  cases h with
  | free h => exact .free (hg.trans h)
  | @held i k g w h hk hx ht he =>
    obtain ⟨k', hk', _⟩ := H.guard j hj g w (hg.trans h)
    have hd := defIdx_some hk'
    have : k' = k := H.uniq (by omega) (by omega) (hd.2.trans hx.symm)
    subst this
    exact .held (hg.trans h) hd.1 hx ht he

/-- What a true guard says. -/
theorem Tr.guard (H : RowOK l roots) {i g : Nat} {w : Bool} (hi : i < l.length) (h : Tr Γ s l i) (hg : (oAt l i).g = some (g, w)) : ∃ k, k < i ∧ (oAt l k).x = g ∧ Tr Γ s l k ∧ ev Γ s (EX l k) = some (bv w) ∧ defIdx l i g = some k := by
  cases h with
  | free h => rw [hg] at h; cases h
  | @held _ k _ _ h hk hx ht he =>
    rw [hg] at h; cases h
    exact ⟨k, hk, hx, ht, he, by rw [← hx]; exact H.def_eq (by omega) hk⟩

theorem Tr.chain (H : RowOK l roots) : ∀ (f i : Nat), i < l.length → Tr Γ s l i → ∀ g w, (g, w) ∈ chain l f i → ∃ k, k < i ∧ (oAt l k).x = g ∧ Tr Γ s l k ∧ ev Γ s (EX l k) = some (bv w)
  | 0, i, _, _, g, w, h => by simp [Go.Proofs.Ytpmgaaalfdjikaa.chain] at h
  | f + 1, i, hi, ht, g, w, h => by
    simp only [Go.Proofs.Ytpmgaaalfdjikaa.chain] at h
    cases hg : (oAt l i).g with
    | none => simp [hg] at h
    | some p =>
      obtain ⟨g', w'⟩ := p
      simp only [hg] at h
      obtain ⟨k, h1, h2, h3, h4, h5⟩ := ht.guard H hi hg
      rw [h5] at h
      simp only [List.mem_cons, Prod.mk.injEq] at h
      rcases h with ⟨rfl, rfl⟩ | h
      · exact ⟨k, h1, h2, h3, h4⟩
      · obtain ⟨k', g1, g2, g3, g4⟩ := Tr.chain H f k (by omega) h3 g w h
        exact ⟨k', by omega, g2, g3, g4⟩

theorem ev_args {xs : List VX} {ds : List D} (h : evs Γ s xs = some ds) : ∀ x ∈ xs, (ev Γ s x).isSome = true := by
  induction xs generalizing ds with
  | nil => simp
  | cons y xs ih =>
    simp only [evs] at h
    obtain ⟨d, hd, h⟩ := Option.bind_eq_some_iff.1 h
    obtain ⟨ds', hds, _⟩ := Option.map_eq_some_iff.1 h
    intro x hx
    rcases List.mem_cons.1 hx with rfl | hx
    · rw [hd]; rfl
    · exact ih hds x hx

theorem mkX_pick {e : VEnv} {o : POp} {c a b : VArg} (h : isPick o = some (c, a, b)) : mkX e o = .ite (argX e c) (argX e a) (argX e b) := by
  obtain ⟨x, k, args, g⟩ := o
  simp only [isPick] at h
  split at h
  · cases h
    rfl
  · cases h
theorem mkX_args {e : VEnv} {o : POp} (h : isPick o = none) (hs : (ev Γ s (mkX e o)).isSome = true) : ∀ x ∈ o.args, (ev Γ s (argX e x)).isSome = true := by
  obtain ⟨x, k, args, g⟩ := o
  intro y hy
  by_cases hm : k = .mv ∧ ∃ a, args = [a]
  · obtain ⟨rfl, a, rfl⟩ := hm
    simp only [List.mem_singleton] at hy
    subst hy
    exact hs
  · have hx : mkX e ⟨x, k, args, g⟩ = .ap k (args.map (argX e)) := by
      unfold mkX
      split
      · rename_i a h1 h2
        exact absurd ⟨h1, a, h2⟩ hm
      · rename_i c a b h1 h2
        simp only at h1 h2
        subst h1 h2
        simp [isPick] at h
      · rfl
    rw [hx] at hs
    simp only [ev] at hs
    cases he : evs Γ s (args.map (argX e)) with
    | none => simp [he] at hs
    | some ds => exact ev_args he _ (List.mem_map_of_mem hy)

/-- What is asked for has a value. -/
theorem demand (H : RowOK l roots) (hroots : ∀ i, i < l.length → roots.contains (oAt l i).x = true → (ev Γ s (EX l i)).isSome = true) : ∀ (d i : Nat), l.length - i = d → i < l.length → Tr Γ s l i → (ev Γ s (EX l i)).isSome = true := by
  intro d
  induction d using Nat.strongRecOn with
  | _ d ih =>
    intro i hd hi ht
    rcases H.root i hi with ⟨h, _⟩ | ⟨j, hj, hij, hw⟩
    · exact hroots i hi h
    · have hjs : Tr Γ s l j → (ev Γ s (EX l j)).isSome = true := fun h => ih (l.length - j) (by omega) j rfl hj h
      have hX : ∀ {y : VArg}, isT (oAt l i).x y = true → argX (envAt l j) y = EX l i := fun {y} hy => by
        cases y with
        | c d => simp [isT] at hy
        | t u =>
          have : u = (oAt l i).x := by simpa [isT] using hy
          subst this
          exact envAt_def H (by omega) hij
      unfold wants at hw
      cases hp : isPick (oAt l j) with
      | none =>
        simp only [hp, Bool.and_eq_true, List.any_eq_true, beq_iff_eq] at hw
        obtain ⟨⟨y, hy, hyt⟩, hg⟩ := hw
        have := mkX_args hp (hjs (ht.of_guard H hj hi hg.symm)) y hy
        rw [hX hyt] at this
        exact this
      | some q =>
        obtain ⟨c, a, b⟩ := q
        simp only [hp, Bool.or_eq_true, Bool.and_eq_true, beq_iff_eq] at hw
        have hEj : EX l j = .ite (argX (envAt l j) c) (argX (envAt l j) a) (argX (envAt l j) b) := mkX_pick hp
        rcases hw with ⟨hyt, hg⟩ | hw
        · have hs := hjs (ht.of_guard H hj hi hg.symm)
          rw [hEj, hX hyt] at hs
          simp only [ev] at hs
          cases he : ev Γ s (EX l i) with
          | none => simp [he] at hs
          | some d => rfl
        · cases c with
          | c d => simp at hw
          | t cs =>
            cases hdj : defIdx l j cs with
            | none => simp [hdj] at hw
            | some kc =>
              simp only [hdj, Bool.and_eq_true, Bool.or_eq_true, beq_iff_eq] at hw
              obtain ⟨hgk, hor⟩ := hw
              have hkc := defIdx_some hdj
              have main : ∀ (wv : Bool) (y : VArg), isT (oAt l i).x y = true → (oAt l i).g = some (cs, wv) → (wv = true → y = a) → (wv = false → y = b) → (ev Γ s (EX l i)).isSome = true := by
                intro wv y hy hg h1 h2
                obtain ⟨k, g1, g2, g3, g4, g5⟩ := ht.guard H hi hg
                have : k = kc := H.uniq (by omega) (by omega) (g2.trans hkc.2.symm)
                subst this
                have hs := hjs (g3.of_guard H hj (by omega) hgk.symm)
                rw [hEj] at hs
                have hc : argX (envAt l j) (.t cs) = EX l k := by rw [← g2]; exact envAt_def H (by omega) hkc.1
                rw [hc] at hs
                simp only [ev, g4, Option.bind_some, D.asBool] at hs
                cases wv
                · have := h2 rfl; subst this
                  simp only [cond_false] at hs
                  rw [hX hy] at hs; exact hs
                · have := h1 rfl; subst this
                  simp only [cond_true] at hs
                  rw [hX hy] at hs; exact hs
              rcases hor with ⟨hy, hg⟩ | ⟨hy, hg⟩
              · exact main true a hy hg (fun _ => rfl) (fun h => by cases h)
              · exact main false b hy hg (fun h => by cases h) (fun _ => rfl)

def runPs (Γ : Env) (l : List POp) (s : St) : Option St := runs Γ (l.map POp.stm) s

theorem runs_append {a b : List VStm} {s : St} : runs Γ (a ++ b) s = (runs Γ a s).bind (runs Γ b) := by
  induction a generalizing s with
  | nil => rfl
  | cons st a ih =>
    simp only [List.cons_append, runs]
    cases st.run Γ s with
    | none => rfl
    | some s1 => simp [ih]

theorem evs_map {e : VEnv} {σ : St} : ∀ {as : List VArg}, (∀ x ∈ as, ev Γ s (argX e x) = some (x.val σ.s)) → evs Γ s (as.map (argX e)) = some (as.map (VArg.val σ.s))
  | [], _ => rfl
  | x :: as, h => by
    have ih := evs_map (as := as) fun y hy => h y (List.mem_cons_of_mem _ hy)
    simp only [List.map_cons, evs, h x List.mem_cons_self, Option.bind_some, ih, Option.map_some]

theorem row_run (H : RowOK l roots) (hroots : ∀ i, i < l.length → roots.contains (oAt l i).x = true → (ev Γ s (EX l i)).isSome = true) : ∀ (i : Nat), i ≤ l.length →
    ∃ σ, runPs Γ (l.take i) s = some σ ∧ (∀ k, k < i → (Tr Γ s l k → ev Γ s (EX l k) = some (σ.s (oAt l k).x)) ∧ (¬ Tr Γ s l k → σ.s (oAt l k).x = .tup [])) ∧ (∀ t, (∀ k, k < i → (oAt l k).x ≠ t) → σ.s t = s.s t) ∧ σ.m = s.m ∧ σ.c = s.c := by
  have dem := fun i hi ht => demand (Γ := Γ) (s := s) H hroots (l.length - i) i rfl hi ht
  intro i
  induction i with
  | zero => intro _; exact ⟨s, rfl, fun k hk => by omega, fun t _ => rfl, rfl, rfl⟩
  | succ i ih =>
    intro hi
    obtain ⟨σ, hr, h1, h2, hmm, hcc⟩ := ih (by omega)
    have hil : i < l.length := by omega
    have ho : oAt l i = l[i] := by simp [oAt, List.getD, hil]
    have htake : l.take (i + 1) = l.take i ++ [oAt l i] := by rw [List.take_succ_eq_append_getElem hil, ho]
    -- the guard
    have hguard : (Tr Γ s l i → guardV σ (oAt l i).g = some true) ∧ (¬ Tr Γ s l i → guardV σ (oAt l i).g = some false) := by
      cases hg : (oAt l i).g with
      | none => exact ⟨fun _ => rfl, fun h => absurd (.free hg) h⟩
      | some p =>
        obtain ⟨g, w⟩ := p
        obtain ⟨k, hk, j, hj, hkj, hpj, hgj⟩ := H.guard i hil g w hg
        have hkd := defIdx_some hk
        have hval := h1 k hkd.1
        rw [hkd.2] at hval
        by_cases htk : Tr Γ s l k
        · have e1 := hval.1 htk
          have hsj := dem j hj (htk.of_guard H hj (by omega) hgj)
          unfold isPickOf at hpj
          cases hp : isPick (oAt l j) with
          | none => simp [hp] at hpj
          | some q =>
            obtain ⟨c, a, b⟩ := q
            simp only [hp] at hpj
            have hEj : EX l j = .ite (argX (envAt l j) c) (argX (envAt l j) a) (argX (envAt l j) b) := mkX_pick hp
            have hc : argX (envAt l j) c = EX l k := by
              cases c with
              | c d => simp [isT] at hpj
              | t u =>
                have : u = g := by simpa [isT] using hpj
                subst this
                rw [← hkd.2]; exact envAt_def H (by omega) hkj
            rw [hEj, hc] at hsj
            simp only [ev, e1, Option.bind_some] at hsj
            have hb : ∃ b, σ.s g = .v (.bool b) := by
              cases hσ : σ.s g <;> rw [hσ] at hsj <;> simp only [D.asBool] at hsj <;> try (cases hsj; done)
              rename_i xv
              cases xv <;> simp only [] at hsj <;> first | exact ⟨_, rfl⟩ | (cases hsj; done)
            obtain ⟨b, hb⟩ := hb
            have hgv : guardV σ (some (g, w)) = some (b == w) := by simp only [guardV, hb]
            rw [hgv]
            refine ⟨fun ht => ?_, fun ht => ?_⟩
            · obtain ⟨k', g1, g2, g3, g4, g5⟩ := ht.guard H hil hg
              rw [hk] at g5; cases g5
              rw [e1, hb] at g4
              cases g4; simp
            · have : ¬ b = w := fun e => ht (.held hg hkd.1 hkd.2 htk (by rw [e1, hb, e]))
              simpa using this
        · have e1 := hval.2 htk
          have hgv : guardV σ (some (g, w)) = some false := by simp only [guardV, e1]
          rw [hgv]
          refine ⟨fun ht => ?_, fun _ => rfl⟩
          obtain ⟨k', g1, g2, g3, g4, g5⟩ := ht.guard H hil hg
          rw [hk] at g5; cases g5
          exact absurd g3 htk
    -- an argument's value
    have harg : ∀ (ex : List (Nat × Bool)), (∀ p ∈ ex, ∃ k, k < i ∧ (oAt l k).x = p.1 ∧ Tr Γ s l k ∧ ev Γ s (EX l k) = some (bv p.2)) → Tr Γ s l i → ∀ y, availA l i ex y = true → ev Γ s (argX (envAt l i) y) = some (y.val σ.s) := by
      intro ex hex ht y hy
      cases y with
      | c d => rfl
      | t t =>
        simp only [availA] at hy
        cases hd : defIdx l i t with
        | none =>
          have hno := defIdx_none hd
          simp only [argX, envAt_no hno, ev, VArg.val, h2 t hno]
        | some k =>
          simp only [hd] at hy
          have hkd := defIdx_some hd
          have htk : Tr Γ s l k := by
            cases hg : (oAt l k).g with
            | none => exact .free hg
            | some p =>
              obtain ⟨g, w⟩ := p
              simp only [hg, List.contains_eq_mem, List.mem_append, decide_eq_true_eq] at hy
              have : ∃ k', k' < i ∧ (oAt l k').x = g ∧ Tr Γ s l k' ∧ ev Γ s (EX l k') = some (bv w) := by
                rcases hy with hy | hy
                · exact ht.chain H (i + 1) i hil g w hy
                · exact hex (g, w) hy
              obtain ⟨k', g1, g2, g3, g4⟩ := this
              obtain ⟨k2, hk2, _⟩ := H.guard k (by omega) g w hg
              have hkd2 := defIdx_some hk2
              have : k' = k2 := H.uniq (by omega) (by omega) (g2.trans hkd2.2.symm)
              subst this
              exact .held hg hkd2.1 g2 g3 g4
          have := (h1 k hkd.1).1 htk
          rw [hkd.2] at this
          simp only [argX, VArg.val]
          rw [← hkd.2, envAt_def H (by omega) hkd.1, this, hkd.2]
    -- the operation
    have hstep : ∃ d, (oAt l i).stm.run Γ σ = some (σ.set (oAt l i).x d) ∧ (Tr Γ s l i → ev Γ s (EX l i) = some d) ∧ (¬ Tr Γ s l i → d = .tup []) := by
      by_cases ht : Tr Γ s l i
      · have hsome := dem i hil ht
        obtain ⟨d, hd⟩ := Option.isSome_iff_exists.1 hsome
        refine ⟨d, ?_, fun _ => hd, fun h => absurd ht h⟩
        simp only [POp.stm, VStm.run, hguard.1 ht, Option.bind_some, cond_true, opV]
        have hav := H.avail i hil
        unfold availOK at hav
        cases hp : isPick (oAt l i) with
        | none =>
          simp only [hp, List.all_eq_true] at hav
          have hargs : ∀ x ∈ (oAt l i).args, ev Γ s (argX (envAt l i) x) = some (x.val σ.s) := fun x hx => harg [] (by simp) ht x (hav x hx)
          rw [hmm]
          have hval : (oAt l i).k.run Γ s.m ((oAt l i).args.map (VArg.val σ.s)) = some d := by
            have hd' := hd
            unfold EX mkX at hd'
            split at hd'
            · rename_i a h1 h2
              rw [h1, h2]
              rw [hargs a (by rw [h2]; simp)] at hd'
              simp only [List.map_cons, List.map_nil, PK.run, mvV]
              exact hd'
            · rename_i c a b h1 h2
              simp [isPick, h1, h2] at hp
            · simp only [ev, evs_map hargs, Option.bind_some] at hd'
              exact hd'
          rw [hval]; rfl
        | some q =>
          obtain ⟨c, a, b⟩ := q
          simp only [hp, Bool.and_eq_true] at hav
          obtain ⟨hc, hab⟩ := hav
          have hpk : (oAt l i).k = .pick ∧ (oAt l i).args = [c, a, b] := by
            unfold isPick at hp
            split at hp
            · cases hp; rename_i h1 h2; exact ⟨h1, h2⟩
            · cases hp
          have evc := harg [] (by simp) ht c hc
          have hd' := hd
          unfold EX at hd'
          rw [mkX_pick hp] at hd'
          simp only [ev, evc, Option.bind_some] at hd'
          obtain ⟨bb, hbb, hd'⟩ := Option.bind_eq_some_iff.1 hd'
          rw [hpk.1, hpk.2]
          simp only [PK.run, List.map_cons, List.map_nil, pickV, hbb, Option.bind_some, Option.map_some]
          congr 2
          have hsel : ∀ (y : VArg), (bb = true → y = a) → (bb = false → y = b) → ev Γ s (argX (envAt l i) y) = some (y.val σ.s) := by
            intro y ha hb
            cases c with
            | c dc =>
              simp only [Bool.and_eq_true] at hab
              cases bb
              · have := hb rfl; subst this; exact harg [] (by simp) ht _ hab.2
              · have := ha rfl; subst this; exact harg [] (by simp) ht _ hab.1
            | t cs =>
              simp only [Bool.and_eq_true] at hab
              -- the condition's own slot
              have hex : ∀ wv, bb = wv → ∀ y, availA l i [(cs, wv)] y = true → ev Γ s (argX (envAt l i) y) = some (y.val σ.s) := by
                intro wv hwv y hy
                cases hdc : defIdx l i cs with
                | none =>
                  refine harg [] (by simp) ht y ?_
                  cases y with
                  | c d => rfl
                  | t t =>
                    simp only [availA] at hy ⊢
                    cases hd2 : defIdx l i t with
                    | none => rfl
                    | some k =>
                      simp only [hd2] at hy ⊢
                      cases hg : (oAt l k).g with
                      | none => rfl
                      | some p =>
                        simp only [hg, List.contains_eq_mem, List.mem_append, List.mem_singleton, decide_eq_true_eq, List.append_nil] at hy ⊢
                        rcases hy with hy | hy
                        · exact hy
                        · exfalso
                          subst hy
                          have hkd := defIdx_some hd2
                          obtain ⟨k2, hk2, _⟩ := H.guard k (by omega) cs wv hg
                          have hkd2 := defIdx_some hk2
                          exact defIdx_none hdc k2 (by omega) hkd2.2
                | some kc =>
                  have hkc := defIdx_some hdc
                  -- is the condition's operation true?
                  have htc : Tr Γ s l kc := by
                    simp only [availA, hdc] at hc
                    cases hg : (oAt l kc).g with
                    | none => exact .free hg
                    | some p =>
                      obtain ⟨g, w⟩ := p
                      simp only [hg, List.append_nil, List.contains_eq_mem, decide_eq_true_eq] at hc
                      obtain ⟨k', g1, g2, g3, g4⟩ := ht.chain H (i + 1) i hil g w hc
                      obtain ⟨k2, hk2, _⟩ := H.guard kc (by omega) g w hg
                      have hkd2 := defIdx_some hk2
                      have : k' = k2 := H.uniq (by omega) (by omega) (g2.trans hkd2.2.symm)
                      subst this
                      exact .held hg hkd2.1 g2 g3 g4
                  have hcv := (h1 kc hkc.1).1 htc
                  rw [hkc.2] at hcv
                  have hσc : σ.s cs = bv wv := by
                    simp only [VArg.val] at hbb
                    cases hσ : σ.s cs <;> rw [hσ] at hbb <;> simp only [D.asBool] at hbb <;> try (cases hbb; done)
                    rename_i xv
                    cases xv <;> simp only [] at hbb <;> try (cases hbb; done)
                    cases hbb; rw [hwv]
                  refine harg [(cs, wv)] (fun p hp => ?_) ht y hy
                  simp only [List.mem_singleton] at hp
                  subst hp
                  exact ⟨kc, hkc.1, hkc.2, htc, by rw [hcv, hσc]⟩
              cases bb
              · have := hb rfl; subst this; exact hex false rfl _ hab.2
              · have := ha rfl; subst this; exact hex true rfl _ hab.1
          cases bb
          · simp only [cond_false] at hd' ⊢
            have := hsel b (fun h => by cases h) (fun _ => rfl)
            rw [hd'] at this; exact (Option.some.inj this).symm
          · simp only [cond_true] at hd' ⊢
            have := hsel a (fun _ => rfl) (fun h => by cases h)
            rw [hd'] at this; exact (Option.some.inj this).symm
      · refine ⟨.tup [], ?_, fun h => absurd h ht, fun _ => rfl⟩
        simp only [POp.stm, VStm.run, hguard.2 ht, Option.bind_some, cond_false]
    obtain ⟨d, hd1, hd2, hd3⟩ := hstep
    refine ⟨σ.set (oAt l i).x d, ?_, fun k hk => ?_, fun t ht => ?_, hmm, hcc⟩
    · unfold runPs at hr ⊢
      rw [htake, List.map_append, runs_append, hr]
      simp [runs, hd1]
    · by_cases e : k = i
      · subst e
        rw [St.set_same]
        exact ⟨hd2, hd3⟩
      · have : (oAt l k).x ≠ (oAt l i).x := H.ssa i k hil (by omega)
        rw [St.set_ne _ _ this]
        exact h1 k (by omega)
    · rw [St.set_ne _ _ (fun e => ht i (by omega) e.symm)]
      exact h2 t fun k hk => ht k (by omega)
end
end Go.Proofs.Ytpmgaaalfdjikaa
