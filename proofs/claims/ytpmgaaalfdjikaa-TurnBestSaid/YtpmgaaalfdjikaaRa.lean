/- Plain laws of contests: sums over groups are sums over pairs of rows; bounds. Lemmas; no condition. -/
import Derived.Test.YtpmgaaalfdjikaaPm
namespace Go.Proofs.Ytpmgaaalfdjikaa
open Go.RowKit
set_option linter.unusedSimpArgs false
set_option linter.unusedVariables false

structure Groups (ps : List (Int × List Row)) (P : List Row) : Prop where
  nodup : (ps.map (·.1)).Nodup
  each : ∀ p ∈ ps, p.2 = P.filter fun x => x.s == p.1
  all : ∀ x ∈ P, x.s ∈ ps.map (·.1)
theorem Groups.push {ps : List (Int × List Row)} {P : List Row} (h : Groups ps P) (x : Row) : Groups (addPlay ps x) (P ++ [x]) := by
  unfold addPlay
  split
  · rename_i i hi
    obtain ⟨hil, hk, _⟩ := List.findIdx?_eq_some_iff_getElem.1 hi
    have hk : ps[i].1 = x.s := (by simpa using hk : x.s = ps[i].1).symm
    have hfst : (ps.set i (x.s, (ps.getD i (0, [])).2 ++ [x])).map (·.1) = ps.map (·.1) := by
      rw [List.map_set]
      apply List.ext_getElem (by simp)
      intro j h1 h2
      rw [List.getElem_set]
      split
      · rename_i e; subst e; simp [hk]
      · rfl
    refine ⟨by rw [hfst]; exact h.nodup, fun p hp => ?_, fun y hy => ?_⟩
    · obtain ⟨j, hj, rfl⟩ := List.getElem_of_mem hp
      rw [List.length_set] at hj
      rw [List.getElem_set]
      split
      · rename_i e
        subst e
        simp only [List.getD, List.getElem?_eq_getElem hil, Option.getD_some, List.filter_append]
        rw [h.each _ (List.getElem_mem hil), hk]
        simp
      · rename_i e
        have hne : ps[j].1 ≠ x.s := fun e2 => by
          have := List.pairwise_iff_getElem.1 h.nodup
          have hj' : j < (ps.map (·.1)).length := by simpa using hj
          have hi' : i < (ps.map (·.1)).length := by simpa using hil
          rcases Nat.lt_or_gt_of_ne e with h1 | h1
          · exact this i j hi' hj' h1 (by simp [hk, e2])
          · exact this j i hj' hi' h1 (by simp [hk, e2])
        rw [List.filter_append, h.each _ (List.getElem_mem hj)]
        simp [Ne.symm hne]
    · rw [hfst]
      rcases List.mem_append.1 hy with hy | hy
      · exact h.all y hy
      · rw [List.mem_singleton.1 hy, ← hk]
        exact List.mem_map.2 ⟨ps[i], List.getElem_mem hil, rfl⟩
  · rename_i hi
    have hno : ∀ p ∈ ps, p.1 ≠ x.s := fun p hp e => by
      have := List.findIdx?_eq_none_iff.1 hi p hp
      simp [e] at this
    refine ⟨?_, fun p hp => ?_, fun y hy => ?_⟩
    · rw [List.map_append, List.nodup_append]
      refine ⟨h.nodup, by simp, fun a ha b hb => ?_⟩
      obtain ⟨p, hp, rfl⟩ := List.mem_map.1 ha
      simp only [List.map_cons, List.map_nil, List.mem_singleton] at hb
      subst hb
      exact hno p hp
    · rcases List.mem_append.1 hp with hp | hp
      · rw [List.filter_append, h.each p hp]
        simp [Ne.symm (hno p hp)]
      · rw [List.mem_singleton.1 hp, List.filter_append]
        have : P.filter (fun y => y.s == x.s) = [] := List.filter_eq_nil_iff.2 fun y hy e => by
          obtain ⟨p, hp, he⟩ := List.mem_map.1 (h.all y hy)
          exact hno p hp (by rw [he]; simpa using e)
        simp [this]
    · rw [List.map_append]
      rcases List.mem_append.1 hy with hy | hy
      · exact List.mem_append_left _ (h.all y hy)
      · rw [List.mem_singleton.1 hy]; simp
theorem groups_fold : ∀ (l : List Row) (ps : List (Int × List Row)) (P : List Row), Groups ps P → Groups (l.foldl addPlay ps) (P ++ l)
  | [], ps, P, h => by simpa using h
  | x :: l, ps, P, h => by
    have := groups_fold l _ _ (h.push x)
    simpa using this
theorem groups (l : List Row) : Groups (playsOf l) (l.filter played) := by
  have := groups_fold (l.filter played) [] [] ⟨by simp, by simp, by simp⟩
  simpa [playsOf] using this

theorem sum_map_add {α : Type} (f g : α → Int) : ∀ l : List α, (l.map fun x => f x + g x).sum = (l.map f).sum + (l.map g).sum
  | [] => by simp
  | x :: l => by simp only [List.map_cons, List.sum_cons, sum_map_add f g l]; omega
theorem sum_map_zero {α : Type} (l : List α) : (l.map fun _ => (0 : Int)).sum = 0 := by
  induction l with
  | nil => rfl
  | cons x l ih => simp [ih]
theorem sum_pick (v : Int) (k : Int) : ∀ {ks : List Int}, ks.Nodup → k ∈ ks → (ks.map fun s => if k = s then v else 0).sum = v
  | s :: ks, hn, hk => by
    rw [List.nodup_cons] at hn
    rw [List.map_cons, List.sum_cons]
    by_cases e : k = s
    · subst e
      have : (ks.map fun s => if k = s then v else 0) = ks.map fun _ => 0 := List.map_congr_left fun s hs => by
        rw [if_neg]; rintro rfl; exact hn.1 hs
      rw [this, sum_map_zero, if_pos rfl]; omega
    · rw [if_neg e, sum_pick v k hn.2 ((List.mem_cons.1 hk).resolve_left e)]; omega
theorem sum_groups (f : Row → Int) {ks : List Int} (hn : ks.Nodup) : ∀ {P : List Row}, (∀ x ∈ P, x.s ∈ ks) → (ks.map fun s => ((P.filter fun x => x.s == s).map f).sum).sum = (P.map f).sum
  | [], _ => by simp [sum_map_zero]
  | x :: P, h => by
    have ih := sum_groups f hn (P := P) fun y hy => h y (List.mem_cons_of_mem _ hy)
    have e : (ks.map fun s => (((x :: P).filter fun x => x.s == s).map f).sum) = ks.map fun s => (if x.s = s then f x else 0) + ((P.filter fun x => x.s == s).map f).sum := List.map_congr_left fun s _ => by
      by_cases hs : x.s = s
      · simp [List.filter_cons, hs]
      · simp [List.filter_cons, hs]
    rw [e, sum_map_add, ih, sum_pick _ _ hn (h x List.mem_cons_self), List.map_cons, List.sum_cons]
/-- How many plays of a set. -/
def playsN (P : List Row) (s : Int) : Nat := (P.filter fun x => x.s == s).length
/-- What two plays give. -/
def pairC (P : List Row) (i : Nat) (a b : Row) : Int := if b.s = a.s then contr (playsN P a.s) a b i else 0
def allC (P : List Row) (i : Nat) : Int := (P.map fun a => (P.map fun b => pairC P i a b).sum).sum
theorem sum_filter (f : Row → Int) (p : Row → Bool) : ∀ l : List Row, ((l.filter p).map f).sum = (l.map fun x => if p x = true then f x else 0).sum
  | [] => rfl
  | x :: l => by
    cases hp : p x <;> simp [List.filter_cons, hp, sum_filter f p l]
theorem allSum_eq (l : List Row) (i : Nat) : allSum (playsOf l) i = allC (l.filter played) i := by
  obtain ⟨g1, g2, g3⟩ := groups l
  obtain ⟨P, hP⟩ : ∃ P, P = l.filter played := ⟨_, rfl⟩
  rw [← hP] at g2 g3 ⊢
  unfold allSum allC
  rw [← sum_groups _ g1 g3, List.map_map]
  congr 1
  refine List.map_congr_left fun p hp => ?_
  simp only [Function.comp]
  unfold setSum sumA
  rw [g2 p hp]
  congr 1
  refine List.map_congr_left fun a ha => ?_
  have has : a.s = p.1 := by simpa using (List.mem_filter.1 ha).2
  unfold sumB
  rw [sum_filter]
  congr 1
  refine List.map_congr_left fun b _ => ?_
  simp only [pairC, playsN, has, beq_iff_eq]

theorem sum_bound {α : Type} (f : α → Int) (B : Nat) : ∀ l : List α, (∀ x ∈ l, -(B : Int) ≤ f x ∧ f x ≤ B) → -((l.length * B : Nat) : Int) ≤ (l.map f).sum ∧ (l.map f).sum ≤ ((l.length * B : Nat) : Int)
  | [], _ => by simp
  | x :: l, h => by
    have ih := sum_bound f B l fun y hy => h y (List.mem_cons_of_mem _ hy)
    have hx := h x List.mem_cons_self
    rw [List.map_cons, List.sum_cons, List.length_cons, Nat.succ_mul]
    omega
theorem hit_bound (q i : Nat) (v : Int) : (hit q i v = 0 ∨ hit q i v = v) := by unfold hit; split <;> simp
theorem contr_bound (n : Nat) (a b : Row) (i : Nat) : -((2 * n + 4 : Nat) : Int) ≤ contr n a b i ∧ contr n a b i ≤ ((2 * n + 4 : Nat) : Int) := by
  unfold contr
  split
  · have h1 := hit_bound (cellOf a.ns a.ew) i ((n : Int) - 1)
    have h2 := hit_bound (cellOf a.ew a.ns) i ((n : Int) - 1)
    omega
  · have h1 := hit_bound (cellOf a.ns b.ns) i 1
    have h2 := hit_bound (cellOf a.ew b.ew) i 1
    have h3 := hit_bound (cellOf a.ns b.ew) i (-1)
    have h4 := hit_bound (cellOf a.ew b.ns) i (-1)
    omega
theorem allC_bound {P : List Row} (hl : P.length ≤ 60) (i : Nat) : -1000000 ≤ allC P i ∧ allC P i ≤ 1000000 := by
  have h1 : ∀ a b, -((124 : Nat) : Int) ≤ pairC P i a b ∧ pairC P i a b ≤ ((124 : Nat) : Int) := fun a b => by
    unfold pairC
    have hn : playsN P a.s ≤ 60 := Nat.le_trans (List.length_filter_le _ _) hl
    split
    · have := contr_bound (playsN P a.s) a b i; omega
    · omega
  have h2 : ∀ a ∈ P, -((60 * 124 : Nat) : Int) ≤ (P.map fun b => pairC P i a b).sum ∧ (P.map fun b => pairC P i a b).sum ≤ ((60 * 124 : Nat) : Int) := fun a _ => by
    have := sum_bound (fun b => pairC P i a b) 124 P fun b _ => h1 a b
    have : P.length * 124 ≤ 60 * 124 := Nat.mul_le_mul_right _ hl
    omega
  have h3 := sum_bound _ _ P h2
  have : P.length * (60 * 124) ≤ 60 * (60 * 124) := Nat.mul_le_mul_right _ hl
  unfold allC
  omega
/-- A contest, without bounds of numbers. -/
def cont (l : List Row) (i : Nat) : Int := if i / 50 = i % 50 ∧ 1 ≤ i / 50 then 0 else allC (l.filter played) i
theorem cont_bound {l : List Row} (hl : l.length ≤ 60) (i : Nat) : -1000000 ≤ cont l i ∧ cont l i ≤ 1000000 := by
  unfold cont
  split
  · omega
  · exact allC_bound (Nat.le_trans (List.length_filter_le _ _) hl) i
theorem conT_eq {m : Mv} (hl : m.rows.length ≤ 60) (i : Nat) : conT m i = cont m.rows i := by
  have h := allC_bound (P := m.rows.filter played) (Nat.le_trans (List.length_filter_le _ _) hl) i
  unfold conT cont
  rw [allSum_eq]
  split
  · rfl
  · exact wrap_in (by omega) (by omega)
theorem sum_nonneg {α : Type} (f : α → Int) (B : Nat) : ∀ l : List α, (∀ x ∈ l, 0 ≤ f x ∧ f x ≤ B) → 0 ≤ (l.map f).sum ∧ (l.map f).sum ≤ ((l.length * B : Nat) : Int)
  | [], _ => by simp
  | x :: l, h => by
    have ih := sum_nonneg f B l fun y hy => h y (List.mem_cons_of_mem _ hy)
    have hx := h x List.mem_cons_self
    rw [List.map_cons, List.sum_cons, List.length_cons, Nat.succ_mul]
    omega
theorem sq_bound {x : Int} (h : -1000000 ≤ x ∧ x ≤ 1000000) : 0 ≤ x * x ∧ x * x ≤ 1000000000000 := by
  rcases Int.le_total 0 x with h0 | h0
  · exact ⟨Int.mul_nonneg h0 h0, Int.mul_le_mul h.2 h.2 h0 (by omega)⟩
  · have e : x * x = (-x) * (-x) := by rw [Int.neg_mul_neg]
    rw [e]
    have h1 : 0 ≤ -x := by omega
    have h2 : -x ≤ 1000000 := by omega
    exact ⟨Int.mul_nonneg h1 h1, Int.mul_le_mul h2 h2 h1 (by omega)⟩
theorem sqOut_bound {E : Nat → Int} (h : ∀ i, -1000000 ≤ E i ∧ E i ≤ 1000000) : 0 ≤ sqOut E 50 ∧ sqOut E 50 ≤ 2500000000000000 := by
  have h1 : ∀ a ∈ List.range 50, 0 ≤ sqIn E a 50 ∧ sqIn E a 50 ≤ ((50000000000000 : Nat) : Int) := fun a _ => by
    have := sum_nonneg (fun k => if a < k then E (a * 50 + k) * E (a * 50 + k) else 0) 1000000000000 (List.range 50) fun k _ => by
      split
      · exact sq_bound (h _)
      · omega
    simpa [sqIn] using this
  have := sum_nonneg _ _ (List.range 50) h1
  simpa [sqOut] using this
theorem unbV_eq {m : Mv} (hl : m.rows.length ≤ 60) : unbV m = sqOut (cont m.rows) 50 := by
  have e : conT m = cont m.rows := funext fun i => conT_eq hl i
  have := sqOut_bound (E := cont m.rows) fun i => cont_bound hl i
  unfold unbV
  rw [e]
  exact wrap_in (by omega) (by omega)
theorem unbV_nonneg {m : Mv} (hl : m.rows.length ≤ 60) : 0 ≤ unbV m := by
  rw [unbV_eq hl]
  exact (sqOut_bound (E := cont m.rows) fun i => cont_bound hl i).1
/-- The best list: none has less, those before it have more. -/
theorem bestGo_law (f : List Int → Int) (Ls : List (List Int)) : ∀ k, 0 < k → ∃ a : Nat, a < k ∧ bestGo f Ls k = ((a : Int), f (Ls.getD a [])) ∧ (∀ j, j < k → f (Ls.getD a []) ≤ f (Ls.getD j [])) ∧ ∀ j, j < a → f (Ls.getD a []) < f (Ls.getD j [])
  | 1, _ => by
    refine ⟨0, by omega, by simp [bestGo], fun j hj => ?_, fun j hj => by omega⟩
    have : j = 0 := by omega
    subst this
    exact Int.le_refl _
  | k + 2, _ => by
    obtain ⟨a, h1, h2, h3, h4⟩ := bestGo_law f Ls (k + 1) (by omega)
    rw [bestGo]
    by_cases hlt : f (Ls.getD (k + 1) []) < f (Ls.getD a [])
    · refine ⟨k + 1, by omega, ?_, fun j hj => ?_, fun j hj => ?_⟩
      · rw [if_pos (.inr (by rw [h2]; exact hlt))]
      · by_cases e : j = k + 1
        · subst e; exact Int.le_refl _
        · have := h3 j (by omega); omega
      · have := h3 j (by omega); omega
    · refine ⟨a, by omega, ?_, fun j hj => ?_, h4⟩
      · rw [if_neg (by rw [h2]; simp only; omega), h2]
      · by_cases e : j = k + 1
        · subst e; omega
        · exact h3 j (by omega)
end Go.Proofs.Ytpmgaaalfdjikaa
