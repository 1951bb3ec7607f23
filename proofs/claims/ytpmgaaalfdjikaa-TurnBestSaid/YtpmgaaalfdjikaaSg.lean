/- Plain laws of the table of contests. Lemmas; no condition. -/
import Derived.Test.YtpmgaaalfdjikaaSf
namespace Go.Proofs.Ytpmgaaalfdjikaa
open Go.RowKit
set_option linter.unusedSimpArgs false
set_option linter.unusedVariables false

theorem cont_symm {m : Mv} (hf : fitB m = true) {p q : Nat} (hp : p ≤ 49) (hq : q ≤ 49) : cont m.rows (p * 50 + q) = cont m.rows (q * 50 + p) := by
  have hP := fit_inP hf
  have hg := great_bounds (fit_pairs hf)
  unfold cont
  by_cases h : p = q
  · subst h; rfl
  · rw [if_neg (by omega), if_neg (by omega), allC_cpq hP hg.2 hp hq, allC_cpq hP hg.2 hq hp, cpq_symm]
theorem cont_diag (l : List Row) {p : Nat} (h1 : 1 ≤ p) (h : p ≤ 49) : cont l (p * 50 + p) = 0 := by
  unfold cont
  rw [if_pos (by omega)]
theorem cont_out {m : Mv} (hf : fitB m = true) {n : Nat} (hn : great m.rows = n) {p q : Nat} (hp : p ≤ 49) (hq : q ≤ 49) (ho : p < 1 ∨ n < p) : cont m.rows (p * 50 + q) = 0 := by
  have hP := fit_inP hf
  have hg := great_bounds (fit_pairs hf)
  unfold cont
  split
  · rfl
  · rw [allC_cpq hP hg.2 hp hq]
    exact cpq_out hP (by omega) q
theorem filter_map_swap (l : List Row) : (l.map Row.swap).filter played = (l.filter played).map Row.swap := by
  rw [List.filter_map]
  congr 1
  refine List.filter_congr fun x _ => ?_
  show (decide (0 < x.ew) && decide (0 < x.ns)) = (decide (0 < x.ns) && decide (0 < x.ew))
  exact Bool.and_comm _ _
theorem swap_inj {a b : Row} : a.swap = b.swap ↔ a = b := by
  constructor
  · intro h
    have : a.swap.swap = b.swap.swap := by rw [h]
    exact this
  · rintro rfl; rfl
theorem contr_swap (n : Int) (a b : Row) (i : Nat) : contr n a.swap b.swap i = contr n a b i := by
  unfold contr
  by_cases h : a = b
  · rw [if_pos h, if_pos (swap_inj.2 h)]
    simp only [Row.swap]
    omega
  · rw [if_neg h, if_neg (fun e => h (swap_inj.1 e))]
    simp only [Row.swap]
    omega
theorem playsN_swap (P : List Row) (s : Int) : playsN (P.map Row.swap) s = playsN P s := by
  unfold playsN
  rw [List.filter_map, List.length_map]
  rfl
theorem cont_swap (l : List Row) (i : Nat) : cont (l.map Row.swap) i = cont l i := by
  unfold cont
  rw [filter_map_swap]
  split
  · rfl
  · unfold allC
    rw [List.map_map]
    refine sum_congr fun a _ => ?_
    simp only [Function.comp]
    rw [List.map_map]
    refine sum_congr fun b _ => ?_
    simp only [Function.comp]
    unfold pairC
    rw [playsN_swap, contr_swap]
    rfl
theorem great_swap (l : List Row) : great (l.map Row.swap) = great l := by
  unfold great
  rw [List.foldl_map]
  congr 1
  funext p x
  simp only [Row.swap]
  omega
theorem turn_all {m : Mv} {L : List Int} (h : ∀ x ∈ m.rows, x.r ∈ L) : (exch m L).rows = m.rows.map Row.swap := by
  simp only [exch]
  refine List.map_congr_left fun x hx => ?_
  unfold turnRow
  rw [if_pos (by simpa using h x hx)]
  rfl
theorem window (f : Nat → Int) {n : Nat} (hn : n ≤ 49) (h : ∀ x, x ≤ 49 → x < 1 ∨ n < x → f x = 0) : ((List.range 50).map f).sum = ((List.range n).map fun p => f (p + 1)).sum := by
  have h1 : ((List.range 50).map f).sum = f 0 + ((List.range 49).map fun p => f (p + 1)).sum := by
    rw [show (50 : Nat) = 49 + 1 from rfl, List.range_succ_eq_map, List.map_cons, List.sum_cons, List.map_map]
    rfl
  have h2 : ∀ k, n + k ≤ 49 → ((List.range (n + k)).map fun p => f (p + 1)).sum = ((List.range n).map fun p => f (p + 1)).sum := by
    intro k
    induction k with
    | zero => intro _; rfl
    | succ k ih =>
      intro hk
      rw [show n + (k + 1) = (n + k) + 1 from rfl, List.range_succ, List.map_append, List.sum_append, ih (by omega)]
      simp only [List.map_cons, List.map_nil, List.sum_cons, List.sum_nil]
      rw [h (n + k + 1) (by omega) (.inr (by omega))]
      omega
  have h3 := h2 (49 - n) (by omega)
  rw [show n + (49 - n) = 49 by omega] at h3
  rw [h1, h3, h 0 (by omega) (.inl (by omega))]
  omega
/-- The unbalance, doubled: over all pairs both ways round. -/
theorem unb_law {m : Mv} (hf : fitB m = true) {n : Nat} (hn : great m.rows = n) : 2 * sqOut (cont m.rows) 50 = ((List.range n).map fun p => ((List.range n).map fun q => cont m.rows ((p + 1) * 50 + (q + 1)) * cont m.rows ((p + 1) * 50 + (q + 1))).sum).sum := by
  have hg := great_bounds (fit_pairs hf)
  obtain ⟨G, hG⟩ : ∃ G : Nat → Nat → Int, G = fun a k => cont m.rows (a * 50 + k) * cont m.rows (a * 50 + k) := ⟨_, rfl⟩
  have sym : ∀ a k, a ≤ 49 → k ≤ 49 → G a k = G k a := fun a k ha hk => by rw [hG]; simp only; rw [cont_symm hf ha hk]
  have out : ∀ a k, a ≤ 49 → k ≤ 49 → a < 1 ∨ n < a → G a k = 0 := fun a k ha hk ho => by rw [hG]; simp only; rw [cont_out hf hn ha hk ho]; rfl
  have dia : ∀ a, a ≤ 49 → G a a = 0 := fun a ha => by
    by_cases h0 : a < 1
    · exact out a a ha ha (.inl h0)
    · rw [hG]; simp only; rw [cont_diag _ (by omega) ha]; rfl
  have full : ((List.range 50).map fun a => ((List.range 50).map fun k => G a k).sum).sum = ((List.range n).map fun p => ((List.range n).map fun q => G (p + 1) (q + 1)).sum).sum := by
    rw [window (fun a => ((List.range 50).map fun k => G a k).sum) (n := n) (by omega) fun a ha ho => sum_zero fun k hk => out a k ha (by have := List.mem_range.1 hk; omega) ho]
    refine sum_congr fun p hp => ?_
    have hp' := List.mem_range.1 hp
    exact window (fun k => G (p + 1) k) (n := n) (by omega) fun k hk ho => by rw [sym _ _ (by omega) hk]; exact out k _ hk (by omega) ho
  have half : sqOut (cont m.rows) 50 = ((List.range 50).map fun a => ((List.range 50).map fun k => if a < k then G a k else 0).sum).sum := by rw [hG]; rfl
  have half2 : ((List.range 50).map fun a => ((List.range 50).map fun k => if k < a then G a k else 0).sum).sum = sqOut (cont m.rows) 50 := by
    rw [half, sum_comm2 (fun a k => if k < a then G a k else 0)]
    refine sum_congr fun a ha => sum_congr fun k hk => ?_
    have ha' := List.mem_range.1 ha
    have hk' := List.mem_range.1 hk
    rw [sym k a (by omega) (by omega)]
  have both : ((List.range 50).map fun a => ((List.range 50).map fun k => G a k).sum).sum = ((List.range 50).map fun a => ((List.range 50).map fun k => if a < k then G a k else 0).sum).sum + ((List.range 50).map fun a => ((List.range 50).map fun k => if k < a then G a k else 0).sum).sum := by
    rw [← sum_map_add]
    refine sum_congr fun a ha => ?_
    rw [← sum_map_add]
    refine sum_congr fun k hk => ?_
    have ha' := List.mem_range.1 ha
    by_cases h1 : a < k
    · rw [if_pos h1, if_neg (by omega)]; omega
    · by_cases h2 : k < a
      · rw [if_neg h1, if_pos h2]; omega
      · have : a = k := by omega
        subst this
        rw [if_neg h1, dia a (by omega)]; rfl
  rw [half2, ← half] at both
  rw [hG] at full both
  simp only at full both
  rw [← full, both]
  omega
end Go.Proofs.Ytpmgaaalfdjikaa
