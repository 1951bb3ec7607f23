/- Plain laws of contests: the same both ways round; nothing beyond the greatest pair; turned as a whole; their sums. Lemmas; no condition. -/
import Derived.Test.YtpmgaaalfdjikaaSe
namespace Go.Proofs.Ytpmgaaalfdjikaa
open Go.RowKit
set_option linter.unusedSimpArgs false
set_option linter.unusedVariables false

theorem sum_comm2 {α β : Type} (f : α → β → Int) (B : List β) : ∀ A : List α, (A.map fun a => (B.map fun b => f a b).sum).sum = (B.map fun b => (A.map fun a => f a b).sum).sum
  | [] => by simp [sum_map_zero]
  | a :: A => by
    rw [List.map_cons, List.sum_cons, sum_comm2 f B A, ← sum_map_add]
    rfl
theorem sum_congr {α : Type} {f g : α → Int} {l : List α} (h : ∀ x ∈ l, f x = g x) : (l.map f).sum = (l.map g).sum := by rw [List.map_congr_left h]
theorem sum_zero {α : Type} {f : α → Int} {l : List α} (h : ∀ x ∈ l, f x = 0) : (l.map f).sum = 0 := by rw [sum_congr h, sum_map_zero]
theorem sum_mul {α : Type} (c : Int) (f : α → Int) : ∀ l : List α, (l.map fun x => c * f x).sum = c * (l.map f).sum
  | [] => by simp
  | x :: l => by simp only [List.map_cons, List.sum_cons, sum_mul c f l, Int.mul_add]
/-- Is it this one? -/
def eqI (a b : Int) : Int := if a = b then 1 else 0
theorem eqI_range {n : Nat} {x : Int} (h1 : 1 ≤ x) (h2 : x ≤ n) : ((List.range n).map fun (q : Nat) => eqI x ((q : Int) + 1)).sum = 1 := by
  have key : ∀ n : Nat, ((List.range n).map fun (q : Nat) => eqI x ((q : Int) + 1)).sum = if x ≤ n then 1 else 0 := by
    intro n
    induction n with
    | zero => simp; omega
    | succ n ih =>
      rw [List.range_succ, List.map_append, List.sum_append, ih]
      simp only [List.map_cons, List.map_nil, List.sum_cons, List.sum_nil, eqI]
      split <;> split <;> split <;> omega
  rw [key, if_pos h2]
def inP (P : List Row) (n : Int) : Prop := ∀ x ∈ P, 1 ≤ x.ns ∧ x.ns ≤ n ∧ 1 ≤ x.ew ∧ x.ew ≤ n ∧ x.ns ≠ x.ew
/-- What two plays of a set give to the contest of p with q. -/
def tm (P : List Row) (p q : Int) (a b : Row) : Int := if b.s = a.s then (if a = b then ((playsN P a.s : Int) - 1) * (eqI a.ns p * eqI a.ew q + eqI a.ew p * eqI a.ns q)
  else eqI a.ns p * eqI b.ns q + eqI a.ew p * eqI b.ew q - eqI a.ns p * eqI b.ew q - eqI a.ew p * eqI b.ns q) else 0
def cpq (P : List Row) (p q : Int) : Int := (P.map fun a => (P.map fun b => tm P p q a b).sum).sum
theorem hit_eq {a b : Int} {p q : Nat} (ha : 0 ≤ a ∧ a ≤ 49) (hb : 0 ≤ b ∧ b ≤ 49) (hp : p ≤ 49) (hq : q ≤ 49) (v : Int) : hit (cellOf a b) (p * 50 + q) v = v * (eqI a p * eqI b q) := by
  unfold hit cellOf eqI
  by_cases h1 : a = p
  · by_cases h2 : b = q
    · rw [if_pos (by omega), if_pos h1, if_pos h2]; omega
    · rw [if_neg (by omega), if_neg h2]; omega
  · rw [if_neg (by omega), if_neg h1]; omega
theorem allC_cpq {P : List Row} {n : Int} (hP : inP P n) (hn : n ≤ 49) {p q : Nat} (hp : p ≤ 49) (hq : q ≤ 49) : allC P (p * 50 + q) = cpq P p q := by
  unfold allC cpq
  refine sum_congr fun a ha => sum_congr fun b hb => ?_
  have a1 := hP a ha
  have b1 := hP b hb
  unfold pairC tm
  split
  · unfold contr
    split
    · rw [hit_eq (by omega) (by omega) hp hq, hit_eq (by omega) (by omega) hp hq, Int.mul_add]
    · rw [hit_eq (by omega) (by omega) hp hq, hit_eq (by omega) (by omega) hp hq, hit_eq (by omega) (by omega) hp hq, hit_eq (by omega) (by omega) hp hq]
      omega
  · rfl
theorem tm_symm (P : List Row) (p q : Int) (a b : Row) : tm P q p a b = tm P p q b a := by
  unfold tm
  by_cases hs : b.s = a.s
  · rw [if_pos hs, if_pos hs.symm]
    by_cases hab : a = b
    · subst hab
      rw [if_pos rfl, if_pos rfl, Int.mul_comm (eqI a.ns q), Int.mul_comm (eqI a.ew q), Int.add_comm]
    · rw [if_neg hab, if_neg (Ne.symm hab), Int.mul_comm (eqI a.ns q) (eqI b.ns p), Int.mul_comm (eqI a.ew q) (eqI b.ew p), Int.mul_comm (eqI a.ns q) (eqI b.ew p), Int.mul_comm (eqI a.ew q) (eqI b.ns p)]
      omega
  · rw [if_neg hs, if_neg (Ne.symm hs)]
theorem cpq_symm (P : List Row) (p q : Int) : cpq P q p = cpq P p q := by
  unfold cpq
  rw [sum_comm2 (fun a b => tm P p q a b)]
  exact sum_congr fun a _ => sum_congr fun b _ => tm_symm P p q a b
theorem cpq_out {P : List Row} {n : Int} (hP : inP P n) {p : Int} (hp : p < 1 ∨ n < p) (q : Int) : cpq P p q = 0 := by
  unfold cpq
  refine sum_zero fun a ha => sum_zero fun b hb => ?_
  have a1 := hP a ha
  have e1 : eqI a.ns p = 0 := if_neg (by omega)
  have e2 : eqI a.ew p = 0 := if_neg (by omega)
  unfold tm
  rw [e1, e2]
  simp
theorem sum_pickR (v : Int) (a : Row) : ∀ {P : List Row}, P.Nodup → a ∈ P → (P.map fun b => if b = a then v else 0).sum = v
  | b :: P, hn, hk => by
    rw [List.nodup_cons] at hn
    rw [List.map_cons, List.sum_cons]
    by_cases e : b = a
    · subst e
      have : (P.map fun c => if c = b then v else 0).sum = 0 := sum_zero fun s hs => if_neg fun h => hn.1 (by rw [← h]; exact hs)
      rw [if_pos rfl, this]
      omega
    · rw [if_neg e, sum_pickR v a hn.2 ((List.mem_cons.1 hk).resolve_left (Ne.symm e))]
      omega
/-- A pair's contests with all. -/
theorem cpq_sum {P : List Row} {n : Nat} (hnd : P.Nodup) (hP : inP P n) (p : Int) : ((List.range n).map fun (q : Nat) => cpq P p ((q : Int) + 1)).sum = (P.map fun a => ((playsN P a.s : Int) - 1) * (eqI a.ns p + eqI a.ew p)).sum := by
  unfold cpq
  rw [← sum_comm2 (fun a (q : Nat) => (P.map fun b => tm P p ((q : Int) + 1) a b).sum)]
  refine sum_congr fun a ha => ?_
  rw [← sum_comm2 (fun b (q : Nat) => tm P p ((q : Int) + 1) a b)]
  have a1 := hP a ha
  have one : ∀ b ∈ P, ((List.range n).map fun (q : Nat) => tm P p ((q : Int) + 1) a b).sum = if b = a then ((playsN P a.s : Int) - 1) * (eqI a.ns p + eqI a.ew p) else 0 := fun b hb => by
    have b1 := hP b hb
    have s1 := eqI_range (n := n) (x := b.ns) b1.1 b1.2.1
    have s2 := eqI_range (n := n) (x := b.ew) b1.2.2.1 b1.2.2.2.1
    by_cases hab : b = a
    · subst hab
      rw [if_pos rfl]
      have e : (fun (q : Nat) => tm P p ((q : Int) + 1) b b) = fun (q : Nat) => ((playsN P b.s : Int) - 1) * (eqI b.ns p * eqI b.ew ((q : Int) + 1) + eqI b.ew p * eqI b.ns ((q : Int) + 1)) := by
        funext q; unfold tm; rw [if_pos rfl, if_pos rfl]
      rw [e, sum_mul, sum_map_add, sum_mul, sum_mul, s1, s2]
      simp
    · rw [if_neg hab]
      by_cases hs : b.s = a.s
      · have e : (fun (q : Nat) => tm P p ((q : Int) + 1) a b) = fun (q : Nat) => (eqI a.ns p * eqI b.ns ((q : Int) + 1) + eqI a.ew p * eqI b.ew ((q : Int) + 1)) + ((-eqI a.ns p) * eqI b.ew ((q : Int) + 1) + (-eqI a.ew p) * eqI b.ns ((q : Int) + 1)) := by
          funext q
          unfold tm
          rw [if_pos hs, if_neg (Ne.symm hab), Int.neg_mul, Int.neg_mul]
          omega
        rw [e, sum_map_add, sum_map_add, sum_map_add, sum_mul, sum_mul, sum_mul, sum_mul, s1, s2]
        omega
      · exact sum_zero fun q _ => by unfold tm; rw [if_neg hs]
  rw [sum_congr one]
  exact sum_pickR _ a hnd ha

theorem fit_inP {m : Mv} (h : fitB m = true) : inP (m.rows.filter played) (great m.rows) := fun x hx => by
  obtain ⟨h1, h2⟩ := List.mem_filter.1 hx
  have hr := ((fit_iff m).1 h).2.1 x h1
  have hp : 0 < x.ns ∧ 0 < x.ew := by simpa [played] using h2
  have hg : ∀ (l : List Row) (p : Int), p ≤ l.foldl (fun p x => max (max p x.ns) x.ew) p ∧ ∀ x ∈ l, x.ns ≤ l.foldl (fun p x => max (max p x.ns) x.ew) p ∧ x.ew ≤ l.foldl (fun p x => max (max p x.ns) x.ew) p := by
    intro l
    induction l with
    | nil => intro p; exact ⟨Int.le_refl _, by simp⟩
    | cons y l ih =>
      intro p
      obtain ⟨i1, i2⟩ := ih (max (max p y.ns) y.ew)
      rw [List.foldl_cons]
      refine ⟨by omega, fun z hz => ?_⟩
      rcases List.mem_cons.1 hz with rfl | hz
      · omega
      · exact i2 z hz
  have := (hg m.rows 0).2 x h1
  unfold rowP at hr
  have e : great m.rows = m.rows.foldl (fun p x => max (max p x.ns) x.ew) 0 := rfl
  rw [e]
  omega
theorem fit_nodup {m : Mv} (h : fitB m = true) : m.rows.Nodup := by
  have := ((fit_iff m).1 h).2.2
  exact this.imp fun {a b} hs e => by
    subst e
    exact (hs rfl).1 rfl
theorem maxL_ge {l : List Int} (hl : l ≠ []) : ∀ x ∈ l, x ≤ maxL l := by
  have key : ∀ (l : List Int) (p : Int), p ≤ l.foldl (fun p x => max p x) p ∧ ∀ x ∈ l, x ≤ l.foldl (fun p x => max p x) p := by
    intro l
    induction l with
    | nil => intro p; exact ⟨Int.le_refl _, by simp⟩
    | cons y l ih =>
      intro p
      obtain ⟨i1, i2⟩ := ih (max p y)
      rw [List.foldl_cons]
      refine ⟨by omega, fun z hz => ?_⟩
      rcases List.mem_cons.1 hz with rfl | hz
      · omega
      · exact i2 z hz
  match l, hl with
  | y :: l, _ =>
    intro x hx
    have := key l y
    simp only [maxL, List.drop_succ_cons, List.drop_zero, List.getD_cons_zero]
    rcases List.mem_cons.1 hx with rfl | hx
    · exact this.1
    · exact this.2 x hx
theorem sum_two {f : Row → Int} : ∀ {l : List Row} {a b : Row}, (∀ x ∈ l, 0 ≤ f x) → a ∈ l → b ∈ l → a ≠ b → f a + f b ≤ (l.map f).sum
  | x :: l, a, b, h0, ha, hb, hne => by
    have hnn : ∀ l : List Row, (∀ x ∈ l, 0 ≤ f x) → 0 ≤ (l.map f).sum ∧ ∀ y ∈ l, f y ≤ (l.map f).sum := by
      intro l
      induction l with
      | nil => intro _; simp
      | cons y l ih =>
        intro h
        obtain ⟨i1, i2⟩ := ih fun z hz => h z (List.mem_cons_of_mem _ hz)
        have := h y List.mem_cons_self
        rw [List.map_cons, List.sum_cons]
        refine ⟨by omega, fun z hz => ?_⟩
        rcases List.mem_cons.1 hz with rfl | hz
        · omega
        · have := i2 z hz; omega
    obtain ⟨j1, j2⟩ := hnn l fun z hz => h0 z (List.mem_cons_of_mem _ hz)
    have hx := h0 x List.mem_cons_self
    rw [List.map_cons, List.sum_cons]
    rcases List.mem_cons.1 ha with ea | ha
    · rcases List.mem_cons.1 hb with eb | hb
      · exact absurd (ea.trans eb.symm) hne
      · have := j2 b hb; rw [ea]; omega
    · rcases List.mem_cons.1 hb with eb | hb
      · have := j2 a ha; rw [eb]; omega
      · have := sum_two (fun z hz => h0 z (List.mem_cons_of_mem _ hz)) ha hb hne
        omega
theorem filter_eq_length {l : List Row} {p q : Row → Bool} (h : ∀ x, (p x && q x) = true ↔ (q x && p x) = true) : ((l.filter q).filter p).length = (l.filter fun x => p x && q x).length := by
  rw [List.filter_filter]
theorem cntS_plays (l : List Row) (s : Int) : cntS l s = playsN (l.filter played) s := by
  unfold cntS playsN
  rw [List.filter_filter]
  congr 1
/-- If the pair has no set twice, its contests are what the law counts. -/
theorem plays_law {m : Mv} (hf : fitB m = true) {n : Nat} (hn : great m.rows = n) {p : Nat} (hp1 : 1 ≤ p) (hp : p ≤ n) (h : playOnce m.rows m.rows p = true) :
    ((List.range n).map fun q => cont m.rows (p * 50 + (q + 1))).sum = playSum m.rows m.rows p := by
  have hP := fit_inP hf
  rw [hn] at hP
  have hg := great_bounds (fit_pairs hf)
  have hin := inPairs_mem (fit_pairs hf)
  have hnd : (m.rows.filter played).Nodup := (fit_nodup hf).filter _
  obtain ⟨P, hPd⟩ : ∃ P, P = m.rows.filter played := ⟨_, rfl⟩
  rw [← hPd] at hP hnd
  have once : ∀ x ∈ m.rows, onSeat p x = true → ∀ i, i < 50 → metAt m.rows x.s i ≤ 1 := fun x hx ho i hi => by
    have h1 := List.all_eq_true.1 h x (List.mem_filter.2 ⟨hx, ho⟩)
    have h2 : maxL (metL m.rows x.s) = 1 := by simpa using h1
    have h3 := maxL_ge (l := metL m.rows x.s) (by intro e; have := metL_len m.rows x.s; rw [e] at this; simp at this) (metAt m.rows x.s i) (List.mem_map.2 ⟨i, List.mem_range.2 hi, rfl⟩)
    omega
  have onP : ∀ a ∈ P, (a.ns = p ∨ a.ew = p) → a ∈ m.rows ∧ onSeat p a = true := fun a ha hs => by
    rw [hPd] at ha
    obtain ⟨h1, h2⟩ := List.mem_filter.1 ha
    have hp2 : 0 < a.ns ∧ 0 < a.ew := by simpa [played] using h2
    refine ⟨h1, ?_⟩
    simp only [onSeat, Bool.not_eq_true', Bool.or_eq_false_iff, Bool.and_eq_false_iff, beq_eq_false_iff_ne, bne_eq_false_iff_eq]
    exact ⟨⟨by omega, by omega⟩, hs⟩
  have diag : cpq P p p = 0 := by
    unfold cpq
    refine sum_zero fun a ha => sum_zero fun b hb => ?_
    have a1 := hP a ha
    unfold tm
    by_cases hs : b.s = a.s
    · rw [if_pos hs]
      by_cases hab : a = b
      · rw [if_pos hab]
        have e1 : eqI a.ns p * eqI a.ew p = 0 := by
          unfold eqI
          by_cases h1 : a.ns = p
          · rw [if_neg (show ¬ a.ew = p by omega)]; simp
          · rw [if_neg h1]; simp
        rw [e1, Int.mul_comm (eqI a.ew p), e1]; simp
      · rw [if_neg hab]
        by_cases has : a.ns = p ∨ a.ew = p
        · by_cases hbs : b.ns = p ∨ b.ew = p
          · exfalso
            obtain ⟨q1, q2⟩ := onP a ha has
            obtain ⟨q3, _⟩ := onP b hb hbs
            have q4 := once a q1 q2 p (by omega)
            have pl : ∀ x ∈ P, played x = true := fun x hx => by rw [hPd] at hx; exact (List.mem_filter.1 hx).2
            have q5 := sum_two (f := fun x : Row => if x.s = a.s ∧ played x = true then isOne x.ns p + isOne x.ew p else 0) (l := m.rows) (a := a) (b := b) (fun x _ => by unfold isOne; split <;> (try split) <;> (try split) <;> omega) q1 q3 hab
            simp only [hs, pl a ha, pl b hb, and_self, if_true] at q5
            have r1 : ∀ x : Row, (x.ns = p ∨ x.ew = p) → 1 ≤ isOne x.ns p + isOne x.ew p := fun x hx => by
              unfold isOne
              rcases hx with hx | hx
              · rw [if_pos (by omega)]; split <;> omega
              · rw [if_pos (show x.ew.toNat = p by omega)]; split <;> omega
            have r2 := r1 a has
            have r3 := r1 b hbs
            unfold metAt at q4
            omega
          · have e1 : eqI b.ns p = 0 := if_neg fun e => hbs (.inl e)
            have e2 : eqI b.ew p = 0 := if_neg fun e => hbs (.inr e)
            rw [e1, e2]; simp
        · have e1 : eqI a.ns p = 0 := if_neg fun e => has (.inl e)
          have e2 : eqI a.ew p = 0 := if_neg fun e => has (.inr e)
          rw [e1, e2]; simp
    · rw [if_neg hs]
  have e1 : ((List.range n).map fun q => cont m.rows (p * 50 + (q + 1))).sum = ((List.range n).map fun (q : Nat) => cpq P p ((q : Int) + 1)).sum := sum_congr fun q hq => by
    have hqn := List.mem_range.1 hq
    unfold cont
    rw [← hPd]
    split
    · rename_i hd'
      have : q + 1 = p := by omega
      rw [show ((q : Int) + 1) = (p : Int) by omega, diag]
    · rw [allC_cpq hP (by omega) (by omega) (by omega)]
      rfl
  rw [e1, cpq_sum hnd hP]
  unfold playSum
  have e2 : (m.rows.filter (onSeat p)) = P.filter (onSeat p) := by
    rw [hPd, List.filter_filter]
    refine List.filter_congr fun x hx => ?_
    have hb := hin x hx
    cases ho : onSeat p x with
    | false => simp
    | true =>
      simp only [onSeat, Bool.not_eq_true', Bool.or_eq_false_iff, beq_eq_false_iff_ne] at ho
      have : played x = true := by simp only [played, Bool.and_eq_true, decide_eq_true_eq]; omega
      simp [this]
  rw [e2, sum_filter]
  refine sum_congr fun a ha => ?_
  have a1 := hP a ha
  rw [cntS_plays, ← hPd]
  by_cases has : a.ns = p ∨ a.ew = p
  · rw [if_pos (onP a ha has).2]
    have : eqI a.ns p + eqI a.ew p = 1 := by
      unfold eqI
      rcases has with hs | hs
      · rw [if_pos hs, if_neg (show ¬ a.ew = (p : Int) by omega)]; rfl
      · rw [if_pos hs, if_neg (show ¬ a.ns = (p : Int) by omega)]; rfl
    rw [this, Int.mul_one]
  · have e3 : eqI a.ns p = 0 := if_neg fun e => has (.inl e)
    have e4 : eqI a.ew p = 0 := if_neg fun e => has (.inr e)
    rw [e3, e4, if_neg]
    · simp
    · intro ho
      simp only [onSeat, Bool.not_eq_true', Bool.or_eq_false_iff, Bool.and_eq_false_iff, beq_eq_false_iff_ne, bne_eq_false_iff_eq] at ho
      exact has ho.2
end Go.Proofs.Ytpmgaaalfdjikaa
