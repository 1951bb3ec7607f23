/- Plain laws: what fits. Lemmas; no condition. -/
import Derived.Test.YtpmgaaalfdjikaaPl
namespace Go.Proofs.Ytpmgaaalfdjikaa
open Go.RowKit
set_option linter.unusedSimpArgs false
set_option linter.unusedVariables false

def rowP (m : Mv) (x : Row) : Prop := inOK m x ∧ 0 ≤ x.ns ∧ x.ns ≤ 49 ∧ 0 ≤ x.ew ∧ x.ew ≤ 49 ∧ ¬ (0 < x.ns ∧ x.ns = x.ew)
def sep (x y : Row) : Prop := x.r = y.r → x.t ≠ y.t ∧ (0 < y.ns → y.ns ≠ x.ns ∧ y.ns ≠ x.ew) ∧ (0 < y.ew → y.ew ≠ x.ns ∧ y.ew ≠ x.ew)
instance (m : Mv) (x : Row) : Decidable (rowP m x) := by unfold rowP; exact inferInstance
instance (x y : Row) : Decidable (sep x y) := by unfold sep; exact inferInstance
def fitP (m : Mv) : Prop := boundOK m ∧ (∀ x ∈ m.rows, rowP m x) ∧ m.rows.Pairwise sep
theorem fitRow_iff {m : Mv} (hb : m.t ≤ 24) {prev : List Row} {x : Row} (hp : ∀ y ∈ prev, rowP m y) : fitRow m prev x = true ↔ rowP m x ∧ ∀ y ∈ prev, sep y x := by
  have hu : ∀ (x : Row), inOK m x → ∀ y : Row, inOK m y → (y.r.toNat * 24 + y.t.toNat = x.r.toNat * 24 + x.t.toNat ↔ y.r = x.r ∧ y.t = x.t) := by
    rintro x ⟨a1, a2, a3, a4, a5, a6⟩ y ⟨b1, b2, b3, b4, b5, b6⟩
    omega
  have hs : ∀ (r p r' p' : Int), 0 ≤ r → 0 ≤ r' → 0 ≤ p → p ≤ 49 → 0 ≤ p' → p' ≤ 49 → (r.toNat * 50 + p.toNat = r'.toNat * 50 + p'.toNat ↔ r = r' ∧ p = p') := by
    intros; omega
  simp only [fitRow, Bool.and_eq_true, decide_eq_true_eq, pairOK, Bool.not_eq_true', Bool.and_eq_false_iff, decide_eq_false_iff_not, seatAt, usedAt, Bool.or_eq_false_iff, List.any_eq_false, beq_iff_eq, Bool.or_eq_true, beq_eq_false_iff_ne]
  constructor
  · rintro ⟨⟨⟨hi, h1⟩, ⟨h2, h3⟩, h4⟩, ⟨h5, h6⟩, h7⟩
    obtain ⟨a1, a2, a3, a4, a5, a6⟩ := id hi
    refine ⟨⟨hi, h2, h3, h5, h6, ?_⟩, fun y hy hr => ?_⟩
    · rintro ⟨hn, he⟩
      rcases h7 with h | ⟨h7, h8⟩
      · omega
      · rw [← he] at h8; exact h8 rfl
    · obtain ⟨q0, q1, q2, q3, q4, q5⟩ := hp y hy
      obtain ⟨b1, b2, b3, b4, b5, b6⟩ := id q0
      refine ⟨fun ht => h1 y hy ((hu x hi y q0).2 ⟨hr, ht⟩), fun hn => ?_, fun hn => ?_⟩
      · rcases h4 with h | h
        · exact absurd hn h
        · have := h y hy
          rw [hs _ _ _ _ b1 a1 q1 q2 h2 h3, hs _ _ _ _ b1 a1 q3 q4 h2 h3] at this
          exact ⟨fun e => this (.inl ⟨hr, e.symm⟩), fun e => this (.inr ⟨hr, e.symm⟩)⟩
      · rcases h7 with h | ⟨h, _⟩
        · exact absurd hn h
        · have := h y hy
          rw [hs _ _ _ _ b1 a1 q1 q2 h5 h6, hs _ _ _ _ b1 a1 q3 q4 h5 h6] at this
          exact ⟨fun e => this (.inl ⟨hr, e.symm⟩), fun e => this (.inr ⟨hr, e.symm⟩)⟩
  · rintro ⟨⟨hi, h2, h3, h5, h6, h7⟩, hsep⟩
    obtain ⟨a1, a2, a3, a4, a5, a6⟩ := id hi
    refine ⟨⟨⟨hi, fun y hy e => ?_⟩, ⟨h2, h3⟩, ?_⟩, ⟨h5, h6⟩, ?_⟩
    · obtain ⟨q0, q1, q2, q3, q4, q5⟩ := hp y hy
      obtain ⟨er, et⟩ := (hu x hi y q0).1 e
      exact (hsep y hy er).1 et
    · by_cases hn : 0 < x.ns
      · right
        intro y hy
        obtain ⟨q0, q1, q2, q3, q4, q5⟩ := hp y hy
        obtain ⟨b1, b2, b3, b4, b5, b6⟩ := id q0
        rw [hs _ _ _ _ b1 a1 q1 q2 h2 h3, hs _ _ _ _ b1 a1 q3 q4 h2 h3]
        rintro (⟨er, e⟩ | ⟨er, e⟩)
        · exact ((hsep y hy er).2.1 hn).1 e.symm
        · exact ((hsep y hy er).2.1 hn).2 e.symm
      · exact .inl hn
    · by_cases hn : 0 < x.ew
      · right
        refine ⟨fun y hy => ?_, fun e => ?_⟩
        · obtain ⟨q0, q1, q2, q3, q4, q5⟩ := hp y hy
          obtain ⟨b1, b2, b3, b4, b5, b6⟩ := id q0
          rw [hs _ _ _ _ b1 a1 q1 q2 h5 h6, hs _ _ _ _ b1 a1 q3 q4 h5 h6]
          rintro (⟨er, e⟩ | ⟨er, e⟩)
          · exact ((hsep y hy er).2.2 hn).1 e.symm
          · exact ((hsep y hy er).2.2 hn).2 e.symm
        · have := (hs _ _ _ _ a1 a1 h2 h3 h5 h6).1 e.symm
          omega
      · exact .inl hn
theorem fit_iff (m : Mv) : fitB m = true ↔ fitP m := by
  rw [fitB_iff]
  unfold fitP
  refine and_congr_right fun hb => ?_
  have hb2 : m.t ≤ 24 := hb.2.1
  constructor
  · intro h
    have key : ∀ n, n ≤ m.rows.length → (∀ x ∈ m.rows.take n, rowP m x) ∧ (m.rows.take n).Pairwise sep := by
      intro n
      induction n with
      | zero => intro _; simp
      | succ n ih =>
        intro hn
        obtain ⟨i1, i2⟩ := ih (by omega)
        have hf := (fitRow_iff hb2 i1).1 (h n (by omega))
        rw [List.take_succ_eq_append_getElem (by omega)]
        refine ⟨fun x hx => ?_, ?_⟩
        · rcases List.mem_append.1 hx with hx | hx
          · exact i1 x hx
          · rw [List.mem_singleton.1 hx]; exact hf.1
        · rw [List.pairwise_append]
          refine ⟨i2, by simp, fun y hy x hx => ?_⟩
          rw [List.mem_singleton.1 hx]
          exact hf.2 y hy
    have := key m.rows.length (Nat.le_refl _)
    rwa [List.take_length] at this
  · rintro ⟨h1, h2⟩ k hk
    refine (fitRow_iff hb2 fun y hy => h1 y (List.mem_of_mem_take hy)).2 ⟨h1 _ (List.getElem_mem hk), fun y hy => ?_⟩
    obtain ⟨j, hj, rfl⟩ := List.getElem_of_mem hy
    rw [List.getElem_take]
    exact List.pairwise_iff_getElem.1 h2 j k (by simp at hj; omega) hk (by simp at hj; omega)

/-- A row of which less is known to sit, or turned. -/
def Less (x' x : Row) : Prop := x'.r = x.r ∧ x'.t = x.t ∧ x'.s = x.s ∧ (((x'.ns = 0 ∨ x'.ns = x.ns) ∧ (x'.ew = 0 ∨ x'.ew = x.ew)) ∨ (x'.ns = x.ew ∧ x'.ew = x.ns))
theorem Less.refl (x : Row) : Less x x := ⟨rfl, rfl, rfl, .inl ⟨.inr rfl, .inr rfl⟩⟩
theorem Less.rowP {m : Mv} {x' x : Row} (h : Less x' x) (hx : rowP m x) : rowP m x' := by
  obtain ⟨h1, h2, h3, h4⟩ := h
  obtain ⟨⟨a1, a2, a3, a4, a5, a6⟩, a7, a8, a9, a10, a11⟩ := hx
  unfold Go.Proofs.Ytpmgaaalfdjikaa.rowP inOK
  omega
theorem Less.sep {x' x y' y : Row} (h : Less x' x) (k : Less y' y) (hs : sep x y) : sep x' y' := by
  obtain ⟨h1, h2, h3, h4⟩ := h
  obtain ⟨k1, k2, k3, k4⟩ := k
  intro hr
  have := hs (by rw [← h1, ← k1]; exact hr)
  omega
theorem fitP_less {m m' : Mv} (ht : m'.t = m.t) (hr : m'.r = m.r) (hs : m'.s = m.s) (hl : m'.rows.length = m.rows.length) (hf : ∀ k (h : k < m.rows.length), Less (m'.rows[k]'(by omega)) m.rows[k]) (h : fitP m) : fitP m' := by
  obtain ⟨h1, h2, h3⟩ := h
  refine ⟨?_, fun x hx => ?_, ?_⟩
  · unfold boundOK at h1 ⊢
    rw [ht, hr, hl]
    exact h1
  · obtain ⟨k, hk, rfl⟩ := List.getElem_of_mem hx
    have := (hf k (by omega)).rowP (h2 _ (List.getElem_mem _))
    unfold rowP inOK at this ⊢
    rw [ht, hr, hs]
    exact this
  · rw [List.pairwise_iff_getElem] at h3 ⊢
    intro i j hi hj hij
    exact (hf i (by omega)).sep (hf j (by omega)) (h3 i j (by omega) (by omega) hij)
theorem fitP_sub {m m' : Mv} (ht : m'.t = m.t) (hr : m'.r = m.r) (hs : m'.s = m.s) (hl : m'.rows.Sublist m.rows) (h : fitP m) : fitP m' := by
  obtain ⟨h1, h2, h3⟩ := h
  refine ⟨?_, fun x hx => ?_, h3.sublist hl⟩
  · unfold boundOK at h1 ⊢
    rw [ht, hr]
    have := hl.length_le
    omega
  · have := h2 x (hl.subset hx)
    unfold rowP inOK at this ⊢
    rw [ht, hr, hs]
    exact this
theorem turnRow_less (L : List Int) (x : Row) : Less (turnRow L x) x := by
  unfold turnRow
  split
  · exact ⟨rfl, rfl, rfl, .inr ⟨rfl, rfl⟩⟩
  · exact Less.refl x
theorem fit_exch {m : Mv} {L : List Int} (h : fitB m = true) : fitB (exch m L) = true :=
  (fit_iff _).2 (fitP_less (m := m) rfl rfl rfl (by simp [exch]) (fun k hk => by simp only [exch, List.getElem_map]; exact turnRow_less L _) ((fit_iff m).1 h))
/-- The movement of a sketch. -/
def Sk.mv (x : Sk) : Mv := ⟨x.T, x.R, x.T, 1, 2, x.sl.rows⟩
theorem madeOne_less (n : Nat) (x : Row) : Less (madeOne n x) x := by
  unfold madeOne
  split
  · exact ⟨rfl, rfl, rfl, .inl ⟨.inl rfl, .inr rfl⟩⟩
  · split
    · exact ⟨rfl, rfl, rfl, .inl ⟨.inr rfl, .inl rfl⟩⟩
    · exact ⟨rfl, rfl, rfl, .inr ⟨rfl, rfl⟩⟩
theorem mit_fit : ∀ T, T < 7 → ∀ R, R < 7 → 2 ≤ T → 1 ≤ R → R ≤ T → fitB (mitM T R) = true := by decide +kernel
theorem Sl.rows_len {s : Sl} (h : s.ok) : s.rows.length = s.len := by
  obtain ⟨h1, h2, h3⟩ := h
  simp only [Sl.rows, List.length_take]
  omega
theorem step_fit {t r s c w : Int} {a : Sl} (ha : a.ok) (n : Nat) (h : fitP ⟨t, r, s, c, w, a.rows⟩) : fitP ⟨t, r, s, c, w, (a.step n).rows⟩ := by
  have hl := Sl.rows_len ha
  have hl' := Sl.rows_len (Sl.step_ok ha n)
  obtain ⟨h1, h2, h3⟩ := ha
  have hi := Nat.mod_lt (n / 4) (show 0 < a.len by omega)
  unfold Sl.step at hl' ⊢
  split
  · rename_i hn
    rw [if_pos hn] at hl'
    refine fitP_less (m := ⟨t, r, s, c, w, a.rows⟩) rfl rfl rfl (by rw [hl', hl]) (fun k hk => ?_) h
    simp only [Sl.rows, List.getElem_take, List.getElem_modify]
    split
    · exact madeOne_less n _
    · exact Less.refl _
  · rename_i hn
    split
    · split
      · refine fitP_sub (m := ⟨t, r, s, c, w, a.rows⟩) rfl rfl rfl ?_ h
        simp only [Sl.rows]
        exact (List.take_prefix_take_left (by omega)).sublist
      · refine fitP_sub (m := ⟨t, r, s, c, w, a.rows⟩) rfl rfl rfl ?_ h
        simp only [Sl.rows]
        refine (List.take_sublist _ _).trans ?_
        have e : a.all.take (n / 4 % a.len) = (a.all.take a.len).take (n / 4 % a.len) := by rw [List.take_take, Nat.min_eq_left (by omega)]
        rw [e, ← List.eraseIdx_eq_take_drop_succ]
        exact List.eraseIdx_sublist _ _
    · exact h
theorem Sk.range {x : Sk} : 2 ≤ x.T ∧ x.T ≤ 6 ∧ 1 ≤ x.R ∧ x.R ≤ x.T := by
  have hT : x.T = 2 + x.t % 5 := rfl
  have hR : x.R = 1 + x.r % x.T := rfl
  have := Nat.mod_lt x.r (show 0 < x.T by omega)
  omega
theorem Sk.base_ok (x : Sk) : Sl.ok ⟨(mitM x.T x.R).rows, x.R * x.T, none⟩ := by
  obtain ⟨a1, a2, a3, a4⟩ := x.range
  have := part_len (mitRow x.T) x.T x.R 0
  have h1 : 1 * 1 ≤ x.R * x.T := Nat.mul_le_mul (by omega) (by omega)
  have h2 : x.R * x.T ≤ 6 * 6 := Nat.mul_le_mul (by omega) (by omega)
  refine ⟨h1, ?_, ?_⟩
  · simp only [mitM]; omega
  · simp only [mitM]; omega
theorem run_all (l : List Nat) (P : Sl → Prop) (h : ∀ s n, s.ok → P s → P (s.step n)) : ∀ s : Sl, s.ok → P s → (l.foldl Sl.step s).ok ∧ P (l.foldl Sl.step s) := by
  induction l with
  | nil => intro s h1 h2; exact ⟨h1, h2⟩
  | cons n l ih => intro s h1 h2; exact ih _ (Sl.step_ok h1 n) (h s n h1 h2)
theorem Sk.sl_all (x : Sk) (P : Sl → Prop) (h0 : P ⟨(mitM x.T x.R).rows, x.R * x.T, none⟩) (h : ∀ s n, s.ok → P s → P (s.step n)) : x.sl.ok ∧ P x.sl := run_all _ P h _ x.base_ok h0
theorem Sk.sl_ok (x : Sk) : x.sl.ok := (x.sl_all (fun _ => True) trivial fun _ _ _ _ => trivial).1
theorem Sk.base_rows (x : Sk) : Sl.rows ⟨(mitM x.T x.R).rows, x.R * x.T, none⟩ = (mitM x.T x.R).rows := by
  have := part_len (mitRow x.T) x.T x.R 0
  simp only [Sl.rows, mitM]
  exact List.take_of_length_le (by omega)
theorem made_fit (x : Sk) : fitB x.mv = true := by
  obtain ⟨a1, a2, a3, a4⟩ := x.range
  refine (fit_iff _).2 (x.sl_all (fun s => fitP ⟨x.T, x.R, x.T, 1, 2, s.rows⟩) ?_ fun s n hs h => step_fit hs n h).2
  rw [x.base_rows]
  exact (fit_iff _).1 (mit_fit x.T (by omega) x.R (by omega) a1 a3 a4)
end Go.Proofs.Ytpmgaaalfdjikaa
