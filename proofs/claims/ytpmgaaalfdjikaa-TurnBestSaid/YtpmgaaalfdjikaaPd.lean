/- Contracts: Fit. Lemmas; no condition. -/
import Derived.Test.YtpmgaaalfdjikaaPb
namespace Go.Proofs.Ytpmgaaalfdjikaa
open Go.RowKit
set_option linter.unusedSimpArgs false
set_option linter.unusedVariables false

def W27 : WC × List VRes := ((.seq (.reg [(.stm (.eff (.box 1 (.t 0)) none)), (.set [(2, (.c (.v (.bool false))))] [2])]) (.seq (.seq (.reg [(.set [(37, (.ite (.ite (.ite (.ite (.ap (.ibin .lss) [(.ap (.load 1 false) [(.ap (.fld 0) [(.t 1)])]), (.c (.v (.int .i64 1)))]) (.c (.v (.bool true))) (.ap (.ibin .gtr) [(.ap (.load 1 false) [(.ap (.fld 0) [(.t 1)])]), (.c (.v (.int .i64 24)))])) (.c (.v (.bool true))) (.ap (.ibin .lss) [(.ap (.load 1 false) [(.ap (.fld 1) [(.t 1)])]), (.c (.v (.int .i64 1)))])) (.c (.v (.bool true))) (.ap (.ibin .gtr) [(.ap (.load 1 false) [(.ap (.fld 1) [(.t 1)])]), (.c (.v (.int .i64 47)))])) (.c (.v (.bool true))) (.ap (.ibin .gtr) [(.ap .llen [(.ap (.load 1 false) [(.ap (.fld 5) [(.t 1)])])]), (.ap (.ibin .mul) [(.ap (.load 1 false) [(.ap (.fld 0) [(.t 1)])]), (.ap (.load 1 false) [(.ap (.fld 1) [(.t 1)])])])])))] [9, 10, 11, 12, 13, 14, 15, 16, 17, 18, 19, 20, 21, 22, 23, 24, 25, 26, 27, 28, 29, 30, 31, 32, 33, 34, 35, 36, 37])]) (.cond (.t 37) (.seq (.reg [(.set [(2, (.c (.v (.bool false))))] [2])]) .ret) .skip)) (.seq (.reg [(.stm (.eff (.box 3 (.c (.agg (zrep 1128 (.v (.bool false)))))) none))]) (.seq (.reg [(.stm (.eff (.box 4 (.c (.agg (zrep 2350 (.v (.bool false)))))) none))]) (.seq (.seq (.reg [(.set [(39, (.ap (.load 1 false) [(.ap (.fld 5) [(.t 1)])])), (40, (.ap .llen [(.ap (.load 1 false) [(.ap (.fld 5) [(.t 1)])])])), (41, (.c (.v (.int .i64 0))))] [38, 39, 40, 41])]) (.block 0 (.loop (.seq (.reg [(.set [(42, (.ap (.ibin .lss) [(.t 41), (.t 40)]))] [42])]) (.seq (.cond (.t 42) .skip (.exit 0)) (.seq (.block 1 (.seq (.reg [(.set [(44, (.ap (.load 5 true) [(.ap (.idx 53 5) [(.t 39), (.t 41)])]))] [43, 44]), (.stm (.eff (.box 6 (.c (.agg [(.v (.int .i64 0)), (.v (.int .i64 0)), (.v (.int .i64 0)), (.v (.int .i64 0)), (.v (.int .i64 0))]))) none)), (.stm (.eff (.store 5 (.t 6) (.t 44)) none))]) (.seq (.seq (.reg [(.set [(87, (.ite (.ite (.ite (.ite (.ite (.ite (.ap (.ibin .lss) [(.ap (.load 1 false) [(.ap (.fld 0) [(.t 6)])]), (.c (.v (.int .i64 0)))]) (.c (.v (.bool true))) (.ap (.ibin .geq) [(.ap (.load 1 false) [(.ap (.fld 0) [(.t 6)])]), (.ap (.load 1 false) [(.ap (.fld 1) [(.t 1)])])])) (.c (.v (.bool true))) (.ap (.ibin .lss) [(.ap (.load 1 false) [(.ap (.fld 1) [(.t 6)])]), (.c (.v (.int .i64 0)))])) (.c (.v (.bool true))) (.ap (.ibin .geq) [(.ap (.load 1 false) [(.ap (.fld 1) [(.t 6)])]), (.ap (.load 1 false) [(.ap (.fld 0) [(.t 1)])])])) (.c (.v (.bool true))) (.ap (.ibin .lss) [(.ap (.load 1 false) [(.ap (.fld 4) [(.t 6)])]), (.c (.v (.int .i64 0)))])) (.c (.v (.bool true))) (.ap (.ibin .geq) [(.ap (.load 1 false) [(.ap (.fld 4) [(.t 6)])]), (.ap (.load 1 false) [(.ap (.fld 2) [(.t 1)])])])) (.c (.v (.bool true))) (.ap (.load 1 false) [(.ap (.aidx 24 1) [(.ap (.aidx 47 24) [(.t 3), (.ap (.load 1 false) [(.ap (.fld 0) [(.t 6)])])]), (.ap (.load 1 false) [(.ap (.fld 1) [(.t 6)])])])])))] [45, 46, 47, 48, 49, 50, 51, 52, 53, 54, 55, 56, 57, 58, 59, 60, 61, 62, 63, 64, 65, 66, 67, 68, 69, 70, 71, 72, 73, 74, 75, 76, 77, 78, 79, 80, 81, 82, 83, 84, 85, 86, 87])]) (.cond (.t 87) (.seq (.reg [(.set [(2, (.c (.v (.bool false))))] [2])]) .ret) .skip)) (.seq (.reg [(.set [(93, (.ap (.aidx 24 1) [(.ap (.aidx 47 24) [(.t 3), (.ap (.load 1 false) [(.ap (.fld 0) [(.t 6)])])]), (.ap (.load 1 false) [(.ap (.fld 1) [(.t 6)])])]))] [88, 89, 90, 91, 92, 93]), (.stm (.eff (.store 1 (.t 93) (.c (.v (.bool true)))) none))]) (.seq (.reg [(.set [(98, (.ap (.build [(.v (.int .i64 0)), (.v (.int .i64 0))] [(0, 1), (1, 1)]) [(.ap (.load 1 false) [(.ap (.fld 2) [(.t 6)])]), (.ap (.load 1 false) [(.ap (.fld 3) [(.t 6)])])])), (99, (.c (.v (.int .i64 0))))] [94, 95, 96, 97, 98, 99])]) (.block 2 (.loop (.seq (.reg [(.set [(100, (.ap (.ibin .lss) [(.t 99), (.c (.v (.int .i64 2)))]))] [100])]) (.seq (.cond (.t 100) .skip (.exit 2)) (.seq (.block 3 (.seq (.reg [(.set [(8, (.ap (.aix 2 1 false) [(.t 98), (.t 99)]))] [101, 8])]) (.seq (.seq (.reg [(.set [(119, (.ite (.ite (.ap (.ibin .lss) [(.t 8), (.c (.v (.int .i64 0)))]) (.c (.v (.bool true))) (.ap (.ibin .gtr) [(.t 8), (.c (.v (.int .i64 49)))])) (.c (.v (.bool true))) (.ite (.ap (.ibin .gtr) [(.t 8), (.c (.v (.int .i64 0)))]) (.ap (.load 1 false) [(.ap (.aidx 50 1) [(.ap (.aidx 47 50) [(.t 4), (.ap (.load 1 false) [(.ap (.fld 0) [(.t 6)])])]), (.t 8)])]) (.c (.v (.bool false))))))] [102, 103, 104, 105, 106, 107, 108, 109, 110, 111, 112, 113, 114, 115, 116, 117, 118, 119])]) (.cond (.t 119) (.seq (.reg [(.set [(2, (.c (.v (.bool false))))] [2])]) .ret) .skip)) (.reg [(.set [(124, (.ap (.aidx 50 1) [(.ap (.aidx 47 50) [(.t 4), (.ap (.load 1 false) [(.ap (.fld 0) [(.t 6)])])]), (.t 8)]))] [120, 121, 122, 123, 124]), (.stm (.eff (.store 1 (.t 124) (.c (.v (.bool true)))) none))])))) (.reg [(.set [(99, (.ap (.ibin .add) [(.t 99), (.c (.v (.int .i64 1)))]))] [125, 99])]))))))))))) (.reg [(.set [(41, (.ap (.ibin .add) [(.t 41), (.c (.v (.int .i64 1)))]))] [126, 41])]))))))) (.seq (.reg [(.set [(2, (.c (.v (.bool true))))] [2])]) .ret)))))), [(.t 2)])
theorem is27 : IsFn Try.prog frOf 27 Try.f27 W27 := ⟨by kernel_rfl, by kernel_rfl, by kernel_rfl⟩
theorem nt27 : Try.f27.ntmps = 127 := by kernel_rfl


def pairOK (f : Nat → Bool) (r p : Int) : Bool := decide (0 ≤ p) && decide (p ≤ 49) && !(decide (0 < p) && f (r.toNat * 50 + p.toNat))
def usedAt (prev : List Row) (i : Nat) : Bool := prev.any fun x => x.r.toNat * 24 + x.t.toNat == i
def seatAt (prev : List Row) (i : Nat) : Bool := prev.any fun x => x.r.toNat * 50 + x.ns.toNat == i || x.r.toNat * 50 + x.ew.toNat == i
def inOK (m : Mv) (x : Row) : Prop := 0 ≤ x.r ∧ x.r < m.r ∧ 0 ≤ x.t ∧ x.t < m.t ∧ 0 ≤ x.s ∧ x.s < m.s
instance (m : Mv) (x : Row) : Decidable (inOK m x) := by unfold inOK; exact inferInstance
def fitRow (m : Mv) (prev : List Row) (x : Row) : Bool :=
  decide (inOK m x) && !usedAt prev (x.r.toNat * 24 + x.t.toNat) && pairOK (seatAt prev) x.r x.ns && pairOK (fun i => seatAt prev i || i == x.r.toNat * 50 + x.ns.toNat) x.r x.ew
def boundOK (m : Mv) : Prop := 1 ≤ m.t ∧ m.t ≤ 24 ∧ 1 ≤ m.r ∧ m.r ≤ 47 ∧ (m.rows.length : Int) ≤ m.t * m.r
instance (m : Mv) : Decidable (boundOK m) := by unfold boundOK; exact inferInstance
def fitB (m : Mv) : Bool := decide (boundOK m) && (List.range m.rows.length).all fun k => fitRow m (m.rows.take k) (m.rows.getD k Row.zero)
theorem fitB_iff (m : Mv) : fitB m = true ↔ boundOK m ∧ ∀ k (h : k < m.rows.length), fitRow m (m.rows.take k) m.rows[k] = true := by
  simp only [fitB, Bool.and_eq_true, decide_eq_true_eq, List.all_eq_true, List.mem_range]
  refine and_congr Iff.rfl ⟨fun h k hk => ?_, fun h k hk => ?_⟩
  · have := h k hk; simpa [List.getD, hk] using this
  · have := h k hk; simpa [List.getD, hk] using this

theorem usedAt_snoc (l : List Row) (x : Row) (i : Nat) : usedAt (l ++ [x]) i = (usedAt l i || x.r.toNat * 24 + x.t.toNat == i) := by simp [usedAt]
theorem seatAt_snoc (l : List Row) (x : Row) (i : Nat) : seatAt (l ++ [x]) i = (seatAt l i || (x.r.toNat * 50 + x.ns.toNat == i || x.r.toNat * 50 + x.ew.toNat == i)) := by simp [seatAt]
theorem fit_false {m : Mv} {k : Nat} (h : k < m.rows.length) (hr : fitRow m (m.rows.take k) m.rows[k] = false) : fitB m = false := by
  cases hf : fitB m
  · rfl
  · have := ((fitB_iff m).1 hf).2 k h
    rw [hr] at this; cases this
theorem c27 (m : Mv) : VCp Try.prog 27 [.agg m.cells] (bv (fitB m)) := by
  refine wcontract_p sound0 mixed is27 (by rw [nt27]; simp) ?_ rfl
  simp [W27, Mv.cells, Mv.cellsW]
  have hbi : (decide (m.t < 1) || decide (24 < m.t) || decide (m.r < 1) || decide (47 < m.r) || decide (IntKind.i64.wrap (m.t * m.r) < ↑m.rows.length)) = false ↔ boundOK m := by
    simp only [Bool.or_eq_false_iff, decide_eq_false_iff_not, boundOK]
    have hw : 1 ≤ m.t → m.t ≤ 24 → 1 ≤ m.r → m.r ≤ 47 → IntKind.i64.wrap (m.t * m.r) = m.t * m.r := fun h1 h2 h3 h4 => by
      have e1 : m.t * m.r ≤ 24 * 47 := Int.mul_le_mul h2 h4 (by omega) (by omega)
      have e2 : 0 ≤ m.t * m.r := Int.mul_nonneg (by omega) (by omega)
      exact wrap_in (by omega) (by omega)
    constructor
    · rintro ⟨⟨⟨⟨a, b⟩, c⟩, d⟩, e⟩
      rw [hw (by omega) (by omega) (by omega) (by omega)] at e
      omega
    · rintro ⟨a, b, c, d, e⟩
      rw [hw a b c d]
      omega
  refine condK_b (fun hb => ?_) (fun hb => ?_)
  · have : fitB m = false := by
      cases hf : fitB m
      · rfl
      · have := hbi.2 ((fitB_iff m).1 hf).1
        rw [this] at hb; cases hb
    simp [this]
  · have hbd := hbi.1 hb
    obtain ⟨b1, b2, b3, b4, b5⟩ := id hbd
    have hlen : m.rows.length ≤ 1128 := by
      have e1 : m.t * m.r ≤ 24 * 47 := Int.mul_le_mul b2 b4 (by omega) (by omega)
      omega
    clear hbi hb
    simp
    refine wwp_loop (fun σ => ∃ k : Nat, k ≤ m.rows.length ∧ σ.s 41 = iv k ∧ σ.s 40 = iv m.rows.length ∧ σ.s 39 = .list (rowsL m.rows) ∧ σ.s 1 = .ptr [2, 0] 0 ∧ σ.s 3 = .ptr [4, 0] 0 ∧ σ.s 4 = .ptr [5, 0] 0 ∧
      σ.m [2, 0] = some (.box [iv m.t, iv m.r, iv m.s, iv m.c, iv m.w, .list (rowsL m.rows)]) ∧ σ.m [4, 0] = some (.box (tab 1128 fun i => bv (usedAt (m.rows.take k) i))) ∧
      σ.m [5, 0] = some (.box (tab 2350 fun i => bv (seatAt (m.rows.take k) i))) ∧ ∀ i (h : i < m.rows.length), i < k → fitRow m (m.rows.take i) m.rows[i] = true) (fun σ => cnt m.rows.length (σ.s 41)) ?_ ?_
    · exact ⟨0, by omega, by simp, by simp, by simp, by simp, by simp, by simp, by simp, by simp [usedAt], by simp [seatAt], by omega⟩
    · rintro σ hw ⟨k, hk, h41, h40, h39, h1, h3, h4, m2, m4, m5, hok⟩
      simp [h40, h41]
      refine condK_dec (fun hlt => ?_) (fun hge => ?_)
      · simp [h39, h41, rowsL_at hlt, Row.cells, h1, h3, h4, m2, m4, m5]
        obtain ⟨x, hx⟩ : ∃ x, x = m.rows[k] := ⟨_, rfl⟩
        have hff := fit_false hlt
        rw [← hx] at hff ⊢
        by_cases hin : inOK m x
        · obtain ⟨i1, i2, i3, i4, i5, i6⟩ := id hin
          have hp : x.r.toNat * 24 + x.t.toNat < 1128 := by omega
          have hp' : x.r.toNat * 24 + x.t.toNat ≤ 1127 := by omega
          have g1 : ¬ x.r < 0 := by omega
          have g2 : ¬ m.r ≤ x.r := by omega
          have g3 : ¬ x.t < 0 := by omega
          have g4 : ¬ m.t ≤ x.t := by omega
          have g5 : ¬ x.s < 0 := by omega
          have g6 : ¬ m.s ≤ x.s := by omega
          have g7 : x.r < 47 := by omega
          have g8 : x.t < 24 := by omega
          simp [g1, g2, g3, g4, g5, g6, g7, g8, i1, i3, h3, m4, hp, hp', tab_at hp]
          refine condK_b (fun hu => ?_) (fun hu => ?_)
          · have hfr : fitRow m (m.rows.take k) x = false := by simp [fitRow, hu]
            simp [hff hfr]
          · simp [g7, g8, i1, i3, h3, m4, hp, hp', tab_put hp]
            refine wwp_loop (fun σ' => ∃ j : Nat, j ≤ 2 ∧ σ'.s 99 = iv j ∧ σ'.s 98 = .agg [iv x.ns, iv x.ew] ∧ σ'.s 41 = iv k ∧ σ'.s 40 = iv m.rows.length ∧ σ'.s 39 = .list (rowsL m.rows) ∧ σ'.s 1 = .ptr [2, 0] 0 ∧ σ'.s 3 = .ptr [4, 0] 0 ∧ σ'.s 4 = .ptr [5, 0] 0 ∧
              σ'.s 6 = .ptr [7, σ.c 6] 0 ∧ σ'.m [2, 0] = some (.box [iv m.t, iv m.r, iv m.s, iv m.c, iv m.w, .list (rowsL m.rows)]) ∧ σ'.m [4, 0] = some (.box (tab 1128 fun i => bv (usedAt (m.rows.take (k + 1)) i))) ∧
              σ'.m [5, 0] = some (.box (tab 2350 fun i => bv (seatAt (m.rows.take k) i || (decide (0 < j) && i == x.r.toNat * 50 + x.ns.toNat) || (decide (1 < j) && i == x.r.toNat * 50 + x.ew.toNat)))) ∧
              σ'.m [7, σ.c 6] = some (.box [iv x.r, iv x.t, iv x.ns, iv x.ew, iv x.s]) ∧
              (0 < j → pairOK (seatAt (m.rows.take k)) x.r x.ns = true) ∧ (1 < j → pairOK (fun i => seatAt (m.rows.take k) i || i == x.r.toNat * 50 + x.ns.toNat) x.r x.ew = true)) (fun σ' => cnt 2 (σ'.s 99)) ?_ ?_
            · refine ⟨0, by omega, by simp, by simp, by simp [h41], by simp [h40], by simp [h39], by simp [h1], by simp [h3], by simp [h4], by simp, by simp [m2], ?_, by simp [m5], by simp, by omega, by omega⟩
              simp
              refine tab_congr fun i _ => ?_
              rw [List.take_succ_eq_append_getElem hlt, usedAt_snoc, ← hx]
              by_cases hi : i = x.r.toNat * 24 + x.t.toNat
              · simp [hi]
              · simp [hi, Ne.symm hi]
            · rintro σ' hw' ⟨j, hj, e99, e98, e41, e40, e39, e1, e3, e4, e6, n2, n4, n5, n7, ok0, ok1⟩
              simp [e99]
              have hj3 : j = 0 ∨ j = 1 ∨ j = 2 := by omega
              rcases hj3 with rfl | rfl | rfl
              · simp [e99, e98, e4, e6, n5, n7, i1, g7]
                by_cases hr : 0 ≤ x.ns ∧ x.ns ≤ 49
                · have q1 : ¬ x.ns < 0 := by omega
                  have q2 : ¬ 49 < x.ns := by omega
                  have q3 : x.ns < 50 := by omega
                  have q4 : x.r.toNat * 50 + x.ns.toNat < 2350 := by omega
                  have q5 : x.r.toNat * 50 + x.ns.toNat ≤ 2349 := by omega
                  have fin : ∀ i, (if i = x.r.toNat * 50 + x.ns.toNat then D.v (.bool true) else bv (seatAt (m.rows.take k) i)) = bv (seatAt (m.rows.take k) i || i == x.r.toNat * 50 + x.ns.toNat) := fun i => by
                    by_cases hi : i = x.r.toNat * 50 + x.ns.toNat <;> simp [hi]
                  by_cases h0 : 0 < x.ns
                  · simp [q1, q2, q3, q4, q5, hr.1, h0, n5]
                    refine condK_b (fun hu => ?_) (fun hu => ?_)
                    · have hfr : fitRow m (m.rows.take k) x = false := by simp [fitRow, pairOK, h0, hu]
                      simp [hff hfr]
                    · simp [q1, q2, q3, q4, q5, hr.1, h0, n5, e99, e98, e41, e40, e39, e1, e3, e4, e6, n2, n4, n7, i1, g7, tab_put q4, fin]
                      exact ⟨1, by omega, rfl, by simp, fun _ => by simp [pairOK, hr.1, hr.2, hu], by omega⟩
                  · simp [q1, q2, q3, q4, q5, hr.1, h0, n5, e99, e98, e41, e40, e39, e1, e3, e4, e6, n2, n4, n7, i1, g7, tab_put q4, fin]
                    exact ⟨1, by omega, rfl, by simp, fun _ => by simp [pairOK, hr.1, hr.2, h0], by omega⟩
                · have hc : (decide (x.ns < 0) || decide (49 < x.ns)) = true := by
                    simp only [Bool.or_eq_true, decide_eq_true_eq]; omega
                  have hfr : fitRow m (m.rows.take k) x = false := by
                    have : pairOK (seatAt (m.rows.take k)) x.r x.ns = false := by
                      simp only [pairOK, Bool.and_eq_false_iff, decide_eq_false_iff_not]; omega
                    simp [fitRow, this]
                  simp [hc, hff hfr]
              · simp [e99, e98, e4, e6, n5, n7, i1, g7]
                have hok0 := ok0 (by omega)
                by_cases hr : 0 ≤ x.ew ∧ x.ew ≤ 49
                · have q1 : ¬ x.ew < 0 := by omega
                  have q2 : ¬ 49 < x.ew := by omega
                  have q3 : x.ew < 50 := by omega
                  have q4 : x.r.toNat * 50 + x.ew.toNat < 2350 := by omega
                  have q5 : x.r.toNat * 50 + x.ew.toNat ≤ 2349 := by omega
                  have fin : ∀ i, (if i = x.r.toNat * 50 + x.ew.toNat then D.v (.bool true) else bv (seatAt (m.rows.take k) i || i == x.r.toNat * 50 + x.ns.toNat)) =
                      bv (seatAt (m.rows.take k) i || i == x.r.toNat * 50 + x.ns.toNat || i == x.r.toNat * 50 + x.ew.toNat) := fun i => by
                    by_cases hi : i = x.r.toNat * 50 + x.ew.toNat <;> simp [hi]
                  by_cases h0 : 0 < x.ew
                  · simp [q1, q2, q3, q4, q5, hr.1, h0, n5]
                    refine condK_b (fun hu => ?_) (fun hu => ?_)
                    · have hfr : fitRow m (m.rows.take k) x = false := by
                        simp only [Bool.or_eq_true, beq_iff_eq, decide_eq_true_eq] at hu
                        have : pairOK (fun i => seatAt (m.rows.take k) i || i == x.r.toNat * 50 + x.ns.toNat) x.r x.ew = false := by
                          rcases hu with hu | hu <;> simp [pairOK, h0, hu]
                        simp [fitRow, this]
                      simp [hff hfr]
                    · simp only [Bool.or_eq_false_iff, beq_eq_false_iff_ne, decide_eq_false_iff_not] at hu
                      simp [q1, q2, q3, q4, q5, hr.1, h0, n5, e99, e98, e41, e40, e39, e1, e3, e4, e6, n2, n4, n7, i1, g7, tab_put q4, fin]
                      exact ⟨2, by omega, rfl, by simp, fun _ => hok0, fun _ => by
                        have hu2 : ¬ x.ew.toNat = x.ns.toNat := by have := hu.2; omega
                        simp [pairOK, hr.1, hr.2, hu.1, hu2]⟩
                  · simp [q1, q2, q3, q4, q5, hr.1, h0, n5, e99, e98, e41, e40, e39, e1, e3, e4, e6, n2, n4, n7, i1, g7, tab_put q4, fin]
                    exact ⟨2, by omega, rfl, by simp, fun _ => hok0, fun _ => by simp [pairOK, hr.1, hr.2, h0]⟩
                · have hc : (decide (x.ew < 0) || decide (49 < x.ew)) = true := by
                    simp only [Bool.or_eq_true, decide_eq_true_eq]; omega
                  have hfr : fitRow m (m.rows.take k) x = false := by
                    have : pairOK (fun i => seatAt (m.rows.take k) i || i == x.r.toNat * 50 + x.ns.toNat) x.r x.ew = false := by
                      simp only [pairOK, Bool.and_eq_false_iff, decide_eq_false_iff_not]; omega
                    simp [fitRow, this]
                  simp [hc, hff hfr]
              · simp [e99, e98, e4, e6, n5, n7, i1, g7, e41, e40, e39, e1, e3, n2, n4, wrap_succ (show k ≤ 1000000000 by omega)]
                refine ⟨⟨k + 1, by omega, by omega, rfl, tab_congr fun i _ => ?_, fun i hi hik => ?_⟩, by omega⟩
                · rw [List.take_succ_eq_append_getElem hlt, seatAt_snoc, ← hx]
                  rw [Bool.or_assoc, BEq.comm (a := i) (b := x.r.toNat * 50 + x.ns.toNat), BEq.comm (a := i) (b := x.r.toNat * 50 + x.ew.toNat)]
                · by_cases hik' : i < k
                  · exact hok i hi hik'
                  · obtain rfl : i = k := by omega
                    rw [← hx]
                    simp [fitRow, hin, hu, ok0 (by omega), ok1 (by omega)]
        · have hc : (decide (x.r < 0) || decide (m.r ≤ x.r) || decide (x.t < 0) || decide (m.t ≤ x.t) || decide (x.s < 0) || decide (m.s ≤ x.s)) = true := by
            simp only [Bool.or_eq_true, decide_eq_true_eq]
            unfold inOK at hin
            omega
          have hfr : fitRow m (m.rows.take k) x = false := by simp [fitRow, hin]
          simp [hc, hff hfr]
      · have hf : fitB m = true := (fitB_iff m).2 ⟨hbd, fun i hi => hok i hi (by omega)⟩
        simp [hf]
end Go.Proofs.Ytpmgaaalfdjikaa
