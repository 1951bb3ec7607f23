/- Contracts: Example, Mitchell. Lemmas; no condition. -/
import Derived.Test.YtpmgaaalfdjikaaPh
namespace Go.Proofs.Ytpmgaaalfdjikaa
open Go.RowKit
set_option linter.unusedSimpArgs false
set_option linter.unusedVariables false

def W23 : WC × List VRes := ((.seq (.reg [(.stm (.eff (.box 0 (.c (.agg [(.v (.int .i64 0)), (.v (.int .i64 0)), (.v (.int .i64 0)), (.v (.int .i64 0)), (.v (.int .i64 0)), .nil]))) none))]) (.seq (.reg [(.set [(4, (.ap (.build [(.v (.int .i64 0)), (.v (.int .i64 0)), (.v (.int .i64 0)), (.v (.int .i64 0)), (.v (.int .i64 0)), .nil] [(0, 1), (1, 1), (2, 1), (3, 1), (4, 1)]) [(.c (.v (.int .i64 3))), (.c (.v (.int .i64 3))), (.c (.v (.int .i64 3))), (.c (.v (.int .i64 1))), (.c (.v (.int .i64 2)))]))] [4]), (.stm (.eff (.box 1 (.c (.agg [(.v (.int .i64 0)), (.v (.int .i64 0)), (.v (.int .i64 0)), (.v (.int .i64 0)), (.v (.int .i64 0)), .nil]))) none)), (.stm (.eff (.store 6 (.t 1) (.t 4)) none))]) (.seq (.seq (.reg [(.set [(5, (.c (.v (.int .i64 0))))] [5])]) (.block 0 (.loop (.seq (.reg [(.set [(6, (.ap (.ibin .lss) [(.t 5), (.c (.v (.int .i64 3)))]))] [6])]) (.seq (.cond (.t 6) .skip (.exit 0)) (.seq (.block 1 (.seq (.reg [(.set [(2, (.t 5))] [7, 2])]) (.seq (.reg [(.set [(8, (.c (.v (.int .i64 0))))] [8])]) (.block 2 (.loop (.seq (.reg [(.set [(9, (.ap (.ibin .lss) [(.t 8), (.c (.v (.int .i64 3)))]))] [9])]) (.seq (.cond (.t 9) .skip (.exit 2)) (.seq (.block 3 (.seq (.reg [(.set [(3, (.t 8))] [10, 3])]) (.reg [(.set [(12, (.ap (.load 1 false) [(.ap (.fld 5) [(.t 1)])])), (27, (.ap (.build [(.v (.int .i64 0)), (.v (.int .i64 0)), (.v (.int .i64 0)), (.v (.int .i64 0)), (.v (.int .i64 0))] [(0, 1), (1, 1), (2, 1), (3, 1), (4, 1)]) [(.t 2), (.t 3), (.ap (.ibin .add) [(.t 3), (.c (.v (.int .i64 1)))]), (.ap (.ibin .add) [(.c (.v (.int .i64 4))), (.ap (.ibin .rem) [(.ap (.ibin .add) [(.t 3), (.t 2)]), (.c (.v (.int .i64 3)))])]), (.ap (.ibin .rem) [(.ap (.ibin .add) [(.t 3), (.ap (.ibin .mul) [(.c (.v (.int .i64 2))), (.t 2)])]), (.c (.v (.int .i64 3)))])]))] [11, 12, 13, 14, 15, 16, 17, 18, 19, 20, 21, 22, 23, 24, 25, 26, 27]), (.stm (.eff (.lit 28 53 5 1 [(.v (.int .i64 0)), (.v (.int .i64 0)), (.v (.int .i64 0)), (.v (.int .i64 0)), (.v (.int .i64 0))] [(0, 5)] [(.t 27)]) none)), (.stm (.eff (.app 29 53 5 (.t 12) (.t 28)) none)), (.set [(30, (.ap (.fld 5) [(.t 1)]))] [30]), (.stm (.eff (.store 1 (.t 30) (.t 29)) none))]))) (.reg [(.set [(8, (.ap (.ibin .add) [(.t 8), (.c (.v (.int .i64 1)))]))] [31, 8])]))))))))) (.reg [(.set [(5, (.ap (.ibin .add) [(.t 5), (.c (.v (.int .i64 1)))]))] [32, 5])]))))))) (.seq (.reg [(.set [(33, (.ap (.load 6 true) [(.t 1)]))] [33]), (.stm (.eff (.store 6 (.t 0) (.t 33)) none))]) .ret)))), [(.cell 0 6 true)])
theorem is23 : IsFn Try.prog frOf 23 Try.f23 W23 := ⟨by kernel_rfl, by kernel_rfl, by kernel_rfl⟩
theorem nt23 : Try.f23.ntmps = 34 := by kernel_rfl
def W22 : WC × List VRes := ((.seq (.reg [(.stm (.eff (.box 4 (.c (.agg [(.v (.int .i64 0)), (.v (.int .i64 0)), (.v (.int .i64 0)), (.v (.int .i64 0)), (.v (.int .i64 0)), .nil]))) none))]) (.seq (.reg [(.set [(11, (.ap (.build [(.v (.int .i64 0)), (.v (.int .i64 0)), (.v (.int .i64 0)), (.v (.int .i64 0)), (.v (.int .i64 0)), .nil] [(0, 1), (1, 1), (2, 1), (3, 1), (4, 1)]) [(.t 0), (.t 1), (.t 0), (.c (.v (.int .i64 1))), (.c (.v (.int .i64 2)))]))] [8, 9, 10, 11]), (.stm (.eff (.box 5 (.c (.agg [(.v (.int .i64 0)), (.v (.int .i64 0)), (.v (.int .i64 0)), (.v (.int .i64 0)), (.v (.int .i64 0)), .nil]))) none)), (.stm (.eff (.store 6 (.t 5) (.t 11)) none))]) (.seq (.seq (.reg [(.set [(12, (.t 1)), (13, (.c (.v (.int .i64 0))))] [12, 13])]) (.block 0 (.loop (.seq (.reg [(.set [(14, (.ap (.ibin .lss) [(.t 13), (.t 12)]))] [14])]) (.seq (.cond (.t 14) .skip (.exit 0)) (.seq (.block 1 (.seq (.reg [(.set [(6, (.t 13))] [15, 6])]) (.seq (.reg [(.set [(16, (.t 0)), (17, (.c (.v (.int .i64 0))))] [16, 17])]) (.block 2 (.loop (.seq (.reg [(.set [(18, (.ap (.ibin .lss) [(.t 17), (.t 16)]))] [18])]) (.seq (.cond (.t 18) .skip (.exit 2)) (.seq (.block 3 (.seq (.reg [(.set [(7, (.t 17))] [19, 7])]) (.reg [(.set [(21, (.ap (.load 1 false) [(.ap (.fld 5) [(.t 5)])])), (42, (.ap (.build [(.v (.int .i64 0)), (.v (.int .i64 0)), (.v (.int .i64 0)), (.v (.int .i64 0)), (.v (.int .i64 0))] [(0, 1), (1, 1), (2, 1), (3, 1), (4, 1)]) [(.t 6), (.t 7), (.ap (.ibin .add) [(.t 7), (.c (.v (.int .i64 1)))]), (.ap (.ibin .add) [(.ap (.ibin .add) [(.t 0), (.c (.v (.int .i64 1)))]), (.ap (.ibin .rem) [(.ap (.ibin .add) [(.t 7), (.ap (.ibin .mul) [(.t 6), (.ap (.ibin .sub) [(.t 0), (.c (.v (.int .i64 1)))])])]), (.t 0)])]), (.ap (.ibin .rem) [(.ap (.ibin .add) [(.t 7), (.t 6)]), (.t 0)])]))] [20, 21, 22, 23, 24, 25, 26, 27, 28, 29, 30, 31, 32, 33, 34, 35, 36, 37, 38, 39, 40, 41, 42]), (.stm (.eff (.lit 43 53 5 1 [(.v (.int .i64 0)), (.v (.int .i64 0)), (.v (.int .i64 0)), (.v (.int .i64 0)), (.v (.int .i64 0))] [(0, 5)] [(.t 42)]) none)), (.stm (.eff (.app 44 53 5 (.t 21) (.t 43)) none)), (.set [(45, (.ap (.fld 5) [(.t 5)]))] [45]), (.stm (.eff (.store 1 (.t 45) (.t 44)) none))]))) (.reg [(.set [(17, (.ap (.ibin .add) [(.t 17), (.c (.v (.int .i64 1)))]))] [46, 17])]))))))))) (.reg [(.set [(13, (.ap (.ibin .add) [(.t 13), (.c (.v (.int .i64 1)))]))] [47, 13])]))))))) (.seq (.reg [(.set [(48, (.ap (.load 6 true) [(.t 5)]))] [48]), (.stm (.eff (.store 6 (.t 4) (.t 48)) none))]) .ret)))), [(.cell 4 6 true)])
theorem is22 : IsFn Try.prog frOf 22 Try.f22 W22 := ⟨by kernel_rfl, by kernel_rfl, by kernel_rfl⟩
theorem nt22 : Try.f22.ntmps = 49 := by kernel_rfl


def S15 : List D → Option D
  | [.agg xs, .list es] => (asMv xs).bind fun m => (asLists es).bind fun Ls => if Ls.length ≤ 1000000 ∧ Ls.all (fun L => decide (L.length ≤ 1000000)) = true then some (.tup [iv (bestR m Ls).1, iv (bestR m Ls).2]) else none
  | _ => none
theorem s15 : OkP 15 S15 := fun ds d h => by
  unfold S15 at h
  split at h
  · rw [Option.bind_eq_some_iff] at h
    obtain ⟨m, hm, h⟩ := h
    rw [Option.bind_eq_some_iff] at h
    obtain ⟨Ls, hL, h⟩ := h
    split at h <;> cases h
    rename_i hc
    rw [asMv_eq hm, asLists_eq hL]
    exact c15 m Ls hc.1 fun L hL => by simpa using List.all_eq_true.1 hc.2 L hL
  · cases h

/-- Rows made one behind the other: so many rounds of T, and t more. -/
def part (F : Nat → Nat → Row) (T r t : Nat) : List Row := ((List.range r).flatMap fun a => (List.range T).map (F a)) ++ (List.range t).map (F r)
theorem part_succ (F : Nat → Nat → Row) (T r t : Nat) : part F T r (t + 1) = part F T r t ++ [F r t] := by simp [part, List.range_succ]
theorem part_next (F : Nat → Nat → Row) (T r : Nat) : part F T (r + 1) 0 = part F T r T := by simp [part, List.range_succ]
theorem part_len (F : Nat → Nat → Row) (T r t : Nat) : (part F T r t).length = r * T + t := by
  have : ∀ r, ((List.range r).flatMap fun a => (List.range T).map (F a)).length = r * T := by
    intro r
    induction r with
    | zero => simp
    | succ r ih => rw [List.range_succ, List.flatMap_append, List.length_append, ih]; simp [Nat.succ_mul]
  simp [part, this]
/-- Where rows lie. -/
def RowsAt (m : Mem) (d : D) (l : List Row) : Prop := (l = [] ∧ d = .nil) ∨ (l ≠ [] ∧ ∃ t g, d = .sl t 5 0 l.length none ∧ m t = some (.row g 53 (rowsL l)))

def exRow (r t : Nat) : Row := ⟨r, t, (t : Int) + 1, 4 + ((t : Int) + r) % 3, ((t : Int) + 2 * r) % 3⟩
def exM : Mv := ⟨3, 3, 3, 1, 2, part exRow 3 3 0⟩
theorem c23 : VCq Try.prog 23 [] (.agg (exM.cellsW (.sl [] 5 0 9 none))) (rowMem 53 (rowsL exM.rows)) := by
  refine wcontract_q sound0 mixed is23 (by rw [nt23]; simp) ?_
  simp [W23]
  refine wwp_loop (fun σ => ∃ (r : Nat) (d : D), r ≤ 3 ∧ σ.s 5 = iv r ∧ σ.s 0 = .ptr [1, 0] 0 ∧ σ.s 1 = .ptr [2, 0] 0 ∧ σ.m [1, 0] = some (.box [iv 0, iv 0, iv 0, iv 0, iv 0, .nil]) ∧ σ.m [2, 0] = some (.box [iv 3, iv 3, iv 3, iv 1, iv 2, d]) ∧ RowsAt σ.m d (part exRow 3 r 0)) (fun σ => cnt 3 (σ.s 5)) ?_ ?_
  · exact ⟨0, .nil, by omega, by simp, by simp, by simp, by simp, by simp, .inl ⟨rfl, rfl⟩⟩
  · rintro σ hw ⟨r, d, hr, h5, h0, h1, m1, m2, hd⟩
    simp [h5]
    refine condK_dec (fun hlt => ?_) (fun hge => ?_)
    · simp [h5]
      refine wwp_loop (fun σ' => ∃ (t : Nat) (d : D), t ≤ 3 ∧ σ'.s 8 = iv t ∧ σ'.s 2 = iv r ∧ σ'.s 5 = iv r ∧ σ'.s 0 = .ptr [1, 0] 0 ∧ σ'.s 1 = .ptr [2, 0] 0 ∧ σ'.m [1, 0] = some (.box [iv 0, iv 0, iv 0, iv 0, iv 0, .nil]) ∧ σ'.m [2, 0] = some (.box [iv 3, iv 3, iv 3, iv 1, iv 2, d]) ∧
        RowsAt σ'.m d (part exRow 3 r t)) (fun σ' => cnt 3 (σ'.s 8)) ?_ ?_
      · refine ⟨0, d, by omega, by simp, by simp, by simp [h5], by simp [h0], by simp [h1], by simp [m1], by simp [m2], ?_⟩
        simpa [RowsAt] using hd
      · rintro σ' hw' ⟨t, d, ht, e8, e2, e5, e0, e1, n1, n2, hd⟩
        simp [e8]
        refine condK_dec (fun hlt' => ?_) (fun hge' => ?_)
        · have w1 : IntKind.i64.wrap ((t : Int) + 1) = (t : Int) + 1 := wrap_in (by omega) (by omega)
          have w2 : IntKind.i64.wrap (4 + (IntKind.i64.wrap ((t : Int) + r)).tmod 3) = 4 + ((t : Int) + r) % 3 := by
            rw [wrap_in (x := (t : Int) + r) (by omega) (by omega), Int.tmod_eq_emod_of_nonneg (by omega)]
            rw [wrap_in (by omega) (by omega)]
          have w3 : (IntKind.i64.wrap ((t : Int) + IntKind.i64.wrap (2 * r))).tmod 3 = ((t : Int) + 2 * r) % 3 := by
            rw [wrap_in (x := 2 * (r : Int)) (by omega) (by omega), wrap_in (by omega) (by omega), Int.tmod_eq_emod_of_nonneg (by omega)]
          have hpl := part_len exRow 3 r t
          rcases hd with ⟨hd0, rfl⟩ | ⟨hd0, tk, g, rfl, htk⟩
          · simp [e8, e2, e5, e0, e1, n1, n2, w1, w2, w3, one_made]
            refine ⟨⟨t + 1, by omega, by omega, .inr ⟨by simp [part_succ], [30, σ'.c 29], [30, σ'.c 29], ?_, ?_⟩⟩, by omega⟩
            · simp [part_succ, hd0]
            · simp [part_succ, hd0, rowsL, Row.cells, exRow]
          · have p1 := hw'.ne htk 28 (σ'.c 28) []
            have p2 := hw'.ne htk 29 (σ'.c 29) []
            have hmm : (part exRow 3 r t).length + 1 ≤ maxMade := by unfold maxMade; omega
            simp [e8, e2, e5, e0, e1, n1, n2, w1, w2, w3, htk, p1, hmm]
            refine ⟨⟨t + 1, by omega, by omega, .inr ⟨by simp [part_succ], [30, σ'.c 29], g, ?_, ?_⟩⟩, by omega⟩
            · simp [part_succ]
            · simp [part_succ, rowsL_append]
              simp [rowsL, Row.cells, exRow]
        · have ht3 : t = 3 := by omega
          subst ht3
          simp [e5, e0, e1, n1, n2, wrap_succ (show r ≤ 1000000000 by omega)]
          refine ⟨⟨r + 1, by omega, by omega, ?_⟩, by omega⟩
          rw [part_next]
          simpa [RowsAt] using hd
    · have hr3 : r = 3 := by omega
      subst hr3
      rcases hd with ⟨hd0, rfl⟩ | ⟨hd0, tk, g, rfl, htk⟩
      · have := part_len exRow 3 3 0
        rw [hd0] at this
        simp at this
      · have htn : tk ≠ [1, 0] := fun e => by rw [e, m1] at htk; cases htk
        simp [h0, h1, m1, m2]
        exact Out.aggRow (t := tk) (g := g) (es := rowsL (part exRow 3 3 0)) (pre := [iv 3, iv 3, iv 3, iv 1, iv 2]) rfl (by simp [htn, htk]) (rowsL_flat _)

def mitRow (T r t : Nat) : Row := ⟨r, t, (t : Int) + 1, (T : Int) + 1 + ((t : Int) + r * ((T : Int) - 1)) % T, ((t : Int) + r) % T⟩
def mitM (T R : Nat) : Mv := ⟨T, R, T, 1, 2, part (mitRow T) T R 0⟩
theorem c22 (T R : Nat) (hT : 1 ≤ T) (hT' : T ≤ 100) (hR : 1 ≤ R) (hR' : R ≤ 100) : VCq Try.prog 22 [iv T, iv R] (.agg ((mitM T R).cellsW (.sl [] 5 0 (R * T) none))) (rowMem 53 (rowsL (mitM T R).rows)) := by
  refine wcontract_q sound0 mixed is22 (by rw [nt22]; simp) ?_
  simp [W22]
  refine wwp_loop (fun σ => ∃ (r : Nat) (d : D), r ≤ R ∧ σ.s 13 = iv r ∧ σ.s 12 = iv R ∧ σ.s 0 = iv T ∧ σ.s 4 = .ptr [5, 0] 0 ∧ σ.s 5 = .ptr [6, 0] 0 ∧ σ.m [5, 0] = some (.box [iv 0, iv 0, iv 0, iv 0, iv 0, .nil]) ∧ σ.m [6, 0] = some (.box [iv T, iv R, iv T, iv 1, iv 2, d]) ∧ RowsAt σ.m d (part (mitRow T) T r 0)) (fun σ => cnt R (σ.s 13)) ?_ ?_
  · exact ⟨0, .nil, by omega, by simp, by simp, by simp, by simp, by simp, by simp, by simp, .inl ⟨rfl, rfl⟩⟩
  · rintro σ hw ⟨r, d, hr, h13, h12, h0, h4, h5, m5, m6, hd⟩
    simp [h13, h12]
    refine condK_dec (fun hlt => ?_) (fun hge => ?_)
    · simp [h13, h0]
      refine wwp_loop (fun σ' => ∃ (t : Nat) (d : D), t ≤ T ∧ σ'.s 17 = iv t ∧ σ'.s 16 = iv T ∧ σ'.s 6 = iv r ∧ σ'.s 13 = iv r ∧ σ'.s 12 = iv R ∧ σ'.s 0 = iv T ∧ σ'.s 4 = .ptr [5, 0] 0 ∧ σ'.s 5 = .ptr [6, 0] 0 ∧ σ'.m [5, 0] = some (.box [iv 0, iv 0, iv 0, iv 0, iv 0, .nil]) ∧ σ'.m [6, 0] = some (.box [iv T, iv R, iv T, iv 1, iv 2, d]) ∧
        RowsAt σ'.m d (part (mitRow T) T r t)) (fun σ' => cnt T (σ'.s 17)) ?_ ?_
      · refine ⟨0, d, by omega, by simp, by simp, by simp, by simp [h13], by simp [h12], by simp [h0], by simp [h4], by simp [h5], by simp [m5], by simp [m6], ?_⟩
        simpa [RowsAt] using hd
      · rintro σ' hw' ⟨t, d, ht, e17, e16, e6, e13, e12, e0, e4, e5, n5, n6, hd⟩
        simp [e17, e16]
        refine condK_dec (fun hlt' => ?_) (fun hge' => ?_)
        · have hTz : ¬ (T : Int) = 0 := by omega
          have hTz' : ¬ T = 0 := by omega
          have hb : 0 ≤ (r : Int) * ((T : Int) - 1) ∧ (r : Int) * ((T : Int) - 1) ≤ 100 * 100 := ⟨Int.mul_nonneg (by omega) (by omega), Int.mul_le_mul (by omega) (by omega) (by omega) (by omega)⟩
          have hm1 := Int.emod_lt_of_pos ((t : Int) + r * ((T : Int) - 1)) (show (0 : Int) < T by omega)
          have hm2 := Int.emod_nonneg ((t : Int) + r * ((T : Int) - 1)) hTz
          have w0 : IntKind.i64.wrap ((t : Int) + 1) = (t : Int) + 1 := wrap_in (by omega) (by omega)
          have w1 : IntKind.i64.wrap ((T : Int) + 1) = (T : Int) + 1 := wrap_in (by omega) (by omega)
          have w2 : IntKind.i64.wrap ((T : Int) - 1) = (T : Int) - 1 := wrap_in (by omega) (by omega)
          have w3 : IntKind.i64.wrap ((r : Int) * ((T : Int) - 1)) = (r : Int) * ((T : Int) - 1) := wrap_in (by omega) (by omega)
          have w4 : (IntKind.i64.wrap ((t : Int) + (r : Int) * ((T : Int) - 1))).tmod T = ((t : Int) + r * ((T : Int) - 1)) % T := by
            rw [wrap_in (by omega) (by omega), Int.tmod_eq_emod_of_nonneg (by omega)]
          have w5 : IntKind.i64.wrap ((T : Int) + 1 + ((t : Int) + r * ((T : Int) - 1)) % T) = (T : Int) + 1 + ((t : Int) + r * ((T : Int) - 1)) % T := wrap_in (by omega) (by omega)
          have w6 : (IntKind.i64.wrap ((t : Int) + r)).tmod T = ((t : Int) + r) % T := by
            rw [wrap_in (by omega) (by omega), Int.tmod_eq_emod_of_nonneg (by omega)]
          have hpl := part_len (mitRow T) T r t
          have hrT : r * T ≤ 100 * 100 := Nat.mul_le_mul (by omega) (by omega)
          rcases hd with ⟨hd0, rfl⟩ | ⟨hd0, tk, g, rfl, htk⟩
          · simp [e17, e16, e6, e13, e12, e0, e4, e5, n5, n6, w0, w1, w2, w3, w4, w5, w6, hTz, hTz', one_made]
            refine ⟨⟨t + 1, by omega, by omega, .inr ⟨by simp [part_succ], [45, σ'.c 44], [45, σ'.c 44], ?_, ?_⟩⟩, by omega⟩
            · simp [part_succ, hd0]
            · simp [part_succ, hd0, rowsL, Row.cells, mitRow]
          · have p1 := hw'.ne htk 43 (σ'.c 43) []
            have p2 := hw'.ne htk 44 (σ'.c 44) []
            have hmm : (part (mitRow T) T r t).length + 1 ≤ maxMade := by unfold maxMade; omega
            simp [e17, e16, e6, e13, e12, e0, e4, e5, n5, n6, w0, w1, w2, w3, w4, w5, w6, hTz, hTz', htk, p1, hmm]
            refine ⟨⟨t + 1, by omega, by omega, .inr ⟨by simp [part_succ], [45, σ'.c 44], g, ?_, ?_⟩⟩, by omega⟩
            · simp [part_succ]
            · simp [part_succ, rowsL_append]
              simp [rowsL, Row.cells, mitRow]
        · have ht3 : t = T := by omega
          subst ht3
          simp [e13, e12, e0, e4, e5, n5, n6, wrap_succ (show r ≤ 1000000000 by omega)]
          refine ⟨⟨r + 1, by omega, by omega, ?_⟩, by omega⟩
          rw [part_next]
          simpa [RowsAt] using hd
    · have hr3 : r = R := by omega
      subst hr3
      have hpl := part_len (mitRow T) T r 0
      have hpos : 0 < r * T := Nat.mul_pos (by omega) (by omega)
      rcases hd with ⟨hd0, rfl⟩ | ⟨hd0, tk, g, rfl, htk⟩
      · rw [hd0] at hpl
        simp at hpl
        omega
      · have htn : tk ≠ [5, 0] := fun e => by rw [e, m5] at htk; cases htk
        simp [h4, h5, m5, m6]
        have hl : (part (mitRow T) T r 0).length = r * T := by omega
        rw [hl]
        exact Out.aggRow (t := tk) (g := g) (size := 5) (len := r * T) (es := rowsL (part (mitRow T) T r 0)) (pre := [iv T, iv r, iv T, iv 1, iv 2]) rfl (by simp [htn, htk]) (rowsL_flat _)
end Go.Proofs.Ytpmgaaalfdjikaa
