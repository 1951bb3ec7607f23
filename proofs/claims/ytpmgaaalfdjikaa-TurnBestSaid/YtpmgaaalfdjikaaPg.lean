/- Contracts: Contest, unbalance, Unbalance, SameInts. Lemmas; no condition. -/
import Derived.Test.YtpmgaaalfdjikaaPd
import Derived.Test.YtpmgaaalfdjikaaPf
namespace Go.Proofs.Ytpmgaaalfdjikaa
open Go.RowKit
set_option linter.unusedSimpArgs false
set_option linter.unusedVariables false

def W25 : WC × List VRes := ((.seq (.reg [(.stm (.eff (.box 3 (.t 0)) none)), (.set [(6, (.c (.v (.int .i64 0)))), (7, (.c (.v (.int .i64 0))))] [6, 7])]) (.seq (.seq (.reg [(.set [(11, (.ap .inot [(.ap (.call 27) [(.ap (.load 6 true) [(.t 3)])])]))] [9, 10, 11])]) (.cond (.t 11) (.seq (.reg [(.set [(6, (.c (.v (.int .i64 0)))), (7, (.c (.v (.int .i64 290))))] [6, 7])]) .ret) .skip)) (.seq (.reg [(.set [(8, (.ap (.call 53) [(.ap (.load 6 true) [(.t 3)])]))] [12, 13, 8])]) (.seq (.seq (.reg [(.set [(34, (.ite (.ite (.ite (.ite (.ap (.ibin .lss) [(.t 1), (.c (.v (.int .i64 1)))]) (.c (.v (.bool true))) (.ap (.ibin .gtr) [(.t 1), (.t 8)])) (.c (.v (.bool true))) (.ap (.ibin .lss) [(.t 2), (.c (.v (.int .i64 1)))])) (.c (.v (.bool true))) (.ap (.ibin .gtr) [(.t 2), (.t 8)])) (.c (.v (.bool true))) (.ap (.ibin .eql) [(.t 1), (.t 2)])))] [14, 15, 16, 17, 18, 19, 20, 21, 22, 23, 24, 25, 26, 27, 28, 29, 30, 31, 32, 33, 34])]) (.cond (.t 34) (.seq (.reg [(.set [(6, (.c (.v (.int .i64 0)))), (7, (.c (.v (.int .i64 2))))] [6, 7])]) .ret) .skip)) (.seq (.reg [(.set [(35, (.ap (.load 6 true) [(.t 3)]))] [35]), (.stm (.eff (.callq 36 54 [(.t 35)]) none)), (.set [(6, (.ap (.load 1 false) [(.ap (.aidx 50 1) [(.ap (.aidx 50 50) [(.ap .chk [(.t 36)]), (.t 1)]), (.t 2)])])), (7, (.c (.v (.int .i64 0))))] [37, 38, 39, 40, 41, 42, 6, 7])]) .ret))))), [(.t 6), (.t 7)])
theorem is25 : IsFn Try.prog frOf 25 Try.f25 W25 := ⟨by kernel_rfl, by kernel_rfl, by kernel_rfl⟩
theorem nt25 : Try.f25.ntmps = 43 := by kernel_rfl
def W40 : WC × List VRes := ((.seq (.reg [(.stm (.eff (.box 1 (.t 0)) none)), (.set [(2, (.c (.v (.int .i64 0))))] [2])]) (.seq (.reg [(.set [(7, (.ap (.load 6 true) [(.t 1)]))] [7]), (.stm (.eff (.callq 8 54 [(.t 7)]) none)), (.set [(3, (.t 8))] [3])]) (.seq (.reg [(.set [(4, (.c (.v (.int .i64 0))))] [4])]) (.seq (.seq (.reg [(.set [(9, (.c (.v (.int .i64 0))))] [9])]) (.block 0 (.loop (.seq (.reg [(.set [(10, (.ap (.ibin .lss) [(.t 9), (.c (.v (.int .i64 50)))]))] [10])]) (.seq (.cond (.t 10) .skip (.exit 0)) (.seq (.block 1 (.seq (.reg [(.set [(5, (.t 9))] [11, 5])]) (.seq (.reg [(.set [(6, (.ap (.ibin .add) [(.t 5), (.c (.v (.int .i64 1)))]))] [12, 13, 6])]) (.block 2 (.loop (.seq (.seq (.reg [(.set [(15, (.ap (.ibin .lss) [(.t 6), (.c (.v (.int .i64 50)))]))] [14, 15])]) (.cond (.t 15) .skip (.exit 2))) (.seq (.block 3 (.reg [(.set [(4, (.ap (.ibin .add) [(.t 4), (.ap (.ibin .mul) [(.ap (.load 1 false) [(.ap (.aidx 50 1) [(.ap (.aidx 50 50) [(.ap .chk [(.t 3)]), (.t 5)]), (.t 6)])]), (.ap (.load 1 false) [(.ap (.aidx 50 1) [(.ap (.aidx 50 50) [(.ap .chk [(.t 3)]), (.t 5)]), (.t 6)])])])]))] [18, 19, 20, 21, 22, 23, 24, 25, 26, 27, 28, 29, 30, 31, 32, 33, 34, 4])])) (.reg [(.set [(6, (.ap (.ibin .add) [(.t 6), (.c (.v (.int .i64 1)))]))] [16, 17, 6])])))))))) (.reg [(.set [(9, (.ap (.ibin .add) [(.t 9), (.c (.v (.int .i64 1)))]))] [35, 9])]))))))) (.seq (.reg [(.set [(2, (.t 4))] [36, 2])]) .ret))))), [(.t 2)])
theorem is40 : IsFn Try.prog frOf 40 Try.f40 W40 := ⟨by kernel_rfl, by kernel_rfl, by kernel_rfl⟩
theorem nt40 : Try.f40.ntmps = 37 := by kernel_rfl
def W18 : WC × List VRes := ((.seq (.reg [(.stm (.eff (.box 1 (.t 0)) none)), (.set [(2, (.c (.v (.int .i64 0)))), (3, (.c (.v (.int .i64 0))))] [2, 3])]) (.seq (.seq (.reg [(.set [(6, (.ap .inot [(.ap (.call 27) [(.ap (.load 6 true) [(.t 1)])])]))] [4, 5, 6])]) (.cond (.t 6) (.seq (.reg [(.set [(2, (.c (.v (.int .i64 0)))), (3, (.c (.v (.int .i64 290))))] [2, 3])]) .ret) .skip)) (.seq (.reg [(.set [(2, (.ap (.call 40) [(.ap (.load 6 true) [(.t 1)])])), (3, (.c (.v (.int .i64 0))))] [7, 8, 2, 3])]) .ret))), [(.t 2), (.t 3)])
theorem is18 : IsFn Try.prog frOf 18 Try.f18 W18 := ⟨by kernel_rfl, by kernel_rfl, by kernel_rfl⟩
theorem nt18 : Try.f18.ntmps = 9 := by kernel_rfl
def W38 : WC × List VRes := ((.seq (.reg [(.set [(4, (.c (.v (.bool false))))] [4])]) (.seq (.seq (.reg [(.set [(10, (.ap (.ibin .neq) [(.ap .llen [(.t 0)]), (.ap .llen [(.t 1)])]))] [6, 7, 8, 9, 10])]) (.cond (.t 10) (.seq (.reg [(.set [(4, (.c (.v (.bool false))))] [4])]) .ret) .skip)) (.seq (.seq (.reg [(.set [(5, (.c (.v (.int .i64 0))))] [5])]) (.block 0 (.loop (.seq (.seq (.reg [(.set [(14, (.ap (.ibin .lss) [(.t 5), (.ap .llen [(.t 0)])]))] [11, 12, 13, 14])]) (.cond (.t 14) .skip (.exit 0))) (.seq (.block 1 (.seq (.reg [(.set [(25, (.ap (.ibin .neq) [(.ap (.load 1 false) [(.ap (.idx 3 1) [(.t 0), (.t 5)])]), (.ap (.load 1 false) [(.ap (.idx 3 1) [(.t 1), (.t 5)])])]))] [17, 18, 19, 20, 21, 22, 23, 24, 25])]) (.cond (.t 25) (.seq (.reg [(.set [(4, (.c (.v (.bool false))))] [4])]) .ret) .skip))) (.reg [(.set [(5, (.ap (.ibin .add) [(.t 5), (.c (.v (.int .i64 1)))]))] [15, 16, 5])])))))) (.seq (.reg [(.set [(4, (.c (.v (.bool true))))] [4])]) .ret)))), [(.t 4)])
theorem is38 : IsFn Try.prog frOf 38 Try.f38 W38 := ⟨by kernel_rfl, by kernel_rfl, by kernel_rfl⟩
theorem nt38 : Try.f38.ntmps = 26 := by kernel_rfl


def S27 : List D → Option D
  | [.agg xs] => (asMv xs).map fun m => bv (fitB m)
  | _ => none
theorem s27 : OkP 27 S27 := fun ds d h => by
  unfold S27 at h
  split at h
  · obtain ⟨m, hm, rfl⟩ := Option.map_eq_some_iff.1 h
    rw [asMv_eq hm]
    exact c27 m
  · cases h
theorem fit_len {m : Mv} (h : fitB m = true) : m.rows.length ≤ 1128 := by
  obtain ⟨a, b, c, d, e⟩ := ((fitB_iff m).1 h).1
  have e1 : m.t * m.r ≤ 24 * 47 := Int.mul_le_mul b d (by omega) (by omega)
  omega
theorem pairOK_bounds {f : Nat → Bool} {r p : Int} (h : pairOK f r p = true) : 0 ≤ p ∧ p ≤ 49 := by
  simp only [pairOK, Bool.and_eq_true, decide_eq_true_eq] at h
  exact h.1
theorem fit_pairs {m : Mv} (h : fitB m = true) : inPairs m.rows = true := by
  unfold inPairs
  rw [List.all_eq_true]
  intro x hx
  obtain ⟨k, hk, rfl⟩ := List.getElem_of_mem hx
  have := ((fitB_iff m).1 h).2 k hk
  simp only [fitRow, Bool.and_eq_true] at this
  have h1 := pairOK_bounds this.1.2
  have h2 := pairOK_bounds this.2
  simp [h1, h2]
theorem great_bounds {l : List Row} (h : inPairs l = true) : 0 ≤ great l ∧ great l ≤ 49 := by
  have key : ∀ (l : List Row) (p : Int), (∀ x ∈ l, 0 ≤ x.ns ∧ x.ns ≤ 49 ∧ 0 ≤ x.ew ∧ x.ew ≤ 49) → 0 ≤ p → p ≤ 49 → 0 ≤ l.foldl (fun p x => max (max p x.ns) x.ew) p ∧ l.foldl (fun p x => max (max p x.ns) x.ew) p ≤ 49 := by
    intro l
    induction l with
    | nil => intro p _ h1 h2; exact ⟨h1, h2⟩
    | cons x l ih =>
      intro p hx h1 h2
      have := hx x List.mem_cons_self
      exact ih _ (fun y hy => hx y (List.mem_cons_of_mem _ hy)) (by simp only; omega) (by simp only; omega)
  exact key l 0 (inPairs_mem h) (by omega) (by omega)

def contestR (m : Mv) (p q : Int) : Int × Int :=
  if fitB m = true then (if p < 1 ∨ great m.rows < p ∨ q < 1 ∨ great m.rows < q ∨ p = q then (0, 2) else (conT m (p.toNat * 50 + q.toNat), 0)) else (0, 290)
def env25 : Env := mkEnv [(27, S27), (53, S53)] [(54, S54)] []
@[simp] theorem env25_p (f : Nat) (ds : List D) : env25.p f ds = (look [(27, S27), (53, S53)] f).bind fun s => s ds := rfl
@[simp] theorem env25_q (f : Nat) (ds : List D) : env25.q f ds = (look [(54, S54)] f).bind fun s => s ds := rfl
theorem sound25 : Sound Try.prog env25 := sound_mk (by simp [s27, s53]) (by simp [s54]) (by simp)
theorem c25 (m : Mv) (p q : Int) : VCp Try.prog 25 [.agg m.cells, iv p, iv q] (.tup [iv (contestR m p q).1, iv (contestR m p q).2]) := by
  refine wcontract_p sound25 mixed is25 (by rw [nt25]; simp) ?_ rfl
  simp [W25, Mv.cells, Mv.cellsW, S27]
  refine condK_b (fun hf => ?_) (fun hf => ?_)
  · have hf' : fitB m = false := by simpa using hf
    simp [contestR, hf']
  · have hf' : fitB m = true := by simpa using hf
    have hl := fit_len hf'
    have hp := fit_pairs hf'
    have hg := great_bounds hp
    simp [S53, show m.rows.length ≤ 1000000 by omega]
    refine condK_b (fun hx => ?_) (fun hx => ?_)
    · simp only [Bool.or_eq_true, decide_eq_true_eq, beq_iff_eq] at hx
      have hc : p < 1 ∨ great m.rows < p ∨ q < 1 ∨ great m.rows < q ∨ p = q := by omega
      simp [contestR, hf', hc]
    · simp only [Bool.or_eq_false_iff, decide_eq_false_iff_not, beq_eq_false_iff_ne] at hx
      have hc : ¬ (p < 1 ∨ great m.rows < p ∨ q < 1 ∨ great m.rows < q ∨ p = q) := by omega
      have q1 : p.toNat * 50 + q.toNat < 2500 := by omega
      have q2 : p.toNat * 50 + q.toNat ≤ 2499 := by omega
      have q3 : 0 ≤ p := by omega
      have q4 : 0 ≤ q := by omega
      have q5 : p < 50 := by omega
      have q6 : q < 50 := by omega
      simp [S54, show m.rows.length ≤ 1000000 by omega, hp, q1, q2, q3, q4, q5, q6, contestR, hf', hc]

def sqIn (E : Nat → Int) (p q : Nat) : Int := ((List.range q).map fun k => if p < k then E (p * 50 + k) * E (p * 50 + k) else 0).sum
def sqOut (E : Nat → Int) (p : Nat) : Int := ((List.range p).map fun a => sqIn E a 50).sum
theorem sqIn_succ (E : Nat → Int) (p q : Nat) : sqIn E p (q + 1) = sqIn E p q + if p < q then E (p * 50 + q) * E (p * 50 + q) else 0 := by simp [sqIn, List.range_succ]
theorem sqIn_zero (E : Nat → Int) (p : Nat) : ∀ q, q ≤ p + 1 → sqIn E p q = 0
  | 0, _ => rfl
  | q + 1, h => by rw [sqIn_succ, sqIn_zero E p q (by omega), if_neg (by omega)]; rfl
theorem sqOut_succ (E : Nat → Int) (p : Nat) : sqOut E (p + 1) = sqOut E p + sqIn E p 50 := by simp [sqOut, List.range_succ]
def unbV (m : Mv) : Int := IntKind.i64.wrap (sqOut (conT m) 50)
theorem wrap_add2 (x y : Int) : IntKind.i64.wrap (IntKind.i64.wrap x + IntKind.i64.wrap y) = IntKind.i64.wrap (x + y) := by simp only [IntKind.wrap_i64]; omega
def env40 : Env := mkEnv [] [(54, S54)] []
@[simp] theorem env40_q (f : Nat) (ds : List D) : env40.q f ds = (look [(54, S54)] f).bind fun s => s ds := rfl
theorem sound40 : Sound Try.prog env40 := sound_mk (by simp) (by simp [s54]) (by simp)
theorem c40 (m : Mv) (hm : m.rows.length ≤ 1000000) (hp : inPairs m.rows = true) : VCp Try.prog 40 [.agg m.cells] (iv (unbV m)) := by
  refine wcontract_p sound40 mixed is40 (by rw [nt40]; simp) ?_ rfl
  simp [W40, Mv.cells, Mv.cellsW, S54, hm, hp]
  refine wwp_loop (fun σ => ∃ a : Nat, a ≤ 50 ∧ σ.s 9 = iv a ∧ σ.s 3 = .ptr [9, 0] 0 ∧ σ.m [9, 0] = some (.box (tab 2500 fun i => iv (conT m i))) ∧ σ.s 4 = iv (IntKind.i64.wrap (sqOut (conT m) a))) (fun σ => cnt 50 (σ.s 9)) ?_ ?_
  · exact ⟨0, by omega, by simp, by simp, by simp, by simp [sqOut]⟩
  · rintro σ hw ⟨a, ha, h9, h3, m9, h4⟩
    simp [h9]
    refine condK_dec (fun hlt => ?_) (fun hge => ?_)
    · simp [h9, h3, h4, wrap_succ (show a ≤ 1000000000 by omega)]
      refine wwp_loop (fun σ' => ∃ b : Nat, a + 1 ≤ b ∧ b ≤ 50 ∧ σ'.s 6 = iv b ∧ σ'.s 5 = iv a ∧ σ'.s 9 = iv a ∧ σ'.s 3 = .ptr [9, 0] 0 ∧ σ'.m [9, 0] = some (.box (tab 2500 fun i => iv (conT m i))) ∧
        σ'.s 4 = iv (IntKind.i64.wrap (sqOut (conT m) a + sqIn (conT m) a b))) (fun σ' => cnt 50 (σ'.s 6)) ?_ ?_
      · exact ⟨a + 1, by omega, by omega, by simp, by simp, by simp [h9], by simp [h3], by simp [m9], by simp [h4, sqIn_zero]⟩
      · rintro σ' hw' ⟨b, hb1, hb2, e6, e5, e9, e3, n9, e4⟩
        simp [e6]
        refine condK_dec (fun hlt' => ?_) (fun hge' => ?_)
        · have q1 : a * 50 + b < 2500 := by omega
          have q2 : a * 50 + b ≤ 2499 := by omega
          have q3 : (a : Int) < 50 := by omega
          have q4 : (b : Int) < 50 := by omega
          simp [e6, e5, e9, e3, e4, n9, q1, q2, q3, q4, wrap_succ (show b ≤ 1000000000 by omega), wrap_add2]
          refine ⟨⟨b + 1, by omega, by omega, by omega, ?_⟩, by omega⟩
          rw [sqIn_succ, if_pos (by omega), Int.add_assoc]
        · have hb50 : b = 50 := by omega
          subst hb50
          simp [e9, e3, n9, e4, wrap_succ (show a ≤ 1000000000 by omega)]
          refine ⟨⟨a + 1, by omega, by omega, ?_⟩, by omega⟩
          rw [sqOut_succ]
    · have ha50 : a = 50 := by omega
      subst ha50
      simp [h4, unbV]
def S40 : List D → Option D
  | [.agg xs] => (asMv xs).bind fun m => if m.rows.length ≤ 1000000 ∧ inPairs m.rows = true then some (iv (unbV m)) else none
  | _ => none
theorem s40 : OkP 40 S40 := fun ds d h => by
  unfold S40 at h
  split at h
  · rw [Option.bind_eq_some_iff] at h
    obtain ⟨m, hm, h⟩ := h
    split at h <;> cases h
    rename_i hc
    rw [asMv_eq hm]
    exact c40 m hc.1 hc.2
  · cases h
def S25 : List D → Option D
  | [.agg xs, .v (.int .i64 p), .v (.int .i64 q)] => (asMv xs).map fun m => .tup [iv (contestR m p q).1, iv (contestR m p q).2]
  | _ => none
theorem s25 : OkP 25 S25 := fun ds d h => by
  unfold S25 at h
  split at h
  · obtain ⟨m, hm, rfl⟩ := Option.map_eq_some_iff.1 h
    rw [asMv_eq hm]
    exact c25 m _ _
  · cases h
def unbR (m : Mv) : Int × Int := if fitB m = true then (unbV m, 0) else (0, 290)
def env18 : Env := mkEnv [(27, S27), (40, S40)] [] []
@[simp] theorem env18_p (f : Nat) (ds : List D) : env18.p f ds = (look [(27, S27), (40, S40)] f).bind fun s => s ds := rfl
theorem sound18 : Sound Try.prog env18 := sound_mk (by simp [s27, s40]) (by simp) (by simp)
theorem c18 (m : Mv) : VCp Try.prog 18 [.agg m.cells] (.tup [iv (unbR m).1, iv (unbR m).2]) := by
  refine wcontract_p sound18 mixed is18 (by rw [nt18]; simp) ?_ rfl
  simp [W18, Mv.cells, Mv.cellsW, S27]
  refine condK_b (fun hf => ?_) (fun hf => ?_)
  · have hf' : fitB m = false := by simpa using hf
    simp [unbR, hf']
  · have hf' : fitB m = true := by simpa using hf
    have hl := fit_len hf'
    simp [S40, show m.rows.length ≤ 1000000 by omega, fit_pairs hf', unbR, hf']
def S18 : List D → Option D
  | [.agg xs] => (asMv xs).map fun m => .tup [iv (unbR m).1, iv (unbR m).2]
  | _ => none
theorem s18 : OkP 18 S18 := fun ds d h => by
  unfold S18 at h
  split at h
  · obtain ⟨m, hm, rfl⟩ := Option.map_eq_some_iff.1 h
    rw [asMv_eq hm]
    exact c18 m
  · cases h

theorem c38 (a b : List Int) (ha : a.length ≤ 1000000) (hb : b.length ≤ 1000000) : VCp Try.prog 38 [.list (ints a), .list (ints b)] (bv (decide (a = b))) := by
  refine wcontract_p sound0 mixed is38 (by rw [nt38]; simp) ?_ rfl
  simp [W38]
  refine condK_b (fun hl => ?_) (fun hl => ?_)
  · have : a ≠ b := fun e => by subst e; simp at hl
    simp [this]
  · have hl' : a.length = b.length := by simp at hl; omega
    simp
    refine wwp_loop (fun σ => ∃ k : Nat, k ≤ a.length ∧ σ.s 5 = iv k ∧ σ.s 0 = .list (ints a) ∧ σ.s 1 = .list (ints b) ∧ ∀ i (h : i < a.length), i < k → a[i] = b[i]'(by omega)) (fun σ => cnt a.length (σ.s 5)) ?_ ?_
    · exact ⟨0, by omega, by simp, by simp, by simp, by omega⟩
    · rintro σ hw ⟨k, hk, h5, h0, h1, hall⟩
      simp [h5, h0]
      refine condK_dec (fun hlt => ?_) (fun hge => ?_)
      · have hltb : k < b.length := by omega
        simp [h5, h0, h1, hlt, hltb]
        refine condK_b (fun hx => ?_) (fun hx => ?_)
        · have : a ≠ b := fun e => by subst e; simp at hx
          simp [this]
        · have hx' : a[k] = b[k] := by simpa using hx
          simp [h5, h0, h1, wrap_succ (show k ≤ 1000000000 by omega)]
          refine ⟨⟨k + 1, by omega, by omega, fun i hi hik => ?_⟩, by omega⟩
          by_cases h : i < k
          · exact hall i hi h
          · obtain rfl : i = k := by omega
            exact hx'
      · have : a = b := List.ext_getElem hl' fun i hi _ => hall i hi (by omega)
        simp [this]
def S38 : List D → Option D
  | [.list a, .list b] => (asInts a).bind fun a => (asInts b).bind fun b => if a.length ≤ 1000000 ∧ b.length ≤ 1000000 then some (bv (decide (a = b))) else none
  | _ => none
theorem s38 : OkP 38 S38 := fun ds d h => by
  unfold S38 at h
  split at h
  · rw [Option.bind_eq_some_iff] at h
    obtain ⟨a, ha, h⟩ := h
    rw [Option.bind_eq_some_iff] at h
    obtain ⟨b, hb, h⟩ := h
    split at h <;> cases h
    rename_i hc
    rw [asInts_eq ha, asInts_eq hb]
    exact c38 a b hc.1 hc.2
  · cases h
end Go.Proofs.Ytpmgaaalfdjikaa
