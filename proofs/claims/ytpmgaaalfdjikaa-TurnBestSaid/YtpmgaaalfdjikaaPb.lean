/- Contracts of the functions that call no others of the chapter: greatest, isList, the search in a list, copies. Lemmas; no condition. -/
import Derived.Test.YtpmgaaalfdjikaaPa
namespace Go.Proofs.Ytpmgaaalfdjikaa
open Go.RowKit
set_option linter.unusedSimpArgs false
set_option linter.unusedVariables false

def W53 : WC × List VRes := ((.seq (.reg [(.stm (.eff (.box 1 (.t 0)) none)), (.set [(2, (.c (.v (.int .i64 0))))] [2])]) (.seq (.reg [(.set [(3, (.c (.v (.int .i64 0))))] [3])]) (.seq (.seq (.reg [(.set [(7, (.ap (.load 1 false) [(.ap (.fld 5) [(.t 1)])])), (8, (.ap .llen [(.ap (.load 1 false) [(.ap (.fld 5) [(.t 1)])])])), (9, (.c (.v (.int .i64 0))))] [6, 7, 8, 9])]) (.block 0 (.loop (.seq (.reg [(.set [(10, (.ap (.ibin .lss) [(.t 9), (.t 8)]))] [10])]) (.seq (.cond (.t 10) .skip (.exit 0)) (.seq (.block 1 (.seq (.reg [(.set [(12, (.ap (.load 5 true) [(.ap (.idx 53 5) [(.t 7), (.t 9)])]))] [11, 12]), (.stm (.eff (.box 5 (.c (.agg [(.v (.int .i64 0)), (.v (.int .i64 0)), (.v (.int .i64 0)), (.v (.int .i64 0)), (.v (.int .i64 0))]))) none)), (.stm (.eff (.store 5 (.t 5) (.t 12)) none))]) (.reg [(.set [(3, (.ap (.mx3 true) [(.t 3), (.ap (.load 1 false) [(.ap (.fld 2) [(.t 5)])]), (.ap (.load 1 false) [(.ap (.fld 3) [(.t 5)])])]))] [13, 14, 15, 16, 17, 18, 3])]))) (.reg [(.set [(9, (.ap (.ibin .add) [(.t 9), (.c (.v (.int .i64 1)))]))] [19, 9])]))))))) (.seq (.reg [(.set [(2, (.t 3))] [20, 2])]) .ret)))), [(.t 2)])
theorem is53 : IsFn Try.prog frOf 53 Try.f53 W53 := ⟨by kernel_rfl, by kernel_rfl, by kernel_rfl⟩
theorem nt53 : Try.f53.ntmps = 21 := by kernel_rfl
def W39 : WC × List VRes := ((.seq (.reg [(.stm (.eff (.box 2 (.t 0)) none)), (.set [(4, (.c (.v (.bool false))))] [4])]) (.seq (.reg [(.set [(5, (.c (.v (.int .i64 (-1)))))] [5])]) (.seq (.seq (.reg [(.set [(8, (.t 1)), (9, (.ap .llen [(.t 1)])), (10, (.c (.v (.int .i64 0))))] [8, 9, 10])]) (.block 0 (.loop (.seq (.reg [(.set [(11, (.ap (.ibin .lss) [(.t 10), (.t 9)]))] [11])]) (.seq (.cond (.t 11) .skip (.exit 0)) (.seq (.block 1 (.seq (.reg [(.set [(7, (.ap (.load 1 false) [(.ap (.idx 3 1) [(.t 8), (.t 10)])]))] [12, 13, 7])]) (.seq (.seq (.reg [(.set [(22, (.ite (.ap (.ibin .leq) [(.t 7), (.t 5)]) (.c (.v (.bool true))) (.ap (.ibin .geq) [(.t 7), (.ap (.load 1 false) [(.ap (.fld 1) [(.t 2)])])])))] [14, 15, 16, 17, 18, 19, 20, 21, 22])]) (.cond (.t 22) (.seq (.reg [(.set [(4, (.c (.v (.bool false))))] [4])]) .ret) .skip)) (.reg [(.set [(5, (.t 7))] [23, 5])])))) (.reg [(.set [(10, (.ap (.ibin .add) [(.t 10), (.c (.v (.int .i64 1)))]))] [24, 10])]))))))) (.seq (.reg [(.set [(4, (.c (.v (.bool true))))] [4])]) .ret)))), [(.t 4)])
theorem is39 : IsFn Try.prog frOf 39 Try.f39 W39 := ⟨by kernel_rfl, by kernel_rfl, by kernel_rfl⟩
theorem nt39 : Try.f39.ntmps = 25 := by kernel_rfl
def W74 : WC × List VRes := ((.seq (.reg [(.set [(4, (.c (.v (.bool false))))] [4])]) (.seq (.reg [(.set [(4, (.ite (.ite (.ap (.call 94) [(.t 0)]) (.ap .inot [(.ap (.call 94) [(.t 1)])]) (.c (.v (.bool false)))) (.c (.v (.bool true))) (.ap (.ibin .lss) [(.t 0), (.t 1)])))] [5, 6, 7, 8, 9, 10, 11, 12, 13, 14, 15, 16, 4])]) .ret)), [(.t 4)])
theorem is74 : IsFn Try.prog frOf 74 Try.f74 W74 := ⟨by kernel_rfl, by kernel_rfl, by kernel_rfl⟩
theorem nt74 : Try.f74.ntmps = 17 := by kernel_rfl
def W75 : WC × List VRes := ((.seq (.reg [(.set [(2, (.c (.v (.bool false))))] [2])]) (.seq (.reg [(.set [(2, (.ap (.ibin .neq) [(.t 0), (.t 0)]))] [3, 4, 5, 2])]) .ret)), [(.t 2)])
theorem is75 : IsFn Try.prog frOf 75 Try.f75 W75 := ⟨by kernel_rfl, by kernel_rfl, by kernel_rfl⟩
theorem nt75 : Try.f75.ntmps = 6 := by kernel_rfl
def W94 : WC × List VRes := ((.seq (.reg [(.set [(2, (.c (.v (.bool false))))] [2])]) (.seq (.reg [(.set [(2, (.ap (.ibin .neq) [(.t 0), (.t 0)]))] [3, 4, 5, 2])]) .ret)), [(.t 2)])
theorem is94 : IsFn Try.prog frOf 94 Try.f94 W94 := ⟨by kernel_rfl, by kernel_rfl, by kernel_rfl⟩
theorem nt94 : Try.f94.ntmps = 6 := by kernel_rfl
def W63 : WC × List VRes := ((.seq (.reg [(.set [(4, (.c (.v (.int .i64 0)))), (5, (.c (.v (.bool false))))] [4, 5])]) (.seq (.reg [(.set [(6, (.ap .llen [(.t 0)]))] [10, 11, 6])]) (.seq (.reg [(.set [(7, (.c (.v (.int .i64 0)))), (8, (.t 6))] [12, 7, 8])]) (.seq (.block 0 (.loop (.seq (.seq (.reg [(.set [(15, (.ap (.ibin .lss) [(.t 7), (.t 8)]))] [13, 14, 15])]) (.cond (.t 15) .skip (.exit 0))) (.block 1 (.seq (.reg [(.set [(9, (.ap (.conv .i64) [(.ap (.ishift .shr) [(.ap (.conv .u64) [(.ap (.ibin .add) [(.t 7), (.t 8)])]), (.c (.v (.int .u64 1)))])]))] [16, 17, 18, 19, 20, 21, 9])]) (.seq (.reg [(.set [(27, (.ap (.call 74) [(.ap (.load 1 false) [(.ap (.idx 3 1) [(.t 0), (.t 9)])]), (.t 1)]))] [22, 23, 24, 25, 26, 27])]) (.cond (.t 27) (.reg [(.set [(7, (.ap (.ibin .add) [(.t 9), (.c (.v (.int .i64 1)))]))] [28, 29, 7])]) (.reg [(.set [(8, (.t 9))] [30, 8])])))))))) (.seq (.reg [(.set [(4, (.t 7)), (5, (.ite (.ap (.ibin .lss) [(.t 7), (.t 6)]) (.ite (.ap (.ibin .eql) [(.ap (.load 1 false) [(.ap (.idx 3 1) [(.t 0), (.t 7)])]), (.t 1)]) (.c (.v (.bool true))) (.ite (.ap (.call 75) [(.ap (.load 1 false) [(.ap (.idx 3 1) [(.t 0), (.t 7)])])]) (.ap (.call 75) [(.t 1)]) (.c (.v (.bool false))))) (.c (.v (.bool false)))))] [31, 32, 33, 34, 35, 36, 37, 38, 39, 40, 41, 42, 43, 44, 45, 46, 47, 48, 49, 50, 51, 52, 53, 4, 5])]) .ret))))), [(.t 4), (.t 5)])
theorem is63 : IsFn Try.prog frOf 63 Try.f63 W63 := ⟨by kernel_rfl, by kernel_rfl, by kernel_rfl⟩
theorem nt63 : Try.f63.ntmps = 54 := by kernel_rfl
def W62 : WC × List VRes := ((.seq (.reg [(.set [(3, (.c (.v (.bool false))))] [3])]) (.seq (.reg [(.set [(4, (.ap (.ext 0) [(.ap (.call 63) [(.ap (.load 1 false) [(.t 1)]), (.t 0)])])), (5, (.ap (.ext 1) [(.ap (.call 63) [(.ap (.load 1 false) [(.t 1)]), (.t 0)])]))] [7, 8, 9, 6, 10, 11, 4, 5])]) (.seq (.reg [(.set [(3, (.t 5))] [12, 3])]) .ret))), [(.t 3)])
theorem is62 : IsFn Try.prog frOf 62 Try.f62 W62 := ⟨by kernel_rfl, by kernel_rfl, by kernel_rfl⟩
theorem nt62 : Try.f62.ntmps = 13 := by kernel_rfl
def W24 : WC × List VRes := ((.seq (.reg [(.set [(2, (.c .nil))] [2])]) (.seq (.seq (.reg [(.set [(4, (.ap (.snil false) [(.t 0), (.c .nil)]))] [3, 4])]) (.cond (.t 4) (.seq (.reg [(.set [(2, (.c .nil))] [2])]) .ret) .skip)) (.seq (.reg [(.stm (.eff (.lit 5 53 5 0 [] [] []) none)), (.set [(6, (.t 0))] [6]), (.stm (.eff (.app 7 53 5 (.t 5) (.t 6)) none)), (.set [(2, (.t 7))] [2])]) .ret))), [(.t 2)])
theorem is24 : IsFn Try.prog frOf 24 Try.f24 W24 := ⟨by kernel_rfl, by kernel_rfl, by kernel_rfl⟩
theorem nt24 : Try.f24.ntmps = 8 := by kernel_rfl
def W55 : WC × List VRes := ((.seq (.reg [(.set [(2, (.c .nil))] [2])]) (.seq (.seq (.reg [(.set [(4, (.ap (.snil false) [(.t 0), (.c .nil)]))] [3, 4])]) (.cond (.t 4) (.seq (.reg [(.set [(2, (.c .nil))] [2])]) .ret) .skip)) (.seq (.reg [(.stm (.eff (.lit 5 3 1 0 [] [] []) none)), (.set [(6, (.t 0))] [6]), (.stm (.eff (.app 7 3 1 (.t 5) (.t 6)) none)), (.set [(2, (.t 7))] [2])]) .ret))), [(.t 2)])
theorem is55 : IsFn Try.prog frOf 55 Try.f55 W55 := ⟨by kernel_rfl, by kernel_rfl, by kernel_rfl⟩
theorem nt55 : Try.f55.ntmps = 8 := by kernel_rfl


def great (l : List Row) : Int := l.foldl (fun p x => max (max p x.ns) x.ew) 0
theorem great_succ {l : List Row} {k : Nat} (h : k < l.length) : great (l.take (k + 1)) = max (max (great (l.take k)) l[k].ns) l[k].ew := by
  rw [List.take_succ_eq_append_getElem h, great, List.foldl_append]
  rfl
theorem c53 (m : Mv) (hl : m.rows.length ≤ 1000000) : VCp Try.prog 53 [.agg m.cells] (iv (great m.rows)) := by
  refine wcontract_p sound0 mixed is53 (by rw [nt53]; simp) ?_ rfl
  simp [W53, Mv.cells, Mv.cellsW]
  refine wwp_loop (fun σ => ∃ k : Nat, k ≤ m.rows.length ∧ σ.s 9 = iv k ∧ σ.s 8 = iv m.rows.length ∧ σ.s 7 = .list (rowsL m.rows) ∧ σ.s 3 = iv (great (m.rows.take k))) (fun σ => cnt m.rows.length (σ.s 9)) ?_ ?_
  · exact ⟨0, by simp, by simp, by simp, by simp, by simp [great]⟩
  · rintro σ hw ⟨k, hk, h9, h8, h7, h3⟩
    simp [h9, h8]
    refine condK_dec (fun hlt => ?_) (fun hge => ?_)
    · simp [h7, h8, h9, h3, rowsL_at hlt, Row.cells, wrap_succ (show k ≤ 1000000000 by omega), putAt]
      refine ⟨⟨k + 1, by omega, by omega, ?_⟩, by omega⟩
      rw [great_succ hlt]
      split <;> split <;> omega
    · simp [h3]
      rw [List.take_of_length_le (by omega)]

/-- The list of rounds of a movement: rising, within bounds. -/
def listOK (r : Int) : Int → List Int → Bool
  | _, [] => true
  | p, x :: l => decide (p < x) && decide (x < r) && listOK r x l
theorem listOK_cons (r p x : Int) (l : List Int) : listOK r p (x :: l) = true ↔ p < x ∧ x < r ∧ listOK r x l = true := by
  simp only [listOK, Bool.and_eq_true, decide_eq_true_eq, and_assoc]
theorem listOK_snoc (r : Int) : ∀ (l : List Int) (p x : Int), listOK r p (l ++ [x]) = true ↔ listOK r p l = true ∧ (p :: l).getLast (by simp) < x ∧ x < r
  | [], p, x => by rw [List.nil_append, listOK_cons]; simp [listOK]
  | y :: l, p, x => by
    rw [List.cons_append, listOK_cons, listOK_snoc r l y x, listOK_cons, List.getLast_cons_cons]
    simp only [and_assoc]
theorem listOK_take {r p : Int} : ∀ {l : List Int} (k : Nat), listOK r p l = true → listOK r p (l.take k) = true
  | _, 0, _ => rfl
  | [], _ + 1, _ => rfl
  | x :: l, k + 1, h => by
    rw [listOK_cons] at h
    rw [List.take_succ_cons, listOK_cons]
    exact ⟨h.1, h.2.1, listOK_take k h.2.2⟩
theorem c39 (m : Mv) (d : D) (hd : d.okC = true) (l : List Int) (hl : l.length ≤ 1000000) : VCp Try.prog 39 [.agg (m.cellsW d), .list (ints l)] (bv (listOK m.r (-1) l)) := by
  refine wcontract_p sound0 mixed is39 (by rw [nt39]; simp) ?_ rfl
  simp [W39, Mv.cellsW, hd]
  refine wwp_loop (fun σ => ∃ k : Nat, k ≤ l.length ∧ σ.s 10 = iv k ∧ σ.s 9 = iv l.length ∧ σ.s 8 = .list (ints l) ∧ σ.s 5 = iv ((-1 :: l.take k).getLast (by simp)) ∧ listOK m.r (-1) (l.take k) = true ∧ σ.s 2 = .ptr [3, 0] 0 ∧
    σ.m [3, 0] = some (.box [iv m.t, iv m.r, iv m.s, iv m.c, iv m.w, d])) (fun σ => cnt l.length (σ.s 10)) ?_ ?_
  · refine ⟨0, by simp, by simp, by simp, by simp, by simp, by simp [listOK], by simp, by simp⟩
  · rintro σ hw ⟨k, hk, h10, h9, h8, h5, hok, h2, hm⟩
    simp [h9, h10]
    refine condK_dec (fun hlt => ?_) (fun hge => ?_)
    · simp [h8, h9, h10, h5, h2, hm, ints_at hlt]
      have hb := listOK_snoc m.r (l.take k) (-1) l[k]
      rw [← List.take_succ_eq_append_getElem hlt] at hb
      refine condK_b (fun hx => ?_) (fun hx => ?_)
      · simp only [Bool.or_eq_true, decide_eq_true_eq] at hx
        have : listOK m.r (-1) l = false := by
          cases h : listOK m.r (-1) l
          · rfl
          · have := hb.1 (listOK_take (k + 1) h)
            omega
        simp [this]
      · simp only [Bool.or_eq_false_iff, decide_eq_false_iff_not] at hx
        have hok' : listOK m.r (-1) (l.take (k + 1)) = true := hb.2 ⟨hok, by omega, by omega⟩
        have hlast : (-1 :: l.take (k + 1)).getLast (by simp) = l[k] := by
          simp only [List.take_succ_eq_append_getElem hlt]
          exact List.getLast_concat (l := -1 :: l.take k)
        simp [h9, h10, h8, h2, hm, wrap_succ (show k ≤ 1000000000 by omega)]
        refine ⟨⟨k + 1, by omega, by omega, ?_, hok'⟩, by omega⟩
        rw [hlast]
    · rw [List.take_of_length_le (by omega)] at hok
      simp [hok]

theorem c94 (x : Int) : VCp Try.prog 94 [iv x] (bv false) := by
  refine wcontract_p sound0 mixed is94 (by rw [nt94]; simp) ?_ rfl
  simp [W94]
theorem c75 (x : Int) : VCp Try.prog 75 [iv x] (bv false) := by
  refine wcontract_p sound0 mixed is75 (by rw [nt75]; simp) ?_ rfl
  simp [W75]
def S94 : List D → Option D
  | [.v (.int .i64 _)] => some (bv false)
  | _ => none
theorem s94 : OkP 94 S94 := fun ds d h => by
  unfold S94 at h
  split at h <;> cases h
  exact c94 _
def S75 : List D → Option D
  | [.v (.int .i64 _)] => some (bv false)
  | _ => none
theorem s75 : OkP 75 S75 := fun ds d h => by
  unfold S75 at h
  split at h <;> cases h
  exact c75 _
def env74 : Env := mkEnv [(94, S94)] [] []
@[simp] theorem env74_p (f : Nat) (ds : List D) : env74.p f ds = (look [(94, S94)] f).bind fun s => s ds := rfl
theorem sound74 : Sound Try.prog env74 := sound_mk (by simpa using s94) (by simp) (by simp)
theorem c74 (x y : Int) : VCp Try.prog 74 [iv x, iv y] (bv (decide (x < y))) := by
  refine wcontract_p sound74 mixed is74 (by rw [nt74]; simp) ?_ rfl
  simp [W74, S94]
def S74 : List D → Option D
  | [.v (.int .i64 x), .v (.int .i64 y)] => some (bv (decide (x < y)))
  | _ => none
theorem s74 : OkP 74 S74 := fun ds d h => by
  unfold S74 at h
  split at h <;> cases h
  exact c74 _ _
def S53 : List D → Option D
  | [.agg xs] => (asMv xs).bind fun m => if m.rows.length ≤ 1000000 then some (iv (great m.rows)) else none
  | _ => none
theorem s53 : OkP 53 S53 := fun ds d h => by
  unfold S53 at h
  split at h
  · rw [Option.bind_eq_some_iff] at h
    obtain ⟨m, hm, h⟩ := h
    split at h <;> cases h
    rw [asMv_eq hm]
    exact c53 m (by assumption)
  · cases h
def S39 : List D → Option D
  | [.agg [.v (.int .i64 a), .v (.int .i64 b), .v (.int .i64 c), .v (.int .i64 d), .v (.int .i64 e), r], .list es] => if r.okC = true then (asInts es).bind fun l => if l.length ≤ 1000000 then some (bv (listOK b (-1) l)) else none else none
  | _ => none
theorem s39 : OkP 39 S39 := fun ds d h => by
  unfold S39 at h
  split at h
  · split at h
    · rw [Option.bind_eq_some_iff] at h
      obtain ⟨l, hl, h⟩ := h
      split at h <;> cases h
      rw [asInts_eq hl]
      exact c39 ⟨_, _, _, _, _, []⟩ _ (by assumption) l (by assumption)
    · cases h
  · cases h

/-- How many of a rising list are less. -/
def bsAt (l : List Int) (x : Int) : Nat := (l.filter fun y => decide (y < x)).length
def rises (l : List Int) : Bool := decide (l.Pairwise (· < ·))
def env63 : Env := mkEnv [(74, S74), (75, S75)] [] []
@[simp] theorem env63_p (f : Nat) (ds : List D) : env63.p f ds = (look [(74, S74), (75, S75)] f).bind fun s => s ds := rfl
theorem sound63 : Sound Try.prog env63 := sound_mk (by simp [s74, s75]) (by simp) (by simp)
theorem mid_wrap {i j : Nat} (h : i + j ≤ 2000000) : IntKind.i64.wrap ((IntKind.u64.wrap (IntKind.i64.wrap ((i : Int) + j))).fdiv (2 ^ min 1 IntKind.u64.bits)) = ((i + j) / 2 : Nat) := by
  have e : (2 : Int) ^ min 1 IntKind.u64.bits = 2 := by decide
  rw [e, Int.fdiv_eq_ediv_of_nonneg _ (by omega)]
  simp only [IntKind.wrap_i64, IntKind.wrap_u64]
  omega
theorem bsAt_eq {l : List Int} {x : Int} {i : Nat} (hi : i ≤ l.length) (hlo : ∀ k (h : k < l.length), k < i → l[k] < x) (hhi : ∀ k (h : k < l.length), i ≤ k → x ≤ l[k]) : bsAt l x = i := by
  unfold bsAt
  have e : l.filter (fun y => decide (y < x)) = l.take i := by
    conv => lhs; rw [← List.take_append_drop i l]
    rw [List.filter_append]
    have h1 : (l.take i).filter (fun y => decide (y < x)) = l.take i := List.filter_eq_self.2 fun y hy => by
      obtain ⟨k, hk, rfl⟩ := List.getElem_of_mem hy
      have hk' : k < i ∧ k < l.length := by rw [List.length_take] at hk; omega
      simpa using hlo k hk'.2 hk'.1
    have h2 : (l.drop i).filter (fun y => decide (y < x)) = [] := List.filter_eq_nil_iff.2 fun y hy => by
      obtain ⟨k, hk, rfl⟩ := List.getElem_of_mem hy
      have hk' : i + k < l.length := by simp at hk; omega
      have := hhi (i + k) hk' (by omega)
      simpa using this
    rw [h1, h2, List.append_nil]
  rw [e, List.length_take]
  omega
theorem mem_eq {l : List Int} {x : Int} {i : Nat} (hs : l.Pairwise (· < ·)) (hi : i < l.length) (hlo : ∀ k (h : k < l.length), k < i → l[k] < x) (hhi : ∀ k (h : k < l.length), i ≤ k → x ≤ l[k]) : decide (x ∈ l) = (l[i] == x) := by
  rw [Bool.eq_iff_iff, decide_eq_true_eq, beq_iff_eq]
  constructor
  · intro hx
    obtain ⟨k, hk, rfl⟩ := List.getElem_of_mem hx
    rcases Nat.lt_trichotomy k i with h | h | h
    · have := hlo k hk h; omega
    · subst h; rfl
    · have h1 := hhi i hi (Nat.le_refl _)
      have h2 := List.pairwise_iff_getElem.1 hs i k hi hk h
      omega
  · rintro rfl; exact List.getElem_mem hi
theorem c63 (l : List Int) (x : Int) (hl : l.length ≤ 1000000) (hs : l.Pairwise (· < ·)) : VCp Try.prog 63 [.list (ints l), iv x] (.tup [iv (bsAt l x), bv (l.contains x)]) := by
  refine wcontract_p sound63 mixed is63 (by rw [nt63]; simp) ?_ rfl
  simp [W63]
  refine wwp_loop (fun σ => ∃ i j : Nat, i ≤ j ∧ j ≤ l.length ∧ σ.s 7 = iv i ∧ σ.s 8 = iv j ∧ σ.s 6 = iv l.length ∧ σ.s 0 = .list (ints l) ∧ σ.s 1 = iv x ∧ (∀ k (h : k < l.length), k < i → l[k] < x) ∧ (∀ k (h : k < l.length), j ≤ k → x ≤ l[k]))
    (fun σ => (match σ.s 8 with | .v (.int _ j) => j.toNat | _ => 0) - (match σ.s 7 with | .v (.int _ i) => i.toNat | _ => 0)) ?_ ?_
  · exact ⟨0, l.length, by omega, by omega, by simp, by simp, by simp, by simp, by simp, by omega, by omega⟩
  · rintro σ hw ⟨i, j, hij, hj, h7, h8, h6, h0, h1, hlo, hhi⟩
    simp [h7, h8]
    refine condK_dec (fun hlt => ?_) (fun hge => ?_)
    · obtain ⟨h, hh⟩ : ∃ h, h = (i + j) / 2 := ⟨_, rfl⟩
      have hmid : h < l.length := by omega
      have hih : i ≤ h := by omega
      have hhj : h < j := by omega
      have hmw := mid_wrap (show i + j ≤ 2000000 by omega)
      rw [← hh] at hmw
      simp [h7, h8, h0, h1, hmw, ints_at hmid, S74]
      refine condK_dec (fun hx => ?_) (fun hx => ?_)
      · simp [h8, h6, h0, h1, wrap_succ (show h ≤ 1000000000 by omega)]
        refine ⟨⟨h + 1, j, by omega, by omega, by omega, rfl, ?_, hhi⟩, Nat.sub_lt_sub_left hlt (Nat.lt_succ_of_le hih)⟩
        intro k hk hkh
        rcases Nat.lt_or_ge k h with hlt' | hge'
        · exact Int.lt_trans (List.pairwise_iff_getElem.1 hs k h hk hmid hlt') hx
        · obtain rfl : k = h := by omega
          exact hx
      · simp [h7, h8, h6, h0, h1]
        clear hmw
        refine ⟨⟨i, h, by omega, by omega, rfl, rfl, hlo, ?_⟩, by omega⟩
        intro k hk hkh
        rcases Nat.lt_or_ge h k with hlt' | hge'
        · exact Int.le_of_lt (Int.lt_of_le_of_lt (Int.not_lt.1 hx) (List.pairwise_iff_getElem.1 hs h k hmid hk hlt'))
        · obtain rfl : k = h := by omega
          exact Int.not_lt.1 hx
    · have : i = j := by omega
      subst this
      have hat : bsAt l x = i := bsAt_eq hj hlo hhi
      by_cases hlt : i < l.length
      · have hmem : decide (x ∈ l) = (l[i] == x) := mem_eq hs hlt hlo hhi
        simp [h7, h8, h6, h0, h1, S75, hlt, ints_at hlt, hat, hmem]
      · have hmem : x ∉ l := fun hx => by
          obtain ⟨k, hk, rfl⟩ := List.getElem_of_mem hx
          have := hlo k hk (by omega)
          omega
        simp [h7, h8, h6, h0, h1, S75, hlt, hat, hmem]
def S63 : List D → Option D
  | [.list es, .v (.int .i64 x)] => (asInts es).bind fun l => if l.length ≤ 1000000 ∧ rises l = true then some (.tup [iv (bsAt l x), bv (l.contains x)]) else none
  | _ => none
theorem s63 : OkP 63 S63 := fun ds d h => by
  unfold S63 at h
  split at h
  · rw [Option.bind_eq_some_iff] at h
    obtain ⟨l, hl, h⟩ := h
    split at h <;> cases h
    rename_i hc
    rw [asInts_eq hl]
    exact c63 l _ hc.1 (by simpa [rises] using hc.2)
  · cases h
def env62 : Env := mkEnv [(63, S63)] [] []
@[simp] theorem env62_p (f : Nat) (ds : List D) : env62.p f ds = (look [(63, S63)] f).bind fun s => s ds := rfl
theorem sound62 : Sound Try.prog env62 := sound_mk (by simp [s63]) (by simp) (by simp)
theorem c62 (l : List Int) (x : Int) (hl : l.length ≤ 1000000) (hs : rises l = true) : VCp Try.prog 62 [iv x, .lptr [.list (ints l)]] (bv (l.contains x)) := by
  refine wcontract_p sound62 mixed is62 (by rw [nt62]; simp) ?_ rfl
  simp [W62, S63, hl, hs]
def S62 : List D → Option D
  | [.v (.int .i64 x), .lptr [.list es]] => (asInts es).bind fun l => if l.length ≤ 1000000 ∧ rises l = true then some (bv (l.contains x)) else none
  | _ => none
theorem s62 : OkP 62 S62 := fun ds d h => by
  unfold S62 at h
  split at h
  · rw [Option.bind_eq_some_iff] at h
    obtain ⟨l, hl, h⟩ := h
    split at h <;> cases h
    rename_i hc
    rw [asInts_eq hl]
    exact c62 l _ hc.1 hc.2
  · cases h

theorem c24_nil : VCq Try.prog 24 [.nil] .nil noMem := by
  refine wcontract_q sound0 mixed is24 (by rw [nt24]; simp) ?_
  simp [W24]
  exact Out.flat rfl rfl
theorem c24_mt : VCq Try.prog 24 [.mt] (.sl [] 5 0 0 none) (rowMem 53 []) := by
  refine wcontract_q sound0 mixed is24 (by rw [nt24]; simp) ?_
  simp [W24]
  exact Out.row (g := [6, 0]) (by simp) (by simp)
theorem c24_l (l : List Row) (hl : l ≠ []) (h : l.length ≤ 1000000) : VCq Try.prog 24 [.list (rowsL l)] (.sl [] 5 0 l.length none) (rowMem 53 (rowsL l)) := by
  refine wcontract_q sound0 mixed is24 (by rw [nt24]; simp) ?_
  simp [W24, snilV_rows hl, hl, maxMade_le h]
  exact Out.row (g := [6, 0]) (es := rowsL l) (by simp) (rowsL_flat l)
def S24 : List D → Option (D × Mem)
  | [.list es] => (asRows es).bind fun l => if l.length ≤ 1000000 then if l.isEmpty then some (.list [], noMem) else some (.sl [] 5 0 l.length none, rowMem 53 (rowsL l)) else none
  | _ => none
theorem s24 : OkQ 24 S24 := fun ds d m h => by
  unfold S24 at h
  split at h
  · rw [Option.bind_eq_some_iff] at h
    obtain ⟨l, hl, h⟩ := h
    rw [asRows_eq hl]
    split at h
    · split at h
      · rename_i h1 h2
        cases h
        rw [List.isEmpty_iff.1 h2]
        exact VCq.empty (ds1 := []) (ds2 := []) c24_nil c24_mt rfl rfl
      · rename_i h1 h2
        cases h
        exact c24_l l (by simpa using h2) h1
    · cases h
  · cases h
theorem c55_nil : VCq Try.prog 55 [.nil] .nil noMem := by
  refine wcontract_q sound0 mixed is55 (by rw [nt55]; simp) ?_
  simp [W55]
  exact Out.flat rfl rfl
theorem c55_mt : VCq Try.prog 55 [.mt] (.sl [] 1 0 0 none) (rowMem 3 []) := by
  refine wcontract_q sound0 mixed is55 (by rw [nt55]; simp) ?_
  simp [W55]
  exact Out.row (g := [6, 0]) (by simp) (by simp)
theorem c55_l (l : List Int) (hl : l ≠ []) (h : l.length ≤ 1000000) : VCq Try.prog 55 [.list (ints l)] (.sl [] 1 0 l.length none) (rowMem 3 (ints l)) := by
  refine wcontract_q sound0 mixed is55 (by rw [nt55]; simp) ?_
  simp [W55, snilV_ints hl, hl, maxMade_le h]
  exact Out.row (g := [6, 0]) (es := ints l) (by simp) (ints_flat l)
def S55 : List D → Option (D × Mem)
  | [.list es] => (asInts es).bind fun l => if l.length ≤ 1000000 then if l.isEmpty then some (.list [], noMem) else some (.sl [] 1 0 l.length none, rowMem 3 (ints l)) else none
  | _ => none
theorem s55 : OkQ 55 S55 := fun ds d m h => by
  unfold S55 at h
  split at h
  · rw [Option.bind_eq_some_iff] at h
    obtain ⟨l, hl, h⟩ := h
    rw [asInts_eq hl]
    split at h
    · split at h
      · rename_i h1 h2
        cases h
        rw [List.isEmpty_iff.1 h2]
        exact VCq.empty (ds1 := []) (ds2 := []) c55_nil c55_mt rfl rfl
      · rename_i h1 h2
        cases h
        exact c55_l l (by simpa using h2) h1
    · cases h
  · cases h
end Go.Proofs.Ytpmgaaalfdjikaa
