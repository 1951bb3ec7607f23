/- The kit's marks, and SameRows, SameMovement, few. No condition. The kit's LentInts, LentRows. No condition. The kit's LentMovement, markIntList, few. No condition. few: so few rows and lists. No condition. -/
import Derived.Test.YtpmgaaalfdjikaaWa
import Derived.Test.YtpmgaaalfdjikaaSa
import Derived.Test.YtpmgaaalfdjikaaQf
namespace Go.Proofs.Ytpmgaaalfdjikaa
open Go.RowKit
set_option linter.unusedSimpArgs false
set_option linter.unusedVariables false

def W64 : WC × List VRes := ((.seq (.reg [(.set [(4, (.c (.v (.int .i64 0))))] [4])]) (.seq (.reg [(.set [(4, (.ap (.ibin .add) [(.ap (.ibin .mul) [(.c (.v (.int .i64 1000003))), (.ap (.ibin .add) [(.t 0), (.c (.v (.int .i64 7)))])]), (.t 1)]))] [5, 6, 7, 8, 9, 4])]) .ret)), [(.t 4)])
theorem is64 : IsFn Try.prog frOf 64 Try.f64 W64 := ⟨by kernel_rfl, by kernel_rfl, by kernel_rfl⟩
theorem nt64 : Try.f64.ntmps = 10 := by kernel_rfl
def W73 : WC × List VRes := ((.seq (.reg [(.stm (.eff (.box 4 (.c (.agg [(.v (.int .i64 0)), (.v (.int .i64 0)), (.v (.int .i64 0)), (.v (.int .i64 0)), (.v (.int .i64 0))]))) none))]) (.seq (.reg [(.set [(8, (.ap (.build [(.v (.int .i64 0)), (.v (.int .i64 0)), (.v (.int .i64 0)), (.v (.int .i64 0)), (.v (.int .i64 0))] [(2, 1)]) [(.ap (.call 64) [(.t 0), (.t 1)])]))] [5, 6, 7, 8]), (.stm (.eff (.store 5 (.t 4) (.t 8)) none))]) .ret)), [(.cell 4 5 true)])
theorem is73 : IsFn Try.prog frOf 73 Try.f73 W73 := ⟨by kernel_rfl, by kernel_rfl, by kernel_rfl⟩
theorem nt73 : Try.f73.ntmps = 9 := by kernel_rfl
def W48 : WC × List VRes := ((.seq (.reg [(.stm (.eff (.box 2 (.t 0)) none)), (.stm (.eff (.box 3 (.t 1)) none)), (.set [(4, (.c (.v (.bool false))))] [4])]) (.seq (.reg [(.set [(4, (.ite (.ite (.ite (.ite (.ite (.ap (.ibin .eql) [(.ap (.load 1 false) [(.ap (.fld 0) [(.t 2)])]), (.ap (.load 1 false) [(.ap (.fld 0) [(.t 3)])])]) (.ap (.ibin .eql) [(.ap (.load 1 false) [(.ap (.fld 1) [(.t 2)])]), (.ap (.load 1 false) [(.ap (.fld 1) [(.t 3)])])]) (.c (.v (.bool false)))) (.ap (.ibin .eql) [(.ap (.load 1 false) [(.ap (.fld 2) [(.t 2)])]), (.ap (.load 1 false) [(.ap (.fld 2) [(.t 3)])])]) (.c (.v (.bool false)))) (.ap (.ibin .eql) [(.ap (.load 1 false) [(.ap (.fld 3) [(.t 2)])]), (.ap (.load 1 false) [(.ap (.fld 3) [(.t 3)])])]) (.c (.v (.bool false)))) (.ap (.ibin .eql) [(.ap (.load 1 false) [(.ap (.fld 4) [(.t 2)])]), (.ap (.load 1 false) [(.ap (.fld 4) [(.t 3)])])]) (.c (.v (.bool false)))) (.ap (.call 67) [(.ap (.load 1 false) [(.ap (.fld 5) [(.t 2)])]), (.ap (.load 1 false) [(.ap (.fld 5) [(.t 3)])])]) (.c (.v (.bool false)))))] [5, 6, 7, 8, 9, 10, 11, 12, 13, 14, 15, 16, 17, 18, 19, 20, 21, 22, 23, 24, 25, 26, 27, 28, 29, 30, 31, 32, 33, 34, 35, 36, 37, 38, 39, 40, 41, 42, 43, 44, 4])]) .ret)), [(.t 4)])
theorem is48 : IsFn Try.prog frOf 48 Try.f48 W48 := ⟨by kernel_rfl, by kernel_rfl, by kernel_rfl⟩
theorem nt48 : Try.f48.ntmps = 45 := by kernel_rfl
def W67 : WC × List VRes := ((.seq (.reg [(.set [(4, (.c (.v (.bool false))))] [4])]) (.seq (.seq (.reg [(.set [(10, (.ap (.ibin .neq) [(.ap .llen [(.t 0)]), (.ap .llen [(.t 1)])]))] [6, 7, 8, 9, 10])]) (.cond (.t 10) (.seq (.reg [(.set [(4, (.c (.v (.bool false))))] [4])]) .ret) .skip)) (.seq (.seq (.reg [(.set [(5, (.c (.v (.int .i64 0))))] [5])]) (.block 0 (.loop (.seq (.seq (.reg [(.set [(14, (.ap (.ibin .lss) [(.t 5), (.ap .llen [(.t 0)])]))] [11, 12, 13, 14])]) (.cond (.t 14) .skip (.exit 0))) (.seq (.block 1 (.seq (.reg [(.set [(25, (.ap (.aeq true [3, 3, 3, 3, 3]) [(.ap (.load 5 true) [(.ap (.idx 53 5) [(.t 0), (.t 5)])]), (.ap (.load 5 true) [(.ap (.idx 53 5) [(.t 1), (.t 5)])])]))] [17, 18, 19, 20, 21, 22, 23, 24, 25])]) (.cond (.t 25) (.seq (.reg [(.set [(4, (.c (.v (.bool false))))] [4])]) .ret) .skip))) (.reg [(.set [(5, (.ap (.ibin .add) [(.t 5), (.c (.v (.int .i64 1)))]))] [15, 16, 5])])))))) (.seq (.reg [(.set [(4, (.c (.v (.bool true))))] [4])]) .ret)))), [(.t 4)])
theorem is67 : IsFn Try.prog frOf 67 Try.f67 W67 := ⟨by kernel_rfl, by kernel_rfl, by kernel_rfl⟩
theorem nt67 : Try.f67.ntmps = 26 := by kernel_rfl
def W32 : WC × List VRes := ((.seq (.reg [(.stm (.eff (.box 2 (.t 0)) none)), (.set [(4, (.c (.v (.bool false))))] [4])]) (.seq (.seq (.reg [(.set [(15, (.ite (.ap (.ibin .gtr) [(.ap .llen [(.ap (.load 1 false) [(.ap (.fld 5) [(.t 2)])])]), (.c (.v (.int .i64 60)))]) (.c (.v (.bool true))) (.ap (.ibin .gtr) [(.ap .llen [(.t 1)]), (.c (.v (.int .i64 70)))])))] [7, 8, 9, 10, 11, 12, 13, 14, 15])]) (.cond (.t 15) (.seq (.reg [(.set [(4, (.c (.v (.bool false))))] [4])]) .ret) .skip)) (.seq (.seq (.reg [(.set [(16, (.t 1)), (17, (.ap .llen [(.t 1)])), (18, (.c (.v (.int .i64 0))))] [16, 17, 18])]) (.block 0 (.loop (.seq (.reg [(.set [(19, (.ap (.ibin .lss) [(.t 18), (.t 17)]))] [19])]) (.seq (.cond (.t 19) .skip (.exit 0)) (.seq (.block 1 (.seq (.reg [(.set [(6, (.ap (.load 1 false) [(.ap (.idx 34 1) [(.t 16), (.t 18)])]))] [20, 21, 6])]) (.seq (.reg [(.set [(24, (.ap (.ibin .gtr) [(.ap .llen [(.t 6)]), (.c (.v (.int .i64 50)))]))] [22, 23, 24])]) (.cond (.t 24) (.seq (.reg [(.set [(4, (.c (.v (.bool false))))] [4])]) .ret) .skip)))) (.reg [(.set [(18, (.ap (.ibin .add) [(.t 18), (.c (.v (.int .i64 1)))]))] [25, 18])]))))))) (.seq (.reg [(.set [(4, (.c (.v (.bool true))))] [4])]) .ret)))), [(.t 4)])
theorem is32 : IsFn Try.prog frOf 32 Try.f32 W32 := ⟨by kernel_rfl, by kernel_rfl, by kernel_rfl⟩
theorem nt32 : Try.f32.ntmps = 26 := by kernel_rfl


def markI (k i : Int) : Int := 1000003 * (k + 7) + i
theorem c64 (i : Nat) (hi : i ≤ 1000000) : VCp Try.prog 64 [iv 1, iv i] (iv (markI 1 i)) := by
  have e : IntKind.i64.wrap ((8000024 : Int) + i) = 8000024 + i := wrap_in (by omega) (by omega)
  refine wcontract_p sound0 mixed is64 (by rw [nt64]; simp) ?_ rfl
  have e1 : IntKind.i64.wrap 8 = 8 := wrap_in (by omega) (by omega)
  have e2 : IntKind.i64.wrap (1000003 * 8) = 8000024 := by rw [wrap_in (by omega) (by omega)]; rfl
  have e3 : IntKind.i64.wrap 8000024 = 8000024 := wrap_in (by omega) (by omega)
  simp [W64, markI, e, e1, e2, e3]
def S64 : List D → Option D
  | [.v (.int .i64 1), .v (.int .i64 i)] => if 0 ≤ i ∧ i ≤ 1000000 then some (iv (markI 1 i)) else none
  | _ => none
theorem s64 : OkP 64 S64 := fun ds d h => by
  unfold S64 at h
  split at h
  · split at h
    · rename_i i hi
      cases h
      have := c64 i.toNat (by omega)
      rwa [Int.toNat_of_nonneg hi.1] at this
    · cases h
  · cases h
theorem S64_at (i : Nat) (hi : i ≤ 1000000) : S64 [iv 1, iv i] = some (iv (markI 1 i)) := by
  simp only [S64]
  rw [if_pos (by omega)]
def markRow (i : Int) : Row := ⟨0, 0, markI 1 i, 0, 0⟩
theorem c73 (i : Nat) (hi : i ≤ 1000000) : VCp Try.prog 73 [iv 1, iv i] (.agg (markRow i).cells) := by
  have h := S64_at i hi
  refine wcontract_p (Γ := mkEnv [(64, S64)] [] []) (sound_mk (by simp [s64]) (by simp) (by simp)) mixed is73 (by rw [nt73]; simp) ?_ rfl
  simp [W73, h, markRow, Row.cells]
def S73 : List D → Option D
  | [.v (.int .i64 1), .v (.int .i64 i)] => if 0 ≤ i ∧ i ≤ 1000000 then some (.agg (markRow i).cells) else none
  | _ => none
theorem s73 : OkP 73 S73 := fun ds d h => by
  unfold S73 at h
  split at h
  · split at h
    · rename_i i hi
      cases h
      have := c73 i.toNat (by omega)
      rwa [Int.toNat_of_nonneg hi.1] at this
    · cases h
  · cases h
theorem S73_at (i : Nat) (hi : i ≤ 1000000) : S73 [iv 1, iv i] = some (.agg (markRow i).cells) := by
  simp only [S73]
  rw [if_pos (by omega)]

theorem c67 (a b : List Row) (ha : a.length ≤ 1000000) (hb : b.length ≤ 1000000) : VCp Try.prog 67 [.list (rowsL a), .list (rowsL b)] (bv (decide (a = b))) := by
  refine wcontract_p sound0 mixed is67 (by rw [nt67]; simp) ?_ rfl
  simp only [W67]
  by_cases hlen : a.length = b.length
  · refine wwp_cutW (wf_init _) (fun σ => σ.s 0 = .list (rowsL a) ∧ σ.s 1 = .list (rowsL b)) (by simp) ?_
    rintro σ W ⟨h0, h1⟩
    refine wwp_condW W (fun σ => σ.s 0 = .list (rowsL a) ∧ σ.s 1 = .list (rowsL b)) (by simp [h0, h1, hlen]) ?_
    clear W h0 h1 σ
    rintro σ W ⟨h0, h1⟩
    refine wwp_cutG (fun σ => decide (a = b) = true) ?_ (fun σ h => by simp [h])
    refine wwp_cut (fun σ => σ.s 0 = .list (rowsL a) ∧ σ.s 1 = .list (rowsL b) ∧ σ.s 5 = iv 0) (by simp [h0, h1]) ?_
    clear W h0 h1 σ
    rintro σ ⟨h0, h1, h5⟩
    simp only [wwp_block]
    refine wwp_loop (fun σ => ∃ k : Nat, k ≤ a.length ∧ σ.s 0 = .list (rowsL a) ∧ σ.s 1 = .list (rowsL b) ∧ σ.s 5 = iv k ∧ ∀ i (h : i < a.length), i < k → a[i] = b[i]'(by omega)) (fun σ => cnt a.length (σ.s 5)) ?_ ?_
    · exact ⟨0, by omega, h0, h1, h5, fun i _ h => absurd h (by omega)⟩
    clear h0 h1 h5 σ
    rintro σ W ⟨k, hk, h0, h1, h5, hok⟩
    refine wwp_seq_assoc ?_
    by_cases hlt : k < a.length
    · have hw1 := wrap_succ (show k ≤ 1000000000 by omega)
      have hmu : cnt a.length (σ.s 5) = a.length - k := by simp [h5]
      simp only [hmu]
      clear hmu
      have hlb : k < b.length := by omega
      have ca := rowsL_at hlt
      have cb := rowsL_at hlb
      have hne : a[k] ≠ b[k] → decide (a = b) = false := fun h => decide_eq_false fun e => h (by subst e; rfl)
      obtain ⟨x, hx⟩ : ∃ x, x = a[k] := ⟨_, rfl⟩
      obtain ⟨y, hy⟩ : ∃ y, y = b[k] := ⟨_, rfl⟩
      rw [← hx] at ca
      rw [← hy] at cb
      rw [← hx, ← hy] at hne
      refine wwp_on (fun σ => σ.s 0 = .list (rowsL a) ∧ σ.s 1 = .list (rowsL b) ∧ σ.s 5 = iv k) (by simp [h0, h1, h5, hlt]) ?_
      clear W h0 h1 h5 σ
      rintro σ ⟨h0, h1, h5⟩
      refine wwp_body (fun σ => σ.s 0 = .list (rowsL a) ∧ σ.s 1 = .list (rowsL b) ∧ σ.s 5 = iv k ∧ x = y) ?_ ?_
      · by_cases e : x = y
        · subst e
          simp [h0, h1, h5, hlt, hlb, ca, cb, Row.cells, ← hx, ← hy]
        · have hf := hne e
          simp [h0, h1, h5, hlt, hlb, ca, cb, Row.cells, ← hx, ← hy, hf, row_ne, e]
      · clear h0 h1 h5 σ
        rintro σ ⟨h0, h1, h5, e⟩
        simp [h0, h1, h5, hw1]
        refine ⟨⟨k + 1, by omega, rfl, fun i hi hik => ?_⟩, by omega⟩
        by_cases hik' : i < k
        · exact hok i hi hik'
        · obtain rfl : i = k := by omega
          rw [← hx, ← hy]; exact e
    · refine wwp_off ?_
      simp [h0, h1, h5, hlt]
      exact List.ext_getElem hlen fun i h1 h2 => hok i h1 (by omega)
  · have hne : decide (a = b) = false := decide_eq_false fun e => hlen (by rw [e])
    have hz : ¬ (a.length : Int) = b.length := by omega
    have hzb : ((a.length : Int) != (b.length : Int)) = true := by rw [bne_iff_ne]; exact hz
    simp [hlen, hz, hzb, hne]
def S67 : List D → Option D
  | [.list a, .list b] => (asRows a).bind fun a => (asRows b).bind fun b => if a.length ≤ 1000000 ∧ b.length ≤ 1000000 then some (bv (decide (a = b))) else none
  | _ => none
theorem asRows_eq' {es : List (List D)} {l : List Row} (h : asRows es = some l) : es = rowsL l := asRows_eq h
theorem s67 : OkP 67 S67 := fun ds d h => by
  unfold S67 at h
  split at h
  · rw [Option.bind_eq_some_iff] at h
    obtain ⟨a, ha, h⟩ := h
    rw [Option.bind_eq_some_iff] at h
    obtain ⟨b, hb, h⟩ := h
    split at h
    · rename_i hc
      cases h
      rw [asRows_eq ha, asRows_eq hb]
      exact c67 a b hc.1 hc.2
    · cases h
  · cases h
theorem S67_at (a b : List Row) (ha : a.length ≤ 1000000) (hb : b.length ≤ 1000000) : S67 [.list (rowsL a), .list (rowsL b)] = some (bv (decide (a = b))) := by
  simp only [S67, asRows_rowsL, Option.bind_some]
  rw [if_pos ⟨ha, hb⟩]
theorem c48 (a b : Mv) (ha : a.rows.length ≤ 1000000) (hb : b.rows.length ≤ 1000000) : VCp Try.prog 48 [.agg a.cells, .agg b.cells] (bv (a.t == b.t && a.r == b.r && a.s == b.s && a.c == b.c && a.w == b.w && decide (a.rows = b.rows))) := by
  have h := S67_at a.rows b.rows ha hb
  refine wcontract_p (Γ := mkEnv [(67, S67)] [] []) (sound_mk (by simp [s67]) (by simp) (by simp)) mixed is48 (by rw [nt48]; simp) ?_ rfl
  simp [W48, h, Mv.cells, Mv.cellsW]
def S48 : List D → Option D
  | [.agg a, .agg b] => (asMv a).bind fun a => (asMv b).bind fun b => if a.rows.length ≤ 1000000 ∧ b.rows.length ≤ 1000000 then some (bv (a.t == b.t && a.r == b.r && a.s == b.s && a.c == b.c && a.w == b.w && decide (a.rows = b.rows))) else none
  | _ => none
theorem s48 : OkP 48 S48 := fun ds d h => by
  unfold S48 at h
  split at h
  · rw [Option.bind_eq_some_iff] at h
    obtain ⟨a, ha, h⟩ := h
    rw [Option.bind_eq_some_iff] at h
    obtain ⟨b, hb, h⟩ := h
    split at h
    · rename_i hc
      cases h
      rw [asMv_eq ha, asMv_eq hb]
      exact c48 a b hc.1 hc.2
    · cases h
  · cases h
theorem S48_self (a : Mv) (ha : a.rows.length ≤ 1000000) : S48 [.agg a.cells, .agg a.cells] = some (bv true) := by
  simp only [S48, Mv.cells, Mv.cellsW, asMv_cells, Option.bind_some]
  rw [if_pos ⟨ha, ha⟩]
  simp
end Go.Proofs.Ytpmgaaalfdjikaa
namespace Go.Proofs.Ytpmgaaalfdjikaa
open Go.RowKit
set_option linter.unusedSimpArgs false
set_option linter.unusedVariables false

def W42 : WC × List VRes := ((.seq (.reg [(.set [(2, (.c .nil))] [2])]) (.seq (.reg [(.set [(7, (.ap (.ibin .add) [(.ap .llen [(.t 0)]), (.c (.v (.int .i64 12)))]))] [5, 6, 7]), (.stm (.eff (.mks 8 3 1 [(.v (.int .i64 0))] (.c (.v (.int .i64 0))) (.t 7)) none)), (.set [(3, (.t 8))] [3])]) (.seq (.reg [(.set [(9, (.t 3)), (10, (.t 0))] [9, 10]), (.stm (.eff (.app 11 3 1 (.t 9) (.t 10)) none)), (.set [(3, (.t 11))] [3])]) (.seq (.seq (.reg [(.set [(4, (.c (.v (.int .i64 0))))] [4])]) (.block 0 (.loop (.seq (.seq (.reg [(.set [(13, (.ap (.ibin .lss) [(.t 4), (.c (.v (.int .i64 12)))]))] [12, 13])]) (.cond (.t 13) .skip (.exit 0))) (.seq (.block 1 (.reg [(.set [(16, (.t 3)), (18, (.ap (.call 64) [(.c (.v (.int .i64 1))), (.t 4)]))] [16, 17, 18]), (.stm (.eff (.lit 19 3 1 1 [(.v (.int .i64 0))] [(0, 1)] [(.t 18)]) none)), (.stm (.eff (.app 20 3 1 (.t 16) (.t 19)) none)), (.set [(3, (.t 20))] [3])])) (.reg [(.set [(4, (.ap (.ibin .add) [(.t 4), (.c (.v (.int .i64 1)))]))] [14, 15, 4])])))))) (.seq (.reg [(.set [(2, (.ap (.slc 1 false true false) [(.t 3), (.ap .llen [(.t 0)])]))] [21, 22, 23, 24, 2])]) .ret))))), [(.t 2)])
theorem is42 : IsFn Try.prog frOf 42 Try.f42 W42 := ⟨by kernel_rfl, by kernel_rfl, by kernel_rfl⟩
theorem nt42 : Try.f42.ntmps = 25 := by kernel_rfl
def W58 : WC × List VRes := ((.seq (.reg [(.set [(2, (.c .nil))] [2])]) (.seq (.reg [(.set [(7, (.ap (.ibin .add) [(.ap .llen [(.t 0)]), (.c (.v (.int .i64 12)))]))] [5, 6, 7]), (.stm (.eff (.mks 8 53 5 [(.v (.int .i64 0)), (.v (.int .i64 0)), (.v (.int .i64 0)), (.v (.int .i64 0)), (.v (.int .i64 0))] (.c (.v (.int .i64 0))) (.t 7)) none)), (.set [(3, (.t 8))] [3])]) (.seq (.reg [(.set [(9, (.t 3)), (10, (.t 0))] [9, 10]), (.stm (.eff (.app 11 53 5 (.t 9) (.t 10)) none)), (.set [(3, (.t 11))] [3])]) (.seq (.seq (.reg [(.set [(4, (.c (.v (.int .i64 0))))] [4])]) (.block 0 (.loop (.seq (.seq (.reg [(.set [(13, (.ap (.ibin .lss) [(.t 4), (.c (.v (.int .i64 12)))]))] [12, 13])]) (.cond (.t 13) .skip (.exit 0))) (.seq (.block 1 (.reg [(.set [(16, (.t 3)), (18, (.ap (.call 73) [(.c (.v (.int .i64 1))), (.t 4)]))] [16, 17, 18]), (.stm (.eff (.lit 19 53 5 1 [(.v (.int .i64 0)), (.v (.int .i64 0)), (.v (.int .i64 0)), (.v (.int .i64 0)), (.v (.int .i64 0))] [(0, 5)] [(.t 18)]) none)), (.stm (.eff (.app 20 53 5 (.t 16) (.t 19)) none)), (.set [(3, (.t 20))] [3])])) (.reg [(.set [(4, (.ap (.ibin .add) [(.t 4), (.c (.v (.int .i64 1)))]))] [14, 15, 4])])))))) (.seq (.reg [(.set [(2, (.ap (.slc 5 false true false) [(.t 3), (.ap .llen [(.t 0)])]))] [21, 22, 23, 24, 2])]) .ret))))), [(.t 2)])
theorem is58 : IsFn Try.prog frOf 58 Try.f58 W58 := ⟨by kernel_rfl, by kernel_rfl, by kernel_rfl⟩
theorem nt58 : Try.f58.ntmps = 25 := by kernel_rfl


def marksI (k : Nat) : List Int := (List.range k).map fun (i : Nat) => markI 1 i
theorem marksI_succ (k : Nat) : marksI (k + 1) = marksI k ++ [markI 1 k] := by simp [marksI, List.range_succ]
theorem marksI_len (k : Nat) : (marksI k).length = k := by simp [marksI]
def marksR (k : Nat) : List Row := (List.range k).map fun (i : Nat) => markRow i
theorem marksR_succ (k : Nat) : marksR (k + 1) = marksR k ++ [markRow k] := by simp [marksR, List.range_succ]
theorem marksR_len (k : Nat) : (marksR k).length = k := by simp [marksR]
theorem ints_app (a b : List Int) : ints (a ++ b) = ints a ++ ints b := by simp [ints]
theorem c42w (p64 : FP) (mk : Nat → Int) (mks : Nat → List Int) (hm0 : mks 0 = []) (hms : ∀ i, mks (i + 1) = mks i ++ [mk i]) (h64 : ∀ i : Nat, i < 12 → p64 [iv 1, iv i] = some (iv (mk i))) (L : List Int) (hl : L.length ≤ 100000) :
    wwp (mkEnv [(64, p64)] [] []) W42.1 (fun e s => okExit e ∧ ∃ d0, resV W42.2 s = some d0 ∧ Out s d0 (.sl [] 1 0 L.length none) (rowMem 3 (ints (L ++ mks 12)))) (initV [.list (ints L)]) := by
  obtain ⟨N, hN, hNm⟩ : ∃ N : Nat, N = L.length + 12 ∧ N ≤ maxMade := ⟨_, rfl, maxMade_le (by omega)⟩
  have w1 : IntKind.i64.wrap ((L.length : Int) + 12) = (N : Int) := by rw [wrap_in (by omega) (by omega)]; omega
  have mm0 : L.length ≤ maxMade := maxMade_le (by omega)
  have mm1 : 1 ≤ maxMade := maxMade_le (by omega)
  have hml : ∀ i, (mks i).length = i := fun i => by
    induction i with
    | zero => rw [hm0]; rfl
    | succ i ih => rw [hms, List.length_append, ih]; rfl
  simp only [W42]
  refine wwp_cut (fun σ => σ.s 0 = .list (ints L) ∧ ∀ y, σ.c y = 0) (by simp) ?_
  rintro σ ⟨h0, hc⟩
  have k8 := hc 8
  have k11 := hc 11
  refine wwp_cut (fun σ => σ.s 0 = .list (ints L) ∧ σ.s 3 = .sl [9, 0] 1 0 0 none ∧ (∃ g, σ.m [9, 0] = some (.row g 3 [])) ∧ σ.c 11 = 0) (by simp [h0, k8, k11, w1, hNm]) ?_
  clear h0 hc k8 k11 σ
  rintro σ ⟨h0, h3, ⟨g, m9⟩, k11⟩
  refine wwp_cut (fun σ => σ.s 0 = .list (ints L) ∧ ∃ tk g, σ.s 3 = .sl tk 1 0 L.length none ∧ σ.m tk = some (.row g 3 (ints L))) ?_ ?_
  · by_cases hL : L = []
    · subst hL
      simp [h0, h3, m9, k11, mm0]
    · simp [h0, h3, m9, k11, mm0, hL]
  clear h0 h3 g m9 k11 σ
  rintro σ ⟨h0, tk, g, h3, mt⟩
  refine wwp_cutG (fun σ => σ.s 0 = .list (ints L) ∧ ∃ tk g, σ.s 3 = .sl tk 1 0 (L.length + 12) none ∧ σ.m tk = some (.row g 3 (ints (L ++ mks 12)))) ?_ ?_
  · refine wwp_cut (fun σ => σ.s 0 = .list (ints L) ∧ (∃ tk g, σ.s 3 = .sl tk 1 0 L.length none ∧ σ.m tk = some (.row g 3 (ints L))) ∧ σ.s 4 = iv 0) (by simp [h0, h3, mt]) ?_
    clear h0 tk g h3 mt σ
    rintro σ ⟨h0, ⟨tk, g, h3, mt⟩, h4⟩
    simp only [wwp_block]
    refine wwp_loop (fun σ => ∃ k : Nat, k ≤ 12 ∧ σ.s 0 = .list (ints L) ∧ (∃ tk g, σ.s 3 = .sl tk 1 0 (L.length + k) none ∧ σ.m tk = some (.row g 3 (ints (L ++ mks k)))) ∧ σ.s 4 = iv k) (fun σ => cnt 12 (σ.s 4)) ?_ ?_
    · exact ⟨0, by omega, h0, ⟨tk, g, by simpa using h3, by rw [hm0, List.append_nil]; exact mt⟩, h4⟩
    clear h0 tk g h3 mt h4 σ
    rintro σ hw ⟨k, hk, h0, ⟨tk, g, h3, mt⟩, h4⟩
    refine wwp_seq_assoc ?_
    by_cases hlt : k < 12
    · have hw1 := wrap_succ (show k ≤ 1000000000 by omega)
      have hmu : cnt 12 (σ.s 4) = 12 - k := by simp [h4]
      simp only [hmu]
      clear hmu
      have hlz : (k : Int) < 12 := by omega
      have e64 := h64 k hlt
      refine wwp_on (fun σ => WF σ ∧ σ.s 0 = .list (ints L) ∧ (σ.s 3 = .sl tk 1 0 (L.length + k) none ∧ σ.m tk = some (.row g 3 (ints (L ++ mks k)))) ∧ σ.s 4 = iv k) (by simp [h0, h3, mt, h4, hlt, hlz]; exact hw) ?_
      clear hw h0 h3 mt h4 σ
      rintro σ ⟨hw, h0, ⟨h3, mt⟩, h4⟩
      refine wwp_body (fun σ => σ.s 0 = .list (ints L) ∧ (∃ tk g, σ.s 3 = .sl tk 1 0 (L.length + (k + 1)) none ∧ σ.m tk = some (.row g 3 (ints (L ++ mks (k + 1))))) ∧ σ.s 4 = iv k) ?_ ?_
      · have n1 := hw.ne mt 19 (σ.c 19) []
        have hmm : L.length + k + 1 ≤ maxMade := maxMade_le (by omega)
        have hmk : (mks k).length = k := hml k
        have hle : L.length + k ≤ (ints (L ++ mks k)).length := by rw [ints_len, List.length_append, hmk]; omega
        have htk : (ints (L ++ mks k)).take (L.length + k) = ints (L ++ mks k) := List.take_of_length_le (by rw [ints_len, List.length_append, hmk]; omega)
        have e1 : L ++ mks (k + 1) = (L ++ mks k) ++ [mk k] := by rw [hms, List.append_assoc]
        rw [e1, ints_app]
        obtain ⟨X, hX⟩ : ∃ X, X = ints (L ++ mks k) := ⟨_, rfl⟩
        rw [← hX] at mt hle htk ⊢
        simp [h0, h3, mt, h4, e64, n1, hmm, hle, htk, one_made]
        exact ⟨[21, σ.c 20], ⟨rfl, by omega⟩, g, by simp [ints]⟩
      · clear hw h0 h3 mt h4 σ
        rintro σ ⟨h0, ⟨tk, g, h3, mt⟩, h4⟩
        simp [h0, h3, mt, h4, hw1]
        exact ⟨⟨k + 1, by omega, ⟨tk, ⟨rfl, rfl⟩, g, mt⟩, rfl⟩, by omega⟩
    · obtain rfl : k = 12 := by omega
      refine wwp_off ?_
      simp [h0, h3, mt, h4]
  · clear h0 tk g h3 mt σ
    rintro σ ⟨h0, tk, g, h3, mt⟩
    have lz1 : (L.length : Int) ≤ (L.length : Int) + 12 := by omega
    simp [h0, h3, mt, hml, lz1]
    exact Out.row (t := tk) (g := g) (es := ints (L ++ mks 12)) (by simp [mt]) (ints_flat _)
theorem c42 (L : List Int) (hl : L.length ≤ 100000) : VCq Try.prog 42 [.list (ints L)] (.sl [] 1 0 L.length none) (rowMem 3 (ints (L ++ marksI 12))) :=
  wcontract_q (Γ := mkEnv [(64, S64)] [] []) (sound_mk (by simp [s64]) (by simp) (by simp)) mixed is42 (by rw [nt42]; simp) (c42w S64 (fun i => markI 1 i) marksI rfl marksI_succ (fun i hi => S64_at i (by omega)) L hl)
theorem c58w (p73 : FP) (mk : Nat → Row) (mks : Nat → List Row) (hm0 : mks 0 = []) (hms : ∀ i, mks (i + 1) = mks i ++ [mk i]) (h73 : ∀ i : Nat, i < 12 → p73 [iv 1, iv i] = some (.agg (mk i).cells)) (L : List Row) (hl : L.length ≤ 100000) :
    wwp (mkEnv [(73, p73)] [] []) W58.1 (fun e s => okExit e ∧ ∃ d0, resV W58.2 s = some d0 ∧ Out s d0 (.sl [] 5 0 L.length none) (rowMem 53 (rowsL (L ++ mks 12)))) (initV [.list (rowsL L)]) := by
  obtain ⟨N, hN, hNm⟩ : ∃ N : Nat, N = L.length + 12 ∧ N ≤ maxMade := ⟨_, rfl, maxMade_le (by omega)⟩
  have w1 : IntKind.i64.wrap ((L.length : Int) + 12) = (N : Int) := by rw [wrap_in (by omega) (by omega)]; omega
  have mm0 : L.length ≤ maxMade := maxMade_le (by omega)
  have mm1 : 1 ≤ maxMade := maxMade_le (by omega)
  have hml : ∀ i, (mks i).length = i := fun i => by
    induction i with
    | zero => rw [hm0]; rfl
    | succ i ih => rw [hms, List.length_append, ih]; rfl
  simp only [W58]
  refine wwp_cut (fun σ => σ.s 0 = .list (rowsL L) ∧ ∀ y, σ.c y = 0) (by simp) ?_
  rintro σ ⟨h0, hc⟩
  have k8 := hc 8
  have k11 := hc 11
  refine wwp_cut (fun σ => σ.s 0 = .list (rowsL L) ∧ σ.s 3 = .sl [9, 0] 5 0 0 none ∧ (∃ g, σ.m [9, 0] = some (.row g 53 [])) ∧ σ.c 11 = 0) (by simp [h0, k8, k11, w1, hNm]) ?_
  clear h0 hc k8 k11 σ
  rintro σ ⟨h0, h3, ⟨g, m9⟩, k11⟩
  refine wwp_cut (fun σ => σ.s 0 = .list (rowsL L) ∧ ∃ tk g, σ.s 3 = .sl tk 5 0 L.length none ∧ σ.m tk = some (.row g 53 (rowsL L))) ?_ ?_
  · by_cases hL : L = []
    · subst hL
      simp [h0, h3, m9, k11, mm0]
    · simp [h0, h3, m9, k11, mm0, hL]
  clear h0 h3 g m9 k11 σ
  rintro σ ⟨h0, tk, g, h3, mt⟩
  refine wwp_cutG (fun σ => σ.s 0 = .list (rowsL L) ∧ ∃ tk g, σ.s 3 = .sl tk 5 0 (L.length + 12) none ∧ σ.m tk = some (.row g 53 (rowsL (L ++ mks 12)))) ?_ ?_
  · refine wwp_cut (fun σ => σ.s 0 = .list (rowsL L) ∧ (∃ tk g, σ.s 3 = .sl tk 5 0 L.length none ∧ σ.m tk = some (.row g 53 (rowsL L))) ∧ σ.s 4 = iv 0) (by simp [h0, h3, mt]) ?_
    clear h0 tk g h3 mt σ
    rintro σ ⟨h0, ⟨tk, g, h3, mt⟩, h4⟩
    simp only [wwp_block]
    refine wwp_loop (fun σ => ∃ k : Nat, k ≤ 12 ∧ σ.s 0 = .list (rowsL L) ∧ (∃ tk g, σ.s 3 = .sl tk 5 0 (L.length + k) none ∧ σ.m tk = some (.row g 53 (rowsL (L ++ mks k)))) ∧ σ.s 4 = iv k) (fun σ => cnt 12 (σ.s 4)) ?_ ?_
    · exact ⟨0, by omega, h0, ⟨tk, g, by simpa using h3, by rw [hm0, List.append_nil]; exact mt⟩, h4⟩
    clear h0 tk g h3 mt h4 σ
    rintro σ hw ⟨k, hk, h0, ⟨tk, g, h3, mt⟩, h4⟩
    refine wwp_seq_assoc ?_
    by_cases hlt : k < 12
    · have hw1 := wrap_succ (show k ≤ 1000000000 by omega)
      have hmu : cnt 12 (σ.s 4) = 12 - k := by simp [h4]
      simp only [hmu]
      clear hmu
      have hlz : (k : Int) < 12 := by omega
      have e73 := h73 k hlt
      refine wwp_on (fun σ => WF σ ∧ σ.s 0 = .list (rowsL L) ∧ (σ.s 3 = .sl tk 5 0 (L.length + k) none ∧ σ.m tk = some (.row g 53 (rowsL (L ++ mks k)))) ∧ σ.s 4 = iv k) (by simp [h0, h3, mt, h4, hlt, hlz]; exact hw) ?_
      clear hw h0 h3 mt h4 σ
      rintro σ ⟨hw, h0, ⟨h3, mt⟩, h4⟩
      refine wwp_body (fun σ => σ.s 0 = .list (rowsL L) ∧ (∃ tk g, σ.s 3 = .sl tk 5 0 (L.length + (k + 1)) none ∧ σ.m tk = some (.row g 53 (rowsL (L ++ mks (k + 1))))) ∧ σ.s 4 = iv k) ?_ ?_
      · have n1 := hw.ne mt 19 (σ.c 19) []
        have hmm : L.length + k + 1 ≤ maxMade := maxMade_le (by omega)
        have hmk : (mks k).length = k := hml k
        have hle : L.length + k ≤ (rowsL (L ++ mks k)).length := by rw [rowsL_len, List.length_append, hmk]; omega
        have htk : (rowsL (L ++ mks k)).take (L.length + k) = rowsL (L ++ mks k) := List.take_of_length_le (by rw [rowsL_len, List.length_append, hmk]; omega)
        have e1 : L ++ mks (k + 1) = (L ++ mks k) ++ [mk k] := by rw [hms, List.append_assoc]
        rw [e1, rowsL_append]
        obtain ⟨X, hX⟩ : ∃ X, X = rowsL (L ++ mks k) := ⟨_, rfl⟩
        rw [← hX] at mt hle htk ⊢
        simp [h0, h3, mt, h4, e73, n1, hmm, hle, htk, one_made, Row.cells]
        exact ⟨[21, σ.c 20], ⟨rfl, by omega⟩, g, by simp [rowsL, Row.cells]⟩
      · clear hw h0 h3 mt h4 σ
        rintro σ ⟨h0, ⟨tk, g, h3, mt⟩, h4⟩
        simp [h0, h3, mt, h4, hw1]
        exact ⟨⟨k + 1, by omega, ⟨tk, ⟨rfl, rfl⟩, g, mt⟩, rfl⟩, by omega⟩
    · obtain rfl : k = 12 := by omega
      refine wwp_off ?_
      simp [h0, h3, mt, h4]
  · clear h0 tk g h3 mt σ
    rintro σ ⟨h0, tk, g, h3, mt⟩
    have lz1 : (L.length : Int) ≤ (L.length : Int) + 12 := by omega
    simp [h0, h3, mt, hml, lz1]
    exact Out.row (t := tk) (g := g) (es := rowsL (L ++ mks 12)) (by simp [mt]) (rowsL_flat _)
theorem c58 (L : List Row) (hl : L.length ≤ 100000) : VCq Try.prog 58 [.list (rowsL L)] (.sl [] 5 0 L.length none) (rowMem 53 (rowsL (L ++ marksR 12))) :=
  wcontract_q (Γ := mkEnv [(73, S73)] [] []) (sound_mk (by simp [s73]) (by simp) (by simp)) mixed is58 (by rw [nt58]; simp) (c58w S73 (fun i => markRow i) marksR rfl marksR_succ (fun i hi => S73_at i (by omega)) L hl)
end Go.Proofs.Ytpmgaaalfdjikaa
namespace Go.Proofs.Ytpmgaaalfdjikaa
open Go.RowKit
set_option linter.unusedSimpArgs false
set_option linter.unusedVariables false

/-- As frOf; but markIntList hands back a slice of its own. -/
def frB (f : Nat) : Nat := if f = 59 then 1 else frOf f
def W33 : WC × List VRes := ((.seq (.reg [(.stm (.eff (.box 1 (.t 0)) none)), (.stm (.eff (.box 2 (.c (.agg [(.v (.int .i64 0)), (.v (.int .i64 0)), (.v (.int .i64 0)), (.v (.int .i64 0)), (.v (.int .i64 0)), .nil]))) none))]) (.seq (.reg [(.set [(4, (.ap (.load 1 false) [(.ap (.fld 5) [(.t 1)])]))] [3, 4]), (.stm (.eff (.callq 5 58 [(.t 4)]) none)), (.set [(6, (.ap (.fld 5) [(.t 1)]))] [6]), (.stm (.eff (.store 1 (.t 6) (.t 5)) none))]) (.seq (.reg [(.set [(7, (.ap (.load 6 true) [(.t 1)]))] [7]), (.stm (.eff (.store 6 (.t 2) (.t 7)) none))]) .ret))), [(.cell 2 6 true)])
theorem is33 : IsFn Try.prog frOf 33 Try.f33 W33 := ⟨by kernel_rfl, by kernel_rfl, by kernel_rfl⟩
theorem nt33 : Try.f33.ntmps = 8 := by kernel_rfl
def W59 : WC × List VRes := ((.seq (.reg [(.set [(4, (.c .nil))] [4])]) (.seq (.reg [(.set [(7, (.ap (.call 64) [(.t 0), (.t 1)]))] [5, 6, 7]), (.stm (.eff (.lit 8 3 1 1 [(.v (.int .i64 0))] [(0, 1)] [(.t 7)]) none)), (.set [(4, (.t 8))] [4])]) .ret)), [(.t 4)])
theorem is59 : IsFn Try.prog frB 59 Try.f59 W59 := ⟨by kernel_rfl, by kernel_rfl, by kernel_rfl⟩
theorem nt59 : Try.f59.ntmps = 9 := by kernel_rfl


def S58 : List D → Option (D × Mem)
  | [.list es] => (asRows es).bind fun l => if l.length ≤ 100000 then some (.sl [] 5 0 l.length none, rowMem 53 (rowsL (l ++ marksR 12))) else none
  | _ => none
theorem s58 : OkQ 58 S58 := fun ds d mm h => by
  unfold S58 at h
  split at h
  · rw [Option.bind_eq_some_iff] at h
    obtain ⟨l, hl, h⟩ := h
    split at h
    · rename_i hc
      cases h
      rw [asRows_eq hl]
      exact c58 l hc
    · cases h
  · cases h
theorem S58_at (l : List Row) (h : l.length ≤ 100000) : S58 [.list (rowsL l)] = some (.sl [] 5 0 l.length none, rowMem 53 (rowsL (l ++ marksR 12))) := by
  simp only [S58, asRows_rowsL, Option.bind_some]
  rw [if_pos h]
def S42 : List D → Option (D × Mem)
  | [.list es] => (asInts es).bind fun l => if l.length ≤ 100000 then some (.sl [] 1 0 l.length none, rowMem 3 (ints (l ++ marksI 12))) else none
  | _ => none
theorem s42 : OkQ 42 S42 := fun ds d mm h => by
  unfold S42 at h
  split at h
  · rw [Option.bind_eq_some_iff] at h
    obtain ⟨l, hl, h⟩ := h
    split at h
    · rename_i hc
      cases h
      rw [asInts_eq hl]
      exact c42 l hc
    · cases h
  · cases h
theorem S42_at (l : List Int) (h : l.length ≤ 100000) : S42 [.list (ints l)] = some (.sl [] 1 0 l.length none, rowMem 3 (ints (l ++ marksI 12))) := by
  simp only [S42, asInts_ints, Option.bind_some]
  rw [if_pos h]
theorem c33w (q58 : FQ) (m : Mv) (rs : List Row) (h58 : q58 [.list (rowsL m.rows)] = some (.sl [] 5 0 m.rows.length none, rowMem 53 (rowsL rs))) :
    wwp (mkEnv [] [(58, q58)] []) W33.1 (fun e s => okExit e ∧ ∃ d0, resV W33.2 s = some d0 ∧ Out s d0 (.agg (m.cellsW (.sl [] 5 0 m.rows.length none))) (rowMem 53 (rowsL rs))) (initV [.agg m.cells]) := by
  simp [W33, Mv.cells, Mv.cellsW, h58]
  exact Out.aggRow (t := [6, 0]) (g := [6, 0, 0]) (es := rowsL rs) (pre := [iv m.t, iv m.r, iv m.s, iv m.c, iv m.w]) rfl (by simp) (rowsL_flat _)
theorem c33 (m : Mv) (hl : m.rows.length ≤ 100000) : VCq Try.prog 33 [.agg m.cells] (.agg (m.cellsW (.sl [] 5 0 m.rows.length none))) (rowMem 53 (rowsL (m.rows ++ marksR 12))) :=
  wcontract_q (Γ := mkEnv [] [(58, S58)] []) (sound_mk (by simp) (by simp [s58]) (by simp)) mixed is33 (by rw [nt33]; simp) (c33w S58 m _ (S58_at m.rows hl))
theorem c59w (p64 : FP) (i v : Int) (h64 : p64 [iv 1, iv i] = some (iv v)) :
    wwp (mkEnv [(64, p64)] [] []) W59.1 (fun e s => okExit e ∧ ∃ d0, resV W59.2 s = some d0 ∧ Out s d0 (.sl [] 1 0 1 none) (rowMem 3 (ints [v]))) (initV [iv 1, iv i]) := by
  simp [W59, h64]
  exact Out.row (t := [9, 0]) (g := [9, 0]) (es := ints [v]) (by simp [ints]) (ints_flat _)
theorem c59 (i : Nat) (hi : i ≤ 1000000) : VCq Try.prog 59 [iv 1, iv i] (.sl [] 1 0 1 none) (rowMem 3 (ints [markI 1 i])) :=
  wcontract_q (Γ := mkEnv [(64, S64)] [] []) (sound_mk (by simp [s64]) (by simp) (by simp)) mixed is59 (by rw [nt59]; simp) (c59w S64 i _ (S64_at i hi))
end Go.Proofs.Ytpmgaaalfdjikaa
namespace Go.Proofs.Ytpmgaaalfdjikaa
open Go.RowKit
set_option linter.unusedSimpArgs false
set_option linter.unusedVariables false


def fewB (m : Mv) (Ls : List (List Int)) : Bool := decide (m.rows.length ≤ 60) && decide (Ls.length ≤ 70) && Ls.all fun L => decide (L.length ≤ 50)
def FvA (m : Mv) (Ls : List (List Int)) (σ : St) : Prop := σ.s 1 = .list (lists Ls) ∧ σ.s 2 = .ptr [3, 0] 0 ∧ σ.m [3, 0] = some (.box [iv m.t, iv m.r, iv m.s, iv m.c, iv m.w, .list (rowsL m.rows)])
theorem c32 (m : Mv) (Ls : List (List Int)) : VCp Try.prog 32 [.agg m.cells, .list (lists Ls)] (bv (fewB m Ls)) := by
  refine wcontract_p sound0 mixed is32 (by rw [nt32]; simp) ?_ rfl
  simp only [W32]
  refine wwp_cutW (wf_init _) (FvA m Ls) (by simp [FvA, Mv.cells, Mv.cellsW]) ?_
  rintro σ W ⟨h1, h2, m3⟩
  by_cases hb : m.rows.length ≤ 60 ∧ Ls.length ≤ 70
  · have hB : (decide ((60 : Int) < (m.rows.length : Int)) || decide ((70 : Int) < (Ls.length : Int))) = false := by
      simp only [Bool.or_eq_false_iff, decide_eq_false_iff_not]; omega
    have i1 : (m.rows.length : Int) ≤ 60 := by omega
    have i2 : (Ls.length : Int) ≤ 70 := by omega
    refine wwp_condW W (FvA m Ls) (by simp [FvA, h1, h2, m3, hB, i1, i2]) ?_
    clear W h1 h2 m3 σ
    rintro σ W ⟨h1, h2, m3⟩
    refine wwp_cutG (fun σ => fewB m Ls = true) ?_ (fun σ h => by simp [h])
    refine wwp_cut (fun σ => σ.s 16 = .list (lists Ls) ∧ σ.s 17 = iv Ls.length ∧ σ.s 18 = iv 0) (by simp [h1, h2, m3]) ?_
    clear W h1 h2 m3 σ
    rintro σ ⟨h16, h17, h18⟩
    simp only [wwp_block]
    refine wwp_loop (fun σ => ∃ k : Nat, k ≤ Ls.length ∧ σ.s 16 = .list (lists Ls) ∧ σ.s 17 = iv Ls.length ∧ σ.s 18 = iv k ∧ ∀ i (h : i < Ls.length), i < k → Ls[i].length ≤ 50) (fun σ => cnt Ls.length (σ.s 18)) ?_ ?_
    · exact ⟨0, by omega, h16, h17, h18, fun i _ h => absurd h (by omega)⟩
    clear h16 h17 h18 σ
    rintro σ W ⟨k, hk, h16, h17, h18, hok⟩
    by_cases hlt : k < Ls.length
    · have hw1 := wrap_succ (show k ≤ 1000000000 by omega)
      have hmu : cnt Ls.length (σ.s 18) = Ls.length - k := by simp [h18]
      simp only [hmu]
      clear hmu
      have hcl := lists_at hlt
      obtain ⟨L, hL⟩ : ∃ L, L = Ls[k] := ⟨_, rfl⟩
      rw [← hL] at hcl
      refine wwp_on (fun σ => σ.s 16 = .list (lists Ls) ∧ σ.s 17 = iv Ls.length ∧ σ.s 18 = iv k) (by simp [h16, h17, h18, hlt]) ?_
      clear W h16 h17 h18 σ
      rintro σ ⟨h16, h17, h18⟩
      refine wwp_body (fun σ => σ.s 16 = .list (lists Ls) ∧ σ.s 17 = iv Ls.length ∧ σ.s 18 = iv k ∧ L.length ≤ 50) ?_ ?_
      · by_cases h50 : L.length ≤ 50
        · have i3 : ¬ (50 : Int) < (L.length : Int) := by omega
          have i4 : (L.length : Int) ≤ 50 := by omega
          simp [h16, h17, h18, hlt, hcl, ← hL, i3, i4, h50]
        · have hf : fewB m Ls = false := by
            unfold fewB
            have : Ls.all (fun L => decide (L.length ≤ 50)) = false := by
              rw [List.all_eq_false]
              exact ⟨L, by rw [hL]; exact List.getElem_mem hlt, by simpa using h50⟩
            rw [this, Bool.and_false]
          have i3 : (50 : Int) < (L.length : Int) := by omega
          simp [h16, h17, h18, hlt, hcl, ← hL, i3, h50, hf]
      · clear h16 h17 h18 σ
        rintro σ ⟨h16, h17, h18, h50⟩
        simp [h16, h17, h18, hw1]
        refine ⟨⟨k + 1, by omega, rfl, fun i hi hik => ?_⟩, by omega⟩
        by_cases hik' : i < k
        · exact hok i hi hik'
        · obtain rfl : i = k := by omega
          rw [← hL]; exact h50
    · refine wwp_off ?_
      have hf : fewB m Ls = true := by
        unfold fewB
        rw [decide_eq_true hb.1, decide_eq_true hb.2, Bool.true_and, Bool.true_and, List.all_eq_true]
        intro L hL
        obtain ⟨i, hi, rfl⟩ := List.mem_iff_getElem.1 hL
        exact decide_eq_true (hok i hi (by omega))
      simp [h16, h17, h18, hlt, hf]
  · have hB : (decide ((60 : Int) < (m.rows.length : Int)) || decide ((70 : Int) < (Ls.length : Int))) = true := by
      simp only [Bool.or_eq_true, decide_eq_true_eq]; omega
    have hf : fewB m Ls = false := by
      unfold fewB
      have : (decide (m.rows.length ≤ 60) && decide (Ls.length ≤ 70)) = false := by
        simp only [Bool.and_eq_false_iff, decide_eq_false_iff_not]; omega
      rw [this, Bool.false_and]
    simp [h1, h2, m3, hB, hf]
end Go.Proofs.Ytpmgaaalfdjikaa
