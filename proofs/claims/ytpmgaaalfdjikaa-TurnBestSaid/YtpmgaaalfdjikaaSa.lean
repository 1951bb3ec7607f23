/- Contracts: slices.Equal of rows, slices.Index and Contains of numbers. Lemmas; no condition. -/
import Derived.Test.YtpmgaaalfdjikaaQf
namespace Go.Proofs.Ytpmgaaalfdjikaa
open Go.RowKit
set_option linter.unusedSimpArgs false
set_option linter.unusedVariables false

def W28 : WC × List VRes := ((.seq (.reg [(.set [(4, (.c (.v (.bool false))))] [4])]) (.seq (.seq (.reg [(.set [(10, (.ap (.ibin .neq) [(.ap .llen [(.t 0)]), (.ap .llen [(.t 1)])]))] [6, 7, 8, 9, 10])]) (.cond (.t 10) (.seq (.reg [(.set [(4, (.c (.v (.bool false))))] [4])]) .ret) .skip)) (.seq (.seq (.reg [(.set [(12, (.ap .llen [(.t 0)])), (13, (.c (.v (.int .i64 0))))] [11, 12, 13])]) (.block 0 (.loop (.seq (.reg [(.set [(14, (.ap (.ibin .lss) [(.t 13), (.t 12)]))] [14])]) (.seq (.cond (.t 14) .skip (.exit 0)) (.seq (.block 1 (.seq (.reg [(.set [(5, (.t 13))] [15, 5])]) (.seq (.reg [(.set [(24, (.ap (.aeq true [3, 3, 3, 3, 3]) [(.ap (.load 5 true) [(.ap (.idx 53 5) [(.t 0), (.t 5)])]), (.ap (.load 5 true) [(.ap (.idx 53 5) [(.t 1), (.t 5)])])]))] [16, 17, 18, 19, 20, 21, 22, 23, 24])]) (.cond (.t 24) (.seq (.reg [(.set [(4, (.c (.v (.bool false))))] [4])]) .ret) .skip)))) (.reg [(.set [(13, (.ap (.ibin .add) [(.t 13), (.c (.v (.int .i64 1)))]))] [25, 13])]))))))) (.seq (.reg [(.set [(4, (.c (.v (.bool true))))] [4])]) .ret)))), [(.t 4)])
theorem is28 : IsFn Try.prog frOf 28 Try.f28 W28 := ⟨by kernel_rfl, by kernel_rfl, by kernel_rfl⟩
theorem nt28 : Try.f28.ntmps = 26 := by kernel_rfl
def W56 : WC × List VRes := ((.seq (.reg [(.set [(4, (.c (.v (.int .i64 0))))] [4])]) (.seq (.seq (.reg [(.set [(7, (.ap .llen [(.t 0)])), (8, (.c (.v (.int .i64 0))))] [6, 7, 8])]) (.block 0 (.loop (.seq (.reg [(.set [(9, (.ap (.ibin .lss) [(.t 8), (.t 7)]))] [9])]) (.seq (.cond (.t 9) .skip (.exit 0)) (.seq (.block 1 (.seq (.reg [(.set [(5, (.t 8))] [10, 5])]) (.seq (.reg [(.set [(16, (.ap (.ibin .eql) [(.t 1), (.ap (.load 1 false) [(.ap (.idx 3 1) [(.t 0), (.t 5)])])]))] [11, 12, 13, 14, 15, 16])]) (.cond (.t 16) (.seq (.reg [(.set [(4, (.t 5))] [17, 4])]) .ret) .skip)))) (.reg [(.set [(8, (.ap (.ibin .add) [(.t 8), (.c (.v (.int .i64 1)))]))] [18, 8])]))))))) (.seq (.reg [(.set [(4, (.c (.v (.int .i64 (-1)))))] [4])]) .ret))), [(.t 4)])
theorem is56 : IsFn Try.prog frOf 56 Try.f56 W56 := ⟨by kernel_rfl, by kernel_rfl, by kernel_rfl⟩
theorem nt56 : Try.f56.ntmps = 19 := by kernel_rfl
def W29 : WC × List VRes := ((.seq (.reg [(.set [(4, (.c (.v (.bool false))))] [4])]) (.seq (.reg [(.set [(4, (.ap (.ibin .geq) [(.ap (.call 56) [(.t 0), (.t 1)]), (.c (.v (.int .i64 0)))]))] [5, 6, 7, 8, 4])]) .ret)), [(.t 4)])
theorem is29 : IsFn Try.prog frOf 29 Try.f29 W29 := ⟨by kernel_rfl, by kernel_rfl, by kernel_rfl⟩
theorem nt29 : Try.f29.ntmps = 9 := by kernel_rfl


theorem Row.eq_iff {a b : Row} : (a = b) ↔ (a.r = b.r ∧ a.t = b.t ∧ a.ns = b.ns ∧ a.ew = b.ew ∧ a.s = b.s) := by
  constructor
  · rintro rfl; simp
  · rintro ⟨h1, h2, h3, h4, h5⟩
    cases a
    cases b
    simp only at h1 h2 h3 h4 h5
    subst h1; subst h2; subst h3; subst h4; subst h5
    rfl
theorem row_ne (a b : Row) : (!a.r == b.r || (!a.t == b.t || (!a.ns == b.ns || (!a.ew == b.ew || !a.s == b.s)))) = !decide (a = b) := by
  rw [Bool.eq_iff_iff]
  simp only [Bool.or_eq_true, Bool.not_eq_true', beq_eq_false_iff_ne, decide_eq_false_iff_not, Row.eq_iff]
  omega
theorem c28 (a b : List Row) (ha : a.length ≤ 1000000) (hb : b.length ≤ 1000000) : VCp Try.prog 28 [.list (rowsL a), .list (rowsL b)] (bv (decide (a = b))) := by
  refine wcontract_p sound0 mixed is28 (by rw [nt28]; simp) ?_ rfl
  simp [W28]
  refine condK_b (fun hl => ?_) (fun hl => ?_)
  · have : a ≠ b := fun e => by subst e; simp at hl
    simp [this]
  · have hl' : a.length = b.length := by simp at hl; omega
    simp
    refine wwp_loop (fun σ => ∃ k : Nat, k ≤ a.length ∧ σ.s 13 = iv k ∧ σ.s 12 = iv a.length ∧ σ.s 0 = .list (rowsL a) ∧ σ.s 1 = .list (rowsL b) ∧ ∀ i (h : i < a.length), i < k → a[i] = b[i]'(by omega)) (fun σ => cnt a.length (σ.s 13)) ?_ ?_
    · exact ⟨0, by omega, by simp, by simp, by simp, by simp, by omega⟩
    · rintro σ hw ⟨k, hk, h13, h12, h0, h1, hall⟩
      simp [h13, h12]
      refine condK_dec (fun hlt => ?_) (fun hge => ?_)
      · have hltb : k < b.length := by omega
        have ea := rowsL_at hlt
        have eb := rowsL_at hltb
        simp [h13, h12, h0, h1, ea, eb, Row.cells, row_ne]
        refine condK_b (fun hx => ?_) (fun hx => ?_)
        · have hx' : a[k] ≠ b[k] := by simpa using hx
          have : a ≠ b := fun e => hx' (by subst e; rfl)
          simp [this]
        · have hx' : a[k] = b[k] := by simpa using hx
          simp [h13, h12, h0, h1, wrap_succ (show k ≤ 1000000000 by omega)]
          refine ⟨⟨k + 1, by omega, by omega, fun i hi hik => ?_⟩, by omega⟩
          by_cases h : i < k
          · exact hall i hi h
          · obtain rfl : i = k := by omega
            exact hx'
      · have : a = b := List.ext_getElem hl' fun i hi _ => hall i hi (by omega)
        simp [this]
def S28 : List D → Option D
  | [.list a, .list b] => (asRows a).bind fun a => (asRows b).bind fun b => if a.length ≤ 1000000 ∧ b.length ≤ 1000000 then some (bv (decide (a = b))) else none
  | _ => none
theorem s28 : OkP 28 S28 := fun ds d h => by
  unfold S28 at h
  split at h
  · rw [Option.bind_eq_some_iff] at h
    obtain ⟨a, ha, h⟩ := h
    rw [Option.bind_eq_some_iff] at h
    obtain ⟨b, hb, h⟩ := h
    split at h <;> cases h
    rename_i hc
    rw [asRows_eq ha, asRows_eq hb]
    exact c28 a b hc.1 hc.2
  · cases h
theorem S28_at (a b : List Row) (ha : a.length ≤ 1000000) (hb : b.length ≤ 1000000) : S28 [.list (rowsL a), .list (rowsL b)] = some (bv (decide (a = b))) := by
  rw [S28, asRows_rowsL, Option.bind_some, asRows_rowsL, Option.bind_some, if_pos ⟨ha, hb⟩]

/-- Where a number is found first; -1 if it is not there. -/
def idxI (l : List Int) (v : Int) : Int := match l.findIdx? (fun y => v == y) with
  | some i => i
  | none => -1
theorem c56 (l : List Int) (v : Int) (hl : l.length ≤ 1000000) : VCp Try.prog 56 [.list (ints l), iv v] (iv (idxI l v)) := by
  refine wcontract_p sound0 mixed is56 (by rw [nt56]; simp) ?_ rfl
  simp [W56]
  refine wwp_loop (fun σ => ∃ k : Nat, k ≤ l.length ∧ σ.s 8 = iv k ∧ σ.s 7 = iv l.length ∧ σ.s 0 = .list (ints l) ∧ σ.s 1 = iv v ∧ ∀ i (h : i < l.length), i < k → v ≠ l[i]) (fun σ => cnt l.length (σ.s 8)) ?_ ?_
  · exact ⟨0, by omega, by simp, by simp, by simp, by simp, by omega⟩
  · rintro σ hw ⟨k, hk, h8, h7, h0, h1, hall⟩
    simp [h8, h7]
    refine condK_dec (fun hlt => ?_) (fun hge => ?_)
    · have ea := ints_at hlt
      simp [h8, h7, h0, h1, ea]
      refine condK_b (fun hx => ?_) (fun hx => ?_)
      · have hx' : v = l[k] := by simpa using hx
        have : l.findIdx? (fun y => v == y) = some k := by
          rw [List.findIdx?_eq_some_iff_getElem]
          exact ⟨hlt, by simp [hx'], fun j hj => by have := hall j (by omega) hj; simpa using this⟩
        simp [idxI, this]
      · have hx' : v ≠ l[k] := by simpa using hx
        simp [h8, h7, h0, h1, wrap_succ (show k ≤ 1000000000 by omega)]
        refine ⟨⟨k + 1, by omega, by omega, fun i hi hik => ?_⟩, by omega⟩
        by_cases h : i < k
        · exact hall i hi h
        · obtain rfl : i = k := by omega
          exact hx'
    · have : l.findIdx? (fun y => v == y) = none := by
        rw [List.findIdx?_eq_none_iff]
        intro x hx
        obtain ⟨i, hi, rfl⟩ := List.getElem_of_mem hx
        have := hall i hi (by omega)
        simpa using this
      simp [idxI, this]
def S56 : List D → Option D
  | [.list a, .v (.int .i64 v)] => (asInts a).bind fun a => if a.length ≤ 1000000 then some (iv (idxI a v)) else none
  | _ => none
theorem s56 : OkP 56 S56 := fun ds d h => by
  unfold S56 at h
  split at h
  · rw [Option.bind_eq_some_iff] at h
    obtain ⟨a, ha, h⟩ := h
    split at h <;> cases h
    rename_i hc
    rw [asInts_eq ha]
    exact c56 a _ hc
  · cases h
theorem S56_at (a : List Int) (v : Int) (ha : a.length ≤ 1000000) : S56 [.list (ints a), iv v] = some (iv (idxI a v)) := by
  rw [S56, asInts_ints, Option.bind_some, if_pos ha]
theorem idxI_nonneg (l : List Int) (v : Int) : decide (0 ≤ idxI l v) = l.contains v := by
  unfold idxI
  split
  · rename_i i hi
    obtain ⟨h, h1, _⟩ := List.findIdx?_eq_some_iff_getElem.1 hi
    have h2 : v = l[i] := by simpa using h1
    have : v ∈ l := h2 ▸ List.getElem_mem h
    simp [this]
  · rename_i hi
    have : v ∉ l := fun hv => by have := List.findIdx?_eq_none_iff.1 hi v hv; simp at this
    simp [this]
theorem c29w (p56 : FP) (l : List Int) (v : Int) (h : p56 [.list (ints l), iv v] = some (iv (idxI l v))) : wwp (mkEnv [(56, p56)] [] []) W29.1 (fun e s => okExit e ∧ resV W29.2 s = some (bv (l.contains v))) (initV [.list (ints l), iv v]) := by
  have e := idxI_nonneg l v
  simp only [W29]
  simp [h]
  have := Bool.eq_iff_iff.1 e
  simpa using this
theorem sound29 : Sound Try.prog (mkEnv [(56, S56)] [] []) := sound_mk (by simp [s56]) (by simp) (by simp)
theorem c29 (l : List Int) (v : Int) (hl : l.length ≤ 1000000) : VCp Try.prog 29 [.list (ints l), iv v] (bv (l.contains v)) :=
  wcontract_p sound29 mixed is29 (by rw [nt29]; simp) (c29w S56 l v (S56_at l v hl)) rfl
def S29 : List D → Option D
  | [.list a, .v (.int .i64 v)] => (asInts a).bind fun a => if a.length ≤ 1000000 then some (bv (a.contains v)) else none
  | _ => none
theorem s29 : OkP 29 S29 := fun ds d h => by
  unfold S29 at h
  split at h
  · rw [Option.bind_eq_some_iff] at h
    obtain ⟨a, ha, h⟩ := h
    split at h <;> cases h
    rename_i hc
    rw [asInts_eq ha]
    exact c29 a _ hc
  · cases h
theorem S29_at (a : List Int) (v : Int) (ha : a.length ≤ 1000000) : S29 [.list (ints a), iv v] = some (bv (a.contains v)) := by
  rw [S29, asInts_ints, Option.bind_some, if_pos ha]
end Go.Proofs.Ytpmgaaalfdjikaa
