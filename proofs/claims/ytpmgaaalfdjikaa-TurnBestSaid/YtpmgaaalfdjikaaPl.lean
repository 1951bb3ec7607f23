/- Contracts: Made, chosen, Pick. Lemmas; no condition. -/
import Derived.Test.YtpmgaaalfdjikaaPk
import Derived.Laws.BitsAllLaws
namespace Go.Proofs.Ytpmgaaalfdjikaa
open Go.RowKit
set_option linter.unusedSimpArgs false
set_option linter.unusedVariables false

def W19 : WC × List VRes := ((.seq (.reg [(.set [(4, (.c (.v (.int .i64 0))))] [4])]) (.seq (.seq (.reg [(.set [(6, (.ap (.ibin .lss) [(.t 1), (.c (.v (.int .i64 1)))]))] [5, 6])]) (.cond (.t 6) (.seq (.reg [(.set [(4, (.c (.v (.int .i64 0))))] [4])]) .ret) .skip)) (.seq (.reg [(.set [(0, (.ap (.ibin .rem) [(.t 0), (.t 1)]))] [7, 8, 9, 0])]) (.seq (.seq (.reg [(.set [(11, (.ap (.ibin .lss) [(.t 0), (.c (.v (.int .i64 0)))]))] [10, 11])]) (.cond (.t 11) (.reg [(.set [(0, (.ap (.ibin .add) [(.t 0), (.t 1)]))] [12, 13, 14, 0])]) .skip)) (.seq (.reg [(.set [(4, (.t 0))] [15, 4])]) .ret))))), [(.t 4)])
theorem is19 : IsFn Try.prog frOf 19 Try.f19 W19 := ⟨by kernel_rfl, by kernel_rfl, by kernel_rfl⟩
theorem nt19 : Try.f19.ntmps = 16 := by kernel_rfl
def W14 : WC × List VRes := ((.seq (.reg [(.stm (.eff (.box 2 (.t 0)) none)), (.set [(4, (.c .nil))] [4])]) (.seq (.reg [(.set [(5, (.c .nil))] [5])]) (.seq (.seq (.reg [(.set [(8, (.ap (.load 1 false) [(.ap (.fld 1) [(.t 2)])])), (9, (.c (.v (.int .i64 0))))] [7, 8, 9])]) (.block 0 (.loop (.seq (.reg [(.set [(10, (.ap (.ibin .lss) [(.t 9), (.t 8)]))] [10])]) (.seq (.cond (.t 10) .skip (.exit 0)) (.seq (.block 1 (.seq (.reg [(.set [(6, (.t 9))] [11, 6])]) (.seq (.reg [(.set [(16, (.ap (.ibin .eql) [(.ap (.ibin .and) [(.ap (.ishift .shr) [(.t 1), (.t 6)]), (.c (.v (.int .u16 1)))]), (.c (.v (.int .u16 1)))]))] [12, 13, 14, 15, 16])]) (.cond (.t 16) (.reg [(.set [(17, (.t 5)), (18, (.t 6))] [17, 18]), (.stm (.eff (.lit 19 3 1 1 [(.v (.int .i64 0))] [(0, 1)] [(.t 18)]) none)), (.stm (.eff (.app 20 3 1 (.t 17) (.t 19)) none)), (.set [(5, (.t 20))] [5])]) .skip)))) (.reg [(.set [(9, (.ap (.ibin .add) [(.t 9), (.c (.v (.int .i64 1)))]))] [21, 9])]))))))) (.seq (.reg [(.set [(4, (.t 5))] [22, 4])]) .ret)))), [(.t 4)])
theorem is14 : IsFn Try.prog frOf 14 Try.f14 W14 := ⟨by kernel_rfl, by kernel_rfl, by kernel_rfl⟩
theorem nt14 : Try.f14.ntmps = 23 := by kernel_rfl
def W13 : WC × List VRes := ((.seq (.reg [(.stm (.eff (.box 1 (.t 0)) none)), (.stm (.eff (.box 2 (.c (.agg [(.v (.int .i64 0)), (.v (.int .i64 0)), (.v (.int .i64 0)), (.v (.int .i64 0)), (.v (.int .i64 0)), .nil]))) none))]) (.seq (.reg [(.set [(3, (.ap (.ibin .add) [(.c (.v (.int .i64 2))), (.ap (.ibin .rem) [(.ap (.conv .i64) [(.ap (.load 1 false) [(.ap (.fld 0) [(.t 1)])])]), (.c (.v (.int .i64 5)))])]))] [8, 9, 10, 11, 12, 3])]) (.seq (.reg [(.set [(13, (.t 3)), (19, (.ap (.ibin .add) [(.c (.v (.int .i64 1))), (.ap (.ibin .rem) [(.ap (.conv .i64) [(.ap (.load 1 false) [(.ap (.fld 1) [(.t 1)])])]), (.t 3)])]))] [13, 14, 15, 16, 17, 18, 19]), (.stm (.eff (.callq 20 22 [(.t 13), (.t 19)]) none)), (.stm (.eff (.box 4 (.c (.agg [(.v (.int .i64 0)), (.v (.int .i64 0)), (.v (.int .i64 0)), (.v (.int .i64 0)), (.v (.int .i64 0)), .nil]))) none)), (.stm (.eff (.store 6 (.t 4) (.t 20)) none))]) (.seq (.seq (.reg [(.set [(27, (.ap (.slc 1 false true false) [(.ap (.load 1 false) [(.ap (.fld 2) [(.t 1)])]), (.ap (.mx2 false) [(.ap .llen [(.ap (.load 1 false) [(.ap (.fld 2) [(.t 1)])])]), (.c (.v (.int .i64 4)))])])), (28, (.ap .llen [(.ap (.slc 1 false true false) [(.ap (.load 1 false) [(.ap (.fld 2) [(.t 1)])]), (.ap (.mx2 false) [(.ap .llen [(.ap (.load 1 false) [(.ap (.fld 2) [(.t 1)])])]), (.c (.v (.int .i64 4)))])])])), (29, (.c (.v (.int .i64 0))))] [21, 22, 23, 24, 25, 26, 27, 28, 29])]) (.block 0 (.loop (.seq (.reg [(.set [(30, (.ap (.ibin .lss) [(.t 29), (.t 28)]))] [30])]) (.seq (.cond (.t 30) .skip (.exit 0)) (.seq (.block 1 (.seq (.reg [(.set [(6, (.ap (.load 1 false) [(.ap (.idx 5 1) [(.t 27), (.t 29)])]))] [31, 32, 6])]) (.seq (.reg [(.set [(7, (.ap (.ibin .rem) [(.ap (.ibin .quo) [(.ap (.conv .i64) [(.t 6)]), (.c (.v (.int .i64 4)))]), (.ap .llen [(.ap (.load 1 false) [(.ap (.fld 5) [(.t 4)])])])]))] [33, 34, 35, 36, 37, 38, 39, 7])]) (.seq (.reg [(.set [(41, (.ap (.ibin .rem) [(.t 6), (.c (.v (.int .u8 4)))]))] [40, 41])]) (.block 2 (.seq (.reg [(.set [(58, (.ap (.ibin .eql) [(.t 41), (.c (.v (.int .u8 0)))]))] [59, 58])]) (.cond (.t 58) (.reg [(.set [(64, (.ap (.fld 2) [(.ap (.idx 53 5) [(.ap (.load 1 false) [(.ap (.fld 5) [(.t 4)])]), (.t 7)])]))] [60, 61, 62, 63, 64]), (.stm (.eff (.store 1 (.t 64) (.c (.v (.int .i64 0)))) none))]) (.seq (.reg [(.set [(65, (.ap (.ibin .eql) [(.t 41), (.c (.v (.int .u8 1)))]))] [66, 65])]) (.cond (.t 65) (.reg [(.set [(71, (.ap (.fld 3) [(.ap (.idx 53 5) [(.ap (.load 1 false) [(.ap (.fld 5) [(.t 4)])]), (.t 7)])]))] [67, 68, 69, 70, 71]), (.stm (.eff (.store 1 (.t 71) (.c (.v (.int .i64 0)))) none))]) (.seq (.reg [(.set [(72, (.ap (.ibin .eql) [(.t 41), (.c (.v (.int .u8 2)))]))] [73, 72])]) (.cond (.t 72) (.drw [[(.op 74 (.fld 5) [(.t 4)] none), (.op 75 (.load 1 false) [(.t 74)] none), (.op 76 .mv [(.t 7)] none), (.op 77 (.fld 5) [(.t 4)] none), (.op 79 .mv [(.t 7)] none), (.op 80 (.fld 5) [(.t 4)] none), (.op 81 (.load 1 false) [(.t 80)] none), (.op 82 .mv [(.t 7)] none), (.op 83 (.idx 53 5) [(.t 81), (.t 82)] none), (.op 84 (.fld 3) [(.t 83)] none), (.op 85 (.load 1 false) [(.t 84)] none), (.op 86 (.fld 5) [(.t 4)] none), (.op 87 (.load 1 false) [(.t 86)] none), (.op 88 .mv [(.t 7)] none), (.op 89 (.idx 53 5) [(.t 87), (.t 88)] none), (.op 90 (.fld 2) [(.t 89)] none), (.op 91 (.load 1 false) [(.t 90)] none), (.op 92 (.idx 53 5) [(.t 75), (.t 76)] none), (.op 93 (.fld 2) [(.t 92)] none), (.op 78 (.load 1 false) [(.t 77)] none), (.eff (.store 1 (.t 93) (.t 85)) none), (.op 94 (.idx 53 5) [(.t 78), (.t 79)] none), (.op 95 (.fld 3) [(.t 94)] none), (.eff (.store 1 (.t 95) (.t 91)) none)], [(.op 74 (.fld 5) [(.t 4)] none), (.op 75 (.load 1 false) [(.t 74)] none), (.op 76 .mv [(.t 7)] none), (.op 77 (.fld 5) [(.t 4)] none), (.op 79 .mv [(.t 7)] none), (.op 80 (.fld 5) [(.t 4)] none), (.op 81 (.load 1 false) [(.t 80)] none), (.op 82 .mv [(.t 7)] none), (.op 83 (.idx 53 5) [(.t 81), (.t 82)] none), (.op 84 (.fld 3) [(.t 83)] none), (.op 85 (.load 1 false) [(.t 84)] none), (.op 86 (.fld 5) [(.t 4)] none), (.op 87 (.load 1 false) [(.t 86)] none), (.op 88 .mv [(.t 7)] none), (.op 89 (.idx 53 5) [(.t 87), (.t 88)] none), (.op 90 (.fld 2) [(.t 89)] none), (.op 91 (.load 1 false) [(.t 90)] none), (.op 92 (.idx 53 5) [(.t 75), (.t 76)] none), (.op 93 (.fld 2) [(.t 92)] none), (.eff (.store 1 (.t 93) (.t 85)) none), (.op 78 (.load 1 false) [(.t 77)] none), (.op 94 (.idx 53 5) [(.t 78), (.t 79)] none), (.op 95 (.fld 3) [(.t 94)] none), (.eff (.store 1 (.t 95) (.t 91)) none)]]) (.seq (.reg [(.set [(45, (.ap (.ibin .gtr) [(.ap .llen [(.ap (.load 1 false) [(.ap (.fld 5) [(.t 4)])])]), (.c (.v (.int .i64 1)))]))] [42, 43, 44, 45])]) (.cond (.t 45) (.reg [(.set [(50, (.ap (.slc 5 false true true) [(.ap (.load 1 false) [(.ap (.fld 5) [(.t 4)])]), (.t 7), (.t 7)])), (55, (.ap (.slc 5 true false false) [(.ap (.load 1 false) [(.ap (.fld 5) [(.t 4)])]), (.ap (.ibin .add) [(.t 7), (.c (.v (.int .i64 1)))])]))] [46, 47, 48, 49, 50, 51, 52, 53, 54, 55]), (.stm (.eff (.app 56 53 5 (.t 50) (.t 55)) none)), (.set [(57, (.ap (.fld 5) [(.t 4)]))] [57]), (.stm (.eff (.store 1 (.t 57) (.t 56)) none))]) .skip))))))))))))) (.reg [(.set [(29, (.ap (.ibin .add) [(.t 29), (.c (.v (.int .i64 1)))]))] [96, 29])]))))))) (.seq (.reg [(.set [(97, (.ap (.load 6 true) [(.t 4)]))] [97]), (.stm (.eff (.store 6 (.t 2) (.t 97)) none))]) .ret))))), [(.cell 2 6 true)])
theorem is13 : IsFn Try.prog frOf 13 Try.f13 W13 := ⟨by kernel_rfl, by kernel_rfl, by kernel_rfl⟩
theorem nt13 : Try.f13.ntmps = 98 := by kernel_rfl


def pickI (x n : Int) : Int := if n < 1 then 0 else if x.tmod n < 0 then x.tmod n + n else x.tmod n
theorem pickI_bounds {x n : Int} (h : 1 ≤ n) : 0 ≤ pickI x n ∧ pickI x n < n := by
  have h1 := Int.lt_tmod_of_pos x (show 0 < n by omega)
  have h2 := Int.tmod_lt_of_pos x (show 0 < n by omega)
  unfold pickI
  rw [if_neg (by omega)]
  split <;> omega
theorem c19 (x n : Int) (hn : n ≤ 1000000000) : VCp Try.prog 19 [iv x, iv n] (iv (pickI x n)) := by
  refine wcontract_p sound0 mixed is19 (by rw [nt19]; simp) ?_ rfl
  simp [W19]
  refine condK_dec (fun hlt => ?_) (fun hge => ?_)
  · simp [pickI, hlt]
  · have hz : ¬ n = 0 := by omega
    have hz' : n ≠ -1 := by omega
    have h1 := Int.lt_tmod_of_pos x (show 0 < n by omega)
    have h2 := Int.tmod_lt_of_pos x (show 0 < n by omega)
    have hg : ¬ n ≤ 0 := by omega
    simp [hz, hz']
    refine condK_dec (fun hlt => ?_) (fun hge' => ?_)
    · simp [wrap_in (show -9223372036854775808 ≤ x.tmod n + n by omega) (show x.tmod n + n ≤ 9223372036854775807 by omega)]
      simp [pickI, hg, hge, hlt]
    · have hlt' : ¬ x.tmod n < 0 := hge'
      have hle : 0 ≤ x.tmod n := by omega
      simp [pickI, hg, hge, hlt', hle]
def S19 : List D → Option D
  | [.v (.int .i64 x), .v (.int .i64 n)] => if n ≤ 1000000000 then some (iv (pickI x n)) else none
  | _ => none
theorem s19 : OkP 19 S19 := fun ds d h => by
  unfold S19 at h
  split at h
  · split at h <;> cases h
    exact c19 _ _ ‹_›
  · cases h

/-- Where numbers lie. -/
def IntsAt (m : Mem) (d : D) (l : List Int) : Prop := (l = [] ∧ d = .nil) ∨ (l ≠ [] ∧ ∃ t g, d = .sl t 1 0 l.length none ∧ m t = some (.row g 3 (ints l)))
def chosenL (r b : Nat) : List Int := ((List.range r).filter fun k => b.testBit k).map fun (k : Nat) => (k : Int)
theorem chosenL_succ (r b : Nat) : chosenL (r + 1) b = chosenL r b ++ (if b.testBit r = true then [(r : Int)] else []) := by
  unfold chosenL
  rw [List.range_succ, List.filter_append, List.map_append]
  congr 1
  by_cases h : b.testBit r = true <;> simp [h]
theorem chosenL_len (r b : Nat) : (chosenL r b).length ≤ r := by
  unfold chosenL
  rw [List.length_map]
  exact Nat.le_trans (List.length_filter_le _ _) (by simp)
theorem bit_law (b k : Nat) (hb : b < 65536) (hk : k ≤ 16) : (bits .and .u16 ((b : Int).fdiv (2 ^ min k IntKind.u16.bits)) 1 == 1) = b.testBit k := by
  have e1 : (b : Int).fdiv (2 ^ min k IntKind.u16.bits) = ((b / 2 ^ k : Nat) : Int) := by
    rw [show IntKind.u16.bits = 16 from rfl, Nat.min_eq_left hk, Int.fdiv_eq_ediv_of_nonneg _ (Int.le_of_lt (Int.pow_pos (by decide)))]
    simp
  rw [e1]
  have e2 : bits .and .u16 ((b / 2 ^ k : Nat) : Int) ((1 : Nat) : Int) = _ := u16_and_nat (b / 2 ^ k) 1 (Nat.lt_of_le_of_lt (Nat.div_le_self _ _) hb) (by omega)
  have e3 : ((1 : Nat) : Int) = 1 := rfl
  rw [e3] at e2
  rw [e2, Nat.and_one_is_mod, Nat.testBit_eq_decide_div_mod_eq]
  rcases Nat.mod_two_eq_zero_or_one (b / 2 ^ k) with h | h <;> simp [h]
def chosenR (r b : Nat) : D × Mem := if chosenL r b = [] then (.nil, noMem) else (.sl [] 1 0 (chosenL r b).length none, rowMem 3 (ints (chosenL r b)))
theorem c14 (m : Mv) (r b : Nat) (hb : b < 65536) (hr : m.r = r) (hr' : r ≤ 16) : VCq Try.prog 14 [.agg m.cells, .v (.int .u16 b)] (chosenR r b).1 (chosenR r b).2 := by
  refine wcontract_q sound0 mixed is14 (by rw [nt14]; simp) ?_
  simp [W14, Mv.cells, Mv.cellsW]
  refine wwp_loop (fun σ => ∃ k : Nat, k ≤ r ∧ σ.s 9 = iv k ∧ σ.s 8 = iv r ∧ σ.s 1 = .v (.int .u16 b) ∧ IntsAt σ.m (σ.s 5) (chosenL k b)) (fun σ => cnt r (σ.s 9)) ?_ ?_
  · exact ⟨0, by omega, by simp, by simp [hr], by simp, .inl ⟨rfl, by simp⟩⟩
  · rintro σ hw ⟨k, hk, h9, h8, h1, h5⟩
    simp [h9, h8]
    refine condK_dec (fun hlt => ?_) (fun hge => ?_)
    · have hbl := bit_law b k hb (by omega)
      simp [h9, h1, hbl]
      refine condK_b (fun hx => ?_) (fun hx => ?_)
      · have hlen := chosenL_len k b
        rcases h5 with ⟨hd0, h5⟩ | ⟨hd0, tk, g, h5, htk⟩
        · simp [h5, h9, h8, h1, one_made, wrap_succ (show k ≤ 1000000000 by omega)]
          refine ⟨⟨k + 1, by omega, by omega, .inr ⟨by simp [chosenL_succ, hx], [21, σ.c 20], [21, σ.c 20], ?_, ?_⟩⟩, by omega⟩
          · simp [chosenL_succ, hd0, hx]
          · simp [chosenL_succ, hd0, hx, ints]
        · have p1 := hw.ne htk 19 (σ.c 19) []
          have p2 := hw.ne htk 20 (σ.c 20) []
          have hmm : (chosenL k b).length + 1 ≤ maxMade := by unfold maxMade; omega
          simp [h5, h9, h8, h1, htk, p1, hmm, wrap_succ (show k ≤ 1000000000 by omega)]
          refine ⟨⟨k + 1, by omega, by omega, .inr ⟨by simp [chosenL_succ, hx], [21, σ.c 20], g, ?_, ?_⟩⟩, by omega⟩
          · simp [chosenL_succ, hx]
          · simp [chosenL_succ, hx, ints_append]
            simp [ints]
      · simp [h9, h8, h1, wrap_succ (show k ≤ 1000000000 by omega)]
        refine ⟨⟨k + 1, by omega, by omega, ?_⟩, by omega⟩
        simpa [IntsAt, chosenL_succ, hx] using h5
    · have hk16 : k = r := by omega
      subst hk16
      rcases h5 with ⟨hd0, h5⟩ | ⟨hd0, tk, g, h5, htk⟩
      · simp [h5, chosenR, hd0]
        exact Out.flat rfl rfl
      · simp [h5, chosenR, hd0]
        exact Out.row (g := g) (by simp; exact htk) (ints_flat _)
def S14 : List D → Option (D × Mem)
  | [.agg xs, .v (.int .u16 b)] => (asMv xs).bind fun m => if 0 ≤ b ∧ b < 65536 ∧ 0 ≤ m.r ∧ m.r ≤ 16 then some (chosenR m.r.toNat b.toNat) else none
  | _ => none
theorem s14 : OkQ 14 S14 := fun ds d mm h => by
  unfold S14 at h
  split at h
  · rw [Option.bind_eq_some_iff] at h
    obtain ⟨m, hm, h⟩ := h
    rename_i xs b
    split at h
    · rename_i hc
      have := c14 m m.r.toNat b.toNat (by omega) (by omega) (by omega)
      rw [Option.some.inj h, Int.toNat_of_nonneg hc.1] at this
      rw [asMv_eq hm]
      exact this
    · cases h
  · cases h

/-- A slice: what lies in memory, how many of it, its limit. -/
structure Sl where
  all : List Row
  len : Nat
  lim : Option Nat
def Sl.rows (s : Sl) : List Row := s.all.take s.len
def Row.swap (x : Row) : Row := { x with ns := x.ew, ew := x.ns }
def madeOne (n : Nat) (x : Row) : Row := if n % 4 = 0 then { x with ns := 0 } else if n % 4 = 1 then { x with ew := 0 } else x.swap
def Sl.step (s : Sl) (n : Nat) : Sl :=
  if n % 4 < 3 then { s with all := s.all.modify (n / 4 % s.len) (madeOne n) }
  else if 1 < s.len then
    (if n / 4 % s.len + 1 = s.len then { s with len := n / 4 % s.len, lim := some (n / 4 % s.len) }
      else ⟨s.all.take (n / 4 % s.len) ++ (s.all.take s.len).drop (n / 4 % s.len + 1), s.len - 1, none⟩)
  else s
theorem step_mod {s : Sl} {n : Nat} (h : n % 4 < 3) : s.step n = { s with all := s.all.modify (n / 4 % s.len) (madeOne n) } := if_pos h
def Sl.ok (s : Sl) : Prop := 1 ≤ s.len ∧ s.len ≤ s.all.length ∧ s.all.length ≤ 100
theorem Sl.step_ok {s : Sl} (h : s.ok) (n : Nat) : (s.step n).ok := by
  obtain ⟨h1, h2, h3⟩ := h
  have hi := Nat.mod_lt (n / 4) (show 0 < s.len by omega)
  unfold Sl.step Sl.ok
  split
  · simp [h1, h2, h3]
  · split
    · split
      · simp only; omega
      · simp; omega
    · exact ⟨h1, h2, h3⟩
structure Sk where
  t : Nat
  r : Nat
  miss : List Nat
def Sk.T (x : Sk) : Nat := 2 + x.t % 5
def Sk.R (x : Sk) : Nat := 1 + x.r % x.T
def Sk.ok (x : Sk) : Prop := x.t < 256 ∧ x.r < 256 ∧ (∀ n ∈ x.miss, n < 256) ∧ x.miss.length ≤ 9223372036854775807
def bytes (l : List Nat) : List (List D) := l.map fun (n : Nat) => [.v (.int .u8 n)]
@[simp] theorem bytes_len (l : List Nat) : (bytes l).length = l.length := by simp [bytes]
@[simp] theorem bytes_ex (l : List Nat) : (∃ x, x ∈ bytes l ∧ ¬ x.length = 1) = False := by
  simp only [eq_iff_iff, iff_false]; rintro ⟨x, hx, h⟩; obtain ⟨y, _, rfl⟩ := List.mem_map.1 hx; exact h rfl
theorem bytes_at {l : List Nat} {k : Nat} (h : k < l.length) : (bytes l)[k]? = some [.v (.int .u8 (l[k] : Nat))] := by simp [bytes, h]
theorem bytes_cut (l : List Nat) : cutV (bytes l) 0 (if (4 : Int) < (l.length : Int) then 4 else (l.length : Int)) = some (.list (bytes (l.take 4))) := by
  unfold cutV
  by_cases h : (4 : Int) < (l.length : Int)
  · rw [if_pos h, if_pos (by simp; omega)]; simp [bytes, List.map_take]
  · rw [if_neg h, if_pos (by simp)]; simp [bytes, List.map_take]; omega
def Sk.cells (x : Sk) : List D := [.v (.int .u8 x.t), .v (.int .u8 x.r), .list (bytes x.miss)]
def Sk.run (x : Sk) (k : Nat) : Sl := (x.miss.take k).foldl Sl.step ⟨(mitM x.T x.R).rows, x.R * x.T, none⟩
def Sk.sl (x : Sk) : Sl := x.run 4
def S22 : List D → Option (D × Mem)
  | [.v (.int .i64 T), .v (.int .i64 R)] => if 1 ≤ T ∧ T ≤ 100 ∧ 1 ≤ R ∧ R ≤ 100 then some (.agg ((mitM T.toNat R.toNat).cellsW (.sl [] 5 0 (R.toNat * T.toNat) none)), rowMem 53 (rowsL (mitM T.toNat R.toNat).rows)) else none
  | _ => none
theorem s22 : OkQ 22 S22 := fun ds d mm h => by
  unfold S22 at h
  split at h
  · rename_i T R
    split at h
    · rename_i hc
      have := c22 T.toNat R.toNat (by omega) (by omega) (by omega) (by omega)
      cases h
      rw [Int.toNat_of_nonneg (show 0 ≤ T by omega), Int.toNat_of_nonneg (show 0 ≤ R by omega)] at this
      exact this
    · cases h
  · cases h
def env13 : Env := mkEnv [] [(22, S22)] []
@[simp] theorem env13_q (f : Nat) (ds : List D) : env13.q f ds = (look [(22, S22)] f).bind fun s => s ds := rfl
theorem sound13 : Sound Try.prog env13 := sound_mk (by simp) (by simp [s22]) (by simp)
/-- A slice of a row that is handed back. -/
theorem Out.rowL {σ : St} {t g : Tok} {e size len : Nat} {lim : Option Nat} {es : List (List D)} (h : σ.m t = some (.row g e es)) (hf : ∀ c ∈ es, c.all D.flatC = true) : Out σ (.sl t size 0 len lim) (.sl [] size 0 len lim) (rowMem e es) := by
  have hn : ∀ c ∈ es, ∀ d ∈ c, ∃ x, d = .v x := fun c hc d hd => by
    have := List.all_eq_true.1 (hf c hc) d hd
    cases d <;> simp [D.flatC] at this ⊢
  refine ⟨fun s => if s = [] then t else if s = [0] then g else [], by simp, rfl, fun s o ho => ?_, fun s s' o o' h1 h2 _ => by rw [(rowMem_some h1).1, (rowMem_some h2).1]⟩
  obtain ⟨rfl, rfl⟩ := rowMem_some ho
  refine ⟨fun c hc d hd => by obtain ⟨x, rfl⟩ := hn c hc d hd; rfl, ?_⟩
  have : es.map (fun c => c.map (D.renC fun s => if s = [] then t else if s = [0] then g else [])) = es := by
    conv => rhs; rw [← List.map_id es]
    refine List.map_congr_left fun c hc => ?_
    conv => rhs; rw [id, ← List.map_id c]
    exact List.map_congr_left fun d hd => by obtain ⟨x, rfl⟩ := hn c hc d hd; rfl
  simp only [if_true, HO.ren, this, h]
  simp
/-- .. and inside a struct, as its last part. -/
theorem Out.aggRowL {σ : St} {t g : Tok} {e size len : Nat} {lim : Option Nat} {es : List (List D)} {pre : List D} (hp : pre.all D.flatC = true) (h : σ.m t = some (.row g e es)) (hf : ∀ c ∈ es, c.all D.flatC = true) :
    Out σ (.agg (pre ++ [.sl t size 0 len lim])) (.agg (pre ++ [.sl [] size 0 len lim])) (rowMem e es) := by
  obtain ⟨f, h1, h2, h3, h4⟩ := Out.rowL (size := size) (len := len) (lim := lim) h hf
  have hv : ∀ d ∈ pre, ∃ x, d = .v x := fun d hd => by
    have := List.all_eq_true.1 hp d hd
    cases d <;> simp [D.flatC] at this ⊢
  refine ⟨f, ?_, ?_, h3, h4⟩
  · simp only [D.ren, D.renA, List.map_append, List.map_cons, List.map_nil]
    have e1 : pre.map (D.renC f) = pre := by
      conv => rhs; rw [← List.map_id pre]
      exact List.map_congr_left fun d hd => by obtain ⟨x, rfl⟩ := hv d hd; rfl
    have e2 : D.renC f (.sl [] size 0 len lim) = .sl t size 0 len lim := by simpa [D.ren, D.renA] using h1.symm
    rw [e1, e2]
  · simp only [D.noF, D.noFA, List.all_append, List.all_cons, List.all_nil, Bool.and_true, Bool.and_eq_true]
    refine ⟨List.all_eq_true.2 fun d hd => ?_, rfl⟩
    obtain ⟨x, rfl⟩ := hv d hd
    rfl
theorem rowsL_modify {l : List Row} {i : Nat} (h : i < l.length) (f : Row → Row) : rowsL (l.modify i f) = (rowsL l).set i (f l[i]).cells := by
  apply List.ext_getElem?
  intro j
  simp only [rowsL, List.getElem?_map, List.getElem?_modify, List.getElem?_set, List.length_map]
  by_cases e : i = j
  · subst e; simp [h]
  · simp [e]
theorem runs_take {Γ : Env} {l : List VStm} {s : St} {K : St → Prop} (k : Nat) (I : St → Prop) (h1 : runK (runs Γ (l.take k) s) I) (h2 : ∀ s', I s' → runK (runs Γ (l.drop k) s') K) : runK (runs Γ l s) K := by
  obtain ⟨s', e, hi⟩ := h1
  obtain ⟨s2, e2, hk⟩ := h2 s' hi
  refine ⟨s2, ?_, hk⟩
  have := runs_append (Γ := Γ) (s := s) (a := l.take k) (b := l.drop k)
  rw [List.take_append_drop] at this
  rw [this, e]
  exact e2
theorem wwp_drw_k {Γ : Env} {ss : List (List VStm)} {Q : VE → St → Prop} {s : St} (T : List Nat) (m' : Mem) (c' : Nat → Nat) (hT : (ss.all fun sts => (dsts sts).all T.contains) = true)
    (h : ∀ sts ∈ ss, runK (runs Γ sts s) fun s' => s'.m = m' ∧ s'.c = c') (hQ : Q .normal ⟨fun j => if T.contains j then .undef else s.s j, m', c'⟩) : wwp Γ (.drw ss) Q s :=
  wwp_drw_of T [] m' c' hT (fun sts hs => by
    obtain ⟨s', h1, h2, h3⟩ := h sts hs
    exact ⟨s', h1, h2, h3, by simp⟩) (by simpa using hQ)
theorem wwp_gen {Γ : Env} {c : WC} {Q : VE → St → Prop} {s : St} (I : St → Prop) (h0 : I s) (h : ∀ s', I s' → wwp Γ c Q s') : wwp Γ c Q s := h s h0
theorem c13 (x : Sk) (hx : x.ok) : VCq Try.prog 13 [.agg x.cells] (.agg [iv x.T, iv x.R, iv x.T, iv 1, iv 2, .sl [] 5 0 x.sl.len x.sl.lim]) (rowMem 53 (rowsL x.sl.all)) := by
  refine wcontract_q sound13 mixed is13 (by rw [nt13]; simp) ?_
  obtain ⟨hx1, hx2, hx3, hx4⟩ := hx
  have hT : x.T = 2 + x.t % 5 := rfl
  have hR : x.R = 1 + x.r % x.T := rfl
  have hT1 : 2 ≤ x.T ∧ x.T ≤ 6 := by omega
  have hR1 := Nat.mod_lt x.r (show 0 < x.T by omega)
  have w1 : IntKind.i64.wrap (x.t : Int) = x.t := wrap_in (by omega) (by omega)
  have w2 : IntKind.i64.wrap (x.r : Int) = x.r := wrap_in (by omega) (by omega)
  have w3 : IntKind.i64.wrap (2 + (x.t : Int).tmod 5) = x.T := by
    rw [Int.tmod_eq_emod_of_nonneg (by omega), wrap_in (by omega) (by omega)]; omega
  simp only [W13]
  refine wwp_cut (fun σ => σ.s 1 = .ptr [2, 0] 0 ∧ σ.m [2, 0] = some (.box x.cells) ∧ σ.s 2 = .ptr [3, 0] 0 ∧ σ.m [3, 0] = some (.box noMv) ∧ σ.c 20 = 0 ∧ σ.c 4 = 0) ?_ ?_
  · simp [Sk.cells, noMv]
  rintro σ ⟨h1, m2, h2, m3, k1, k2⟩
  refine wwp_cut (fun σ => σ.s 1 = .ptr [2, 0] 0 ∧ σ.m [2, 0] = some (.box x.cells) ∧ σ.s 2 = .ptr [3, 0] 0 ∧ σ.m [3, 0] = some (.box noMv) ∧ σ.c 20 = 0 ∧ σ.c 4 = 0 ∧ σ.s 3 = iv x.T) ?_ ?_
  · simp [h1, m2, h2, m3, k1, k2, Sk.cells, w1, w3]
  clear h1 m2 h2 m3 k1 k2 σ
  rintro σ ⟨h1, m2, h2, m3, k1, k2, h3⟩
  have w4 : IntKind.i64.wrap (1 + (x.r : Int).tmod x.T) = x.R := by
    rw [Int.tmod_eq_emod_of_nonneg (by omega), wrap_in (by omega) (by omega)]; omega
  have hTz : ¬ x.T = 0 := by omega
  refine wwp_cut (fun σ => σ.s 1 = .ptr [2, 0] 0 ∧ σ.m [2, 0] = some (.box x.cells) ∧ σ.s 2 = .ptr [3, 0] 0 ∧ σ.m [3, 0] = some (.box noMv) ∧ σ.s 4 = .ptr [5, 0] 0 ∧
    σ.m [5, 0] = some (.box [iv x.T, iv x.R, iv x.T, iv 1, iv 2, .sl [21, 0] 5 0 (x.R * x.T) none]) ∧ σ.m [21, 0] = some (.row [21, 0, 0] 53 (rowsL (mitM x.T x.R).rows))) ?_ ?_
  · have q1 : (1 : Int) ≤ x.T := by omega
    have q2 : (x.T : Int) ≤ 100 := by omega
    have q3 : (1 : Int) ≤ x.R := by omega
    have q4 : (x.R : Int) ≤ 100 := by omega
    simp [h1, m2, h2, m3, k1, k2, h3, Sk.cells, w2, w4, hTz, S22, q1, q2, q3, q4, Mv.cellsW, mitM]
  clear h1 m2 h2 m3 k1 k2 h3 σ
  rintro σ ⟨h1, m2, h2, m3, h4, m5, m21⟩
  have hok : ∀ k, (x.run k).ok := by
    intro k
    unfold Sk.run
    have h0 : Sl.ok ⟨(mitM x.T x.R).rows, x.R * x.T, none⟩ := by
      have := part_len (mitRow x.T) x.T x.R 0
      have h1 : 1 * 1 ≤ x.R * x.T := Nat.mul_le_mul (by omega) (by omega)
      have h2 : x.R * x.T ≤ 6 * 6 := Nat.mul_le_mul (by omega) (by omega)
      refine ⟨h1, ?_, ?_⟩
      · simp only [mitM]; omega
      · simp only [mitM]; omega
    generalize (⟨(mitM x.T x.R).rows, x.R * x.T, none⟩ : Sl) = s at h0
    generalize x.miss.take k = l
    induction l generalizing s with
    | nil => exact h0
    | cons n l ih => exact ih _ (Sl.step_ok h0 n)
  simp [h1, m2, h2, m3, h4, m5, Sk.cells, bytes_cut]
  have hN : (x.miss.take 4).length ≤ 4 := by simp; omega
  refine wwp_loop (fun σ => ∃ (k : Nat) (tk g : Tok), k ≤ (x.miss.take 4).length ∧ σ.s 29 = iv k ∧ σ.s 28 = iv (x.miss.take 4).length ∧ σ.s 27 = .list (bytes (x.miss.take 4)) ∧ σ.s 2 = .ptr [3, 0] 0 ∧ σ.m [3, 0] = some (.box noMv) ∧ σ.s 4 = .ptr [5, 0] 0 ∧
    σ.m [5, 0] = some (.box [iv x.T, iv x.R, iv x.T, iv 1, iv 2, .sl tk 5 0 (x.run k).len (x.run k).lim]) ∧ σ.m tk = some (.row g 53 (rowsL (x.run k).all))) (fun σ => cnt 4 (σ.s 29)) ?_ ?_
  · refine ⟨0, [21, 0], [21, 0, 0], by omega, by simp, by simp, by simp, by simp [h2], by simp [m3], by simp [h4], ?_, ?_⟩
    · simp [m5, Sk.run]
    · simp [m21, Sk.run]
  clear h1 m2 h2 m3 h4 m5 m21 σ
  rintro σ hw ⟨k, tk, g, hk, h29, h28, h27, h2, m3, h4, m5, mtk⟩
  have hs : ∀ h : k < (x.miss.take 4).length, x.run (k + 1) = (x.run k).step (x.miss.take 4)[k] := by
    intro h
    have hk4 : k < x.miss.length := by simp at h; omega
    unfold Sk.run
    rw [List.take_succ_eq_append_getElem hk4, List.foldl_append, List.getElem_take]
    rfl
  have hb : ∀ h : k < (x.miss.take 4).length, (x.miss.take 4)[k] < 256 := fun h => hx3 _ (List.mem_of_mem_take (List.getElem_mem h))
  have hlast : ¬ k < (x.miss.take 4).length → x.run k = x.sl := by
    intro h
    have : k = min 4 x.miss.length := by simp at h hk; omega
    subst this
    unfold Sk.sl Sk.run
    by_cases h4 : x.miss.length ≤ 4
    · rw [Nat.min_eq_right h4, List.take_of_length_le (Nat.le_refl _), List.take_of_length_le h4]
    · rw [Nat.min_eq_left (by omega)]
  obtain ⟨o1, o2, o3⟩ := hok k
  generalize hN' : (x.miss.take 4) = ms at *
  generalize x.run k = s at hs m5 mtk o1 o2 o3 hlast
  simp [h29, h28]
  refine condK_dec (fun hlt => ?_) (fun hge => ?_)
  · have hs := hs hlt
    have hb := hb hlt
    have n1 : tk ≠ [5, 0] := fun e => by rw [e, m5] at mtk; cases mtk
    have n2 : tk ≠ [3, 0] := fun e => by rw [e, m3] at mtk; cases mtk
    have hi := Nat.mod_lt (ms[k] / 4) (show 0 < s.len by omega)
    generalize hbk : ms[k] = b at hs hb hi
    have wb : IntKind.i64.wrap (b : Int) = b := wrap_in (by omega) (by omega)
    have wd : (IntKind.i64.wrap ((b : Int) / 4)).tmod (s.len : Int) = ((b / 4 % s.len : Nat) : Int) := by
      rw [wrap_in (by omega) (by omega), Int.tmod_eq_emod_of_nonneg (by omega)]; simp
    have wm : (b : Int).tmod 4 = ((b % 4 : Nat) : Int) := by
      rw [Int.tmod_eq_emod_of_nonneg (by omega)]; simp
    have hLz : ¬ s.len = 0 := by omega
    have wi := wrap_succ (show k ≤ 1000000000 by omega)
    generalize hib : b / 4 % s.len = i at wd hi
    have hia : i < s.all.length := by omega
    have hcell : (rowsL s.all)[i]? = some s.all[i].cells := rowsL_at hia
    have p0 : (i : Int) < (s.len : Int) := by omega
    simp [h29, h28, h27, h4, m5, bytes_at hlt, hbk, wb, wd, wm, hLz]
    have n3 := hw.ne mtk 56 (σ.c 56) []
    have n1' : ¬ ([5, 0] : Tok) = tk := n1.symm
    have n2' : ¬ ([3, 0] : Tok) = tk := n2.symm
    refine condK_b (fun hx => ?_) (fun hx => ?_)
    · have hx0' : (b : Int) % 4 = 0 := by simpa using hx
      have hx0 : b % 4 = 0 := by omega
      have hx3' : b % 4 < 3 := by omega
      refine wwp_gen (fun σ => σ.s 29 = iv k ∧ σ.s 28 = iv ms.length ∧ σ.s 27 = .list (bytes ms) ∧ σ.s 2 = .ptr [3, 0] 0 ∧ σ.m [3, 0] = some (.box noMv) ∧ σ.s 4 = .ptr [5, 0] 0 ∧
          σ.m [5, 0] = some (.box [iv x.T, iv x.R, iv x.T, iv 1, iv 2, .sl tk 5 0 s.len s.lim]) ∧ σ.m tk = some (.row g 53 (rowsL s.all)) ∧ σ.s 7 = iv i ∧ tk ≠ [57, σ.c 56]) (by simp [h29, h28, h27, h2, m3, h4, m5, mtk, noMv, n3]) ?_
      clear h29 h28 h27 h2 m3 h4 m5 mtk n3 hw σ
      rintro σ ⟨h29, h28, h27, h2, m3, h4, m5, mtk, h7, n3⟩
      simp [h29, h28, h27, h4, h2, m3, m5, h7, mtk, p0, hcell, Row.cells, wi, hi, hia, n1, n2, n1', n2']
      refine ⟨⟨k + 1, by omega, by omega, tk, ?_⟩, by omega⟩
      rw [hs, step_mod hx3', hib, rowsL_modify hia]
      refine ⟨⟨rfl, rfl, rfl⟩, g, ?_⟩
      rw [if_pos rfl]
      simp [madeOne, hx0, Row.cells]
    · have hx0' : (b : Int) % 4 ≠ 0 := by simpa using hx
      have hx0 : b % 4 ≠ 0 := by omega
      simp
      refine condK_b (fun hx => ?_) (fun hx => ?_)
      · have hx1' : (b : Int) % 4 = 1 := by simpa using hx
        have hx1 : b % 4 = 1 := by omega
        have hx3' : b % 4 < 3 := by omega
        refine wwp_gen (fun σ => σ.s 29 = iv k ∧ σ.s 28 = iv ms.length ∧ σ.s 27 = .list (bytes ms) ∧ σ.s 2 = .ptr [3, 0] 0 ∧ σ.m [3, 0] = some (.box noMv) ∧ σ.s 4 = .ptr [5, 0] 0 ∧
          σ.m [5, 0] = some (.box [iv x.T, iv x.R, iv x.T, iv 1, iv 2, .sl tk 5 0 s.len s.lim]) ∧ σ.m tk = some (.row g 53 (rowsL s.all)) ∧ σ.s 7 = iv i ∧ tk ≠ [57, σ.c 56]) (by simp [h29, h28, h27, h2, m3, h4, m5, mtk, noMv, n3]) ?_
        clear h29 h28 h27 h2 m3 h4 m5 mtk n3 hw σ
        rintro σ ⟨h29, h28, h27, h2, m3, h4, m5, mtk, h7, n3⟩
        simp [h29, h28, h27, h4, h2, m3, m5, h7, mtk, p0, hcell, Row.cells, wi, hi, hia, n1, n2, n1', n2']
        refine ⟨⟨k + 1, by omega, by omega, tk, ?_⟩, by omega⟩
        rw [hs, step_mod hx3', hib, rowsL_modify hia]
        refine ⟨⟨rfl, rfl, rfl⟩, g, ?_⟩
        rw [if_pos rfl]
        simp [madeOne, hx0, hx1, Row.cells]
      · have hx1' : (b : Int) % 4 ≠ 1 := by simpa using hx
        have hx1 : b % 4 ≠ 1 := by omega
        simp
        refine condK_b (fun hx => ?_) (fun hx => ?_)
        · have hx2' : (b : Int) % 4 = 2 := by simpa using hx
          have hx2 : b % 4 = 2 := by omega
          have hx3' : b % 4 < 3 := by omega
          refine wwp_gen (fun σ => σ.s 29 = iv k ∧ σ.s 28 = iv ms.length ∧ σ.s 27 = .list (bytes ms) ∧ σ.s 2 = .ptr [3, 0] 0 ∧ σ.m [3, 0] = some (.box noMv) ∧ σ.s 4 = .ptr [5, 0] 0 ∧
          σ.m [5, 0] = some (.box [iv x.T, iv x.R, iv x.T, iv 1, iv 2, .sl tk 5 0 s.len s.lim]) ∧ σ.m tk = some (.row g 53 (rowsL s.all)) ∧ σ.s 7 = iv i ∧ tk ≠ [57, σ.c 56]) (by simp [h29, h28, h27, h2, m3, h4, m5, mtk, noMv, n3]) ?_
          clear h29 h28 h27 h2 m3 h4 m5 mtk n3 hw σ
          rintro σ ⟨h29, h28, h27, h2, m3, h4, m5, mtk, h7, n3⟩
          refine wwp_drw_k [74, 75, 76, 77, 78, 79, 80, 81, 82, 83, 84, 85, 86, 87, 88, 89, 90, 91, 92, 93, 94, 95] (fun τ => if τ = tk then some (.row g 53 ((rowsL s.all).set i s.all[i].swap.cells)) else HO.struck g i (HO.struck g i (σ.m τ))) σ.c (by decide) ?_ ?_
          · intro sts hsts
            rcases List.mem_cons.1 hsts with rfl | hsts
            · refine runs_take 10 (fun σ' => σ'.m = σ.m ∧ σ'.c = σ.c ∧ σ'.s 4 = .ptr [5, 0] 0 ∧ σ'.s 7 = iv i ∧ σ'.s 75 = .sl tk 5 0 s.len s.lim ∧ σ'.s 76 = iv i ∧ σ'.s 77 = .ptr [5, 0] 5 ∧ σ'.s 79 = iv i ∧ σ'.s 84 = .rptr tk 5 i 3) (by simp [h4, m5, h7, mtk, p0, hi]) ?_
              rintro σ1 ⟨e1, e2, e3, e4, e5, e6, e7, e8, e9⟩
              refine runs_take 9 (fun σ' => σ'.m = σ.m ∧ σ'.c = σ.c ∧ σ'.s 77 = .ptr [5, 0] 5 ∧ σ'.s 79 = iv i ∧ σ'.s 85 = iv s.all[i].ew ∧ σ'.s 91 = iv s.all[i].ns ∧ σ'.s 93 = .rptr tk 5 i 2) (by simp [e1, e2, e3, e4, e5, e6, e7, e8, e9, m5, mtk, p0, hi, hcell, Row.cells]) ?_
              clear e1 e2 e3 e4 e5 e6 e7 e8 e9 σ1
              rintro σ1 ⟨e1, e2, e3, e4, e5, e6, e7⟩
              simp [e1, e2, e3, e4, e5, e6, e7, m5, mtk, p0, hi, hcell, Row.cells, hia]
              funext τ
              by_cases ht : τ = tk <;> simp [ht, e1, Row.swap]
            · rw [List.mem_singleton] at hsts
              subst hsts
              refine runs_take 10 (fun σ' => σ'.m = σ.m ∧ σ'.c = σ.c ∧ σ'.s 4 = .ptr [5, 0] 0 ∧ σ'.s 7 = iv i ∧ σ'.s 75 = .sl tk 5 0 s.len s.lim ∧ σ'.s 76 = iv i ∧ σ'.s 77 = .ptr [5, 0] 5 ∧ σ'.s 79 = iv i ∧ σ'.s 84 = .rptr tk 5 i 3) (by simp [h4, m5, h7, mtk, p0, hi]) ?_
              rintro σ1 ⟨e1, e2, e3, e4, e5, e6, e7, e8, e9⟩
              refine runs_take 9 (fun σ' => σ'.m = σ.m ∧ σ'.c = σ.c ∧ σ'.s 77 = .ptr [5, 0] 5 ∧ σ'.s 79 = iv i ∧ σ'.s 85 = iv s.all[i].ew ∧ σ'.s 91 = iv s.all[i].ns ∧ σ'.s 93 = .rptr tk 5 i 2) (by simp [e1, e2, e3, e4, e5, e6, e7, e8, e9, m5, mtk, p0, hi, hcell, Row.cells]) ?_
              clear e1 e2 e3 e4 e5 e6 e7 e8 e9 σ1
              rintro σ1 ⟨e1, e2, e3, e4, e5, e6, e7⟩
              simp [e1, e2, e3, e4, e5, e6, e7, m5, mtk, p0, hi, hcell, Row.cells, hia, n1']
              funext τ
              by_cases ht : τ = tk <;> simp [ht, e1, Row.swap]
          simp [h29, h28, h27, h4, h2, m3, m5, h7, mtk, p0, hcell, Row.cells, wi, hi, hia, n1, n2, n1', n2']
          refine ⟨⟨k + 1, by omega, by omega, tk, ?_⟩, by omega⟩
          rw [hs, step_mod hx3', hib, rowsL_modify hia]
          refine ⟨⟨rfl, rfl, rfl⟩, g, ?_⟩
          rw [if_pos rfl]
          simp [madeOne, hx0, hx1, Row.cells]
        · have hx2' : (b : Int) % 4 ≠ 2 := by simpa using hx
          have hx2 : b % 4 ≠ 2 := by omega
          refine wwp_gen (fun σ => σ.s 29 = iv k ∧ σ.s 28 = iv ms.length ∧ σ.s 27 = .list (bytes ms) ∧ σ.s 2 = .ptr [3, 0] 0 ∧ σ.m [3, 0] = some (.box noMv) ∧ σ.s 4 = .ptr [5, 0] 0 ∧
          σ.m [5, 0] = some (.box [iv x.T, iv x.R, iv x.T, iv 1, iv 2, .sl tk 5 0 s.len s.lim]) ∧ σ.m tk = some (.row g 53 (rowsL s.all)) ∧ σ.s 7 = iv i ∧ tk ≠ [57, σ.c 56]) (by simp [h29, h28, h27, h2, m3, h4, m5, mtk, noMv, n3]) ?_
          clear h29 h28 h27 h2 m3 h4 m5 mtk n3 hw σ
          rintro σ ⟨h29, h28, h27, h2, m3, h4, m5, mtk, h7, n3⟩
          simp [h29, h28, h27, h4, h2, m3, m5, h7, mtk, p0, hcell, Row.cells, wi, hi, hia, n1, n2, n1', n2']
          refine condK_dec (fun hx => ?_) (fun hx => ?_)
          · have hlen1 : 1 < s.len := by omega
            have wi2 := wrap_succ (show i ≤ 1000000000 by omega)
            have t1 : (rowsL s.all).length = s.all.length := rowsL_len _
            have c1 : i ≤ s.len := by omega
            have c2 : (i : Int) + 1 ≤ s.len := by omega
            have c3 : (0 : Int) ≤ (i : Int) + 1 := by omega
            have c4 : ((i : Int) + 1).toNat = i + 1 := by omega
            have hst : ¬ b % 4 < 3 := by omega
            by_cases hl : i + 1 = s.len
            · have hz : s.len - (i + 1) = 0 := by omega
              have c5 : i + 1 ≤ s.all.length := by omega
              simp [h29, h28, h27, h4, h2, m3, m5, h7, mtk, p0, hcell, Row.cells, wi, hi, hia, n1, n2, n1', n2', wi2, c1, c2, c3, c4, c5, hz]
              refine ⟨⟨k + 1, by omega, by omega, tk, ?_⟩, by omega⟩
              rw [hs, Sl.step, if_neg hst, if_pos hlen1, hib, if_pos hl]
              refine ⟨⟨rfl, rfl, rfl⟩, g, ?_⟩
              rw [if_neg n1, mtk]
            · have c5 : i + 1 + (s.len - (i + 1)) ≤ s.all.length := by omega
              have c6 : ¬ s.len - (i + 1) = 0 := by omega
              have c7 : ¬ s.all.length ≤ i + 1 := by omega
              have c8 : min (s.len - (i + 1)) (s.all.length - (i + 1)) = s.len - (i + 1) := by omega
              have c9 : i + (s.len - (i + 1)) = s.len - 1 := by omega
              have c10 : s.len - 1 ≤ maxMade := by unfold maxMade; omega
              have c11 : i ≤ s.all.length := by omega
              have c12 : 0 < s.len - (i + 1) := by omega
              have c13 : List.take (s.len - (i + 1)) (List.drop (i + 1) (rowsL s.all)) = rowsL ((s.all.take s.len).drop (i + 1)) := by
                rw [List.drop_take]; simp [rowsL, List.map_drop, List.map_take]
              have c14 : min s.len s.all.length = s.len := by omega
              have c16 : ¬ s.len ≤ i + 1 := by omega
              have c15 : i + 1 < s.len := by omega
              simp [h29, h28, h27, h4, h2, m3, m5, h7, mtk, p0, hcell, Row.cells, wi, hi, hia, n1, n2, n1', n2', n3, wi2, c1, c2, c3, c4, c5, c6, c7, c8, c9, c10, c11, c12, c13, c14, c15, c16]
              refine ⟨⟨k + 1, by omega, by omega, [57, σ.c 56], ?_⟩, by omega⟩
              rw [hs, Sl.step, if_neg hst, if_pos hlen1, hib, if_neg hl]
              refine ⟨⟨rfl, rfl, rfl⟩, [57, σ.c 56], ?_⟩
              rw [if_neg (by simp)]
              refine (if_pos rfl).trans ?_
              rw [rowsL_append]
              simp [rowsL, List.map_take]
          · have hl1 : ¬ 1 < s.len := by omega
            simp [h29, h28, h27, h4, h2, m3, m5, wi, n1', n2']
            refine ⟨⟨k + 1, by omega, by omega, tk, ?_⟩, by omega⟩
            have hst : ¬ b % 4 < 3 := by omega
            rw [hs, Sl.step, if_neg hst, if_neg hl1]
            exact ⟨⟨rfl, rfl, rfl⟩, g, mtk⟩
  · have hkn : ¬ k < ms.length := hge
    rw [hlast hkn] at m5 mtk
    simp [h4, h2, m5, m3, noMv]
    have n1 : tk ≠ [3, 0] := fun e => by rw [e, m3] at mtk; cases mtk
    exact Out.aggRowL (t := tk) (g := g) (es := rowsL x.sl.all) (pre := [iv x.T, iv x.R, iv x.T, iv 1, iv 2]) rfl (by simp [Ne.symm n1, n1, mtk]) (rowsL_flat _)
def asBytes : List (List D) → Option (List Nat)
  | [] => some []
  | [.v (.int .u8 n)] :: r => if 0 ≤ n ∧ n < 256 then (asBytes r).map (n.toNat :: ·) else none
  | _ => none
theorem asBytes_eq : ∀ {es : List (List D)} {l : List Nat}, asBytes es = some l → es = bytes l ∧ ∀ n ∈ l, n < 256
  | [], _, h => by cases h; exact ⟨rfl, by simp⟩
  | e :: r, l, h => by
    unfold asBytes at h
    split at h
    · rename_i hh; cases hh
    · rename_i hh
      cases hh
      split at h
      · rename_i hn
        obtain ⟨l', h', rfl⟩ := Option.map_eq_some_iff.1 h
        obtain ⟨h1, h2⟩ := asBytes_eq h'
        refine ⟨?_, fun n hn' => ?_⟩
        · rw [h1]
          simp only [bytes, List.map_cons]
          rw [Int.toNat_of_nonneg hn.1]
        · rcases List.mem_cons.1 hn' with rfl | hn'
          · omega
          · exact h2 n hn'
      · cases h
    · cases h
theorem asBytes_bytes : ∀ {l : List Nat}, (∀ n ∈ l, n < 256) → asBytes (bytes l) = some l
  | [], _ => rfl
  | x :: l, h => by
    have ih := asBytes_bytes (l := l) fun n hn => h n (List.mem_cons_of_mem _ hn)
    have hx := h x List.mem_cons_self
    simp only [bytes, List.map_cons] at ih ⊢
    simp only [asBytes]
    rw [if_pos (by omega), ih]
    rfl
def S13 : List D → Option (D × Mem)
  | [.agg [.v (.int .u8 t), .v (.int .u8 r), .list es]] => (asBytes es).bind fun l => if 0 ≤ t ∧ t < 256 ∧ 0 ≤ r ∧ r < 256 ∧ l.length ≤ 9223372036854775807 then
      (let x : Sk := ⟨t.toNat, r.toNat, l⟩; some (.agg [iv x.T, iv x.R, iv x.T, iv 1, iv 2, .sl [] 5 0 x.sl.len x.sl.lim], rowMem 53 (rowsL x.sl.all))) else none
  | _ => none
theorem s13 : OkQ 13 S13 := fun ds d mm h => by
  unfold S13 at h
  split at h
  · rename_i t r es
    rw [Option.bind_eq_some_iff] at h
    obtain ⟨l, hl, h⟩ := h
    obtain ⟨rfl, hl2⟩ := asBytes_eq hl
    split at h
    · rename_i hc
      have := c13 ⟨t.toNat, r.toNat, l⟩ ⟨by simp only; omega, by simp only; omega, hl2, hc.2.2.2.2⟩
      simp only [Option.some.injEq, Prod.mk.injEq] at h
      rw [← h.1, ← h.2]
      simpa only [Sk.cells, Int.toNat_of_nonneg hc.1, Int.toNat_of_nonneg hc.2.2.1] using this
    · cases h
  · cases h
theorem S13_at {x : Sk} (hx : x.ok) : S13 [.agg x.cells] = some (.agg [iv x.T, iv x.R, iv x.T, iv 1, iv 2, .sl [] 5 0 x.sl.len x.sl.lim], rowMem 53 (rowsL x.sl.all)) := by
  obtain ⟨h1, h2, h3, h4⟩ := hx
  simp only [S13, Sk.cells, asBytes_bytes h3, Option.bind_some]
  rw [if_pos (by omega)]
  rfl
end Go.Proofs.Ytpmgaaalfdjikaa
